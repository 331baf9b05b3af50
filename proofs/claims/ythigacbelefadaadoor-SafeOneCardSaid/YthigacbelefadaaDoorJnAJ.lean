/- der.Write,walked. What the law's own helpers about items answer: sameItems,ders,bytes.HasPrefix. sameItems,walked. The laws of items that are read: what they need. attr.Pack,walked. attr.Unpack,walked. The package safe,walked: a held object of bytes. The package safe,walked: Pack of what is not to be kept. What a safe packs,and reads. Plain laws. -/
import Derived.Test.YthigacbelefadaaDoorJnAD
import Derived.Test.YthigacbelefadaaDoorTyS
import Derived.Test.YthigacbelefadaaDoorJnAA
import Derived.Test.YthigacbelefadaaDoorJnAC
import Derived.Test.YthigacbelefadaaDoorJnAI
import Derived.Test.YthigacbelefadaaDoorJnAE
import Derived.Test.YthigacbelefadaaDoorTok
namespace Go.Proofs.YthigacbelefadaaDoor
open Go.RowKit
set_option linter.unusedVariables false
set_option maxRecDepth 100000
set_option linter.unusedSimpArgs false
abbrev itP (l:List It):List (Nat×List Nat):=l.map It.p
theorem itP_get {l:List It}{i:Nat}{x:It}(h:l[i]? = some x):(itP l)[i]? = some x.p:=by simp [itP,h]
def WrOkL (l:List It)(x:Nat×Value×Nat×Blks):Prop:=x.1≤l.length∧(∀ y∈l.take x.1,y.2.2.length≤4096)∧x.2.2.1≤4100 * x.1∧OwnB 5 x.2.1 x.2.2.1 (wrL (itP (l.take x.1))) x.2.2.2
theorem wrOk_step {l:List It}{i n:Nat}{v:Value}{oa:Blks}{x:It}(h:WrOkL l (i,v,n,oa))(hx:l[i]? = some x)(hb:x.2.2.length≤4096){v':Value}{m:Nat}{p:List Nat}{oa':Blks}(ho:OwnB 5 v' (n+m+x.2.2.length) ((wrL (itP (l.take i))++p)++x.2.2) oa')(hp:p=headL x.1 x.2.2.length)(hm:m≤4):WrOkL l (i+1,v',n+m+x.2.2.length,oa'):=by
 obtain ⟨h1,h2,h3,h4⟩:=h
 dsimp only at *
 have hlt:i<l.length:=(List.getElem?_eq_some_iff.1 hx).1
 refine ⟨hlt,fun y hy=>?_,by dsimp only;omega,?_⟩
 ·rw [List.take_add_one,hx] at hy
  rcases List.mem_append.1 hy with hy|hy
  ·exact h2 y hy
  ·simp at hy;subst hy;exact hb
 ·have e:wrL (itP (l.take (i+1)))=(wrL (itP (l.take i))++p)++x.2.2:=by
   have:=wrL_snoc (itP_get hx)
   rw [itP,←List.map_take] at this
   rw [itP,this,hp,List.append_assoc]
   simp [itP,List.map_take,wr1,It.p]
  dsimp only
  rw [e];exact ho
set_option maxHeartbeats 8000000 in
theorem write_ok (w:World){v:Value}{l:List It}(h:Its w v l)(hf:fitsL (itP l)):Calls Tryd.prog 13 [v].toArray w (RetO (fun b=>.tuple #[b,.int .i64 0]) (fun b oa=>OwnB 5 b (wrL (itP l)).length (wrL (itP l)) oa) w):=by
 haveI:=h.cs.old
 have hlen:l.length≤200:=by have:=hf.1;simpa using this
 have t0:decide ((l.length:Int)>200)=false:=decide_eq_false (by omega)
 refine fn_own (N:=_) Tryd.func13 rfl Tryd.ntmps13 Tryd.results13 (by simp) ?_
 simp only [initS,Nat.reduceAdd,Nat.zero_add]
 repeat' (first|(refine wlS ?_)|(refine wlB ?_)|(refine wlE ?_)|(refine efSvao ?_;intro v oa ho)|(refine efBnn ?_;intro n hn)|(refine efB ?_)|(refine efBS ?_)|(refine wl_skip rfl rfl ?_)|((with_reducible refine wc_seq ?_);intro K hK)|(refine auC ?_)|(refine wc_cond rfl (fun hc=>?_) (fun hc=>?_))|(refine wc_draw (by kernel_rfl) (by kernel_rfl) (by decide +kernel) ?_;intro w0 hw0 hm0;(try simp only [List.append_eq,List.cons_append,List.nil_append]))|(refine auP ?_)|((refine auR ?_);clear hK K)|(refine auR ?_)|((with_reducible refine hK _ _ ?_);clear hK K)|fail)
 refine wc_loop (σ:=Nat×Value×Nat×Blks) (fun x=>[(0,v),(4,x.2.1),(11,v),(12,.int .i64 (l.length:Int)),(13,.int .i64 (x.1:Int))]) (fun x=>x.2.2.2)
  (WrOkL l) (fun x=>l.length - x.1) (0,.slice none 0 0,0,[]) ⟨Nat.zero_le _,by simp,Nat.le_refl _,⟨OwnL.nil _ _,BL.nil⟩⟩ (Fits.of ⟨rfl,rfl,rfl,rfl,rfl,trivial⟩ .nil rfl) ?_
 rintro ⟨i,v4,n,oa⟩ hok
 have hok':=hok
 obtain ⟨hi,hall,hn,ho⟩:=hok'
 dsimp only at hi hall hn ho
 by_cases hlt:i<l.length
 ·obtain ⟨x,hx⟩:∃ x,l[i]? = some x:=⟨l[i],List.getElem?_eq_getElem hlt⟩
  obtain ⟨tag,bv,p⟩:=x
  have hmem:=List.mem_of_getElem? hx
  have htag:tag<256:=h.tag _ hmem
  haveI:CsB (Old w []) bv p.length p:=(h.body _ hmem).old
  have hbody:p.length≤4096:=hf.2 (tag,p) (List.mem_map.2 ⟨_,hmem,rfl⟩)
  have hget:=itsC_get hx
  have t1:decide ((i:Int)<(l.length:Int))=true:=decide_eq_true (by omega)
  have t2:decide ((p.length:Int)>4096)=false:=decide_eq_false (by omega)
  have hi1:IntKind.i64.wrap ((i:Int)+1)=((i+1:Nat):Int):=wrap_i64 _ (by omega) (by omega)
  dsimp only at hget
  by_cases c1:p.length<128
  ·have t3:decide ((p.length:Int)<128)=true:=decide_eq_true (by omega)
   have w1:IntKind.u8.wrap (p.length:Int)=(p.length:Int):=wrap_u8 _ (by omega) (by omega)
   clear hall hf h
   repeat' (first|(refine wlS ?_)|(refine wlB ?_)|(refine wlE ?_)|(refine efSvao ?_;intro v oa ho)|(refine efBnn ?_;intro n hn)|(refine efB ?_)|(refine efBS ?_)|(refine wl_skip rfl rfl ?_)|((with_reducible refine wc_seq ?_);intro K hK)|(refine auC ?_)|(refine wc_cond rfl (fun hc=>?_) (fun hc=>?_))|(refine wc_draw (by kernel_rfl) (by kernel_rfl) (by decide +kernel) ?_;intro w0 hw0 hm0;(try simp only [List.append_eq,List.cons_append,List.nil_append]))|(refine auP ?_)|((refine auR ?_);clear hK K)|(refine auR ?_)|((with_reducible refine hK _ _ ?_);clear hK K)|fail)
   exact ⟨(i+1,v,_,oa),wrOk_step hok hx hbody ho (by simp [headL,c1]) (by omega),by dsimp only;omega,Fits.of ⟨rfl,rfl,rfl,rfl,rfl,trivial⟩ (.skip (SubL.headA _ _)) rfl⟩
  ·have t3:decide ((p.length:Int)<128)=false:=decide_eq_false (by omega)
   by_cases c2:p.length<256
   ·have t4:decide ((p.length:Int)<256)=true:=decide_eq_true (by omega)
    have w1:IntKind.u8.wrap (p.length:Int)=(p.length:Int):=wrap_u8 _ (by omega) (by omega)
    clear hall hf h
    repeat' (first|(refine wlS ?_)|(refine wlB ?_)|(refine wlE ?_)|(refine efSvao ?_;intro v oa ho)|(refine efBnn ?_;intro n hn)|(refine efB ?_)|(refine efBS ?_)|(refine wl_skip rfl rfl ?_)|((with_reducible refine wc_seq ?_);intro K hK)|(refine auC ?_)|(refine wc_cond rfl (fun hc=>?_) (fun hc=>?_))|(refine wc_draw (by kernel_rfl) (by kernel_rfl) (by decide +kernel) ?_;intro w0 hw0 hm0;(try simp only [List.append_eq,List.cons_append,List.nil_append]))|(refine auP ?_)|((refine auR ?_);clear hK K)|(refine auR ?_)|((with_reducible refine hK _ _ ?_);clear hK K)|fail)
    exact ⟨(i+1,v,_,oa),wrOk_step hok hx hbody ho (by simp [headL,c1,c2]) (by omega),by dsimp only;omega,Fits.of ⟨rfl,rfl,rfl,rfl,rfl,trivial⟩ (.skip (SubL.headA _ _)) rfl⟩
   ·have t4:decide ((p.length:Int)<256)=false:=decide_eq_false (by omega)
    have w0:(p.length:Int) / 2 ^ (min ((8:Int).toNat) IntKind.i64.bits)=((p.length / 256:Nat):Int):=rfl
    have w1:IntKind.u8.wrap ((p.length / 256:Nat):Int)=((p.length / 256 % 256:Nat):Int):=wrapB _
    have w2:IntKind.u8.wrap (p.length:Int)=((p.length % 256:Nat):Int):=wrapB _
    clear hall hf h
    repeat' (first|(refine wlS ?_)|(refine wlB ?_)|(refine wlE ?_)|(refine efSvao ?_;intro v oa ho)|(refine efBnn ?_;intro n hn)|(refine efB ?_)|(refine efBS ?_)|(refine wl_skip rfl rfl ?_)|((with_reducible refine wc_seq ?_);intro K hK)|(refine auC ?_)|(refine wc_cond rfl (fun hc=>?_) (fun hc=>?_))|(refine wc_draw (by kernel_rfl) (by kernel_rfl) (by decide +kernel) ?_;intro w0 hw0 hm0;(try simp only [List.append_eq,List.cons_append,List.nil_append]))|(refine auP ?_)|((refine auR ?_);clear hK K)|(refine auR ?_)|((with_reducible refine hK _ _ ?_);clear hK K)|fail)
    exact ⟨(i+1,v,_,oa),wrOk_step hok hx hbody ho (by simp [headL,c1,c2]) (by omega),by dsimp only;omega,Fits.of ⟨rfl,rfl,rfl,rfl,rfl,trivial⟩ (.skip (SubL.headA _ _)) rfl⟩
 ·obtain rfl:i=l.length:=by omega
  have t1:decide ((l.length:Int)<(l.length:Int))=false:=decide_eq_false (by omega)
  rw [List.take_length] at ho
  clear hall hf h hok
  repeat' (first|(refine wlS ?_)|(refine wlB ?_)|(refine wlE ?_)|(refine efSvao ?_;intro v oa ho)|(refine efBnn ?_;intro n hn)|(refine efB ?_)|(refine efBS ?_)|(refine wl_skip rfl rfl ?_)|((with_reducible refine wc_seq ?_);intro K hK)|(refine auC ?_)|(refine wc_cond rfl (fun hc=>?_) (fun hc=>?_))|(refine wc_draw (by kernel_rfl) (by kernel_rfl) (by decide +kernel) ?_;intro w0 hw0 hm0;(try simp only [List.append_eq,List.cons_append,List.nil_append]))|(refine auP ?_)|((refine auR ?_);clear hK K)|(refine auR ?_)|((with_reducible refine hK _ _ ?_);clear hK K)|fail)
  first|refine end_ret (ResP.tmp rfl (ResP.tmp rfl ResP.nil)) ?_|refine end_normal (ResP.tmp rfl (ResP.tmp rfl ResP.nil)) ?_
  (try dsimp only [tupV])
  exact ⟨_,_,rfl,by rw [ho.ok.len];exact ho,SubL.refl _⟩
theorem firstBig:∀ {l:List It},¬(∀ x∈l,x.2.2.length≤4096)→∃ k x,l[k]? = some x∧4096<x.2.2.length∧∀ y∈l.take k,y.2.2.length≤4096
 | [],h=>absurd (fun x hx=>by cases hx) h
 | a::r,h=>by
  by_cases ha:a.2.2.length≤4096
  ·obtain ⟨k,x,h1,h2,h3⟩:=firstBig (l:=r) fun hr=>h fun x hx=>by
    rcases List.mem_cons.1 hx with rfl|hx
    ·exact ha
    ·exact hr x hx
   refine ⟨k+1,x,by rw [List.getElem?_cons_succ];exact h1,h2,fun y hy=>?_⟩
   rw [List.take_succ_cons] at hy
   rcases List.mem_cons.1 hy with rfl|hy
   ·exact ha
   ·exact h3 y hy
  ·exact ⟨0,a,rfl,by omega,by simp⟩
set_option maxHeartbeats 8000000 in
theorem write_no (w:World){v:Value}{l:List It}(h:Its w v l)(hll:l.length≤1152921504606846976)(hf:¬fitsL (itP l)):Calls Tryd.prog 13 [v].toArray w (Ret (.tuple #[.slice none 0 0,.int .i64 2]) w):=by
 haveI:=h.cs.old
 by_cases hlen:l.length≤200
 ·obtain ⟨k,xk,hk,hbig,hsm⟩:=firstBig (l:=l) fun hh=>hf ⟨by simpa using hlen,fun x hx=>by
   obtain ⟨y,hy,rfl⟩:=List.mem_map.1 hx
   exact hh y hy⟩
  have hkl:k<l.length:=(List.getElem?_eq_some_iff.1 hk).1
  have t0:decide ((l.length:Int)>200)=false:=decide_eq_false (by omega)
  refine fn_ret (N:=_) Tryd.func13 rfl Tryd.ntmps13 Tryd.results13 (by simp) ?_
  simp only [initS,Nat.reduceAdd,Nat.zero_add]
  repeat' (first|(refine wlS ?_)|(refine wlB ?_)|(refine wlE ?_)|(refine efSvao ?_;intro v oa ho)|(refine efBnn ?_;intro n hn)|(refine efB ?_)|(refine efBS ?_)|(refine wl_skip rfl rfl ?_)|((with_reducible refine wc_seq ?_);intro K hK)|(refine auC ?_)|(refine wc_cond rfl (fun hc=>?_) (fun hc=>?_))|(refine wc_draw (by kernel_rfl) (by kernel_rfl) (by decide +kernel) ?_;intro w0 hw0 hm0;(try simp only [List.append_eq,List.cons_append,List.nil_append]))|(refine auP ?_)|((refine auR ?_);clear hK K)|(refine auR ?_)|((with_reducible refine hK _ _ ?_);clear hK K)|fail)
  refine wc_loop (σ:=Nat×Value×Nat×Blks) (fun x=>[(0,v),(4,x.2.1),(11,v),(12,.int .i64 (l.length:Int)),(13,.int .i64 (x.1:Int))]) (fun x=>x.2.2.2)
   (fun x=>x.1≤k∧WrOkL l x) (fun x=>l.length - x.1) (0,.slice none 0 0,0,[]) ⟨Nat.zero_le _,Nat.zero_le _,by simp,Nat.le_refl _,⟨OwnL.nil _ _,BL.nil⟩⟩ (Fits.of ⟨rfl,rfl,rfl,rfl,rfl,trivial⟩ .nil rfl) ?_
  rintro ⟨i,v4,n,oa⟩ ⟨hik,hok⟩
  have hok':=hok
  obtain ⟨hi,hall,hn,ho⟩:=hok'
  dsimp only at hik hi hall hn ho
  have hlt:i<l.length:=by omega
  obtain ⟨x,hx⟩:∃ x,l[i]? = some x:=⟨l[i],List.getElem?_eq_getElem hlt⟩
  obtain ⟨tag,bv,p⟩:=x
  have hmem:=List.mem_of_getElem? hx
  have htag:tag<256:=h.tag _ hmem
  haveI:CsB (Old w []) bv p.length p:=(h.body _ hmem).old
  have hget:=itsC_get hx
  have t1:decide ((i:Int)<(l.length:Int))=true:=decide_eq_true (by omega)
  have hi1:IntKind.i64.wrap ((i:Int)+1)=((i+1:Nat):Int):=wrap_i64 _ (by omega) (by omega)
  dsimp only at hget
  by_cases hbody:p.length≤4096
  ·have t2:decide ((p.length:Int)>4096)=false:=decide_eq_false (by omega)
   have hne:i≠k:=fun e=>by
    subst e
    rw [hk] at hx
    cases hx
    dsimp only at hbig
    omega
   by_cases c1:p.length<128
   ·have t3:decide ((p.length:Int)<128)=true:=decide_eq_true (by omega)
    have w1:IntKind.u8.wrap (p.length:Int)=(p.length:Int):=wrap_u8 _ (by omega) (by omega)
    clear hall hf h
    repeat' (first|(refine wlS ?_)|(refine wlB ?_)|(refine wlE ?_)|(refine efSvao ?_;intro v oa ho)|(refine efBnn ?_;intro n hn)|(refine efB ?_)|(refine efBS ?_)|(refine wl_skip rfl rfl ?_)|((with_reducible refine wc_seq ?_);intro K hK)|(refine auC ?_)|(refine wc_cond rfl (fun hc=>?_) (fun hc=>?_))|(refine wc_draw (by kernel_rfl) (by kernel_rfl) (by decide +kernel) ?_;intro w0 hw0 hm0;(try simp only [List.append_eq,List.cons_append,List.nil_append]))|(refine auP ?_)|((refine auR ?_);clear hK K)|(refine auR ?_)|((with_reducible refine hK _ _ ?_);clear hK K)|fail)
    exact ⟨(i+1,v,_,oa),⟨by dsimp only;omega,wrOk_step hok hx hbody ho (by simp [headL,c1]) (by omega)⟩,by dsimp only;omega,Fits.of ⟨rfl,rfl,rfl,rfl,rfl,trivial⟩ (.skip (SubL.headA _ _)) rfl⟩
   ·have t3:decide ((p.length:Int)<128)=false:=decide_eq_false (by omega)
    by_cases c2:p.length<256
    ·have t4:decide ((p.length:Int)<256)=true:=decide_eq_true (by omega)
     have w1:IntKind.u8.wrap (p.length:Int)=(p.length:Int):=wrap_u8 _ (by omega) (by omega)
     clear hall hf h
     repeat' (first|(refine wlS ?_)|(refine wlB ?_)|(refine wlE ?_)|(refine efSvao ?_;intro v oa ho)|(refine efBnn ?_;intro n hn)|(refine efB ?_)|(refine efBS ?_)|(refine wl_skip rfl rfl ?_)|((with_reducible refine wc_seq ?_);intro K hK)|(refine auC ?_)|(refine wc_cond rfl (fun hc=>?_) (fun hc=>?_))|(refine wc_draw (by kernel_rfl) (by kernel_rfl) (by decide +kernel) ?_;intro w0 hw0 hm0;(try simp only [List.append_eq,List.cons_append,List.nil_append]))|(refine auP ?_)|((refine auR ?_);clear hK K)|(refine auR ?_)|((with_reducible refine hK _ _ ?_);clear hK K)|fail)
     exact ⟨(i+1,v,_,oa),⟨by dsimp only;omega,wrOk_step hok hx hbody ho (by simp [headL,c1,c2]) (by omega)⟩,by dsimp only;omega,Fits.of ⟨rfl,rfl,rfl,rfl,rfl,trivial⟩ (.skip (SubL.headA _ _)) rfl⟩
    ·have t4:decide ((p.length:Int)<256)=false:=decide_eq_false (by omega)
     have w0:(p.length:Int) / 2 ^ (min ((8:Int).toNat) IntKind.i64.bits)=((p.length / 256:Nat):Int):=rfl
     have w1:IntKind.u8.wrap ((p.length / 256:Nat):Int)=((p.length / 256 % 256:Nat):Int):=wrapB _
     have w2:IntKind.u8.wrap (p.length:Int)=((p.length % 256:Nat):Int):=wrapB _
     clear hall hf h
     repeat' (first|(refine wlS ?_)|(refine wlB ?_)|(refine wlE ?_)|(refine efSvao ?_;intro v oa ho)|(refine efBnn ?_;intro n hn)|(refine efB ?_)|(refine efBS ?_)|(refine wl_skip rfl rfl ?_)|((with_reducible refine wc_seq ?_);intro K hK)|(refine auC ?_)|(refine wc_cond rfl (fun hc=>?_) (fun hc=>?_))|(refine wc_draw (by kernel_rfl) (by kernel_rfl) (by decide +kernel) ?_;intro w0 hw0 hm0;(try simp only [List.append_eq,List.cons_append,List.nil_append]))|(refine auP ?_)|((refine auR ?_);clear hK K)|(refine auR ?_)|((with_reducible refine hK _ _ ?_);clear hK K)|fail)
     exact ⟨(i+1,v,_,oa),⟨by dsimp only;omega,wrOk_step hok hx hbody ho (by simp [headL,c1,c2]) (by omega)⟩,by dsimp only;omega,Fits.of ⟨rfl,rfl,rfl,rfl,rfl,trivial⟩ (.skip (SubL.headA _ _)) rfl⟩
  ·have t2:decide ((p.length:Int)>4096)=true:=decide_eq_true (by omega)
   clear hall hf h hok ho
   repeat' (first|(refine wlS ?_)|(refine wlB ?_)|(refine wlE ?_)|(refine efSvao ?_;intro v oa ho)|(refine efBnn ?_;intro n hn)|(refine efB ?_)|(refine efBS ?_)|(refine wl_skip rfl rfl ?_)|((with_reducible refine wc_seq ?_);intro K hK)|(refine auC ?_)|(refine wc_cond rfl (fun hc=>?_) (fun hc=>?_))|(refine wc_draw (by kernel_rfl) (by kernel_rfl) (by decide +kernel) ?_;intro w0 hw0 hm0;(try simp only [List.append_eq,List.cons_append,List.nil_append]))|(refine auP ?_)|((refine auR ?_);clear hK K)|(refine auR ?_)|((with_reducible refine hK _ _ ?_);clear hK K)|fail)
   first|refine end_ret (ResP.tmp rfl (ResP.tmp rfl ResP.nil)) ?_|refine end_normal (ResP.tmp rfl (ResP.tmp rfl ResP.nil)) ?_
   first|rfl|(show _=_;rfl)|(simp only [tupV, *];done)
 ·have t0:decide ((l.length:Int)>200)=true:=decide_eq_true (by omega)
  clear hf h
  refine fn_ret (N:=_) Tryd.func13 rfl Tryd.ntmps13 Tryd.results13 (by simp) ?_
  simp only [initS,Nat.reduceAdd,Nat.zero_add]
  repeat' (first|(refine wlS ?_)|(refine wlB ?_)|(refine wlE ?_)|(refine efSvao ?_;intro v oa ho)|(refine efBnn ?_;intro n hn)|(refine efB ?_)|(refine efBS ?_)|(refine wl_skip rfl rfl ?_)|((with_reducible refine wc_seq ?_);intro K hK)|(refine auC ?_)|(refine wc_cond rfl (fun hc=>?_) (fun hc=>?_))|(refine wc_draw (by kernel_rfl) (by kernel_rfl) (by decide +kernel) ?_;intro w0 hw0 hm0;(try simp only [List.append_eq,List.cons_append,List.nil_append]))|(refine auP ?_)|((refine auR ?_);clear hK K)|(refine auR ?_)|((with_reducible refine hK _ _ ?_);clear hK K)|fail)
  first|refine end_ret (ResP.tmp rfl (ResP.tmp rfl ResP.nil)) ?_|refine end_normal (ResP.tmp rfl (ResP.tmp rfl ResP.nil)) ?_
  first|rfl|(show _=_;rfl)|(simp only [tupV, *];done)
end Go.Proofs.YthigacbelefadaaDoor
namespace Go.Proofs.YthigacbelefadaaDoor
open Go.RowKit
set_option linter.unusedVariables false
set_option maxRecDepth 100000
set_option linter.unusedSimpArgs false
theorem isPre_iff {p q:List Nat}{n m:Nat}(hp:p.length=n)(hq:q.length=m):q.isPrefixOf p=(if m≤n then (p.take m == q) else false):=by
 rw [Bool.eq_iff_iff,List.isPrefixOf_iff_prefix]
 split
 ·rename_i h
  rw [beq_iff_eq,List.prefix_iff_eq_take,hq]
  exact ⟨fun h=>h.symm,fun h=>h.symm⟩
 ·rename_i h
  constructor
  ·intro hh;have:=hh.length_le;omega
  ·intro hh;cases hh
def sameL (l m:List It):Bool:=itP l == itP m
end Go.Proofs.YthigacbelefadaaDoor
namespace Go.Proofs.YthigacbelefadaaDoor
open Go.RowKit
set_option linter.unusedVariables false
set_option maxRecDepth 100000
set_option linter.unusedSimpArgs false
theorem itP_take_snoc {l:List It}{i:Nat}{x:It}(h:l[i]? = some x):itP (l.take (i+1))=itP (l.take i)++[x.p]:=by
 rw [List.take_add_one,h];simp [itP]
theorem itsC_tag {l:List It}{i:Nat}{x:It}(h:l[i]? = some x):(itsC l)[i * 2]? = some (.int .u8 ((x.1:Nat):Int)):=by
 have:=congrArg (·[0]?) (itsC_get h)
 simpa using this
theorem itsC_body {l:List It}{i:Nat}{x:It}(h:l[i]? = some x):(itsC l)[i * 2+1]? = some x.2.1:=by
 have:=congrArg (·[1]?) (itsC_get h)
 simpa using this
end Go.Proofs.YthigacbelefadaaDoor
namespace Go.Proofs.YthigacbelefadaaDoor
open Go.RowKit
set_option linter.unusedVariables false
set_option linter.unusedSimpArgs false
set_option maxRecDepth 100000
theorem read_yes (w:World){u:Value}{m:Nat}{p:List Nat}(h:Cb w u m p){l:List (Nat×List Nat)}(he:rdD p=(0,l)) :
  Calls Tryd.prog 14 [u].toArray w (RetO (fun x:Value×List It=>.tuple #[x.1,.int .i64 0]) (fun x oa=>x.2.map It.p=l∧OwnI 44 x.1 x.2 oa) w):=
 (read_c w h).mono fun e w2 ⟨x,oa,he2,hx,hu⟩=>by
  rw [he] at hx
  rcases hx with ⟨_,h2,h3,h4⟩ | ⟨h1,_⟩
  ·exact ⟨(x.1,x.2.2),oa,by rw [he2];dsimp only;rw [h2],⟨h3,h4⟩,hu⟩
  ·exact absurd rfl h1
theorem read_no (w:World){u:Value}{m e:Nat}{p:List Nat}(h:Cb w u m p)(he:(rdD p).1=e)(h0:e≠0) :
  Calls Tryd.prog 14 [u].toArray w (Ret (.tuple #[.slice none 0 0,.int .i64 (e:Int)]) w):=
 (read_c w h).mono fun e2 w2 ⟨x,oa,he2,hx,hu⟩=>by
  rcases hx with ⟨h1,_⟩ | ⟨h1,h2,h3,h4⟩
  ·exact absurd (he.symm.trans h1) h0
  ·subst h4
   refine ⟨?_,hu.below⟩
   rw [he2];dsimp only
   rw [h2,h3,he]
set_option maxHeartbeats 2000000 in
theorem write_no' (w:World){v:Value}{l:List It}(h:Its w v l)(hf:¬fitsL (itP l)):Calls Tryd.prog 13 [v].toArray w (Ret (.tuple #[.slice none 0 0,.int .i64 2]) w):=by
 by_cases hl:l.length≤1152921504606846976
 ·exact write_no w h hl hf
 ·have i0:=h.cs.old
  have t0:decide ((l.length:Int)>200)=true:=decide_eq_true (by omega)
  clear h hf
  refine fn_ret (N:=_) Tryd.func13 rfl Tryd.ntmps13 Tryd.results13 (by simp) ?_
  simp only [initS,Nat.reduceAdd,Nat.zero_add]
  repeat' (first|(refine wlS ?_)|(refine wlB ?_)|(refine wlE ?_)|(refine efSvao ?_;intro v oa ho)|(refine efBnn ?_;intro n hn)|(refine efB ?_)|(refine efBS ?_)|(refine wl_skip rfl rfl ?_)|((with_reducible refine wc_seq ?_);intro K hK)|(refine auC ?_)|(refine wc_cond rfl (fun hc=>?_) (fun hc=>?_))|(refine wc_draw (by kernel_rfl) (by kernel_rfl) (by decide +kernel) ?_;intro w0 hw0 hm0;(try simp only [List.append_eq,List.cons_append,List.nil_append]))|(refine auP ?_)|((refine auR ?_);clear hK K)|(refine auR ?_)|((with_reducible refine hK _ _ ?_);clear hK K)|fail)
  first|refine end_ret (ResP.tmp rfl (ResP.tmp rfl ResP.nil)) ?_|refine end_normal (ResP.tmp rfl (ResP.tmp rfl ResP.nil)) ?_
  first|rfl|(show _=_;rfl)|(simp only [tupV, *];done)
theorem rdD_wrL {P:List (Nat×List Nat)}(hf:fitsL P)(hs:(wrL P).length≤65536):rdD (wrL P)=(0,P):=by
 rw [rdD,if_neg (by omega),rdL_wrL P _ 0 hf.2 (by have:=hf.1;omega) (Nat.le_refl _)]
theorem rdD_back {p:List Nat}(hb:∀ y∈p,y<256)(h:(rdD p).1=0):wrL (rdD p).2=p∧fitsL (rdD p).2:=by
 unfold rdD at h ⊢
 by_cases hl:p.length>65536
 ·rw [if_pos hl] at h;simp at h
 ·rw [if_neg hl] at h ⊢
  obtain ⟨h1,h2,h3⟩:=rdL_back p.length 0 p hb (Nat.le_refl _) h (by omega)
  exact ⟨h1.symm,⟨by omega,fun x hx=>(h2 x hx).1⟩⟩
theorem fits_take {P:List (Nat×List Nat)}(h:fitsL P)(i:Nat):fitsL (P.take i):=⟨by rw [List.length_take];have:=h.1;omega,fun x hx=>h.2 x (List.mem_of_mem_take hx)⟩
def preL (P:List (Nat×List Nat))(i:Nat):Nat:=(wrL (P.take i)).length
theorem preL_zero (P:List (Nat×List Nat)):preL P 0=0:=rfl
theorem preL_succ {P:List (Nat×List Nat)}{i:Nat}{x:Nat×List Nat}(h:P[i]? = some x):preL P (i+1)=preL P i+(wr1 x).length:=by rw [preL,wrL_snoc h,List.length_append];rfl
theorem preL_all {P:List (Nat×List Nat)}{i:Nat}(h:P.length≤i):preL P i=(wrL P).length:=by rw [preL,List.take_of_length_le h]
theorem preL_lt {P:List (Nat×List Nat)}{i:Nat}(h:i<P.length):preL P i<preL P (i+1):=by
 rw [preL_succ (List.getElem?_eq_getElem h)]
 have:=wr1_pos P[i]
 omega
theorem preL_mono {P:List (Nat×List Nat)}{i j:Nat}(h:i<j)(hj:j≤P.length):preL P i<preL P j:=by
 induction j with
 | zero=>omega
 | succ j ih=>
  rcases Nat.lt_or_ge i j with h1|h1
  ·exact Nat.lt_trans (ih h1 (by omega)) (preL_lt (by omega))
  ·obtain rfl:i=j:=by omega
   exact preL_lt (by omega)
theorem cut_ways {P:List (Nat×List Nat)}{k:Nat}(hk:k≤(wrL P).length):(∃ i,i≤P.length∧preL P i=k)∨∃ i x,P[i]? = some x∧preL P i<k∧k<preL P (i+1):=by
 have key:∀ n,n≤P.length→(∃ i,i≤n∧preL P i=k)∨(∃ i x,P[i]? = some x∧preL P i<k∧k<preL P (i+1))∨preL P n<k:=fun n=>by
  induction n with
  | zero=>
   intro _
   by_cases h:k=0
   ·exact .inl ⟨0,Nat.le_refl _,by rw [preL_zero,h]⟩
   ·exact .inr (.inr (by rw [preL_zero];omega))
  | succ n ih=>
   intro hn
   rcases ih (by omega) with ⟨i,h1,h2⟩|h|h
   ·exact .inl ⟨i,by omega,h2⟩
   ·exact .inr (.inl h)
   ·rcases Nat.lt_trichotomy (preL P (n+1)) k with h1|h1|h1
    ·exact .inr (.inr h1)
    ·exact .inl ⟨n+1,Nat.le_refl _,h1⟩
    ·exact .inr (.inl ⟨n,P[n],List.getElem?_eq_getElem (by omega),h,h1⟩)
 rcases key P.length (Nat.le_refl _) with h|h|h
 ·exact .inl h
 ·exact .inr h
 ·rw [preL_all (Nat.le_refl _)] at h;omega
theorem wrL_split (P:List (Nat×List Nat))(i:Nat):wrL P=wrL (P.take i)++wrL (P.drop i):=by rw [←wrL_app,List.take_append_drop]
theorem cut_at {P:List (Nat×List Nat)}{i k:Nat}(h:preL P i=k):(wrL P).take k=wrL (P.take i):=by
 rw [wrL_split P i,←h,preL,List.take_left]
theorem cut_in {P:List (Nat×List Nat)}{i k:Nat}{x:Nat×List Nat}(hx:P[i]? = some x)(h1:preL P i<k)(h2:k<preL P (i+1)):(wrL P).take k=wrL (P.take i)++(wr1 x).take (k - preL P i):=by
 have e:P.drop i=[x]++P.drop (i+1):=by
  have hi:=(List.getElem?_eq_some_iff.1 hx).1
  rw [List.drop_eq_getElem_cons hi]
  have:=(List.getElem?_eq_some_iff.1 hx).2
  rw [this];rfl
 rw [preL_succ hx] at h2
 rw [wrL_split P i,e,wrL_app,wrL_one,List.take_append,List.take_of_length_le (by rw [preL] at h1;omega),show (wrL (P.take i)).length=preL P i from rfl,List.take_append_of_le_length (by omega)]
theorem rdD_cut {P:List (Nat×List Nat)}(hf:fitsL P)(hs:(wrL P).length≤65536){i k:Nat}{x:Nat×List Nat}(hx:P[i]? = some x)(h1:preL P i<k)(h2:k<preL P (i+1)):rdD ((wrL P).take k)=(3,[]):=by
 have hi:=(List.getElem?_eq_some_iff.1 hx).1
 have hfi:=fits_take hf i
 have hl:((wrL P).take k).length≤65536:=by rw [List.length_take];omega
 have hlen:((wrL P).take k).length=(wrL (P.take i)).length+(k - preL P i):=by
  rw [cut_in hx h1 h2,List.length_append,List.length_take]
  have:=preL_succ hx
  omega
 rw [rdD,if_neg (by omega)]
 have hfu:(wrL (P.take i)).length+(k - preL P i)≤((wrL P).take k).length:=by omega
 generalize ((wrL P).take k).length=F at *
 rw [cut_in hx h1 h2]
 have:=preL_succ hx
 exact rdL_cut (P.take i) F 0 x (k - preL P i) hfi.2 (hf.2 x (List.mem_of_getElem? hx)) (by omega) (by omega) (by rw [List.length_take];have:=hf.1;omega) hfu
end Go.Proofs.YthigacbelefadaaDoor
namespace Go.Proofs.YthigacbelefadaaDoor
open Go.RowKit
set_option linter.unusedVariables false
set_option linter.unusedSimpArgs false
set_option maxRecDepth 100000
def toIt (x:Att):It:=(x.1.toNat,x.2.1,x.2.2)
def itA (l:List Ab):List (Nat×List Nat):=l.map fun x=>(x.1.toNat,x.2)
def packA (l:List Ab):List Nat:=wrL (itA l)
theorem itP_toIt (l:List Att):itP (l.map toIt)=itA (abs l):=by simp [itP,itA,abs,toIt,It.p]
theorem fitsB_len {x:Ab}(h:fitsB x=true):x.2.length≤64:=fitsB_le h
theorem itA_fits {l:List Ab}(h:AbOk l):fitsL (itA l):=⟨by rw [itA,List.length_map];have:=h.len;omega,fun x hx=>by
 obtain ⟨y,hy,rfl⟩:=List.mem_map.1 hx
 have:=fitsB_len (h.each y hy).2.2
 show y.2.length≤4096
 omega⟩
theorem isF_of {Φ Ψ:World→Prop}{v:Value}{l:List It}(h:CsF Φ v l.length (itsC l))(h':∀ x∈l,x.1<256∧BL x.2.2.length x.2.2∧∀ w,Ψ w→Cs w x.2.1 x.2.2.length (bl x.2.2)):IsF (fun w=>Φ w∧Ψ w) v l:=
 ⟨⟨h.ln,fun w hw=>h.out w hw.1⟩,fun w hw=>⟨h.out w hw.1,fun x hx=>(h' x hx).1,fun x hx=>⟨(h' x hx).2.2 w hw.2,(h' x hx).2.1⟩⟩⟩
set_option maxHeartbeats 2000000 in
theorem pack_err (w:World){v:Value}{l:List Att}{e:Int}(h:Ats w v l)(he:chkA (abs l)=e)(h0:e≠0):Calls Tryd.prog 12 [v].toArray w (Ret (.tuple #[.slice none 0 0,.int .i64 e]) w):=by
 haveI:=h.old
 have NE:=fun w' (h:Ats w' v l)=>norm_err w' h he h0
 have t1:(e != 0)=true:=by simpa using h0
 clear h he
 refine fn_ret (N:=_) Tryd.func12 rfl Tryd.ntmps12 Tryd.results12 (by simp) ?_
 simp only [initS,Nat.reduceAdd,Nat.zero_add]
 repeat' (first|(refine wlS ?_)|(refine wlB ?_)|((with_reducible refine sel_call ?_);refine wl_rd rfl rfl (rd_call rfl rfl rfl (fun w hm=>by with_reducible exact NE w (VwT.out w hm))) ?_)|(refine wlE ?_)|(refine efSvao ?_;intro v oa ho)|(refine efBnn ?_;intro n hn)|(refine efB ?_)|(refine efBS ?_)|(refine wl_skip rfl rfl ?_)|((with_reducible refine wc_seq ?_);intro K hK)|(refine auC ?_)|(refine wc_cond rfl (fun hc=>?_) (fun hc=>?_))|(refine wc_draw (by kernel_rfl) (by kernel_rfl) (by decide +kernel) ?_;intro w0 hw0 hm0;(try simp only [List.append_eq,List.cons_append,List.nil_append]))|(refine auP ?_)|((refine auR ?_);clear hK K)|(refine auR ?_)|((with_reducible refine hK _ _ ?_);clear hK K)|fail)
 first|refine end_ret (ResP.tmp rfl (ResP.tmp rfl ResP.nil)) ?_|refine end_normal (ResP.tmp rfl (ResP.tmp rfl ResP.nil)) ?_
 first|rfl|(show _=_;rfl)|(simp only [tupV, *];done)
set_option maxHeartbeats 8000000 in
theorem pack_ok (w:World){v:Value}{l:List Att}(h:Ats w v l)(hk:AbOk (abs l)):Calls Tryd.prog 12 [v].toArray w (RetO (fun b:Value=>.tuple #[b,.int .i64 0]) (fun b oa=>∃ m,IsNorm m (abs l)∧OwnB 5 b (packA m).length (packA m) oa) w):=by
 haveI:=h.old
 have NO:=fun w' (h:Ats w' v l)=>norm_ok w' h hk
 have WR:=fun w' {b:Value} {q:List It} (hf:fitsL (itP q)) (h:Its w' b q)=>write_ok w' h hf
 have t0:((0:Int) != 0)=false:=rfl
 clear h
 refine fn_own (N:=_) Tryd.func12 rfl Tryd.ntmps12 Tryd.results12 (by simp) ?_
 simp only [initS,Nat.reduceAdd,Nat.zero_add]
 repeat' (first|(refine wlS ?_)|(refine wlB ?_)|(refine wlE ?_)|(refine efSvao ?_;intro v oa ho)|((with_reducible refine sel_call ?_);first|(refine wl_newO rfl rfl rfl rfl rfl (fun w hm=>by with_reducible exact NO w (VwT.out w hm)) ?_;intro x oa hx))|(refine efBnn ?_;intro n hn)|(refine efB ?_)|(refine efBS ?_)|(refine wl_skip rfl rfl ?_)|((with_reducible refine wc_seq ?_);intro K hK)|(refine auC ?_)|(refine wc_cond rfl (fun hc=>?_) (fun hc=>?_))|(refine wc_draw (by kernel_rfl) (by kernel_rfl) (by decide +kernel) ?_;intro w0 hw0 hm0;(try simp only [List.append_eq,List.cons_append,List.nil_append]))|(refine auP ?_)|((refine auR ?_);clear hK K)|(refine auR ?_)|((with_reducible refine hK _ _ ?_);clear hK K)|fail)
 obtain ⟨u,rfl⟩:∃ u,u=x:=⟨x,rfl⟩
 obtain ⟨its,hot,hnm⟩:=hx
 obtain ⟨o1,rfl⟩:∃ o1,o1=oa:=⟨oa,rfl⟩
 have hbod:=hot.bod
 haveI hA:=hot.atf
 haveI:=hot.cs
 have hab:=norm_okA hk hnm
 have hil:its.length≤24:=by have:=hab.len;rwa [abs_len] at this
 repeat' (first|(refine wlS ?_)|(refine wlB ?_)|(refine wlE ?_)|(refine efSvao ?_;intro v oa ho)|(refine efBnn ?_;intro n hn)|(refine efB ?_)|(refine efBS ?_)|(refine wl_skip rfl rfl ?_)|((with_reducible refine wc_seq ?_);intro K hK)|(refine auC ?_)|(refine wc_cond rfl (fun hc=>?_) (fun hc=>?_))|(refine wc_draw (by kernel_rfl) (by kernel_rfl) (by decide +kernel) ?_;intro w0 hw0 hm0;(try simp only [List.append_eq,List.cons_append,List.nil_append]))|(refine auP ?_)|((refine auR ?_);clear hK K)|(refine auR ?_)|((with_reducible refine hK _ _ ?_);clear hK K)|fail)
 refine wc_loop (σ:=Nat×Value×Blks) (fun x=>[(5,x.2.1),(16,u),(17,.int .i64 (its.length:Int)),(18,.int .i64 (x.1:Int))]) (fun x=>o1++x.2.2) (fun x=>x.1≤its.length∧OwnL 44 2 x.2.1 x.1 (itsC ((its.take x.1).map toIt)) x.2.2) (fun x=>its.length - x.1) (0,.slice none 0 0,[])
  ⟨Nat.zero_le _,OwnL.nil _ _⟩ (Fits.of ⟨rfl,rfl,rfl,rfl,trivial⟩ (by rw [List.append_nil];exact SubL.refl _) rfl) ?_
 rintro ⟨i,vi,oi⟩ ⟨hi,ho⟩
 dsimp only at hi ho ⊢
 by_cases hlt:i<its.length
 ·obtain ⟨⟨k,bv,p⟩,hlx⟩:∃ x,its[i]? = some x:=⟨its[i]'(by omega),List.getElem?_eq_getElem _⟩
  have hmem:=List.mem_of_getElem? hlx
  have hget:=atsC_get hlx
  obtain ⟨hk1,hk2,_⟩:=hab.each (k,p) (List.mem_map.2 ⟨_,hmem,rfl⟩)
  haveI:One bv:=⟨hbod.one' _ hmem⟩
  dsimp only at hget hk1 hk2
  have u1:decide ((i:Int)<(its.length:Int))=true:=decide_eq_true (by omega)
  have u2:IntKind.i64.wrap ((i:Int)+1)=((i+1:Nat):Int):=by rw [wrap_i64 _ (by omega) (by omega)];omega
  have u3:IntKind.u8.wrap k=((k.toNat:Nat):Int):=by rw [wrap_u8 _ (by omega) (by omega)];omega
  have j1:(i:Int)<(its.length:Int):=by omega
  clear NO WR hbod hab hnm
  repeat' (first|(refine wlS ?_)|(refine wlB ?_)|(refine wlE ?_)|(refine efSvao ?_;intro v oa ho)|(refine efZCnn ?_;intro n hn)|(refine efBnn ?_;intro n hn)|(refine efB ?_)|(refine efBS ?_)|(refine wl_skip rfl rfl ?_)|((with_reducible refine wc_seq ?_);intro K hK)|(refine auC ?_)|(refine wc_cond rfl (fun hc=>?_) (fun hc=>?_))|(refine wc_draw (by kernel_rfl) (by kernel_rfl) (by decide +kernel) ?_;intro w0 hw0 hm0;(try simp only [List.append_eq,List.cons_append,List.nil_append]))|(refine auP ?_)|((refine auR ?_);clear hK K)|(refine auR ?_)|((with_reducible refine hK _ _ ?_);clear hK K)|fail)
  refine ⟨(i+1,v,oa),⟨hlt,?_⟩,by dsimp only;omega,Fits.of ⟨rfl,rfl,rfl,rfl,trivial⟩ ?_ rfl⟩
  ·dsimp only
   rw [List.take_add_one,hlx,List.map_append,itsC_app]
   exact ho
  ·dsimp only
   repeat (first|exact SubL.nil|exact SubL.refl _|refine SubL.keep ?_|exact SubL.headA _ _|refine SubL.keepA ?_ _|refine SubL.skip ?_|refine SubL.skipA ?_ _)
 ·obtain rfl:i=its.length:=by omega
  have u1:decide ((its.length:Int)<(its.length:Int))=false:=decide_eq_false (by omega)
  rw [List.take_length] at ho
  haveI hF:IsF _ vi (its.map toIt):=isF_of (Φ:=Hd oi) (Ψ:=Hd o1) (by rw [List.length_map];exact OwnL.cs (h:=ho)) (fun x hx=>by
   obtain ⟨y,hy,rfl⟩:=List.mem_map.1 hx
   have h1:=hab.each (y.1,y.2.2) (List.mem_map.2 ⟨_,hy,rfl⟩)
   dsimp only at h1
   exact ⟨by show y.1.toNat<256;omega,(hbod y hy).1.1,(hbod y hy).2⟩)
  have WR1:=fun w' (h:Its w' vi (its.map toIt))=>WR w' (by rw [itP_toIt];exact itA_fits hab) h
  have hpk:wrL (itP (its.map toIt))=packA (abs its):=by rw [itP_toIt];rfl
  rw [hpk] at WR1
  clear NO WR hbod
  repeat' (first|(refine wlS ?_)|(refine wlB ?_)|(refine wlE ?_)|(refine efSvao ?_;intro v oa ho)|((with_reducible refine sel_call ?_);first|(refine wl_newO rfl rfl rfl rfl rfl (fun w hm=>by with_reducible exact WR1 w (VwI.out w hm)) ?_;intro x oa hx))|(refine efBnn ?_;intro n hn)|(refine efB ?_)|(refine efBS ?_)|(refine wl_skip rfl rfl ?_)|((with_reducible refine wc_seq ?_);intro K hK)|(refine auC ?_)|(refine wc_cond rfl (fun hc=>?_) (fun hc=>?_))|(refine wc_draw (by kernel_rfl) (by kernel_rfl) (by decide +kernel) ?_;intro w0 hw0 hm0;(try simp only [List.append_eq,List.cons_append,List.nil_append]))|(refine auP ?_)|((refine auR ?_);clear hK K)|(refine auR ?_)|((with_reducible refine hK _ _ ?_);clear hK K)|fail)
  first|refine end_ret (ResP.tmp rfl (ResP.tmp rfl ResP.nil)) ?_|refine end_normal (ResP.tmp rfl (ResP.tmp rfl ResP.nil)) ?_
  (try dsimp only [tupV])
  exact ⟨_,_,rfl,⟨_,hnm,hx⟩,by
   repeat (first|exact SubL.nil|exact SubL.refl _|refine SubL.keep ?_|exact SubL.headA _ _|refine SubL.keepA ?_ _|refine SubL.skip ?_|refine SubL.skipA ?_ _)⟩
end Go.Proofs.YthigacbelefadaaDoor
namespace Go.Proofs.YthigacbelefadaaDoor
open Go.RowKit
set_option linter.unusedVariables false
set_option linter.unusedSimpArgs false
set_option maxRecDepth 100000
def toAb (l:List (Nat×List Nat)):List Ab:=l.map fun x=>((x.1:Int),x.2)
structure GoodA (p:List Nat):Prop where
 rd:(rdD p).1=0
 ok:AbOk (toAb (rdD p).2)
 rises:Rises (toAb (rdD p).2)
def toAt (x:It):Att:=((x.1:Int),x.2.1,x.2.2)
theorem abs_toAt (l:List It):abs (l.map toAt)=toAb (l.map It.p):=by simp [abs,toAb,toAt,It.p]
def unpE (p:List Nat):Int:=if (rdD p).1≠0 then ((rdD p).1:Int) else if chkA (toAb (rdD p).2)≠0 then chkA (toAb (rdD p).2) else 1
def UnP (p:List Nat)(x:Value×Int)(oa:Blks):Prop:=(x.2=unpE p∧x.1=.slice none 0 0∧oa=[]∧¬GoodA p)∨(x.2=0∧GoodA p∧∃ its,OwnT x.1 its oa∧abs its=toAb (rdD p).2)
theorem rises_adj {l:List Ab}(h:∀ i x y,l[i]? = some x→l[i+1]? = some y→x.1<y.1):Rises l:=by
 induction l with
 | nil=>exact List.Pairwise.nil
 | cons a r ih=>
  have hr:=ih fun i x y hx hy=>h (i+1) x y (by simpa using hx) (by simpa using hy)
  refine List.Pairwise.cons (fun b hb=>?_) hr
  cases r with
  | nil=>cases hb
  | cons c s=>
   have h1:=h 0 a c rfl rfl
   rcases List.mem_cons.1 hb with rfl|hb
   ·exact h1
   ·have:=(List.pairwise_cons.1 hr).1 b hb
    omega
theorem Rises.adj {l:List Ab}(h:Rises l){i:Nat}{x y:Ab}(hx:l[i]? = some x)(hy:l[i+1]? = some y):x.1<y.1:=by
 have:=List.pairwise_iff_getElem.1 h i (i+1) (List.getElem?_eq_some_iff.1 hx).1 (List.getElem?_eq_some_iff.1 hy).1 (by omega)
 rw [(List.getElem?_eq_some_iff.1 hx).2,(List.getElem?_eq_some_iff.1 hy).2] at this
 exact this
set_option maxHeartbeats 16000000 in
theorem unpack_c (w:World){v:Value}{n:Nat}{p:List Nat}(h:Cb w v n p):Calls Tryd.prog 33 [v].toArray w (RetO (fun x:Value×Int=>.tuple #[x.1,.int .i64 x.2]) (UnP p) w):=by
 have i0:=h.old
 have hpb:=h.ok.by'
 by_cases he:(rdD p).1≠0
 ·have RN:=fun w' (h:Cb w' v n p)=>read_no w' h rfl he
  have hno:¬GoodA p:=fun h=>he h.rd
  have t1:(((rdD p).1:Int) != 0)=true:=by simp only [bne_iff_ne,ne_eq];omega
  have hi0:(((rdD p).1:Nat):Int)≠0:=by omega
  have hun:((rdD p).1:Int)=unpE p:=by rw [unpE,if_pos he]
  clear h he
  generalize (rdD p).1=e at *
  refine fn_own (N:=_) Tryd.func33 rfl Tryd.ntmps33 Tryd.results33 (by simp) ?_
  simp only [initS,Nat.reduceAdd,Nat.zero_add]
  repeat' (first|(refine wlS ?_)|(refine wlB ?_)|((with_reducible refine sel_call ?_);refine wl_rd rfl rfl (rd_call rfl rfl rfl (fun w hm=>by with_reducible exact RN w (VwB.out w hm))) ?_)|(refine wlE ?_)|(refine efSvao ?_;intro v oa ho)|(refine efBnn ?_;intro n hn)|(refine efB ?_)|(refine efBS ?_)|(refine wl_skip rfl rfl ?_)|(refine wdS ?_)|(refine wdV ?_)|(refine wdB ?_)|(refine wd_skip rfl rfl ?_)|((with_reducible refine seld_nil ?_);refine wd_nil hm0 ?_;clear hm0 hw0)|((with_reducible refine wc_seq ?_);intro K hK)|(refine auC ?_)|(refine wc_cond rfl (fun hc=>?_) (fun hc=>?_))|(refine wc_draw (by kernel_rfl) (by kernel_rfl) (by decide +kernel) ?_;intro w0 hw0 hm0;(try simp only [List.append_eq,List.cons_append,List.nil_append]))|(refine auP ?_)|((refine auR ?_);clear hK K)|(refine auR ?_)|((with_reducible refine hK _ _ ?_);clear hK K)|fail)
  first|refine end_ret (ResP.tmp rfl (ResP.tmp rfl ResP.nil)) ?_|refine end_normal (ResP.tmp rfl (ResP.tmp rfl ResP.nil)) ?_
  (try dsimp only [tupV])
  exact ⟨(.slice none 0 0,(e:Int)),[],rfl,.inl ⟨hun,rfl,rfl,hno⟩,.nil⟩
 have he':(rdD p).1=0:=Decidable.of_not_not he
 obtain ⟨L,hL⟩:∃ L,L=(rdD p).2:=⟨_,rfl⟩
 have RY:=fun w' (h:Cb w' v n p)=>read_yes w' h (l:=L) (Prod.ext he' hL.symm)
 have htag:∀ x∈L,x.1<256:=by
  have:=rdD_back hpb he'
  rw [hL]
  intro x hx
  unfold rdD at he' hx
  by_cases hl:p.length>65536
  ·rw [if_pos hl] at he';simp at he'
  ·rw [if_neg hl] at he' hx
   exact ((rdL_back p.length 0 p hpb (Nat.le_refl _) he' (by omega)).2.1 x hx).2
 have hLl:L.length≤200:=by rw [hL];exact (rdD_back hpb he').2.1
 have t0:(((0:Nat):Int) != 0)=false:=rfl
 have t00:((0:Int) != 0)=false:=rfl
 clear h he
 refine fn_own (N:=_) Tryd.func33 rfl Tryd.ntmps33 Tryd.results33 (by simp) ?_
 simp only [initS,Nat.reduceAdd,Nat.zero_add]
 repeat' (first|(refine wlS ?_)|(refine wlB ?_)|(refine wlE ?_)|(refine efSvao ?_;intro v oa ho)|((with_reducible refine sel_call ?_);first|(refine wl_newO rfl rfl rfl rfl rfl (fun w hm=>by with_reducible exact RY w (VwB.out w hm)) ?_;intro x oa hx))|(refine efBnn ?_;intro n hn)|(refine efB ?_)|(refine efBS ?_)|(refine wl_skip rfl rfl ?_)|(refine wdS ?_)|(refine wdV ?_)|(refine wdB ?_)|(refine wd_skip rfl rfl ?_)|((with_reducible refine seld_nil ?_);refine wd_nil hm0 ?_;clear hm0 hw0)|((with_reducible refine wc_seq ?_);intro K hK)|(refine auC ?_)|(refine wc_cond rfl (fun hc=>?_) (fun hc=>?_))|(refine wc_draw (by kernel_rfl) (by kernel_rfl) (by decide +kernel) ?_;intro w0 hw0 hm0;(try simp only [List.append_eq,List.cons_append,List.nil_append]))|(refine auP ?_)|((refine auR ?_);clear hK K)|(refine auR ?_)|((with_reducible refine hK _ _ ?_);clear hK K)|fail)
 obtain ⟨u,its⟩:=x
 obtain ⟨hmap,hown⟩:=hx
 dsimp only at hmap hown
 obtain ⟨on,ob,rfl,hol,hbod⟩:=hown.out
 haveI:=hol
 have hil:its.length≤200:=by have:=congrArg List.length hmap;rw [List.length_map] at this;omega
 have hab:abs (its.map toAt)=toAb L:=by rw [abs_toAt,hmap]
 dsimp only
 repeat' (first|(refine wlS ?_)|(refine wlB ?_)|(refine wlE ?_)|(refine efSvao ?_;intro v oa ho)|(refine efBnn ?_;intro n hn)|(refine efB ?_)|(refine efBS ?_)|(refine wl_skip rfl rfl ?_)|(refine wdS ?_)|(refine wdV ?_)|(refine wdB ?_)|(refine wd_skip rfl rfl ?_)|((with_reducible refine seld_nil ?_);refine wd_nil hm0 ?_;clear hm0 hw0)|((with_reducible refine wc_seq ?_);intro K hK)|(refine auC ?_)|(refine wc_cond rfl (fun hc=>?_) (fun hc=>?_))|(refine wc_draw (by kernel_rfl) (by kernel_rfl) (by decide +kernel) ?_;intro w0 hw0 hm0;(try simp only [List.append_eq,List.cons_append,List.nil_append]))|(refine auP ?_)|((refine auR ?_);clear hK K)|(refine auR ?_)|((with_reducible refine hK _ _ ?_);clear hK K)|fail)
 refine wc_loop (σ:=Nat×Value×Blks) (fun x=>[(6,x.2.1),(19,u),(20,.int .i64 (its.length:Int)),(21,.int .i64 (x.1:Int))]) (fun x=>on++(ob++x.2.2)) (fun x=>x.1≤its.length∧OwnL 86 2 x.2.1 x.1 (atsC ((its.take x.1).map toAt)) x.2.2) (fun x=>its.length - x.1) (0,.slice none 0 0,[])
  ⟨Nat.zero_le _,OwnL.nil _ _⟩ (Fits.of ⟨rfl,rfl,rfl,rfl,trivial⟩ (by rw [List.append_nil];exact SubL.refl _) rfl) ?_
 rintro ⟨i,vi,oi⟩ ⟨hi,ho⟩
 dsimp only at hi ho ⊢
 by_cases hlt:i<its.length
 ·obtain ⟨⟨k,bv,q⟩,hlx⟩:∃ x,its[i]? = some x:=⟨its[i]'(by omega),List.getElem?_eq_getElem _⟩
  have hmem:=List.mem_of_getElem? hlx
  have hget:=itsC_get hlx
  obtain ⟨hk1,hk2,_⟩:=hbod _ hmem
  dsimp only at hget hk1 hk2
  haveI:=hk2.2
  have u1:decide ((i:Int)<(its.length:Int))=true:=decide_eq_true (by omega)
  have u2:IntKind.i64.wrap ((i:Int)+1)=((i+1:Nat):Int):=by rw [wrap_i64 _ (by omega) (by omega)];omega
  have u3:IntKind.i64.wrap (k:Int)=(k:Int):=by rw [wrap_i64 _ (by omega) (by omega)]
  have j1:(i:Int)<(its.length:Int):=by omega
  clear RY hbod hab hmap
  repeat' (first|(refine wlS ?_)|(refine wlB ?_)|(refine wlE ?_)|(refine efSvao ?_;intro v oa ho)|(refine efZCnn ?_;intro n hn)|(refine efBnn ?_;intro n hn)|(refine efB ?_)|(refine efBS ?_)|(refine wl_skip rfl rfl ?_)|(refine wdS ?_)|(refine wdV ?_)|(refine wdB ?_)|(refine wd_skip rfl rfl ?_)|((with_reducible refine seld_nil ?_);refine wd_nil hm0 ?_;clear hm0 hw0)|((with_reducible refine wc_seq ?_);intro K hK)|(refine auC ?_)|(refine wc_cond rfl (fun hc=>?_) (fun hc=>?_))|(refine wc_draw (by kernel_rfl) (by kernel_rfl) (by decide +kernel) ?_;intro w0 hw0 hm0;(try simp only [List.append_eq,List.cons_append,List.nil_append]))|(refine auP ?_)|((refine auR ?_);clear hK K)|(refine auR ?_)|((with_reducible refine hK _ _ ?_);clear hK K)|fail)
  refine ⟨(i+1,v,oa),⟨hlt,?_⟩,by dsimp only;omega,Fits.of ⟨rfl,rfl,rfl,rfl,trivial⟩ ?_ rfl⟩
  ·dsimp only
   rw [List.take_add_one,hlx,List.map_append,atsC_app]
   exact ho
  ·dsimp only
   repeat (first|exact SubL.nil|exact SubL.refl _|refine SubL.keep ?_|exact SubL.headA _ _|refine SubL.keepA ?_ _|refine SubL.skip ?_|refine SubL.skipA ?_ _)
 ·obtain rfl:i=its.length:=by omega
  have u1:decide ((its.length:Int)<(its.length:Int))=false:=decide_eq_false (by omega)
  rw [List.take_length] at ho
  have hbF:BodF (Hd ob) (its.map toAt):=fun x hx=>by
   obtain ⟨y,hy,rfl⟩:=List.mem_map.1 hx
   obtain ⟨h1,h2,h3⟩:=hbod y hy
   exact ⟨h2,h3⟩
  have ho':OwnL 86 2 vi (its.map toAt).length (atsC (its.map toAt)) oi:=by rw [List.length_map];exact ho
  haveI hA:AtF _ vi (its.map toAt):=AtF.mk' (OwnL.cs (h:=ho')) hbF
  have CK:=fun w' (h:Ats w' vi (its.map toAt))=>check_a w' h
  rw [hab] at CK
  have hng:∀ {P:Prop},(P→AbOk (toAb L)∧Rises (toAb L))→True:=fun _=>trivial
  by_cases hc:chkA (toAb L)≠0
  ·have t1:(chkA (toAb L) != 0)=true:=by simpa using hc
   have hno:¬GoodA p:=fun h=>by
    have h2:=h.ok
    rw [←hL] at h2
    exact hc (chkA_zero.2 h2)
   have hun:chkA (toAb L)=unpE p:=by rw [unpE,if_neg (by rw [he'];simp),←hL,if_pos hc]
   clear RY hbod hab hmap hng
   generalize chkA (toAb L)=e at *
   repeat' (first|(refine wlS ?_)|(refine wlB ?_)|((with_reducible refine sel_call ?_);refine wl_rd rfl rfl (rd_call rfl rfl rfl (fun w hm=>by with_reducible exact CK w (VwT.out w hm))) ?_)|(refine wlE ?_)|(refine efSvao ?_;intro v oa ho)|(refine efBnn ?_;intro n hn)|(refine efB ?_)|(refine efBS ?_)|(refine wl_skip rfl rfl ?_)|(refine wdS ?_)|(refine wdV ?_)|(refine wdB ?_)|(refine wd_skip rfl rfl ?_)|((with_reducible refine seld_nil ?_);refine wd_nil hm0 ?_;clear hm0 hw0)|((with_reducible refine wc_seq ?_);intro K hK)|(refine auC ?_)|(refine wc_cond rfl (fun hc=>?_) (fun hc=>?_))|(refine wc_draw (by kernel_rfl) (by kernel_rfl) (by decide +kernel) ?_;intro w0 hw0 hm0;(try simp only [List.append_eq,List.cons_append,List.nil_append]))|(refine auP ?_)|((refine auR ?_);clear hK K)|(refine auR ?_)|((with_reducible refine hK _ _ ?_);clear hK K)|fail)
   first|refine end_ret (ResP.tmp rfl (ResP.tmp rfl ResP.nil)) ?_|refine end_normal (ResP.tmp rfl (ResP.tmp rfl ResP.nil)) ?_
   (try dsimp only [tupV])
   exact ⟨(.slice none 0 0,e),[],rfl,.inl ⟨hun,rfl,rfl,hno⟩,.nil⟩
  ·have hc':chkA (toAb L)=0:=Decidable.of_not_not hc
   have hok:=chkA_zero.1 hc'
   rw [hc'] at CK
   have hTl:(toAb L).length=its.length:=by rw [←hab,abs_len,List.length_map]
   have hlm:(its.map toAt).length=its.length:=List.length_map ..
   haveI hcs:=hA.cs
   rw [hlm] at hcs
   clear RY hc hng
   repeat' (first|(refine wlS ?_)|(refine wlB ?_)|((with_reducible refine sel_call ?_);refine wl_rd rfl rfl (rd_call rfl rfl rfl (fun w hm=>by with_reducible exact CK w (VwT.out w hm))) ?_)|(refine wlE ?_)|(refine efSvao ?_;intro v oa ho)|(refine efBnn ?_;intro n hn)|(refine efB ?_)|(refine efBS ?_)|(refine wl_skip rfl rfl ?_)|(refine wdS ?_)|(refine wdV ?_)|(refine wdB ?_)|(refine wd_skip rfl rfl ?_)|((with_reducible refine seld_nil ?_);refine wd_nil hm0 ?_;clear hm0 hw0)|((with_reducible refine wc_seq ?_);intro K hK)|(refine auC ?_)|(refine wc_cond rfl (fun hc=>?_) (fun hc=>?_))|(refine wc_draw (by kernel_rfl) (by kernel_rfl) (by decide +kernel) ?_;intro w0 hw0 hm0;(try simp only [List.append_eq,List.cons_append,List.nil_append]))|(refine auP ?_)|((refine auR ?_);clear hK K)|(refine auR ?_)|((with_reducible refine hK _ _ ?_);clear hK K)|fail)
   refine wc_loop (σ:=Nat) (fun i=>[(6,vi),(10,.int .i64 (i:Int))]) (fun _=>on++(ob++oi)) (fun i=>1≤i∧i≤its.length+1∧∀ j x y,j+1<i→(toAb L)[j]? = some x→(toAb L)[j+1]? = some y→x.1<y.1) (fun i=>its.length+1 - i) 1 ⟨Nat.le_refl _,by omega,fun j x y hj=>by omega⟩ (Fits.of ⟨rfl,rfl,trivial⟩ (SubL.refl _) rfl) ?_
   rintro i ⟨hi1,hi2,hup⟩
   by_cases hlt2:i<its.length
   ·have u4:decide ((i:Int)<(its.length:Int))=true:=decide_eq_true (by omega)
    have u2:IntKind.i64.wrap ((i:Int)+1)=((i+1:Nat):Int):=by rw [wrap_i64 _ (by omega) (by omega)];omega
    have u3:IntKind.i64.wrap ((i:Int) - 1)=((i - 1:Nat):Int):=by rw [wrap_i64 _ (by omega) (by omega)];omega
    obtain ⟨⟨k,bv,p1⟩,hx1⟩:∃ x,(its.map toAt)[i - 1]? = some x:=⟨(its.map toAt)[i - 1]'(by rw [List.length_map];omega),List.getElem?_eq_getElem _⟩
    obtain ⟨⟨m,bw,q1⟩,hx2⟩:∃ x,(its.map toAt)[i]? = some x:=⟨(its.map toAt)[i]'(by rw [List.length_map];omega),List.getElem?_eq_getElem _⟩
    have g1:=atsC_kind hx1
    have g2:=atsC_kind hx2
    have a1:=abs_get hx1
    have a2:=abs_get hx2
    rw [hab] at a1 a2
    have j1:(i:Int)<(its.length:Int):=by omega
    have j2:((i - 1:Nat):Int)<(its.length:Int):=by omega
    dsimp only at g1 g2 a1 a2
    by_cases hkm:m≤k
    ·have u5:decide (m≤k)=true:=decide_eq_true hkm
     have hno:¬GoodA p:=fun h=>by
      have h2:=h.rises
      rw [←hL] at h2
      have:=h2.adj (i:=i - 1) a1 (by rw [show i - 1+1=i by omega];exact a2)
      dsimp only at this
      omega
     have hun:(1:Int)=unpE p:=by rw [unpE,if_neg (by rw [he'];simp),←hL,if_neg (by rw [hc'];simp)]
     clear CK hbod hab hmap
     repeat' (first|(refine wlS ?_)|(refine wlB ?_)|(refine wlE ?_)|(refine efSvao ?_;intro v oa ho)|(refine efBnn ?_;intro n hn)|(refine efB ?_)|(refine efBS ?_)|(refine wl_skip rfl rfl ?_)|(refine wdS ?_)|(refine wdV ?_)|(refine wdB ?_)|(refine wd_skip rfl rfl ?_)|((with_reducible refine seld_nil ?_);refine wd_nil hm0 ?_;clear hm0 hw0)|((with_reducible refine wc_seq ?_);intro K hK)|(refine auC ?_)|(refine wc_cond rfl (fun hc=>?_) (fun hc=>?_))|(refine wc_draw (by kernel_rfl) (by kernel_rfl) (by decide +kernel) ?_;intro w0 hw0 hm0;(try simp only [List.append_eq,List.cons_append,List.nil_append]))|(refine auP ?_)|((refine auR ?_);clear hK K)|(refine auR ?_)|((with_reducible refine hK _ _ ?_);clear hK K)|fail)
     first|refine end_ret (ResP.tmp rfl (ResP.tmp rfl ResP.nil)) ?_|refine end_normal (ResP.tmp rfl (ResP.tmp rfl ResP.nil)) ?_
     (try dsimp only [tupV])
     exact ⟨((.slice none 0 0:Value),(1:Int)),[],rfl,.inl ⟨hun,rfl,rfl,hno⟩,.nil⟩
    ·have u5:decide (m≤k)=false:=decide_eq_false hkm
     have hup2:∀ j x y,j+1<i+1→(toAb L)[j]? = some x→(toAb L)[j+1]? = some y→x.1<y.1:=fun j x y hj hx hy=>by
      rcases Nat.lt_or_ge (j+1) i with h|h
      ·exact hup j x y h hx hy
      ·obtain rfl:j=i - 1:=by omega
       rw [show i - 1+1=i by omega] at hy
       rw [a1] at hx;rw [a2] at hy
       cases hx;cases hy
       show k<m
       omega
     clear CK hbod hab hmap hup
     repeat' (first|(refine wlS ?_)|(refine wlB ?_)|(refine wlE ?_)|(refine efSvao ?_;intro v oa ho)|(refine efBnn ?_;intro n hn)|(refine efB ?_)|(refine efBS ?_)|(refine wl_skip rfl rfl ?_)|(refine wdS ?_)|(refine wdV ?_)|(refine wdB ?_)|(refine wd_skip rfl rfl ?_)|((with_reducible refine seld_nil ?_);refine wd_nil hm0 ?_;clear hm0 hw0)|((with_reducible refine wc_seq ?_);intro K hK)|(refine auC ?_)|(refine wc_cond rfl (fun hc=>?_) (fun hc=>?_))|(refine wc_draw (by kernel_rfl) (by kernel_rfl) (by decide +kernel) ?_;intro w0 hw0 hm0;(try simp only [List.append_eq,List.cons_append,List.nil_append]))|(refine auP ?_)|((refine auR ?_);clear hK K)|(refine auR ?_)|((with_reducible refine hK _ _ ?_);clear hK K)|fail)
     exact ⟨i+1,⟨by omega,by omega,hup2⟩,by omega,Fits.of ⟨rfl,rfl,trivial⟩ (SubL.refl _) rfl⟩
   ·have u4:decide ((i:Int)<(its.length:Int))=false:=decide_eq_false (by omega)
    have hris:Rises (toAb L):=rises_adj fun j x y hx hy=>hup j x y (by have:=(List.getElem?_eq_some_iff.1 hy).1;omega) hx hy
    clear CK
    repeat' (first|(refine wlS ?_)|(refine wlB ?_)|(refine wlE ?_)|(refine efSvao ?_;intro v oa ho)|(refine efBnn ?_;intro n hn)|(refine efB ?_)|(refine efBS ?_)|(refine wl_skip rfl rfl ?_)|(refine wdS ?_)|(refine wdV ?_)|(refine wdB ?_)|(refine wd_skip rfl rfl ?_)|((with_reducible refine seld_nil ?_);refine wd_nil hm0 ?_;clear hm0 hw0)|((with_reducible refine wc_seq ?_);intro K hK)|(refine auC ?_)|(refine wc_cond rfl (fun hc=>?_) (fun hc=>?_))|(refine wc_draw (by kernel_rfl) (by kernel_rfl) (by decide +kernel) ?_;intro w0 hw0 hm0;(try simp only [List.append_eq,List.cons_append,List.nil_append]))|(refine auP ?_)|((refine auR ?_);clear hK K)|(refine auR ?_)|((with_reducible refine hK _ _ ?_);clear hK K)|fail)
    first|refine end_ret (ResP.tmp rfl (ResP.tmp rfl ResP.nil)) ?_|refine end_normal (ResP.tmp rfl (ResP.tmp rfl ResP.nil)) ?_
    (try dsimp only [tupV])
    refine ⟨(vi,0),ob++oi,rfl,.inr ⟨rfl,⟨he',by rw [←hL];exact hok,by rw [←hL];exact hris⟩,its.map toAt,⟨oi,ob,fun q hq=>(List.mem_append.1 hq).elim (fun h=>List.mem_append_right _ h) (fun h=>List.mem_append_left _ h),ho',hbF⟩,by rw [hab,hL]⟩,?_⟩
    repeat (first|exact SubL.nil|exact SubL.refl _|refine SubL.keep ?_|exact SubL.headA _ _|refine SubL.keepA ?_ _|refine SubL.skip ?_|refine SubL.skipA ?_ _)
theorem unpE_ne (p:List Nat):unpE p≠0:=by
 unfold unpE
 split
 ·omega
 ·split
  ·assumption
  ·decide
theorem unpack_bad (w:World){v:Value}{n:Nat}{p:List Nat}(h:Cb w v n p)(hg:¬GoodA p):Calls Tryd.prog 33 [v].toArray w (Ret (.tuple #[.slice none 0 0,.int .i64 (unpE p)]) w):=
 (unpack_c w h).mono fun e w2 ⟨x,oa,he,hx,hu⟩=>by
  rcases hx with ⟨h1,h2,h3,_⟩ | ⟨_,h2,_⟩
  ·subst h3
   exact ⟨by rw [he];dsimp only;rw [h1,h2],hu.below⟩
  ·exact absurd h2 hg
theorem unpack_good (w:World){v:Value}{n:Nat}{p:List Nat}(h:Cb w v n p)(hg:GoodA p):Calls Tryd.prog 33 [v].toArray w (RetO (fun u:Value=>.tuple #[u,.int .i64 0]) (fun u oa=>∃ its,OwnT u its oa∧abs its=toAb (rdD p).2) w):=
 (unpack_c w h).mono fun e w2 ⟨x,oa,he,hx,hu⟩=>by
  rcases hx with ⟨_,_,_,h4⟩ | ⟨h1,_,h3⟩
  ·exact absurd hg h4
  ·exact ⟨x.1,oa,by rw [he];dsimp only;rw [h1],h3,hu⟩
end Go.Proofs.YthigacbelefadaaDoor
namespace Go.Proofs.YthigacbelefadaaDoor
open Go.RowKit
set_option linter.unusedVariables false
set_option linter.unusedSimpArgs false
set_option maxRecDepth 100000
theorem CsF.blk {ob:Blks}{v:Value}{n:Nat}{xs:List Value}(h:CsF (Hd ob) v n xs){w:World}(hw:Hd ob w)(hx:xs≠[]):elB v∈keys ob:=by
 obtain ⟨u,r,rfl⟩:∃ u r,xs=u::r:=by cases xs with
  | nil=>exact absurd rfl hx
  | cons u r=>exact ⟨u,r,rfl⟩
 obtain ⟨b,off,cap,hv,hc⟩:=(h.out w hw).cell 0 u rfl
 subst hv
 show b∈keys ob
 by_cases hb:b∈keys ob
 ·exact hb
 exfalso
 have hw2:Hd ob {w with heap:=w.heap.setIfInBounds b (.cells #[] 0 (0,0))}:=fun p hp=>by
  have hne:b≠p.1:=fun e=>hb (by rw [e];exact List.mem_map_of_mem hp)
  show (w.heap.setIfInBounds b _)[p.1]? = _
  rw [Array.getElem?_setIfInBounds_ne hne]
  exact hw p hp
 obtain ⟨b2,off2,cap2,hv2,hc2⟩:=(h.out _ hw2).cell 0 u rfl
 injection hv2 with e1 e2 e3
 injection e1 with e1
 injection e1 with e1 e4
 subst e1;subst e4
 simp only [World.cell?] at hc2
 by_cases hlt:b<w.heap.size
 ·rw [Array.getElem?_setIfInBounds_self_of_lt hlt] at hc2
  simp at hc2
 ·rw [Array.getElem?_eq_none (by simp;omega)] at hc2
  simp at hc2
def HdForm (p:List Nat):Prop:=(rdD p).1=0∧∃ x y,(rdD p).2=[x,y]∧x.1=1∧y.1=2
abbrev heZ:Value:=.agg #[.int .i64 0,.int .i64 0,.slice none 0 0]
set_option maxHeartbeats 4000000 in
theorem fheld_bad (w:World){g:Nat}{b:Bool}{v:Value}{n:Nat}{p:List Nat}(h:Cb w v n p)(hne:bl p≠[]→elB v∉[g])(hg:w.heap[g]? = some (.cells #[.bool b] 56))(hf:¬HdForm p) :
  Calls Tryd.prog 17 [ptr g,v].toArray w (RetP (fun _:Unit=>heZ) g #[.bool b] 56 (fun _ c=>c=#[.bool true]) w):=by
 have i0:CsB (Old w [g]) v n p:=⟨h.cs.oldY hne,h.ok⟩
 by_cases he:(rdD p).1≠0
 ·have RN:=fun w' (h:Cb w' v n p)=>read_no w' h rfl he
  have t1:(((rdD p).1:Int) != 0)=true:=by simp only [bne_iff_ne,ne_eq];omega
  clear h hne hf he
  generalize (rdD p).1=er at *
  refine fn_updP (N:=_) Tryd.func17 rfl Tryd.ntmps17 Tryd.results17 (by simp) hg ?_
  simp only [initS,Nat.reduceAdd,Nat.zero_add]
  repeat' (first|(refine wlS ?_)|(refine wlB ?_)|((with_reducible refine sel_call ?_);refine wl_rd rfl rfl (rd_call rfl rfl rfl (fun w hm=>by with_reducible exact RN w (VwB.out w hm))) ?_)|(refine wlE ?_)|(refine efSvao ?_;intro v oa ho)|(refine efBnn ?_;intro n hn)|(refine efB ?_)|(refine efBS ?_)|(refine wl_skip rfl rfl ?_)|((with_reducible refine wc_seq ?_);intro K hK)|(refine auC ?_)|(refine wc_cond rfl (fun hc=>?_) (fun hc=>?_))|(refine wc_draw (by kernel_rfl) (by kernel_rfl) (by decide +kernel) ?_;intro w0 hw0 hm0;(try simp only [List.append_eq,List.cons_append,List.nil_append]))|(refine auP ?_)|((refine auR ?_);clear hK K)|(refine auR ?_)|((with_reducible refine hK _ _ ?_);clear hK K)|fail)
  first|refine end_ret (ResP.cell rfl ld_whole ResP.nil) ?_|refine end_normal (ResP.cell rfl ld_whole ResP.nil) ?_
  (try dsimp only [tupV])
  exact ⟨(),_,rfl,rfl,.skip (SubL.refl _)⟩
 have he':(rdD p).1=0:=Decidable.of_not_not he
 obtain ⟨L,hL⟩:∃ L,L=(rdD p).2:=⟨_,rfl⟩
 have RY:=fun w' (h:Cb w' v n p)=>read_yes w' h (l:=L) (Prod.ext he' hL.symm)
 have hLl:L.length≤200:=by rw [hL];exact (rdD_back h.ok.by' he').2.1
 have t0:((0:Int) != 0)=false:=rfl
 have hf':¬∃ x y,L=[x,y]∧x.1=1∧y.1=2:=fun h=>hf ⟨he',by rw [←hL];exact h⟩
 clear h hne hf he he' hL
 refine fn_updP (N:=_) Tryd.func17 rfl Tryd.ntmps17 Tryd.results17 (by simp) hg ?_
 simp only [initS,Nat.reduceAdd,Nat.zero_add]
 repeat' (first|(refine wlS ?_)|(refine wlB ?_)|(refine wlE ?_)|(refine efSvao ?_;intro v oa ho)|((with_reducible refine sel_call ?_);first|(refine wl_newO rfl rfl rfl rfl rfl (fun w hm=>by with_reducible exact RY w (VwB.out w hm)) ?_;intro x oa hx))|(refine efBnn ?_;intro n hn)|(refine efB ?_)|(refine efBS ?_)|(refine wl_skip rfl rfl ?_)|((with_reducible refine wc_seq ?_);intro K hK)|(refine auC ?_)|(refine wc_cond rfl (fun hc=>?_) (fun hc=>?_))|(refine wc_draw (by kernel_rfl) (by kernel_rfl) (by decide +kernel) ?_;intro w0 hw0 hm0;(try simp only [List.append_eq,List.cons_append,List.nil_append]))|(refine auP ?_)|((refine auR ?_);clear hK K)|(refine auR ?_)|((with_reducible refine hK _ _ ?_);clear hK K)|fail)
 obtain ⟨u,its⟩:=x
 obtain ⟨hmap,hown⟩:=hx
 dsimp only at hmap hown
 obtain ⟨on,ob,rfl,hol,hbod⟩:=hown.out
 haveI:=hol
 dsimp only
 have hil:its.length=L.length:=by rw [←hmap,List.length_map]
 clear RY
 by_cases h2:its.length=2
 ·obtain ⟨⟨ka,va,qa⟩,⟨kc,vc,qc⟩,rfl⟩:∃ x y,its=[x,y]:=by
   match its,h2 with
   | [x,y],_=>exact ⟨x,y,rfl⟩
  have t2:((([(ka,va,qa),(kc,vc,qc)]:List It).length:Int) != 2)=false:=rfl
  have j0:(0:Int)<(([(ka,va,qa),(kc,vc,qc)]:List It).length:Int):=(by decide:_<((2:Nat):Int))
  have j1:(1:Int)<(([(ka,va,qa),(kc,vc,qc)]:List It).length:Int):=(by decide:_<((2:Nat):Int))
  have g0:(itsC [(ka,va,qa),(kc,vc,qc)])[0]? = some (.int .u8 (ka:Int)):=rfl
  have g2:(itsC [(ka,va,qa),(kc,vc,qc)])[2]? = some (.int .u8 (kc:Int)):=rfl
  by_cases ha:ka=1
  ·subst ha
   have t3:(((1:Nat):Int) != 1)=false:=rfl
   have hc:kc≠2:=fun h=>hf' ⟨_,_,hmap.symm,rfl,h⟩
   have t4:((kc:Int) != 2)=true:=by rw [bne_iff_ne];omega
   clear hmap hown hbod hf' hil
   repeat' (first|(refine wlS ?_)|(refine wlB ?_)|(refine wlE ?_)|(refine efSvao ?_;intro v oa ho)|(refine efZCnn ?_;intro n hn)|(refine efBnn ?_;intro n hn)|(refine efB ?_)|(refine efBS ?_)|(refine wl_skip rfl rfl ?_)|((with_reducible refine wc_seq ?_);intro K hK)|(refine auC ?_)|(refine wc_cond rfl (fun hc=>?_) (fun hc=>?_))|(refine wc_draw (by kernel_rfl) (by kernel_rfl) (by decide +kernel) ?_;intro w0 hw0 hm0;(try simp only [List.append_eq,List.cons_append,List.nil_append]))|(refine auP ?_)|((refine auR ?_);clear hK K)|(refine auR ?_)|((with_reducible refine hK _ _ ?_);clear hK K)|fail)
   first|refine end_ret (ResP.cell rfl ld_whole ResP.nil) ?_|refine end_normal (ResP.cell rfl ld_whole ResP.nil) ?_
   (try dsimp only [tupV])
   exact ⟨(),_,rfl,rfl,.skip (.keep .nil)⟩
  ·have t3:((ka:Int) != 1)=true:=by rw [bne_iff_ne];omega
   clear hmap hown hbod hf' hil
   repeat' (first|(refine wlS ?_)|(refine wlB ?_)|(refine wlE ?_)|(refine efSvao ?_;intro v oa ho)|(refine efZCnn ?_;intro n hn)|(refine efBnn ?_;intro n hn)|(refine efB ?_)|(refine efBS ?_)|(refine wl_skip rfl rfl ?_)|((with_reducible refine wc_seq ?_);intro K hK)|(refine auC ?_)|(refine wc_cond rfl (fun hc=>?_) (fun hc=>?_))|(refine wc_draw (by kernel_rfl) (by kernel_rfl) (by decide +kernel) ?_;intro w0 hw0 hm0;(try simp only [List.append_eq,List.cons_append,List.nil_append]))|(refine auP ?_)|((refine auR ?_);clear hK K)|(refine auR ?_)|((with_reducible refine hK _ _ ?_);clear hK K)|fail)
   first|refine end_ret (ResP.cell rfl ld_whole ResP.nil) ?_|refine end_normal (ResP.cell rfl ld_whole ResP.nil) ?_
   (try dsimp only [tupV])
   exact ⟨(),_,rfl,rfl,.skip (.keep .nil)⟩
 ·have t2:((its.length:Int) != 2)=true:=by rw [bne_iff_ne];omega
  clear hmap hown hbod hf'
  repeat' (first|(refine wlS ?_)|(refine wlB ?_)|(refine wlE ?_)|(refine efSvao ?_;intro v oa ho)|(refine efZCnn ?_;intro n hn)|(refine efBnn ?_;intro n hn)|(refine efB ?_)|(refine efBS ?_)|(refine wl_skip rfl rfl ?_)|((with_reducible refine wc_seq ?_);intro K hK)|(refine auC ?_)|(refine wc_cond rfl (fun hc=>?_) (fun hc=>?_))|(refine wc_draw (by kernel_rfl) (by kernel_rfl) (by decide +kernel) ?_;intro w0 hw0 hm0;(try simp only [List.append_eq,List.cons_append,List.nil_append]))|(refine auP ?_)|((refine auR ?_);clear hK K)|(refine auR ?_)|((with_reducible refine hK _ _ ?_);clear hK K)|fail)
  first|refine end_ret (ResP.cell rfl ld_whole ResP.nil) ?_|refine end_normal (ResP.cell rfl ld_whole ResP.nil) ?_
  (try dsimp only [tupV])
  exact ⟨(),_,rfl,rfl,.skip (.keep .nil)⟩
set_option maxHeartbeats 4000000 in
theorem fheld_none (w:World){g:Nat}{b:Bool}{v:Value}{n:Nat}{p qa qc:List Nat}(h:Cb w v n p)(hne:bl p≠[]→elB v∉[g])(hg:w.heap[g]? = some (.cells #[.bool b] 56))(hL:rdD p=(0,[(1,qa),(2,qc)]))(hG:¬GoodA qc) :
  Calls Tryd.prog 17 [ptr g,v].toArray w (RetP (fun z:Int=>.agg #[.int .i64 z,.int .i64 0,.slice none 0 0]) g #[.bool b] 56 (fun _ c=>c=#[.bool true]) w):=by
 have i0:CsB (Old w [g]) v n p:=⟨h.cs.oldY hne,h.ok⟩
 have RY:=fun w' (h:Cb w' v n p)=>read_yes w' h hL
 have t0:((0:Int) != 0)=false:=rfl
 clear h hne hL
 have UB:=fun w' {vc:Value} (h:Cb w' vc qc.length qc)=>unpack_bad w' h hG
 have t5:(unpE qc != 0)=true:=by rw [bne_iff_ne];exact unpE_ne qc
 generalize unpE qc=ue at *
 refine fn_updP (N:=_) Tryd.func17 rfl Tryd.ntmps17 Tryd.results17 (by simp) hg ?_
 simp only [initS,Nat.reduceAdd,Nat.zero_add]
 repeat' (first|(refine wlS ?_)|(refine wlB ?_)|(refine wlE ?_)|(refine efSvao ?_;intro v oa ho)|((with_reducible refine sel_call ?_);first|(refine wl_newO rfl rfl rfl rfl rfl (fun w hm=>by with_reducible exact RY w (VwB.out w hm)) ?_;intro x oa hx))|(refine efBnn ?_;intro n hn)|(refine efB ?_)|(refine efBS ?_)|(refine wl_skip rfl rfl ?_)|((with_reducible refine wc_seq ?_);intro K hK)|(refine auC ?_)|(refine wc_cond rfl (fun hc=>?_) (fun hc=>?_))|(refine wc_draw (by kernel_rfl) (by kernel_rfl) (by decide +kernel) ?_;intro w0 hw0 hm0;(try simp only [List.append_eq,List.cons_append,List.nil_append]))|(refine auP ?_)|((refine auR ?_);clear hK K)|(refine auR ?_)|((with_reducible refine hK _ _ ?_);clear hK K)|fail)
 obtain ⟨u,its⟩:=x
 obtain ⟨hmap,hown⟩:=hx
 dsimp only at hmap hown
 obtain ⟨on,ob,rfl,hol,hbod⟩:=hown.out
 haveI:=hol
 dsimp only
 clear RY
 obtain ⟨va,vc,rfl⟩:∃ va vc,its=[(1,va,qa),(2,vc,qc)]:=by
  match its,hmap with
  | [(ka,va,qa'),(kc,vc,qc')],hm=>
   simp only [List.map_cons,List.map_nil,It.p,List.cons.injEq,Prod.mk.injEq,and_true] at hm
   obtain ⟨⟨rfl,rfl⟩,rfl,rfl⟩:=hm
   exact ⟨va,vc,rfl⟩
 have t2:((([(1,va,qa),(2,vc,qc)]:List It).length:Int) != 2)=false:=rfl
 have j0:(0:Int)<(([(1,va,qa),(2,vc,qc)]:List It).length:Int):=(by decide:_<((2:Nat):Int))
 have j1:(1:Int)<(([(1,va,qa),(2,vc,qc)]:List It).length:Int):=(by decide:_<((2:Nat):Int))
 have g0:(itsC [(1,va,qa),(2,vc,qc)])[0]? = some (.int .u8 ((1:Nat):Int)):=rfl
 have g1:(itsC [(1,va,qa),(2,vc,qc)])[1]? = some va:=rfl
 have g2:(itsC [(1,va,qa),(2,vc,qc)])[2]? = some (.int .u8 ((2:Nat):Int)):=rfl
 have g3:(itsC [(1,va,qa),(2,vc,qc)])[3]? = some vc:=rfl
 have t3:(((1:Nat):Int) != 1)=false:=rfl
 have t4:(((2:Nat):Int) != 2)=false:=rfl
 obtain ⟨_,⟨bb1,bb2⟩,bb3⟩:=hbod (1,va,qa) (by simp)
 obtain ⟨_,⟨bc1,bc2⟩,bc3⟩:=hbod (2,vc,qc) (by simp)
 dsimp only at bb1 bb2 bb3 bc1 bc2 bc3
 haveI ba:CsB (Hd ob) va qa.length qa:=⟨⟨bb2,bb3⟩,bb1⟩
 haveI bc:CsB (Hd ob) vc qc.length qc:=⟨⟨bc2,bc3⟩,bc1⟩
 clear hbod hown hmap
 cases b
 ·repeat' (first|(refine wlS ?_)|(refine wlB ?_)|((with_reducible refine sel_call ?_);refine wl_rd rfl rfl (rd_call rfl rfl rfl (fun w hm=>by with_reducible exact UB w (VwB.out w hm))) ?_)|(refine wlE ?_)|(refine efSvao ?_;intro v oa ho)|(refine efZCnn ?_;intro n hn)|(refine efBnn ?_;intro n hn)|(refine efB ?_)|(refine efBS ?_)|(refine wl_skip rfl rfl ?_)|((with_reducible refine wc_seq ?_);intro K hK)|(refine auC ?_)|(refine wc_cond rfl (fun hc=>?_) (fun hc=>?_))|(refine wc_draw (by kernel_rfl) (by kernel_rfl) (by decide +kernel) ?_;intro w0 hw0 hm0;(try simp only [List.append_eq,List.cons_append,List.nil_append]))|(refine auP ?_)|((refine auR ?_);clear hK K)|(refine auR ?_)|((with_reducible refine hK _ _ ?_);clear hK K)|fail)
  have e:#[Value.bool false].setIfInBounds 0 (Value.bool true)=#[.bool true]:=rfl
  rw [e]
  clear e
  refine wl_updP rfl rfl rfl rfl rfl (fun w' hm hw=>fnum_c w' (b:=true) (p:=qa) (VwB.out w' hm) 63 (fun hq hin=>by
   have h1:=CsF.blk ba.cs (w:=w') (Hold.out w' hm) hq
   rw [List.mem_singleton.1 hin] at h1
   have nd:=hm.nd
   simp only [keys,List.map_cons,List.map_append,List.nodup_cons,List.mem_cons,List.mem_append,not_or] at nd
   exact nd.2.1.2 (by simpa only [keys] using h1)) hw) ?_
  intro x c hx
  subst hx
  repeat' (first|(refine wlS ?_)|(refine wlB ?_)|(refine wlE ?_)|(refine efSvao ?_;intro v oa ho)|(refine efZCnn ?_;intro n hn)|(refine efBnn ?_;intro n hn)|(refine efB ?_)|(refine efBS ?_)|(refine wl_skip rfl rfl ?_)|((with_reducible refine wc_seq ?_);intro K hK)|(refine auC ?_)|(refine wc_cond rfl (fun hc=>?_) (fun hc=>?_))|(refine wc_draw (by kernel_rfl) (by kernel_rfl) (by decide +kernel) ?_;intro w0 hw0 hm0;(try simp only [List.append_eq,List.cons_append,List.nil_append]))|(refine auP ?_)|((refine auR ?_);clear hK K)|(refine auR ?_)|((with_reducible refine hK _ _ ?_);clear hK K)|fail)
  first|refine end_ret (ResP.cell rfl ld_whole ResP.nil) ?_|refine end_normal (ResP.cell rfl ld_whole ResP.nil) ?_
  (try dsimp only [tupV])
  exact ⟨_,_,rfl,rfl,.skip (.keep .nil)⟩
 ·repeat' (first|(refine wlS ?_)|(refine wlB ?_)|((with_reducible refine sel_call ?_);refine wl_rd rfl rfl (rd_call rfl rfl rfl (fun w hm=>by with_reducible exact UB w (VwB.out w hm))) ?_)|(refine wlE ?_)|(refine efSvao ?_;intro v oa ho)|(refine efZCnn ?_;intro n hn)|(refine efBnn ?_;intro n hn)|(refine efB ?_)|(refine efBS ?_)|(refine wl_skip rfl rfl ?_)|((with_reducible refine wc_seq ?_);intro K hK)|(refine auC ?_)|(refine wc_cond rfl (fun hc=>?_) (fun hc=>?_))|(refine wc_draw (by kernel_rfl) (by kernel_rfl) (by decide +kernel) ?_;intro w0 hw0 hm0;(try simp only [List.append_eq,List.cons_append,List.nil_append]))|(refine auP ?_)|((refine auR ?_);clear hK K)|(refine auR ?_)|((with_reducible refine hK _ _ ?_);clear hK K)|fail)
  have e:#[Value.bool true].setIfInBounds 0 (Value.bool true)=#[.bool true]:=rfl
  rw [e]
  clear e
  refine wl_updP rfl rfl rfl rfl rfl (fun w' hm hw=>fnum_c w' (b:=true) (p:=qa) (VwB.out w' hm) 63 (fun hq hin=>by
   have h1:=CsF.blk ba.cs (w:=w') (Hold.out w' hm) hq
   rw [List.mem_singleton.1 hin] at h1
   have nd:=hm.nd
   simp only [keys,List.map_cons,List.map_append,List.nodup_cons,List.mem_cons,List.mem_append,not_or] at nd
   exact nd.2.1.2 (by simpa only [keys] using h1)) hw) ?_
  intro x c hx
  subst hx
  repeat' (first|(refine wlS ?_)|(refine wlB ?_)|(refine wlE ?_)|(refine efSvao ?_;intro v oa ho)|(refine efZCnn ?_;intro n hn)|(refine efBnn ?_;intro n hn)|(refine efB ?_)|(refine efBS ?_)|(refine wl_skip rfl rfl ?_)|((with_reducible refine wc_seq ?_);intro K hK)|(refine auC ?_)|(refine wc_cond rfl (fun hc=>?_) (fun hc=>?_))|(refine wc_draw (by kernel_rfl) (by kernel_rfl) (by decide +kernel) ?_;intro w0 hw0 hm0;(try simp only [List.append_eq,List.cons_append,List.nil_append]))|(refine auP ?_)|((refine auR ?_);clear hK K)|(refine auR ?_)|((with_reducible refine hK _ _ ?_);clear hK K)|fail)
  first|refine end_ret (ResP.cell rfl ld_whole ResP.nil) ?_|refine end_normal (ResP.cell rfl ld_whole ResP.nil) ?_
  (try dsimp only [tupV])
  exact ⟨_,_,rfl,rfl,.skip (.keep .nil)⟩
set_option maxHeartbeats 4000000 in
theorem fheld_good (w:World){g:Nat}{b:Bool}{v:Value}{n:Nat}{p qa qc:List Nat}(h:Cb w v n p)(hne:bl p≠[]→elB v∉[g])(hg:w.heap[g]? = some (.cells #[.bool b] 56))(hL:rdD p=(0,[(1,qa),(2,qc)]))(hG:GoodA qc) :
  Calls Tryd.prog 17 [ptr g,v].toArray w (RetPO (fun x:Int×Option Addr×Nat×Nat=>.agg #[.int .i64 x.1,.int .i64 0,.slice x.2.1 x.2.2.1 x.2.2.2]) g #[.bool b] 56
   (fun x c oa=>x.1=IntKind.i64.wrap (limb (readN qa).2 0)∧c=#[.bool (b || fnB qa 63)]∧∃ its,OwnT (.slice x.2.1 x.2.2.1 x.2.2.2) its oa∧abs its=toAb (rdD qc).2) w):=by
 have i0:CsB (Old w [g]) v n p:=⟨h.cs.oldY hne,h.ok⟩
 have RY:=fun w' (h:Cb w' v n p)=>read_yes w' h hL
 have t0:((0:Int) != 0)=false:=rfl
 clear h hne hL
 have UG:=fun w' {vc:Value} (h:Cb w' vc qc.length qc)=>(unpack_good w' h hG).mono fun e w2 ⟨u,oa,h1,⟨it,h2,h3⟩,h4⟩=>(show RetO (fun y:Option Addr×Nat×Nat=>.tuple #[.slice y.1 y.2.1 y.2.2,.int .i64 0]) (fun y oa=>∃ it,OwnT (.slice y.1 y.2.1 y.2.2) it oa∧abs it=toAb (rdD qc).2) w' e w2 from by
  obtain ⟨pp,cc,rfl,_⟩:=h2.ln.out
  exact ⟨(pp,_,cc),oa,h1,⟨it,h2,h3⟩,h4⟩)
 obtain ⟨fb,hfb⟩:∃ z,z=fnB qa 63:=⟨_,rfl⟩
 rw [←hfb]
 refine fn_updPO (N:=_) Tryd.func17 rfl Tryd.ntmps17 Tryd.results17 (by simp) hg ?_
 simp only [initS,Nat.reduceAdd,Nat.zero_add]
 repeat' (first|(refine wlS ?_)|(refine wlB ?_)|(refine wlE ?_)|(refine efSvao ?_;intro v oa ho)|((with_reducible refine sel_call ?_);first|(refine wl_newO rfl rfl rfl rfl rfl (fun w hm=>by with_reducible exact RY w (VwB.out w hm)) ?_;intro x oa hx))|(refine efBnn ?_;intro n hn)|(refine efB ?_)|(refine efBS ?_)|(refine wl_skip rfl rfl ?_)|((with_reducible refine wc_seq ?_);intro K hK)|(refine auC ?_)|(refine wc_cond rfl (fun hc=>?_) (fun hc=>?_))|(refine wc_draw (by kernel_rfl) (by kernel_rfl) (by decide +kernel) ?_;intro w0 hw0 hm0;(try simp only [List.append_eq,List.cons_append,List.nil_append]))|(refine auP ?_)|((refine auR ?_);clear hK K)|(refine auR ?_)|((with_reducible refine hK _ _ ?_);clear hK K)|fail)
 obtain ⟨u,its⟩:=x
 obtain ⟨hmap,hown⟩:=hx
 dsimp only at hmap hown
 obtain ⟨on,ob,rfl,hol,hbod⟩:=hown.out
 haveI:=hol
 dsimp only
 clear RY
 obtain ⟨va,vc,rfl⟩:∃ va vc,its=[(1,va,qa),(2,vc,qc)]:=by
  match its,hmap with
  | [(ka,va,qa'),(kc,vc,qc')],hm=>
   simp only [List.map_cons,List.map_nil,It.p,List.cons.injEq,Prod.mk.injEq,and_true] at hm
   obtain ⟨⟨rfl,rfl⟩,rfl,rfl⟩:=hm
   exact ⟨va,vc,rfl⟩
 have t2:((([(1,va,qa),(2,vc,qc)]:List It).length:Int) != 2)=false:=rfl
 have j0:(0:Int)<(([(1,va,qa),(2,vc,qc)]:List It).length:Int):=(by decide:_<((2:Nat):Int))
 have j1:(1:Int)<(([(1,va,qa),(2,vc,qc)]:List It).length:Int):=(by decide:_<((2:Nat):Int))
 have g0:(itsC [(1,va,qa),(2,vc,qc)])[0]? = some (.int .u8 ((1:Nat):Int)):=rfl
 have g1:(itsC [(1,va,qa),(2,vc,qc)])[1]? = some va:=rfl
 have g2:(itsC [(1,va,qa),(2,vc,qc)])[2]? = some (.int .u8 ((2:Nat):Int)):=rfl
 have g3:(itsC [(1,va,qa),(2,vc,qc)])[3]? = some vc:=rfl
 have t3:(((1:Nat):Int) != 1)=false:=rfl
 have t4:(((2:Nat):Int) != 2)=false:=rfl
 obtain ⟨_,⟨bb1,bb2⟩,bb3⟩:=hbod (1,va,qa) (by simp)
 obtain ⟨_,⟨bc1,bc2⟩,bc3⟩:=hbod (2,vc,qc) (by simp)
 dsimp only at bb1 bb2 bb3 bc1 bc2 bc3
 haveI ba:CsB (Hd ob) va qa.length qa:=⟨⟨bb2,bb3⟩,bb1⟩
 haveI bc:CsB (Hd ob) vc qc.length qc:=⟨⟨bc2,bc3⟩,bc1⟩
 clear hbod hown hmap
 cases b
 ·repeat' (first|(refine wlS ?_)|(refine wlB ?_)|(refine wlE ?_)|(refine efSvao ?_;intro v oa ho)|(refine efZCnn ?_;intro n hn)|((with_reducible refine sel_call ?_);first|(refine wl_newO rfl rfl rfl rfl rfl (fun w hm=>by with_reducible exact UG w (VwB.out w hm)) ?_;intro x oa hx))|(refine efBnn ?_;intro n hn)|(refine efB ?_)|(refine efBS ?_)|(refine wl_skip rfl rfl ?_)|((with_reducible refine wc_seq ?_);intro K hK)|(refine auC ?_)|(refine wc_cond rfl (fun hc=>?_) (fun hc=>?_))|(refine wc_draw (by kernel_rfl) (by kernel_rfl) (by decide +kernel) ?_;intro w0 hw0 hm0;(try simp only [List.append_eq,List.cons_append,List.nil_append]))|(refine auP ?_)|((refine auR ?_);clear hK K)|(refine auR ?_)|((with_reducible refine hK _ _ ?_);clear hK K)|fail)
  obtain ⟨⟨pp,ll,cc⟩,rfl⟩:∃ y,y=x:=⟨x,rfl⟩
  dsimp only at hx ⊢
  have hx0:=hx
  have e:#[Value.bool false].setIfInBounds 0 (Value.bool false)=#[.bool false]:=rfl
  rw [e]
  clear e
  refine wl_updP rfl rfl rfl rfl rfl (fun w' hm hw=>fnum_c w' (b:=false) (p:=qa) (VwB.out w' hm) 63 (fun hq hin=>by
   have h1:=CsF.blk ba.cs (w:=w') (Hold.out w' hm) hq
   rw [List.mem_singleton.1 hin] at h1
   have nd:=hm.nd
   simp only [keys,List.map_cons,List.map_append,List.nodup_cons,List.mem_cons,List.mem_append,not_or] at nd
   exact nd.2.1.2.1 (by simpa only [keys] using h1)) hw) ?_
  intro x c hx
  rw [←hfb] at hx
  subst hx
  repeat' (first|(refine wlS ?_)|(refine wlB ?_)|(refine wlE ?_)|(refine efSvao ?_;intro v oa ho)|(refine efZCnn ?_;intro n hn)|(refine efBnn ?_;intro n hn)|(refine efB ?_)|(refine efBS ?_)|(refine wl_skip rfl rfl ?_)|((with_reducible refine wc_seq ?_);intro K hK)|(refine auC ?_)|(refine wc_cond rfl (fun hc=>?_) (fun hc=>?_))|(refine wc_draw (by kernel_rfl) (by kernel_rfl) (by decide +kernel) ?_;intro w0 hw0 hm0;(try simp only [List.append_eq,List.cons_append,List.nil_append]))|(refine auP ?_)|((refine auR ?_);clear hK K)|(refine auR ?_)|((with_reducible refine hK _ _ ?_);clear hK K)|fail)
  first|refine end_ret (ResP.cell rfl ld_whole ResP.nil) ?_|refine end_normal (ResP.cell rfl ld_whole ResP.nil) ?_
  (try dsimp only [tupV])
  exact ⟨(_,pp,ll,cc),_,oa,rfl,⟨rfl,rfl,hx0⟩,.skip (.keep (SubL.skipA (SubL.skipA (SubL.refl _) _) _))⟩
 ·repeat' (first|(refine wlS ?_)|(refine wlB ?_)|(refine wlE ?_)|(refine efSvao ?_;intro v oa ho)|(refine efZCnn ?_;intro n hn)|((with_reducible refine sel_call ?_);first|(refine wl_newO rfl rfl rfl rfl rfl (fun w hm=>by with_reducible exact UG w (VwB.out w hm)) ?_;intro x oa hx))|(refine efBnn ?_;intro n hn)|(refine efB ?_)|(refine efBS ?_)|(refine wl_skip rfl rfl ?_)|((with_reducible refine wc_seq ?_);intro K hK)|(refine auC ?_)|(refine wc_cond rfl (fun hc=>?_) (fun hc=>?_))|(refine wc_draw (by kernel_rfl) (by kernel_rfl) (by decide +kernel) ?_;intro w0 hw0 hm0;(try simp only [List.append_eq,List.cons_append,List.nil_append]))|(refine auP ?_)|((refine auR ?_);clear hK K)|(refine auR ?_)|((with_reducible refine hK _ _ ?_);clear hK K)|fail)
  obtain ⟨⟨pp,ll,cc⟩,rfl⟩:∃ y,y=x:=⟨x,rfl⟩
  dsimp only at hx ⊢
  have hx0:=hx
  have e:#[Value.bool true].setIfInBounds 0 (Value.bool true)=#[.bool true]:=rfl
  rw [e]
  clear e
  refine wl_updP rfl rfl rfl rfl rfl (fun w' hm hw=>fnum_c w' (b:=true) (p:=qa) (VwB.out w' hm) 63 (fun hq hin=>by
   have h1:=CsF.blk ba.cs (w:=w') (Hold.out w' hm) hq
   rw [List.mem_singleton.1 hin] at h1
   have nd:=hm.nd
   simp only [keys,List.map_cons,List.map_append,List.nodup_cons,List.mem_cons,List.mem_append,not_or] at nd
   exact nd.2.1.2.1 (by simpa only [keys] using h1)) hw) ?_
  intro x c hx
  rw [←hfb] at hx
  subst hx
  repeat' (first|(refine wlS ?_)|(refine wlB ?_)|(refine wlE ?_)|(refine efSvao ?_;intro v oa ho)|(refine efZCnn ?_;intro n hn)|(refine efBnn ?_;intro n hn)|(refine efB ?_)|(refine efBS ?_)|(refine wl_skip rfl rfl ?_)|((with_reducible refine wc_seq ?_);intro K hK)|(refine auC ?_)|(refine wc_cond rfl (fun hc=>?_) (fun hc=>?_))|(refine wc_draw (by kernel_rfl) (by kernel_rfl) (by decide +kernel) ?_;intro w0 hw0 hm0;(try simp only [List.append_eq,List.cons_append,List.nil_append]))|(refine auP ?_)|((refine auR ?_);clear hK K)|(refine auR ?_)|((with_reducible refine hK _ _ ?_);clear hK K)|fail)
  first|refine end_ret (ResP.cell rfl ld_whole ResP.nil) ?_|refine end_normal (ResP.cell rfl ld_whole ResP.nil) ?_
  (try dsimp only [tupV])
  exact ⟨(_,pp,ll,cc),_,oa,rfl,⟨rfl,rfl,hx0⟩,.skip (.keep (SubL.skipA (SubL.skipA (SubL.refl _) _) _))⟩
end Go.Proofs.YthigacbelefadaaDoor
namespace Go.Proofs.YthigacbelefadaaDoor
open Go.RowKit
attribute [local irreducible] rwA bys iw blkD byteD MS.sum MS.write
set_option linter.unusedVariables false
set_option linter.unusedSimpArgs false
set_option maxRecDepth 100000
set_option maxHeartbeats 4000000 in
theorem spack_no {z1 z2 nx:Int}{l:List He}(hk:¬KOk z1 z2 nx l)(hsm:∀ x∈l,Small x.2.2.2)(hlen:l.length≤1048576):∃ e:Int,e≠0∧∀ {pl:Nat} {m1 m2:List Nat} [NBy m1 32] [ByL m1] [NBy m2 32] [ByL m2] (w:World),Tab w→∀ {hv:Value},Hes w hv l→
  Calls Tryd.prog 5 [kpV' pl m1 z1 m2 z2 nx hv].toArray w (RetO (fun _:Unit=>.tuple #[.slice none 0 0,.int .i64 e]) (fun _ oa=>oa=[]) w):=by
 obtain ⟨er,her,hc⟩:=rest_none hk hsm hlen
 refine ⟨er,her,fun {pl m1 m2} _ _ _ _ w hT {hv} hl=>?_⟩
 have RN:=fun w' (hb:Below w.heap.size w w')=>hc (pl:=pl) (m1:=m1) (m2:=m2) w' (hT.below hb) (cb_nil w') (hl.below hb)
 haveI:One hv:=⟨by obtain ⟨_,_,rfl,_⟩:=hl.cs.ln.out;rfl⟩
 have t1:(er != 0)=true:=by rw [bne_iff_ne];exact her
 clear hT hl hc hsm
 refine fn_own (N:=_) Tryd.func5 rfl Tryd.ntmps5 Tryd.results5 (by simp) ?_
 simp only [initS,Nat.reduceAdd,Nat.zero_add]
 repeat' (first|(refine wlS ?_)|(refine wlG ?_)|(refine wlB ?_)|(refine wlE ?_)|(refine efSvao ?_;intro v oa ho)|(refine efG ?_)|(refine efGnn ?_;intro n hn)|((with_reducible refine sel_call ?_);first|(refine wl_newO rfl rfl rfl rfl rfl (fun w hm=>by with_reducible exact RN w (hm.below rfl)) ?_;intro x oa hx))|(refine efBnn ?_;intro n hn)|(refine efB ?_)|(refine efBS ?_)|(refine wl_skip rfl rfl ?_)|(refine wdS ?_)|(refine wdG ?_)|(refine wdV ?_)|(refine wdB ?_)|(refine wdE ?_)|(refine wd_skip rfl rfl ?_)|((with_reducible refine seld_nil ?_);refine wd_nil hm0 ?_;clear hm0 hw0)|((with_reducible refine wc_seq ?_);intro K hK)|(refine auC ?_)|(refine wc_cond rfl (fun hc=>?_) (fun hc=>?_))|(refine wc_draw (by kernel_rfl) (by kernel_rfl) (by decide +kernel) ?_;intro w0 hw0 hm0;(try simp only [List.append_eq,List.cons_append,List.nil_append]))|(refine auP ?_)|((refine auR ?_);clear hK K)|(refine auR ?_)|((with_reducible refine hK _ _ ?_);clear hK K)|fail)
 first|refine end_ret (ResP.tmp rfl (ResP.tmp rfl ResP.nil)) ?_|refine end_normal (ResP.tmp rfl (ResP.tmp rfl ResP.nil)) ?_
 (try dsimp only [tupV])
 exact ⟨(),[],rfl,rfl,.nil⟩
end Go.Proofs.YthigacbelefadaaDoor
namespace Go.Proofs.YthigacbelefadaaDoor
set_option linter.unusedVariables false
set_option linter.unusedSimpArgs false
set_option maxRecDepth 100000
def heL (x:Ho):List Nat:=wrL [(1,numL x.1.toNat),(2,packA x.2.2)]
def kpF (pl:Nat)(m1:List Nat)(k1:Nat)(m2:List Nat)(k2 nx:Nat):List (Nat×List Nat):=[(1,numL pl),(2,m1++[k1]),(3,m2++[k2]),(4,numL nx)]
def kpL (pl:Nat)(m1:List Nat)(k1:Nat)(m2:List Nat)(k2 nx:Nat)(l:List Ho):List (Nat×List Nat):=kpF pl m1 k1 m2 k2 nx++l.map fun x=>(5,heL x)
theorem valid_rises {l:List Ab}(h:validB l=true):Rises l:=by
 have h1:=kinds_rise (clsA l)
 rw [←valid_kinds h,List.pairwise_map] at h1
 exact h1
theorem norm_rises {m l:List Ab}(h:IsNorm m l)(hr:Rises l):m=l:=rises_only h.rises hr h.perm
def attW (k:Int):Nat:=if k=1 then 3 else if k=2∨k=3 then 34 else if k=4 then 66 else 3
theorem attW_le {x:Ab}(h:fitsB x=true):(wr1 (x.1.toNat,x.2)).length≤attW x.1:=by
 have h64:=fitsB_le h
 rw [wr1,List.length_append]
 have hh:(headL x.1.toNat x.2.length).length=2:=by unfold headL;rw [if_pos (by omega)];rfl
 dsimp only
 rw [hh]
 unfold fitsB at h
 unfold attW
 by_cases h1:x.1=1
 ·rw [if_pos h1] at h ⊢;have:=(of_decide_eq_true h).1;omega
 rw [if_neg h1] at h ⊢
 by_cases h2:x.1=2∨x.1=3
 ·rw [if_pos h2] at h ⊢;have:=of_decide_eq_true h;omega
 rw [if_neg h2] at h ⊢
 by_cases h4:x.1=4
 ·rw [if_pos h4] at h ⊢;have:=of_decide_eq_true h;omega
 rw [if_neg h4] at h ⊢
 have:=(of_decide_eq_true h).1;omega
theorem packA_sum:∀ {l:List Ab},(∀ x∈l,fitsB x=true)→(packA l).length≤((l.map (·.1)).map attW).sum
 | [],_=>Nat.le_refl _
 | x::r,h=>by
  have ih:=packA_sum (l:=r) fun y hy=>h y (by simp [hy])
  have hx:=attW_le (h x (by simp))
  have e:packA (x::r)=wr1 (x.1.toNat,x.2)++packA r:=by
   rw [packA,itA,List.map_cons,show ∀ (a:Nat×List Nat) b,a::b=[a]++b from fun _ _=>rfl,wrL_app,wrL_one]
   rfl
  rw [e,List.length_append,List.map_cons,List.map_cons,List.sum_cons]
  omega
theorem kinds_sum (c:Nat):((kindsA c).map attW).sum≤200:=by
 unfold kindsA
 split
 ·decide
 ·split
  ·decide
  ·split
   ·decide
   ·split <;> decide
theorem packA_len {l:List Ab}(h:AbOk l)(hv:validB l=true):(packA l).length≤200:=by
 have h1:=packA_sum fun x hx=>(h.each x hx).2.2
 rw [valid_kinds hv] at h1
 exact Nat.le_trans h1 (kinds_sum _)
theorem wr1_le (t:Nat)(p:List Nat):(wr1 (t,p)).length≤p.length+4:=by
 have:=(headL_len t p.length).1
 rw [wr1,List.length_append]
 dsimp only;omega
theorem wr1_le' (t:Nat){p:List Nat}(h:p.length<128):(wr1 (t,p)).length=p.length+2:=by
 rw [wr1,List.length_append]
 dsimp only
 unfold headL
 rw [if_pos h]
 simp only [List.length_cons,List.length_nil];omega
theorem heL_two (x:Ho):heL x=wr1 (1,numL x.1.toNat)++wr1 (2,packA x.2.2):=by
 rw [heL,show ∀ a b:Nat×List Nat,[a,b]=[a]++[b] from fun _ _=>rfl,wrL_app,wrL_one,wrL_one]
theorem heL_len {x:Ho}(h:AbOk x.2.2)(hv:validB x.2.2=true)(hn:x.1.toNat<T256):(heL x).length≤239:=by
 have h1:=packA_len h hv
 have h2:=nbL_le hn
 have h3:=wr1_le' 1 (p:=numL x.1.toNat) (by rw [numL_len];omega)
 have h4:=wr1_le 2 (packA x.2.2)
 rw [numL_len] at h3
 rw [heL_two,List.length_append]
 omega
theorem heL_fits {x:Ho}(h:AbOk x.2.2)(hv:validB x.2.2=true)(hn:x.1.toNat<T256):fitsL [(1,numL x.1.toNat),(2,packA x.2.2)]:=⟨by simp,fun y hy=>by
 have h1:=packA_len h hv
 have h2:=nbL_le hn
 simp only [List.mem_cons,List.not_mem_nil,or_false] at hy
 rcases hy with rfl|rfl
 ·show (numL x.1.toNat).length≤4096
  rw [numL_len];omega
 ·show (packA x.2.2).length≤4096
  omega⟩
structure HoOk (x:Ho):Prop where
 num:0≤x.1∧x.1<9223372036854775808
 ok:AbOk x.2.2
 valid:validB x.2.2=true
theorem HoOk.lt {x:Ho}(h:HoOk x):x.1.toNat<T256:=Nat.lt_trans (m:=9223372036854775808) (by have:=h.num;omega) (by decide)
structure KpP (pl:Nat)(m1:List Nat)(k1:Nat)(m2:List Nat)(k2 nx:Nat)(l:List Ho):Prop where
 pl:pl<18446744073709551616
 m1:m1.length=32∧∀ x∈m1,x<256
 m2:m2.length=32∧∀ x∈m2,x<256
 k1:k1<256
 k2:k2<256
 nx:nx<9223372036854775808
 few:l.length≤16
 each:∀ x∈l,HoOk x
section
variable {pl k1 k2 nx:Nat}{m1 m2:List Nat}{l:List Ho}
theorem KpP.plt (h:KpP pl m1 k1 m2 k2 nx l):pl<T256:=Nat.lt_trans h.pl (by decide)
theorem KpP.nlt (h:KpP pl m1 k1 m2 k2 nx l):nx<T256:=Nat.lt_trans h.nx (by decide)
theorem KpP.fits (h:KpP pl m1 k1 m2 k2 nx l):fitsL (kpL pl m1 k1 m2 k2 nx l):=⟨by
  have:=h.few
  simp only [kpL,kpF,List.length_append,List.length_cons,List.length_nil,List.length_map];omega,fun x hx=>by
  rcases List.mem_append.1 hx with hx|hx
  ·have h1:=nbL_le h.plt
   have h2:=nbL_le h.nlt
   simp only [kpF,List.mem_cons,List.not_mem_nil,or_false] at hx
   rcases hx with rfl|rfl|rfl|rfl
   ·show (numL pl).length≤4096
    rw [numL_len];omega
   ·show (m1++[k1]).length≤4096
    simp only [List.length_append,List.length_singleton,h.m1.1];omega
   ·show (m2++[k2]).length≤4096
    simp only [List.length_append,List.length_singleton,h.m2.1];omega
   ·show (numL nx).length≤4096
    rw [numL_len];omega
  ·obtain ⟨y,hy,rfl⟩:=List.mem_map.1 hx
   have h1:=h.each y hy
   have:=heL_len h1.ok h1.valid h1.lt
   show (heL y).length≤4096
   omega⟩
theorem heLs_len:∀ {l:List Ho},(∀ x∈l,HoOk x)→(wrL (l.map fun x=>(5,heL x))).length≤243 * l.length
 | [],_=>Nat.le_refl _
 | x::r,h=>by
  have ih:=heLs_len (l:=r) fun y hy=>h y (by simp [hy])
  have h1:=h x (by simp)
  have h2:=heL_len h1.ok h1.valid h1.lt
  have h3:=wr1_le 5 (heL x)
  rw [List.map_cons,show ∀ (a:Nat×List Nat) b,a::b=[a]++b from fun _ _=>rfl,wrL_app,wrL_one,List.length_append,List.length_cons]
  omega
theorem kpL_len (h:KpP pl m1 k1 m2 k2 nx l):(wrL (kpL pl m1 k1 m2 k2 nx l)).length≤4064:=by
 have h1:=heLs_len h.each
 have h2:=h.few
 have a1:=wr1_le' 1 (p:=numL pl) (by rw [numL_len];have:=nbL_le h.plt;omega)
 have a4:=wr1_le' 4 (p:=numL nx) (by rw [numL_len];have:=nbL_le h.nlt;omega)
 have a2:=wr1_le' 2 (p:=m1++[k1]) (by simp only [List.length_append,List.length_singleton,h.m1.1];omega)
 have a3:=wr1_le' 3 (p:=m2++[k2]) (by simp only [List.length_append,List.length_singleton,h.m2.1];omega)
 rw [numL_len] at a1 a4
 rw [List.length_append,h.m1.1] at a2
 rw [List.length_append,h.m2.1] at a3
 have b1:=nbL_le h.plt
 have b4:=nbL_le h.nlt
 have e:wrL (kpF pl m1 k1 m2 k2 nx)=wr1 (1,numL pl)++(wr1 (2,m1++[k1])++(wr1 (3,m2++[k2])++wr1 (4,numL nx))):=by
  rw [kpF,show ∀ a b c d:Nat×List Nat,[a,b,c,d]=[a]++([b]++([c]++[d])) from fun _ _ _ _=>rfl,wrL_app,wrL_app,wrL_app,wrL_one,wrL_one,wrL_one,wrL_one]
 rw [kpL,wrL_app,e]
 simp only [List.length_append,List.length_singleton] at *
 omega
structure HdOk (p:List Nat):Prop where
 out:∃ qa qc,rdD p=(0,[(1,qa),(2,qc)])∧GoodA qc∧fnB qa 63=false
def itOk (i:Nat)(x:Nat×List Nat):Prop:=
 x.1=(if 5<i+1 then 5 else i+1)∧(if i=0 then fnB x.2 64=false else if i=1∨i=2 then x.2.length=33 else if i=3 then fnB x.2 63=false else HdOk x.2)
def hdO (p:List Nat):Ho:=(IntKind.i64.wrap (limb (readN (((rdD p).2.getD 0 (0,[])).2)).2 0),0,toAb (rdD (((rdD p).2.getD 1 (0,[])).2)).2)
theorem hdO_of {p qa qc:List Nat}(h:rdD p=(0,[(1,qa),(2,qc)])):hdO p=(IntKind.i64.wrap (limb (readN qa).2 0),0,toAb (rdD qc).2):=by
 unfold hdO;rw [h];rfl
def KForm (P:List (Nat×List Nat)):Prop:=4≤P.length∧∀ i x,P[i]? = some x→itOk i x
theorem toAb_itA {l:List Ab}(h:AbOk l):toAb (itA l)=l:=by
 unfold toAb itA
 rw [List.map_map]
 have:∀ x∈l,((fun x:Nat×List Nat=>((x.1:Int),x.2))∘fun x:Ab=>(x.1.toNat,x.2)) x=x:=fun x hx=>by
  have:=(h.each x hx).1
  show (((x.1.toNat:Nat):Int),x.2)=x
  rw [show ((x.1.toNat:Nat):Int)=x.1 by omega]
 rw [List.map_congr_left this];simp
theorem itA_toAb (L:List (Nat×List Nat)):itA (toAb L)=L:=by
 unfold toAb itA
 rw [List.map_map]
 have:∀ x∈L,((fun x:Ab=>(x.1.toNat,x.2))∘fun x:Nat×List Nat=>((x.1:Int),x.2)) x=x:=fun x hx=>by
  show (((x.1:Nat):Int).toNat,x.2)=x
  rw [Int.toNat_natCast]
 rw [List.map_congr_left this];simp
theorem fnB_num {a n:Nat}(h:a<T256)(hn:a<2 ^ n):fnB (numL a) n=false:=by
 unfold fnB
 rw [readN_numL h]
 have:blen a≤n:=blen_le.2 hn
 have h2:decide (n<blen a)=false:=decide_eq_false (by omega)
 rw [h2];rfl
theorem fnB_read {p:List Nat}{n:Nat}(hb:∀ x∈p,x<256)(h:fnB p n=false):(readN p).1=0∧(readN p).2<2 ^ n∧numL (readN p).2=p:=by
 unfold fnB at h
 rw [Bool.or_eq_false_iff] at h
 have h1:(readN p).1=0:=by have:=h.1;simpa using this
 have h2:=of_decide_eq_false h.2
 exact ⟨h1,blen_le.1 (by omega),(numL_readN hb h1).1⟩
theorem i64_small {a:Nat}(h:a<9223372036854775808):IntKind.i64.wrap (a:Int)=(a:Int):=wrap_i64 _ (by omega) (by omega)
theorem good_pack {l:List Ab}(h:AbOk l)(hv:validB l=true):rdD (packA l)=(0,itA l)∧GoodA (packA l):=by
 have hr:rdD (packA l)=(0,itA l):=rdD_wrL (itA_fits h) (by have:=packA_len h hv;unfold packA at this;omega)
 exact ⟨hr,⟨by rw [hr],by rw [hr];dsimp only;rw [toAb_itA h];exact h,by rw [hr];dsimp only;rw [toAb_itA h];exact valid_rises hv⟩⟩
theorem hdOk_heL {x:Ho}(h:HoOk x):HdOk (heL x)∧hdO (heL x)=(x.1,0,x.2.2):=by
 have hr:rdD (heL x)=(0,[(1,numL x.1.toNat),(2,packA x.2.2)]):=rdD_wrL (heL_fits h.ok h.valid h.lt) (by have:=heL_len h.ok h.valid h.lt;unfold heL at this;omega)
 obtain ⟨g1,g2⟩:=good_pack h.ok h.valid
 have hn:=h.num
 have h63:x.1.toNat<9223372036854775808:=by omega
 refine ⟨⟨_,_,hr,g2,fnB_num h.lt (show x.1.toNat<2 ^ 63 by omega)⟩,?_⟩
 rw [hdO_of hr,g1,readN_numL h.lt]
 dsimp only
 rw [toAb_itA h.ok,limb_small (by omega),i64_small h63,show ((x.1.toNat:Nat):Int)=x.1 by omega]
def unPl (P:List (Nat×List Nat)):Nat:=(readN (P.getD 0 (0,[])).2).2
def unNx (P:List (Nat×List Nat)):Nat:=(readN (P.getD 3 (0,[])).2).2
def unM (P:List (Nat×List Nat))(i:Nat):List Nat:=lkM (P.getD i (0,[])).2
def unZ (P:List (Nat×List Nat))(i:Nat):Nat:=lkZ (P.getD i (0,[])).2
def unH (P:List (Nat×List Nat)):List Ho:=(P.drop 4).map fun x=>hdO x.2
theorem lk_back {p:List Nat}(h:p.length=33):lkM p++[lkZ p]=p:=by
 unfold lkM lkZ
 rw [if_pos h,if_pos h]
 have h1:p.getD 32 0=p[32]'(by omega):=by rw [List.getD_eq_getElem?_getD,List.getElem?_eq_getElem (by omega)];rfl
 rw [h1]
 have:=List.take_append_getElem (l:=p) (i:=32) (by omega)
 rw [this,List.take_of_length_le (by omega)]
theorem lk_of {m:List Nat}{k:Nat}(h:m.length=32):lkM (m++[k])=m∧lkZ (m++[k])=k:=by
 have hl:(m++[k]).length=33:=by rw [List.length_append,h];rfl
 unfold lkM lkZ
 rw [if_pos hl,if_pos hl]
 refine ⟨by rw [←h,List.take_left],?_⟩
 rw [List.getD_eq_getElem?_getD,←h,List.getElem?_append_right (Nat.le_refl _),Nat.sub_self];rfl
theorem kform_kpL (h:KpP pl m1 k1 m2 k2 nx l):KForm (kpL pl m1 k1 m2 k2 nx l):=⟨by simp only [kpL,kpF,List.length_append,List.length_cons,List.length_nil,List.length_map];omega,fun i x hx=>by
 unfold kpL at hx
 rcases Nat.lt_or_ge i 4 with hi|hi
 ·rw [List.getElem?_append_left (by simpa [kpF] using hi)] at hx
  have:i=0∨i=1∨i=2∨i=3:=by omega
  rcases this with rfl|rfl|rfl|rfl
  ·simp only [kpF,List.getElem?_cons_zero,Option.some.injEq] at hx
   subst hx
   exact ⟨rfl,fnB_num h.plt (show pl<2 ^ 64 from h.pl)⟩
  ·simp only [kpF,List.getElem?_cons_zero,List.getElem?_cons_succ,Option.some.injEq] at hx
   subst hx
   exact ⟨rfl,by show (m1++[k1]).length=33;rw [List.length_append,h.m1.1];rfl⟩
  ·simp only [kpF,List.getElem?_cons_zero,List.getElem?_cons_succ,Option.some.injEq] at hx
   subst hx
   exact ⟨rfl,by show (m2++[k2]).length=33;rw [List.length_append,h.m2.1];rfl⟩
  ·simp only [kpF,List.getElem?_cons_zero,List.getElem?_cons_succ,Option.some.injEq] at hx
   subst hx
   exact ⟨rfl,fnB_num h.nlt (show nx<2 ^ 63 from h.nx)⟩
 ·rw [List.getElem?_append_right (by simpa [kpF] using hi)] at hx
  obtain ⟨y,hy,rfl⟩:=List.mem_map.1 (List.mem_of_getElem? hx)
  refine ⟨by show 5=_;split <;> omega,?_⟩
  rw [if_neg (by omega),if_neg (by omega),if_neg (by omega)]
  exact (hdOk_heL (h.each y hy)).1⟩
theorem un_kpL (h:KpP pl m1 k1 m2 k2 nx l):unPl (kpL pl m1 k1 m2 k2 nx l)=pl∧unM (kpL pl m1 k1 m2 k2 nx l) 1=m1∧unZ (kpL pl m1 k1 m2 k2 nx l) 1=k1∧unM (kpL pl m1 k1 m2 k2 nx l) 2=m2∧unZ (kpL pl m1 k1 m2 k2 nx l) 2=k2∧unNx (kpL pl m1 k1 m2 k2 nx l)=nx∧unH (kpL pl m1 k1 m2 k2 nx l)=l.map fun x=>(x.1,0,x.2.2):=by
 refine ⟨?_,?_,?_,?_,?_,?_,?_⟩
 ·show (readN (numL pl)).2=pl
  rw [readN_numL h.plt]
 ·exact (lk_of h.m1.1).1
 ·exact (lk_of h.m1.1).2
 ·exact (lk_of h.m2.1).1
 ·exact (lk_of h.m2.1).2
 ·show (readN (numL nx)).2=nx
  rw [readN_numL h.nlt]
 ·unfold unH
  have e:(kpL pl m1 k1 m2 k2 nx l).drop 4=l.map fun x=>(5,heL x):=rfl
  rw [e,List.map_map]
  exact List.map_congr_left fun x hx=>(hdOk_heL (h.each x hx)).2
theorem heL_hdO {p:List Nat}(hb:∀ x∈p,x<256)(h:HdOk p):heL (hdO p)=p:=by
 obtain ⟨qa,qc,hr,hg,hn⟩:=h.out
 have hw:=(rdD_back hb (by rw [hr])).1
 rw [hr] at hw
 have hbs:(∀ x∈qa,x<256)∧∀ x∈qc,x<256:=by
  have e:p=wr1 (1,qa)++wr1 (2,qc):=by
   rw [←hw,show ([(1,qa),(2,qc)]:List (Nat×List Nat))=[(1,qa)]++[(2,qc)] from rfl,wrL_app,wrL_one,wrL_one]
  exact ⟨fun x hx=>hb x (by rw [e];simp [wr1,hx]),fun x hx=>hb x (by rw [e];simp [wr1,hx])⟩
 obtain ⟨n1,n2,n3⟩:=fnB_read hbs.1 hn
 have n2':(readN qa).2<9223372036854775808:=n2
 have hq:=(rdD_back hbs.2 hg.rd).1
 rw [hdO_of hr,heL]
 dsimp only
 rw [limb_small (by omega),i64_small n2',Int.toNat_natCast,n3,packA,itA_toAb,hq,hw]
end
theorem wrL_bytes {P:List (Nat×List Nat)}{p:List Nat}(h:wrL P=p)(hb:∀ x∈p,x<256):∀ y∈P,∀ x∈y.2,x<256:=fun y hy x hx=>hb x (by
 rw [←h]
 exact List.mem_flatten.2 ⟨wr1 y,List.mem_map_of_mem hy,by simp [wr1,hx]⟩)
theorem kpL_un {P:List (Nat×List Nat)}(hb:∀ y∈P,∀ x∈y.2,x<256)(h:KForm P):kpL (unPl P) (unM P 1) (unZ P 1) (unM P 2) (unZ P 2) (unNx P) (unH P)=P:=by
 obtain ⟨h4,he⟩:=h
 match P,h4 with
 | x0::x1::x2::x3::r,_=>
  obtain ⟨a0,b0⟩:=he 0 x0 rfl
  obtain ⟨a1,b1⟩:=he 1 x1 rfl
  obtain ⟨a2,b2⟩:=he 2 x2 rfl
  obtain ⟨a3,b3⟩:=he 3 x3 rfl
  have f0:=(fnB_read (hb x0 (by simp)) b0).2.2
  have f3:=(fnB_read (hb x3 (by simp)) b3).2.2
  have f1:=lk_back (p:=x1.2) b1
  have f2:=lk_back (p:=x2.2) b2
  have hr:((x0::x1::x2::x3::r).drop 4).map (fun x=>(5,heL (hdO x.2)))=r:=by
   have:∀ x∈r,(fun x:Nat×List Nat=>(5,heL (hdO x.2))) x=x:=fun x hx=>by
    obtain ⟨i,hi⟩:=List.mem_iff_getElem?.1 hx
    obtain ⟨c1,c2⟩:=he (i+4) x hi
    have c1:x.1=5:=by split at c1 <;> omega
    rw [if_neg (by omega),if_neg (by omega),if_neg (by omega)] at c2
    show (5,heL (hdO x.2))=x
    rw [heL_hdO (hb x (by simp [hx])) c2,←c1]
   show r.map _=r
   rw [List.map_congr_left this];simp
  show [(1,numL (readN x0.2).2),(2,lkM x1.2++[lkZ x1.2]),(3,lkM x2.2++[lkZ x2.2]),(4,numL (readN x3.2).2)]++(unH (x0::x1::x2::x3::r)).map (fun x=>(5,heL x))=_
  rw [f0,f1,f2,f3,unH,List.map_map]
  show _++((x0::x1::x2::x3::r).drop 4).map (fun x=>(5,heL (hdO x.2)))=_
  rw [hr,show (1,x0.2)=x0 from Prod.ext a0.symm rfl,show (2,x1.2)=x1 from Prod.ext a1.symm rfl,show (3,x2.2)=x2 from Prod.ext a2.symm rfl,show (4,x3.2)=x3 from Prod.ext a3.symm rfl]
  rfl
end Go.Proofs.YthigacbelefadaaDoor
