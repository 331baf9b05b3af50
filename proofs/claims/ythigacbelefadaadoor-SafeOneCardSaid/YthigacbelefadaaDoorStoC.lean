/- The package store,walked: Restore,New. -/
import Derived.Test.YthigacbelefadaaDoorJnAD
namespace Go.Proofs.YthigacbelefadaaDoor
open Go.RowKit
set_option linter.unusedVariables false
set_option linter.unusedSimpArgs false
set_option maxRecDepth 100000
structure Hes (w:World)(v:Value)(l:List He):Prop where
 cs:Cs w v l.length (hesC l)
 body:∀ x∈l,Ats w x.2.2.1 x.2.2.2
structure RiseH (l:List He)(next:Int):Prop where
 rise:(l.map (·.1)).Pairwise (· < ·)
 pos:∀ x∈l,1≤x.1∧x.1<next
structure LastH (l:List He)(next last:Int):Prop where
 ok:RiseH l next
 le:∀ x∈l,x.1≤last
 is:(l=[]∧last=0)∨∃ y∈l,y.1=last
theorem LastH.step {l:List He}{next last:Int}(h:LastH l next last)(x:He):(last<x.1∧x.1<next→LastH (l++[x]) next x.1)∧(¬(last<x.1∧x.1<next)→¬RiseH (l++[x]) next):=by
 constructor
 ·rintro ⟨h1,h2⟩
  have h0:0≤last:=by
   rcases h.is with ⟨_,h⟩ | ⟨y,hy,rfl⟩
   ·omega
   ·have:=h.ok.pos y hy;omega
  refine ⟨⟨?_,fun y hy=>?_⟩,fun y hy=>?_,.inr ⟨x,by simp,rfl⟩⟩
  ·rw [List.map_append,List.pairwise_append]
   refine ⟨h.ok.rise,by simp,fun a ha b hb=>?_⟩
   simp at hb;subst hb
   obtain ⟨y,hy,rfl⟩:=List.mem_map.1 ha
   have:=h.le y hy
   omega
  ·rcases List.mem_append.1 hy with hy|hy
   ·exact h.ok.pos y hy
   ·simp only [List.mem_singleton] at hy;subst hy;omega
  ·rcases List.mem_append.1 hy with hy|hy
   ·have:=h.le y hy;omega
   ·simp only [List.mem_singleton] at hy;subst hy;omega
 ·intro hn hr
  apply hn
  have hx:=hr.pos x (by simp)
  refine ⟨?_,hx.2⟩
  rcases h.is with ⟨_,h⟩ | ⟨y,hy,rfl⟩
  ·omega
  ·have h1:=hr.rise
   rw [List.map_append,List.pairwise_append] at h1
   exact h1.2.2 y.1 (List.mem_map_of_mem hy) x.1 (by simp)
theorem RiseH.take {l:List He}{next:Int}(h:RiseH l next)(i:Nat):RiseH (l.take i) next:=
 ⟨h.rise.sublist ((List.take_sublist i l).map _),fun x hx=>h.pos x (List.mem_of_mem_take hx)⟩
theorem small_abs {l m:List Att}(h:abs m=abs l)(hs:Small l):Small m:=by
 have hl:m.length=l.length:=by have:=congrArg List.length h;rwa [abs_len,abs_len] at this
 refine ⟨by rw [hl];exact hs.len,fun x hx=>?_⟩
 have h1:(x.1,x.2.2)∈abs l:=by rw [←h];exact List.mem_map.2 ⟨x,hx,rfl⟩
 obtain ⟨y,hy,he⟩:=List.mem_map.1 h1
 have h2:y.2.2=x.2.2:=congrArg (·.2) he
 rw [←h2];exact hs.each y hy
def resBad (most next:Int):Prop:=most<1∨16<most∨next<1∨1073741824<next
set_option maxHeartbeats 4000000 in
theorem restore_bad (w:World){most next:Int}{v:Value}[One v](h:resBad most next):Calls Tryd.prog 22 [.int .i64 most,.int .i64 next,v].toArray w (Ret (.tuple #[.pointer none,.int .i64 1]) w):=by
 unfold resBad at h
 by_cases h1:most<1
 ·have t1:decide (most<1)=true:=decide_eq_true h1
  clear h
  refine fn_ret (N:=_) Tryd.func22 rfl Tryd.ntmps22 Tryd.results22 (by simp) ?_
  simp only [initS,Nat.reduceAdd,Nat.zero_add]
  repeat' (first|(refine wlS ?_)|(refine wlB ?_)|(refine wlE ?_)|(refine efSvao ?_;intro v oa ho)|(refine efBnn ?_;intro n hn)|(refine efB ?_)|(refine efBS ?_)|(refine wl_skip rfl rfl ?_)|(refine wdS ?_)|(refine wdV ?_)|(refine wdB ?_)|(refine wd_skip rfl rfl ?_)|((with_reducible refine seld_nil ?_);refine wd_nil hm0 ?_;clear hm0 hw0)|((with_reducible refine wc_seq ?_);intro K hK)|(refine auC ?_)|(refine wc_cond rfl (fun hc=>?_) (fun hc=>?_))|(refine wc_draw (by kernel_rfl) (by kernel_rfl) (by decide +kernel) ?_;intro w0 hw0 hm0;(try simp only [List.append_eq,List.cons_append,List.nil_append]))|(refine auP ?_)|((refine auR ?_);clear hK K)|(refine auR ?_)|((with_reducible refine hK _ _ ?_);clear hK K)|fail)
  first|refine end_ret (ResP.tmp rfl (ResP.tmp rfl ResP.nil)) ?_|refine end_normal (ResP.tmp rfl (ResP.tmp rfl ResP.nil)) ?_
  first|rfl|(show _=_;rfl)|(simp only [tupV, *];done)
 have t1:decide (most<1)=false:=decide_eq_false h1
 by_cases h2:16<most
 ·have t2:decide (most>16)=true:=decide_eq_true h2
  clear h
  refine fn_ret (N:=_) Tryd.func22 rfl Tryd.ntmps22 Tryd.results22 (by simp) ?_
  simp only [initS,Nat.reduceAdd,Nat.zero_add]
  repeat' (first|(refine wlS ?_)|(refine wlB ?_)|(refine wlE ?_)|(refine efSvao ?_;intro v oa ho)|(refine efBnn ?_;intro n hn)|(refine efB ?_)|(refine efBS ?_)|(refine wl_skip rfl rfl ?_)|(refine wdS ?_)|(refine wdV ?_)|(refine wdB ?_)|(refine wd_skip rfl rfl ?_)|((with_reducible refine seld_nil ?_);refine wd_nil hm0 ?_;clear hm0 hw0)|((with_reducible refine wc_seq ?_);intro K hK)|(refine auC ?_)|(refine wc_cond rfl (fun hc=>?_) (fun hc=>?_))|(refine wc_draw (by kernel_rfl) (by kernel_rfl) (by decide +kernel) ?_;intro w0 hw0 hm0;(try simp only [List.append_eq,List.cons_append,List.nil_append]))|(refine auP ?_)|((refine auR ?_);clear hK K)|(refine auR ?_)|((with_reducible refine hK _ _ ?_);clear hK K)|fail)
  first|refine end_ret (ResP.tmp rfl (ResP.tmp rfl ResP.nil)) ?_|refine end_normal (ResP.tmp rfl (ResP.tmp rfl ResP.nil)) ?_
  first|rfl|(show _=_;rfl)|(simp only [tupV, *];done)
 have t2:decide (most>16)=false:=decide_eq_false h2
 by_cases h3:next<1
 ·have t3:decide (next<1)=true:=decide_eq_true h3
  clear h
  refine fn_ret (N:=_) Tryd.func22 rfl Tryd.ntmps22 Tryd.results22 (by simp) ?_
  simp only [initS,Nat.reduceAdd,Nat.zero_add]
  repeat' (first|(refine wlS ?_)|(refine wlB ?_)|(refine wlE ?_)|(refine efSvao ?_;intro v oa ho)|(refine efBnn ?_;intro n hn)|(refine efB ?_)|(refine efBS ?_)|(refine wl_skip rfl rfl ?_)|(refine wdS ?_)|(refine wdV ?_)|(refine wdB ?_)|(refine wd_skip rfl rfl ?_)|((with_reducible refine seld_nil ?_);refine wd_nil hm0 ?_;clear hm0 hw0)|((with_reducible refine wc_seq ?_);intro K hK)|(refine auC ?_)|(refine wc_cond rfl (fun hc=>?_) (fun hc=>?_))|(refine wc_draw (by kernel_rfl) (by kernel_rfl) (by decide +kernel) ?_;intro w0 hw0 hm0;(try simp only [List.append_eq,List.cons_append,List.nil_append]))|(refine auP ?_)|((refine auR ?_);clear hK K)|(refine auR ?_)|((with_reducible refine hK _ _ ?_);clear hK K)|fail)
  first|refine end_ret (ResP.tmp rfl (ResP.tmp rfl ResP.nil)) ?_|refine end_normal (ResP.tmp rfl (ResP.tmp rfl ResP.nil)) ?_
  first|rfl|(show _=_;rfl)|(simp only [tupV, *];done)
 have t3:decide (next<1)=false:=decide_eq_false h3
 have t4:decide (next>1073741824)=true:=decide_eq_true (by omega)
 clear h
 refine fn_ret (N:=_) Tryd.func22 rfl Tryd.ntmps22 Tryd.results22 (by simp) ?_
 simp only [initS,Nat.reduceAdd,Nat.zero_add]
 repeat' (first|(refine wlS ?_)|(refine wlB ?_)|(refine wlE ?_)|(refine efSvao ?_;intro v oa ho)|(refine efBnn ?_;intro n hn)|(refine efB ?_)|(refine efBS ?_)|(refine wl_skip rfl rfl ?_)|(refine wdS ?_)|(refine wdV ?_)|(refine wdB ?_)|(refine wd_skip rfl rfl ?_)|((with_reducible refine seld_nil ?_);refine wd_nil hm0 ?_;clear hm0 hw0)|((with_reducible refine wc_seq ?_);intro K hK)|(refine auC ?_)|(refine wc_cond rfl (fun hc=>?_) (fun hc=>?_))|(refine wc_draw (by kernel_rfl) (by kernel_rfl) (by decide +kernel) ?_;intro w0 hw0 hm0;(try simp only [List.append_eq,List.cons_append,List.nil_append]))|(refine auP ?_)|((refine auR ?_);clear hK K)|(refine auR ?_)|((with_reducible refine hK _ _ ?_);clear hK K)|fail)
 first|refine end_ret (ResP.tmp rfl (ResP.tmp rfl ResP.nil)) ?_|refine end_normal (ResP.tmp rfl (ResP.tmp rfl ResP.nil)) ?_
 first|rfl|(show _=_;rfl)|(simp only [tupV, *];done)
structure RsS where
 i:Nat
 m:List Kp
 ob:Blks
structure RsS.Ok (most next:Int)(l:List He)(x:RsS):Prop where
 le:x.i≤l.length
 ok:StoOk ⟨most,next,x.m,x.i⟩
 kp:KpF x.ob x.m
 eq:x.m.map absK=(l.take x.i).map absH
set_option maxHeartbeats 16000000 in
theorem restore_c0 (w:World){most next:Int}{v:Value}{l:List He}(hg:¬resBad most next)(hl:Hes w v l)(hsm:∀ x∈l,Small x.2.2.2)(hlen:l.length≤1048576) :
  Calls Tryd.prog 22 [.int .i64 most,.int .i64 next,v].toArray w (RetO (fun y:Option Nat×Int=>.tuple #[.pointer (y.1.map fun b=>⟨b,0,none⟩),.int .i64 y.2])
   (fun y oa=>(y=(none,1)∧¬RiseH l next∧oa=[])∨(y=(none,7)∧RiseH l next∧most<(l.length:Int)∧oa=[])∨
    ∃ b g S ob,y=(some b,0)∧RiseH l next∧(l.length:Int)≤most∧oa=stoB b g S++ob∧StoOk S∧S.most=most∧S.next=next∧KpF ob S.m∧S.m.map absK=l.map absH) w):=by
 haveI i0:=hl.cs.old
 unfold resBad at hg
 have t1:decide (most<1)=false:=decide_eq_false (by omega)
 have t2:decide (most>16)=false:=decide_eq_false (by omega)
 have t3:decide (next<1)=false:=decide_eq_false (by omega)
 have t4:decide (next>1073741824)=false:=decide_eq_false (by omega)
 have hbody:=hl.body
 clear hl
 refine fn_own (N:=_) Tryd.func22 rfl Tryd.ntmps22 Tryd.results22 (by simp) ?_
 simp only [initS,Nat.reduceAdd,Nat.zero_add]
 repeat' (first|(refine wlS ?_)|(refine wlB ?_)|(refine wlE ?_)|(refine efSvao ?_;intro v oa ho)|(refine efBnn ?_;intro n hn)|(refine efB ?_)|(refine efBS ?_)|(refine wl_skip rfl rfl ?_)|(refine wdS ?_)|(refine wdV ?_)|(refine wdB ?_)|(refine wd_skip rfl rfl ?_)|((with_reducible refine seld_nil ?_);refine wd_nil hm0 ?_;clear hm0 hw0)|((with_reducible refine wc_seq ?_);intro K hK)|(refine auC ?_)|(refine wc_cond rfl (fun hc=>?_) (fun hc=>?_))|(refine wc_draw (by kernel_rfl) (by kernel_rfl) (by decide +kernel) ?_;intro w0 hw0 hm0;(try simp only [List.append_eq,List.cons_append,List.nil_append]))|(refine auP ?_)|((refine auR ?_);clear hK K)|(refine auR ?_)|((with_reducible refine hK _ _ ?_);clear hK K)|fail)
 refine wc_loop (σ:=Nat×Int) (fun x=>[(0,.int .i64 most),(1,.int .i64 next),(2,v),(8,.int .i64 x.2),(28,v),(29,.int .i64 (l.length:Int)),(30,.int .i64 (x.1:Int))]) (fun _=>[])
  (fun x=>x.1≤l.length∧LastH (l.take x.1) next x.2) (fun x=>l.length - x.1) (0,0) ⟨Nat.zero_le _,⟨⟨by simp,by simp⟩,by simp,.inl ⟨rfl,rfl⟩⟩⟩ (Fits.of ⟨rfl,rfl,rfl,rfl,rfl,rfl,rfl,trivial⟩ .nil rfl) ?_
 rintro ⟨i,last⟩ ⟨hi,hla⟩
 dsimp only at hi hla ⊢
 by_cases hlt:i<l.length
 ·obtain ⟨⟨hh,ow,vx,its⟩,hx⟩:∃ x,l[i]? = some x:=⟨l[i]'hlt,List.getElem?_eq_getElem _⟩
  have hget:=hesC_get hx
  obtain ⟨pv,cv,hv,_⟩:=(hbody _ (List.mem_of_getElem? hx)).cs.ln.out
  dsimp only at hv
  subst hv
  have hget2:((hesC l).drop (i * 3)).take 3=[.int .i64 hh,.int .i64 ow,.slice pv its.length cv]:=hget
  obtain ⟨hs1,hs2⟩:=hla.step (hh,ow,.slice pv its.length cv,its)
  rw [←show l.take (i+1)=l.take i++[(hh,ow,.slice pv its.length cv,its)] by rw [List.take_add_one,hx];rfl] at hs1 hs2
  dsimp only at hs1 hs2
  have u1:decide ((i:Int)<(l.length:Int))=true:=decide_eq_true (by omega)
  have u2:IntKind.i64.wrap ((i:Int)+1)=((i+1:Nat):Int):=by rw [wrap_i64 _ (by omega) (by omega)];omega
  have j1:(i:Int)<(l.length:Int):=by omega
  clear hget
  by_cases hc1:hh≤last
  ·have t5:decide (hh≤last)=true:=decide_eq_true hc1
   have hno:¬RiseH l next:=fun h=>hs2 (by omega) (h.take _)
   clear hs1 hs2 hla hbody hsm
   repeat' (first|(refine wlS ?_)|(refine wlB ?_)|(refine wlE ?_)|(refine efSvao ?_;intro v oa ho)|(refine efZCnn ?_;intro n hn)|(refine efBnn ?_;intro n hn)|(refine efB ?_)|(refine efBS ?_)|(refine wl_skip rfl rfl ?_)|(refine wdS ?_)|(refine wdV ?_)|(refine wdB ?_)|(refine wd_skip rfl rfl ?_)|((with_reducible refine seld_nil ?_);refine wd_nil hm0 ?_;clear hm0 hw0)|((with_reducible refine wc_seq ?_);intro K hK)|(refine auC ?_)|(refine wc_cond rfl (fun hc=>?_) (fun hc=>?_))|(refine wc_draw (by kernel_rfl) (by kernel_rfl) (by decide +kernel) ?_;intro w0 hw0 hm0;(try simp only [List.append_eq,List.cons_append,List.nil_append]))|(refine auP ?_)|((refine auR ?_);clear hK K)|(refine auR ?_)|((with_reducible refine hK _ _ ?_);clear hK K)|fail)
   first|refine end_ret (ResP.tmp rfl (ResP.tmp rfl ResP.nil)) ?_|refine end_normal (ResP.tmp rfl (ResP.tmp rfl ResP.nil)) ?_
   (try dsimp only [tupV])
   exact ⟨(none,1),[],rfl,.inl ⟨rfl,hno,rfl⟩,.nil⟩
  have t5:decide (hh≤last)=false:=decide_eq_false hc1
  by_cases hc2:next≤hh
  ·have t6:decide (hh≥next)=true:=decide_eq_true hc2
   have hno:¬RiseH l next:=fun h=>hs2 (by omega) (h.take _)
   clear hs1 hs2 hla hbody hsm
   repeat' (first|(refine wlS ?_)|(refine wlB ?_)|(refine wlE ?_)|(refine efSvao ?_;intro v oa ho)|(refine efZCnn ?_;intro n hn)|(refine efBnn ?_;intro n hn)|(refine efB ?_)|(refine efBS ?_)|(refine wl_skip rfl rfl ?_)|(refine wdS ?_)|(refine wdV ?_)|(refine wdB ?_)|(refine wd_skip rfl rfl ?_)|((with_reducible refine seld_nil ?_);refine wd_nil hm0 ?_;clear hm0 hw0)|((with_reducible refine wc_seq ?_);intro K hK)|(refine auC ?_)|(refine wc_cond rfl (fun hc=>?_) (fun hc=>?_))|(refine wc_draw (by kernel_rfl) (by kernel_rfl) (by decide +kernel) ?_;intro w0 hw0 hm0;(try simp only [List.append_eq,List.cons_append,List.nil_append]))|(refine auP ?_)|((refine auR ?_);clear hK K)|(refine auR ?_)|((with_reducible refine hK _ _ ?_);clear hK K)|fail)
   first|refine end_ret (ResP.tmp rfl (ResP.tmp rfl ResP.nil)) ?_|refine end_normal (ResP.tmp rfl (ResP.tmp rfl ResP.nil)) ?_
   (try dsimp only [tupV])
   exact ⟨(none,1),[],rfl,.inl ⟨rfl,hno,rfl⟩,.nil⟩
  have t6:decide (hh≥next)=false:=decide_eq_false hc2
  have hnx:=hs1 (by omega)
  clear hs1 hs2 hla hbody hsm
  repeat' (first|(refine wlS ?_)|(refine wlB ?_)|(refine wlE ?_)|(refine efSvao ?_;intro v oa ho)|(refine efZCnn ?_;intro n hn)|(refine efBnn ?_;intro n hn)|(refine efB ?_)|(refine efBS ?_)|(refine wl_skip rfl rfl ?_)|(refine wdS ?_)|(refine wdV ?_)|(refine wdB ?_)|(refine wd_skip rfl rfl ?_)|((with_reducible refine seld_nil ?_);refine wd_nil hm0 ?_;clear hm0 hw0)|((with_reducible refine wc_seq ?_);intro K hK)|(refine auC ?_)|(refine wc_cond rfl (fun hc=>?_) (fun hc=>?_))|(refine wc_draw (by kernel_rfl) (by kernel_rfl) (by decide +kernel) ?_;intro w0 hw0 hm0;(try simp only [List.append_eq,List.cons_append,List.nil_append]))|(refine auP ?_)|((refine auR ?_);clear hK K)|(refine auR ?_)|((with_reducible refine hK _ _ ?_);clear hK K)|fail)
  refine ⟨(i+1,hh),⟨hlt,hnx⟩,by dsimp only;omega,Fits.of ⟨rfl,rfl,rfl,rfl,rfl,rfl,rfl,trivial⟩ .nil rfl⟩
 ·obtain rfl:i=l.length:=by omega
  have u1:decide ((l.length:Int)<(l.length:Int))=false:=decide_eq_false (by omega)
  rw [List.take_length] at hla
  have hrise:=hla.ok
  by_cases hfull:most<(l.length:Int)
  ·have t5:decide ((l.length:Int)>most)=true:=decide_eq_true hfull
   clear hbody hsm hla
   repeat' (first|(refine wlS ?_)|(refine wlB ?_)|(refine wlE ?_)|(refine efSvao ?_;intro v oa ho)|(refine efBnn ?_;intro n hn)|(refine efB ?_)|(refine efBS ?_)|(refine wl_skip rfl rfl ?_)|(refine wdS ?_)|(refine wdV ?_)|(refine wdB ?_)|(refine wd_skip rfl rfl ?_)|((with_reducible refine seld_nil ?_);refine wd_nil hm0 ?_;clear hm0 hw0)|((with_reducible refine wc_seq ?_);intro K hK)|(refine auC ?_)|(refine wc_cond rfl (fun hc=>?_) (fun hc=>?_))|(refine wc_draw (by kernel_rfl) (by kernel_rfl) (by decide +kernel) ?_;intro w0 hw0 hm0;(try simp only [List.append_eq,List.cons_append,List.nil_append]))|(refine auP ?_)|((refine auR ?_);clear hK K)|(refine auR ?_)|((with_reducible refine hK _ _ ?_);clear hK K)|fail)
   first|refine end_ret (ResP.tmp rfl (ResP.tmp rfl ResP.nil)) ?_|refine end_normal (ResP.tmp rfl (ResP.tmp rfl ResP.nil)) ?_
   (try dsimp only [tupV])
   exact ⟨(none,7),[],rfl,.inr (.inl ⟨rfl,hrise,hfull,rfl⟩),.nil⟩
  have t5:decide ((l.length:Int)>most)=false:=decide_eq_false hfull
  clear hla
  repeat' (first|(refine wlS ?_)|(refine wlB ?_)|(refine wlE ?_)|(refine efSvao ?_;intro v oa ho)|(refine efBnn ?_;intro n hn)|(refine efB ?_)|(refine efBS ?_)|(refine wl_skip rfl rfl ?_)|(refine wdS ?_)|(refine wdV ?_)|(refine wdB ?_)|(refine wd_skip rfl rfl ?_)|((with_reducible refine seld_nil ?_);refine wd_nil hm0 ?_;clear hm0 hw0)|((with_reducible refine wc_seq ?_);intro K hK)|(refine auC ?_)|(refine wc_cond rfl (fun hc=>?_) (fun hc=>?_))|(refine wc_draw (by kernel_rfl) (by kernel_rfl) (by decide +kernel) ?_;intro w0 hw0 hm0;(try simp only [List.append_eq,List.cons_append,List.nil_append]))|(refine auP ?_)|((refine auR ?_);clear hK K)|(refine auR ?_)|((with_reducible refine hK _ _ ?_);clear hK K)|fail)
  repeat' (first|(refine wlB ?_)|(refine wlE ?_)|((with_reducible refine sel_makeMap ?_);first|(refine wl_mmap rfl rfl rfl ?_;intro g hg))|(refine efBnn ?_;intro n hn)|(refine efB ?_)|(refine wl_skip rfl rfl ?_)|(refine wdV ?_)|(refine wdB ?_)|(refine wd_skip rfl rfl ?_)|((with_reducible refine seld_nil ?_);refine wd_nil hm0 ?_;clear hm0 hw0)|((with_reducible refine wc_seq ?_);intro K hK)|(refine auC ?_)|(refine wc_cond rfl (fun hc=>?_) (fun hc=>?_))|(refine wc_draw (by kernel_rfl) (by kernel_rfl) (by decide +kernel) ?_;intro w0 hw0 hm0;(try simp only [List.append_eq,List.cons_append,List.nil_append]))|(refine auP ?_)|((refine auR ?_);clear hK K)|(refine auR ?_)|((with_reducible refine hK _ _ ?_);clear hK K)|fail)
  obtain ⟨b,rfl⟩:∃ b,b=n:=⟨n,rfl⟩
  repeat' (first|(refine wlS ?_)|(refine wlB ?_)|(refine wlE ?_)|(refine efSvao ?_;intro v oa ho)|(refine efBnn ?_;intro n hn)|(refine efB ?_)|(refine efBS ?_)|(refine wl_skip rfl rfl ?_)|(refine wdS ?_)|(refine wdV ?_)|(refine wdB ?_)|(refine wd_skip rfl rfl ?_)|((with_reducible refine seld_nil ?_);refine wd_nil hm0 ?_;clear hm0 hw0)|((with_reducible refine wc_seq ?_);intro K hK)|(refine auC ?_)|(refine wc_cond rfl (fun hc=>?_) (fun hc=>?_))|(refine wc_draw (by kernel_rfl) (by kernel_rfl) (by decide +kernel) ?_;intro w0 hw0 hm0;(try simp only [List.append_eq,List.cons_append,List.nil_append]))|(refine auP ?_)|((refine auR ?_);clear hK K)|(refine auR ?_)|((with_reducible refine hK _ _ ?_);clear hK K)|fail)
  refine wc_loop (σ:=RsS) (fun x=>[(0,.int .i64 most),(1,.int .i64 next),(11,ptr b),(56,v),(57,.int .i64 (l.length:Int)),(58,.int .i64 (x.i:Int))]) (fun x=>stoB b g ⟨most,next,x.m,x.i⟩++x.ob)
   (RsS.Ok most next l) (fun x=>l.length - x.i) ⟨0,[],[]⟩ ⟨Nat.zero_le _,sto_new (by omega) (by omega),KpF.nil _,rfl⟩ (Fits.of ⟨rfl,rfl,rfl,rfl,rfl,rfl,trivial⟩ (SubL.refl _) rfl) ?_
  rintro ⟨i,m,ob⟩ ⟨hi,hS,hKp,hab⟩
  dsimp only at hi hS hKp hab ⊢
  by_cases hlt:i<l.length
  ·obtain ⟨⟨hh,ow,vx,its⟩,hx⟩:∃ x,l[i]? = some x:=⟨l[i]'hlt,List.getElem?_eq_getElem _⟩
   have hget:=hesC_get hx
   have hmem:=List.mem_of_getElem? hx
   have hax:=hbody _ hmem
   have hsx:=hsm _ hmem
   dsimp only at hax hsx
   obtain ⟨pv,cv,hv,_⟩:=hax.cs.ln.out
   subst hv
   have hget2:((hesC l).drop (i * 3)).take 3=[.int .i64 hh,.int .i64 ow,.slice pv its.length cv]:=hget
   have CO:=fun w' (h2:Below w.heap.size w w')=>own_o hax hsx h2
   have u1:decide ((i:Int)<(l.length:Int))=true:=decide_eq_true (by omega)
   have u2:IntKind.i64.wrap ((i:Int)+1)=((i+1:Nat):Int):=by rw [wrap_i64 _ (by omega) (by omega)];omega
   have j1:(i:Int)<(l.length:Int):=by omega
   have hpos:=hrise.pos _ hmem
   have hlen2:m.length=i:=by
    have:=congrArg List.length hab
    rw [List.length_map,List.length_map,List.length_take] at this
    omega
   have hbe:∀ x∈m,x.1<hh:=fun x hxm=>by
    have h1:absK x∈(l.take i).map absH:=by rw [←hab];exact List.mem_map_of_mem hxm
    obtain ⟨y,hy,he⟩:=List.mem_map.1 h1
    obtain ⟨q,hq1,hq2⟩:=List.mem_iff_getElem.1 hy
    have hqi:q<i:=by rw [List.length_take] at hq1;omega
    have h2:=List.pairwise_iff_getElem.1 hrise.rise q i (by rw [List.length_map];omega) (by rw [List.length_map];omega) hqi
    rw [List.getElem_map,List.getElem_map] at h2
    rw [List.getElem_take] at hq2
    rw [List.getElem?_eq_getElem hlt] at hx
    have h3:l[i]=(hh,ow,Value.slice pv its.length cv,its):=Option.some.inj hx
    rw [hq2,h3] at h2
    have h4:y.1=x.1:=congrArg (·.1) he
    dsimp only at h2
    omega
   have hno:kget m hh=none:=kget_none.2 fun x hxm e=>by have:=hbe x hxm;omega
   have hok:∀ v' its',StoOk ⟨most,next,m++[(hh,ow,v',its',i)],i+1⟩:=fun v' its'=>
    hS.add (o:=ow) (v:=v') (its:=its') (nx:=next) (by dsimp only;omega) hpos.1 hbe hpos.2 (Int.le_refl _) (by omega)
   clear hget hbody hsm hS hax hpos hbe
   unfold stoB stoC
   dsimp only
   repeat' (first|(refine wlS ?_)|(refine wlB ?_)|(refine wlE ?_)|(refine efSvao ?_;intro v oa ho)|(refine efZCnn ?_;intro n hn)|((with_reducible refine sel_call ?_);first|(refine wl_newO rfl rfl rfl rfl rfl (fun w hm=>by with_reducible exact CO w (hm.below rfl)) ?_;intro x oa hx))|((with_reducible refine sel_mapUpdate ?_);first|(refine wl_mset rfl rfl rfl rfl rfl rfl ?_))|(refine efBnn ?_;intro n hn)|(refine efB ?_)|(refine efBS ?_)|(refine wl_skip rfl rfl ?_)|((with_reducible refine wc_seq ?_);intro K hK)|(refine auC ?_)|(refine wc_cond rfl (fun hc=>?_) (fun hc=>?_))|((with_reducible refine wc_drawH _ [7] (by kernel_rfl) (SubL.refl _) ?_);(try simp only [List.append_eq,List.cons_append,List.nil_append,List.length_cons,List.length_nil,Nat.reduceAdd]))|((with_reducible refine sel_wh ?_);(refine wh_if (by decide +kernel) ?_);first|(refine wh_take (lq:=[]) rfl rfl rfl rfl (by first|exact rvS|exact rvB) (Or.inl rfl) ?_)|(refine wh_takeL rfl rfl rfl rfl (by first|exact rvS|exact rvB) (by decide +kernel) ?_))|(refine whS ?_;intro v hv hp)|((with_reducible refine sel_wh ?_);first|(refine wh_pass rfl rfl rfl rfl ?_)|(refine wh_done rfl ?_)|(refine wh_all rfl ?_))|((with_reducible refine sel_rest ?_);first|exact rest_nil rfl|refine rest_cons rfl rfl ?_ ?_)|((with_reducible refine sel_nx ?_);first|refine next_of ?_|refine next_late (by decide +kernel) ?_)|(refine auP ?_)|((refine auR ?_);clear hK K)|(refine auR ?_)|((with_reducible refine hK _ _ ?_);clear hK K)|fail)
   rename_i hx1
   obtain ⟨it2,hT,hab2⟩:=hx
   have hms:=mset_kp (m:=m) (x:=(hh,ow,.slice x.1 x.2.1 x.2.2,it2,i)) hno rfl
   refine ⟨⟨i+1,m++[(hh,ow,.slice x.1 x.2.1 x.2.2,it2,i)],ob++oa⟩,⟨hlt,hok _ _,?_,?_⟩,by dsimp only;omega,Fits.of ⟨rfl,rfl,rfl,rfl,rfl,rfl,trivial⟩ ?_ rfl⟩
   ·exact (hKp.more fun p hp=>List.mem_append_left _ hp).app fun y hy=>by
     simp only [List.mem_singleton] at hy
     subst hy
     exact ⟨hT.atf.weak fun w hw=>hw.right,small_abs hab2 hsx⟩
   ·dsimp only
    rw [List.take_add_one,hx1,List.map_append,List.map_append,hab]
    simp [absH,absK,hab2]
   ·dsimp only
    have hms2:=hms
    dsimp only [kpV] at hms2
    show SubL _ ((n,_)::(b,_)::(g,mapB (mset (m.map kpE) hh (kpV (hh,ow,.slice x.1 x.2.1 x.2.2,it2,i)) i).1 (mset (m.map kpE) hh (kpV (hh,ow,.slice x.1 x.2.1 x.2.2,it2,i)) i).2)::(ob++oa))
    rw [hms]
    exact .skip (SubL.refl _)
  ·obtain rfl:i=l.length:=by omega
   have u1:decide ((l.length:Int)<(l.length:Int))=false:=decide_eq_false (by omega)
   rw [List.take_length] at hab
   repeat' (first|(refine wlS ?_)|(refine wlB ?_)|(refine wlE ?_)|(refine efSvao ?_;intro v oa ho)|(refine efBnn ?_;intro n hn)|(refine efB ?_)|(refine efBS ?_)|(refine wl_skip rfl rfl ?_)|(refine wdS ?_)|(refine wdV ?_)|(refine wdB ?_)|(refine wd_skip rfl rfl ?_)|((with_reducible refine seld_nil ?_);refine wd_nil hm0 ?_;clear hm0 hw0)|((with_reducible refine wc_seq ?_);intro K hK)|(refine auC ?_)|(refine wc_cond rfl (fun hc=>?_) (fun hc=>?_))|(refine wc_draw (by kernel_rfl) (by kernel_rfl) (by decide +kernel) ?_;intro w0 hw0 hm0;(try simp only [List.append_eq,List.cons_append,List.nil_append]))|(refine auP ?_)|((refine auR ?_);clear hK K)|(refine auR ?_)|((with_reducible refine hK _ _ ?_);clear hK K)|fail)
   first|refine end_ret (ResP.tmp rfl (ResP.tmp rfl ResP.nil)) ?_|refine end_normal (ResP.tmp rfl (ResP.tmp rfl ResP.nil)) ?_
   (try dsimp only [tupV])
   exact ⟨(some b,0),stoB b g ⟨most,next,m,l.length⟩++ob,rfl,.inr (.inr ⟨b,g,_,ob,rfl,hrise,by omega,rfl,hS,rfl,rfl,hKp,hab⟩),SubL.refl _⟩
theorem restore_ok (w:World){most next:Int}{v:Value}{l:List He}(hg:¬resBad most next)(hl:Hes w v l)(hsm:∀ x∈l,Small x.2.2.2)(hlen:l.length≤1048576)(hr:RiseH l next)(hf:(l.length:Int)≤most) :
  Calls Tryd.prog 22 [.int .i64 most,.int .i64 next,v].toArray w (RetO (fun b:Nat=>.tuple #[ptr b,.int .i64 0])
   (fun b oa=>∃ g S ob,b≠g∧oa=stoB b g S++ob∧StoOk S∧S.most=most∧S.next=next∧KpF ob S.m∧S.m.map absK=l.map absH) w):=
 (restore_c0 w hg hl hsm hlen).mono fun e w2 ⟨y,oa,h1,h2,h3⟩=>by
  rcases h2 with ⟨_,h,_⟩ | ⟨_,_,h,_⟩ | ⟨b,g,S,ob,rfl,_,_,rfl,hS,hm,hn,hK,hab⟩
  ·exact absurd hr h
  ·omega
  ·refine ⟨b,_,h1,⟨g,S,ob,?_,rfl,hS,hm,hn,hK,hab⟩,h3⟩
   have:=h3.nd
   simp only [keys,stoB,List.map_append,List.map_cons,List.map_nil,List.cons_append,List.nil_append,List.nodup_cons,List.mem_cons,not_or] at this
   exact this.1.1
theorem restore_no' {most next:Int}{l:List He}(hg:¬resBad most next)(hsm:∀ x∈l,Small x.2.2.2)(hlen:l.length≤1048576)(hr:¬(RiseH l next∧(l.length:Int)≤most)) :
  ∃ e:Int,(e=1∨e=7)∧(∀ w' {v:Value},(Hes w' v l)→Calls Tryd.prog 22 [.int .i64 most,.int .i64 next,v].toArray w' (RetO (fun _:Unit=>.tuple #[.pointer none,.int .i64 e]) (fun _ oa=>oa=[]) w')):=by
 by_cases h1:RiseH l next
 ·have h2:most<(l.length:Int):=by
   by_cases h:(l.length:Int)≤most
   ·exact absurd ⟨h1,h⟩ hr
   ·omega
  exact ⟨7,.inr rfl,fun w' v hl'=>(restore_c0 w' hg hl' hsm hlen).mono fun e w2 ⟨y,oa,h3,h4,h5⟩=>by
   rcases h4 with ⟨_,h,_⟩ | ⟨rfl,_,_,rfl⟩ | ⟨b,g,S,ob,rfl,_,h,_⟩
   ·exact absurd h1 h
   ·exact ⟨(),[],h3,rfl,h5⟩
   ·omega⟩
 ·exact ⟨1,.inl rfl,fun w' v hl'=>(restore_c0 w' hg hl' hsm hlen).mono fun e w2 ⟨y,oa,h3,h4,h5⟩=>by
   rcases h4 with ⟨rfl,_,rfl⟩ | ⟨_,h,_⟩ | ⟨b,g,S,ob,rfl,h,_⟩
   ·exact ⟨(),[],h3,rfl,h5⟩
   ·exact absurd h h1
   ·exact absurd h h1⟩
theorem restore_no (w:World){most next:Int}{v:Value}{l:List He}(hg:¬resBad most next)(hl:Hes w v l)(hsm:∀ x∈l,Small x.2.2.2)(hlen:l.length≤1048576)(hr:¬(RiseH l next∧(l.length:Int)≤most)) :
  ∃ e:Int,(e=1∨e=7)∧(∀ w',(Hes w' v l)→Calls Tryd.prog 22 [.int .i64 most,.int .i64 next,v].toArray w' (RetO (fun _:Unit=>.tuple #[.pointer none,.int .i64 e]) (fun _ oa=>oa=[]) w')):=by
 obtain ⟨e,h1,h2⟩:=restore_no' hg hsm hlen hr
 exact ⟨e,h1,fun w' h=>h2 w' h⟩
theorem hes_nil (w:World):Hes w (.slice none 0 0) []:=⟨⟨OwnL.ln (OwnL.nil 0 3),fun j u hj=>by simp [hesC] at hj⟩,fun x hx=>by cases hx⟩
end Go.Proofs.YthigacbelefadaaDoor
