/- der.Number and der.ReadNumber,walked. Parts of segments: rows read,bytes copied into them. The package safe,walked: numbers and locks. Items read,in plain terms. der.length and der.First,walked. der.First,walked. der.Read,walked. -/
import Derived.Test.YthigacbelefadaaDoorJnAH
import Derived.Test.YthigacbelefadaaDoorJnAB
import Derived.Test.YthigacbelefadaaDoorLwH
import Derived.Test.YthigacbelefadaaDoorTyS
import Derived.Test.YthigacbelefadaaDoorJnAC
import Derived.Test.YthigacbelefadaaDoorJnAD
import Derived.Test.YthigacbelefadaaDoorJnAA
namespace Go.Proofs.YthigacbelefadaaDoor
open Go.RowKit
set_option linter.unusedVariables false
set_option linter.unusedSimpArgs false
set_option maxRecDepth 100000
theorem bys8' {l:List Nat}(h:∀ x∈l,x<256)(i:Nat):l.getD i 0<256:=by
 rw [List.getD_eq_getElem?_getD]
 cases hx:l[i]? with
 | none=>simp
 | some x=>exact h x (List.mem_of_getElem? hx)
instance zc_b32:ZC Tryd.prog 23 (bytesC 0):=⟨by kernel_rfl⟩
def numP (a n i:Nat):List Nat:=(dg n a).take i++List.replicate (n - i) 0
theorem numP_zero (a n:Nat):numP a n 0=List.replicate n 0:=by simp [numP]
theorem numP_all (a n:Nat):numP a n n=dg n a:=by rw [numP,List.take_of_length_le (by rw [dg_len];exact Nat.le_refl _)];simp
theorem numP_step {a n i:Nat}(h:i<n):(numP a n i).set i (byteN a (n - 1 - i))=numP a n (i+1):=by
 have e2:(dg n a).take (i+1)=(dg n a).take i++[byteN a (n - 1 - i)]:=by
  have hl:i<(dg n a).length:=by rw [dg_len];exact h
  have hg:=dg_get (a:=a) h
  rw [List.take_add_one,List.getElem?_eq_getElem hl]
  rw [List.getD_eq_getElem?_getD,List.getElem?_eq_getElem hl] at hg
  rw [←hg];rfl
 rw [numP,List.set_append_right _ _ (by rw [List.length_take,dg_len];omega),List.length_take,dg_len,Nat.min_eq_left (by omega),Nat.sub_self,show n - i=n - (i+1)+1 by omega,List.replicate_succ,List.set_cons_zero,numP,e2,List.append_assoc]
 rfl
theorem numP_len (a n:Nat){i:Nat}(h:i≤n):(numP a n i).length=n:=by rw [numP,List.length_append,List.length_take,dg_len,List.length_replicate];omega
theorem numP_skip {a n i:Nat}(h:i<n)(hb:byteN a (n - 1 - i)=0):numP a n (i+1)=numP a n i:=by
 rw [←numP_step h,hb]
 have hl:i<(numP a n i).length:=by rw [numP_len a n (by omega)];exact h
 have hz:(numP a n i)[i]=0:=by
  have:(numP a n i)[i]? = some 0:=by
   rw [numP,List.getElem?_append_right (by rw [List.length_take,dg_len];omega),List.length_take,dg_len,Nat.min_eq_left (by omega),Nat.sub_self,List.getElem?_replicate,if_pos (by omega)]
  rw [List.getElem?_eq_getElem hl] at this
  exact Option.some.inj this
 have h2:=List.set_getElem_self hl
 rw [hz] at h2
 exact h2
theorem byteN_big {a:Nat}(h:a<T256):byteN a 32=0:=by
 unfold byteN
 rw [Nat.div_eq_of_lt (by rw [T256_eq] at h;exact h)]
set_option maxHeartbeats 4000000 in
theorem number_c (w:World){a:Nat}(ha:a<T256):Calls Tryd.prog 27 [nu a].toArray w (RetO (fun v:Value=>v) (fun v oa=>OwnB 5 v (nbL a) (numL a) oa) w):=by
 have LN:=len_nu a ha
 have BV:=bytes_bv a ha
 have hle:=nbL_le ha
 have hb0:=byteN_big ha
 have hn1:1≤nbL a:=by unfold nbL;omega
 have q1:IntKind.i64.wrap ((blen a:Int).tdiv 8)=((blen a / 8:Nat):Int):=by
  have:blen a≤256:=blen_le.2 (by rw [←T256_eq];exact ha)
  rw [Int.tdiv_eq_ediv_of_nonneg (by omega),wrap_i64 _ (by omega) (by omega)];omega
 have q2:IntKind.i64.wrap (((blen a / 8:Nat):Int)+1)=(nbL a:Int):=by
  have:blen a≤256:=blen_le.2 (by rw [←T256_eq];exact ha)
  rw [wrap_i64 _ (by omega) (by omega)];unfold nbL;omega
 have hz:=numP_zero a (nbL a)
 have hA:=numP_all a (nbL a)
 have hst:=fun i hi=>numP_step (a:=a) (n:=nbL a) (i:=i) hi
 have hsk:=fun i hi hb=>numP_skip (a:=a) (n:=nbL a) (i:=i) hi hb
 have hN:numL a=dg (nbL a) a:=rfl
 rw [hN,←hA]
 clear hA hN
 generalize nbL a=c at *
 refine fn_own (N:=_) Tryd.func27 rfl Tryd.ntmps27 Tryd.results27 (by simp) ?_
 simp only [initS,Nat.reduceAdd,Nat.zero_add]
 repeat' (first|(refine wlS ?_)|(refine wlB ?_)|((with_reducible refine sel_call ?_);refine wl_rd rfl rfl (rd_call rfl rfl rfl (fun w hm=>by with_reducible first|exact LN w|exact BV w)) ?_)|(refine wlE ?_)|(refine efSvao ?_;intro v oa ho)|(refine efM ?_)|(refine efMvao ?_;intro v oa ho)|((with_reducible refine sel_store ?_);first|(refine wl_putB (e:=5) rfl rfl rfl rfl rfl ?_;intro oa ho))|(refine efZCnn ?_;intro n hn)|(refine efBnn ?_;intro n hn)|(refine efB ?_)|(refine efBS ?_)|(refine wl_skip rfl rfl ?_)|((with_reducible refine wc_seq ?_);intro K hK)|(refine auC ?_)|(refine wc_cond rfl (fun hc=>?_) (fun hc=>?_))|(refine wc_draw (by kernel_rfl) (by kernel_rfl) (by decide +kernel) ?_;intro w0 hw0 hm0;(try simp only [List.append_eq,List.cons_append,List.nil_append]))|(refine auP ?_)|((refine auR ?_);clear hK K)|(refine auR ?_)|((with_reducible refine hK _ _ ?_);clear hK K)|fail)
 obtain ⟨n4,rfl⟩:∃ n4,n4=n:=⟨n,rfl⟩
 refine wc_loop (σ:=Nat×Blks) (fun x=>[(3,.int .i64 (c:Int)),(4,ptr n4),(5,v),(17,.int .i64 (c:Int)),(18,.int .i64 (x.1:Int))])
  (fun x=>(n4,(bytesC a,23))::x.2) (fun x=>x.1≤c∧OwnB 5 v c (numP a c x.1) x.2) (fun x=>c - x.1) (0,oa) ⟨Nat.zero_le _,by dsimp only;rw [hz];exact ho⟩
  (Fits.of ⟨rfl,rfl,rfl,rfl,rfl,trivial⟩ (.keep (.skip (SubL.refl _))) rfl) ?_
 clear ho oa hz
 rintro ⟨i,oa8⟩ ⟨hi,ho8⟩
 dsimp only at hi ho8 ⊢
 by_cases hit:i<c
 ·have t1:decide ((i:Int)<(c:Int))=true:=decide_eq_true (by omega)
  have t2:IntKind.i64.wrap ((i:Int)+1)=((i+1:Nat):Int):=by rw [wrap_i64 _ (by omega) (by omega)];omega
  have t3:IntKind.i64.wrap ((c:Int) - 1)=((c - 1:Nat):Int):=by rw [wrap_i64 _ (by omega) (by omega)];omega
  have t4:IntKind.i64.wrap (((c - 1:Nat):Int) - (i:Int))=((c - 1 - i:Nat):Int):=by rw [wrap_i64 _ (by omega) (by omega)];omega
  by_cases hk:c - 1 - i<32
  ·have t5:decide (((c - 1 - i:Nat):Int)<32)=true:=decide_eq_true (by omega)
   have gb:=bytesC_get a (c - 1 - i) hk
   have st:=hst i hit
   have hb8:=byteN_lt a (c - 1 - i)
   have j1:((c - 1 - i:Nat):Int)<((32:Nat):Int):=by omega
   repeat' (first|(refine wlS ?_)|(refine wlB ?_)|(refine wlE ?_)|(refine efSvao ?_;intro v oa ho)|(refine efM ?_)|(refine efMvao ?_;intro v oa ho)|((with_reducible refine sel_store ?_);first|(refine wl_putB (e:=5) rfl rfl rfl rfl rfl ?_;intro oa ho))|(refine efBnn ?_;intro n hn)|(refine efB ?_)|(refine efBS ?_)|(refine wl_skip rfl rfl ?_)|((with_reducible refine wc_seq ?_);intro K hK)|(refine auC ?_)|(refine wc_cond rfl (fun hc=>?_) (fun hc=>?_))|(refine wc_draw (by kernel_rfl) (by kernel_rfl) (by decide +kernel) ?_;intro w0 hw0 hm0;(try simp only [List.append_eq,List.cons_append,List.nil_append]))|(refine auP ?_)|((refine auR ?_);clear hK K)|(refine auR ?_)|((with_reducible refine hK _ _ ?_);clear hK K)|fail)
   exact ⟨(i+1,oa),⟨hit,by dsimp only;rw [←st];exact ho⟩,by dsimp only;omega,Fits.of ⟨rfl,rfl,rfl,rfl,rfl,trivial⟩ (SubL.refl _) rfl⟩
  ·have t5:decide (((c - 1 - i:Nat):Int)<32)=false:=decide_eq_false (by omega)
   have st:=hsk i hit (by rw [show c - 1 - i=32 by omega];exact hb0)
   repeat' (first|(refine wlS ?_)|(refine wlB ?_)|(refine wlE ?_)|(refine efSvao ?_;intro v oa ho)|(refine efM ?_)|(refine efMvao ?_;intro v oa ho)|((with_reducible refine sel_store ?_);first|(refine wl_putB (e:=5) rfl rfl rfl rfl rfl ?_;intro oa ho))|(refine efBnn ?_;intro n hn)|(refine efB ?_)|(refine efBS ?_)|(refine wl_skip rfl rfl ?_)|((with_reducible refine wc_seq ?_);intro K hK)|(refine auC ?_)|(refine wc_cond rfl (fun hc=>?_) (fun hc=>?_))|(refine wc_draw (by kernel_rfl) (by kernel_rfl) (by decide +kernel) ?_;intro w0 hw0 hm0;(try simp only [List.append_eq,List.cons_append,List.nil_append]))|(refine auP ?_)|((refine auR ?_);clear hK K)|(refine auR ?_)|((with_reducible refine hK _ _ ?_);clear hK K)|fail)
   exact ⟨(i+1,oa8),⟨hit,by dsimp only;rw [st];exact ho8⟩,by dsimp only;omega,Fits.of ⟨rfl,rfl,rfl,rfl,rfl,trivial⟩ (SubL.refl _) rfl⟩
 ·obtain rfl:i=c:=by omega
  have t1:decide ((i:Int)<(i:Int))=false:=decide_eq_false (by omega)
  repeat' (first|(refine wlS ?_)|(refine wlB ?_)|(refine wlE ?_)|(refine efSvao ?_;intro v oa ho)|(refine efBnn ?_;intro n hn)|(refine efB ?_)|(refine efBS ?_)|(refine wl_skip rfl rfl ?_)|((with_reducible refine wc_seq ?_);intro K hK)|(refine auC ?_)|(refine wc_cond rfl (fun hc=>?_) (fun hc=>?_))|(refine wc_draw (by kernel_rfl) (by kernel_rfl) (by decide +kernel) ?_;intro w0 hw0 hm0;(try simp only [List.append_eq,List.cons_append,List.nil_append]))|(refine auP ?_)|((refine auR ?_);clear hK K)|(refine auR ?_)|((with_reducible refine hK _ _ ?_);clear hK K)|fail)
  first|refine end_ret (ResP.tmp rfl ResP.nil) ?_|refine end_normal (ResP.tmp rfl ResP.nil) ?_
  (try dsimp only [tupV])
  exact ⟨_,_,rfl,ho8,.skip (SubL.refl _)⟩
theorem byteN_at (x d k:Nat)(hd:d<256):byteN ((x * 256+d) * 2 ^ (8 * k)) k=d:=by
 unfold byteN
 rw [Nat.mul_div_cancel _ (Nat.two_pow_pos _)];omega
theorem byteN_off (x d k j:Nat)(hd:d<256)(h:j≠k):byteN ((x * 256+d) * 2 ^ (8 * k)) j=byteN (x * 2 ^ (8 * (k+1))) j:=by
 unfold byteN
 rcases Nat.lt_or_ge j k with h1|h1
 ·obtain ⟨e,rfl⟩:∃ e,k=j+1+e:=⟨k - j - 1,by omega⟩
  have e1:2 ^ (8 * (j+1+e))=2 ^ (8 * e) * 256 * 2 ^ (8 * j):=by
   rw [show 8 * (j+1+e)=8 * e+8+8 * j by omega,Nat.pow_add,Nat.pow_add]
  have e2:2 ^ (8 * (j+1+e+1))=256 * (2 ^ (8 * e) * 256) * 2 ^ (8 * j):=by
   rw [show 8 * (j+1+e+1)=8+(8 * e+8)+8 * j by omega,Nat.pow_add,Nat.pow_add,Nat.pow_add]
  have f1:(x * 256+d) * (2 ^ (8 * e) * 256 * 2 ^ (8 * j))=((x * 256+d) * 2 ^ (8 * e) * 256) * 2 ^ (8 * j):=by simp only [Nat.mul_assoc]
  have f2:x * (256 * (2 ^ (8 * e) * 256) * 2 ^ (8 * j))=(x * 256 * 2 ^ (8 * e) * 256) * 2 ^ (8 * j):=by simp only [Nat.mul_assoc]
  rw [e1,e2,f1,f2,Nat.mul_div_cancel _ (Nat.two_pow_pos _),Nat.mul_div_cancel _ (Nat.two_pow_pos _),Nat.mul_mod_left,Nat.mul_mod_left]
 ·obtain ⟨e,rfl⟩:∃ e,j=k+1+e:=⟨j - k - 1,by omega⟩
  have e1:2 ^ (8 * (k+1+e))=2 ^ (8 * k) * (256 * 2 ^ (8 * e)):=by
   rw [show 8 * (k+1+e)=8 * k+(8+8 * e) by omega,Nat.pow_add,Nat.pow_add]
  have e2:2 ^ (8 * (k+1))=2 ^ (8 * k) * 256:=by rw [show 8 * (k+1)=8 * k+8 by omega,Nat.pow_add]
  rw [e1,←Nat.div_div_eq_div_mul,Nat.mul_div_cancel _ (Nat.two_pow_pos _),←Nat.div_div_eq_div_mul,←Nat.div_div_eq_div_mul,e2,←Nat.mul_assoc,Nat.mul_right_comm,Nat.mul_div_cancel _ (Nat.two_pow_pos _),←Nat.div_div_eq_div_mul]
  congr 2
  omega
def valI (p:List Nat)(i:Nat):Nat:=valL (p.take i) * 2 ^ (8 * (p.length - i))
theorem valI_zero (p:List Nat):valI p 0=0:=by simp [valI,valL]
theorem valI_all (p:List Nat):valI p p.length=valL p:=by simp [valI]
theorem valI_succ {p:List Nat}{i:Nat}(h:i<p.length):valI p (i+1)=(valL (p.take i) * 256+p.getD i 0) * 2 ^ (8 * (p.length - 1 - i))∧valI p i=valL (p.take i) * 2 ^ (8 * (p.length - 1 - i+1)):=by
 have e:p.take (i+1)=p.take i++[p.getD i 0]:=by
  rw [List.take_add_one,List.getD_eq_getElem?_getD,List.getElem?_eq_getElem h];rfl
 exact ⟨by rw [valI,e,valL_snoc];congr 3;omega,by rw [valI];congr 3;omega⟩
theorem valI_put {p:List Nat}{i:Nat}(h:i<p.length)(hb:p.getD i 0<256)(hk:p.length - 1 - i<32):putC (bytesC (valI p i)) (p.length - 1 - i) (.int .u8 ((p.getD i 0:Nat):Int))=bytesC (valI p (i+1)):=by
 obtain ⟨e1,e2⟩:=valI_succ h
 rw [e1,e2]
 exact bytesC_put _ _ _ _ hk (byteN_at _ _ _ hb).symm fun j _ hne=>(byteN_off _ _ _ j hb hne).symm
set_option maxHeartbeats 8000000 in
theorem readnum_c (w:World){u:Value}{m:Nat}{p:List Nat}(h:Cb w u m p):Calls Tryd.prog 31 [u].toArray w (Ret (.tuple #[nu (readN p).2,.int .i64 ((readN p).1:Int)]) w):=by
 have i0:=h.old
 have hpl:=h.ok.len
 have hpb:=h.ok.by'
 have hmm:m≤maxLen:=by obtain ⟨_,_,_,h1,h2,_⟩:=i0.cs.ln.out;omega
 simp only [maxLen] at hmm
 clear h
 by_cases h0:m=0
 ·have t1:((m:Int) == 0)=true:=by rw [h0];rfl
  have e:readN p=(3,0):=by rw [readN,if_pos (by omega)]
  rw [e]
  refine fn_ret (N:=_) Tryd.func31 rfl Tryd.ntmps31 Tryd.results31 (by simp) ?_
  simp only [initS,Nat.reduceAdd,Nat.zero_add]
  repeat' (first|(refine wlS ?_)|(refine wlB ?_)|(refine wlNL ?_)|(refine wlE ?_)|(refine efSvao ?_;intro v oa ho)|(refine efZCnn ?_;intro n hn)|(refine efBnn ?_;intro n hn)|(refine efB ?_)|(refine efBS ?_)|(refine wl_skip rfl rfl ?_)|((with_reducible refine wc_seq ?_);intro K hK)|(refine auC ?_)|(refine wc_cond rfl (fun hc=>?_) (fun hc=>?_))|(refine wc_draw (by kernel_rfl) (by kernel_rfl) (by decide +kernel) ?_;intro w0 hw0 hm0;(try simp only [List.append_eq,List.cons_append,List.nil_append]))|(refine auP ?_)|((refine auR ?_);clear hK K)|(refine auR ?_)|((with_reducible refine hK _ _ ?_);clear hK K)|fail)
  first|refine end_ret (ResP.cell rfl ld_whole (ResP.tmp rfl ResP.nil)) ?_|refine end_normal (ResP.cell rfl ld_whole (ResP.tmp rfl ResP.nil)) ?_
  first|rfl|(show _=_;rfl)|(simp only [tupV, *];done)
 have t1:((m:Int) == 0)=false:=by simp only [beq_eq_false_iff_ne,ne_eq];omega
 have g0:=bl_get (l:=p) (i:=0) (by omega)
 have b0:=bys8' hpb 0
 have j0:0<m:=by omega
 have hrd:readN p=if p.getD 0 0≥128∨(p.getD 0 0=0∧m>1∧p.getD 1 0<128) then (4,0) else if m>33∨(m=33∧p.getD 0 0>0) then (2,0) else (0,valL p):=by
  rw [readN,hpl,if_neg h0]
 have g1:=fun (h:m>1)=>bl_get (l:=p) (i:=1) (by omega)
 have OV:=fun (h:valL p<T256)=>of_bv (valL p) h
 generalize hd:p.getD 0 0=d at *
 by_cases c1:d≥128
 ·have t2:decide ((d:Int)≥128)=true:=decide_eq_true (by omega)
  rw [if_pos (.inl c1)] at hrd
  rw [hrd]
  refine fn_ret (N:=_) Tryd.func31 rfl Tryd.ntmps31 Tryd.results31 (by simp) ?_
  simp only [initS,Nat.reduceAdd,Nat.zero_add]
  repeat' (first|(refine wlS ?_)|(refine wlB ?_)|(refine wlNL ?_)|(refine wlE ?_)|(refine efSvao ?_;intro v oa ho)|(refine efZCnn ?_;intro n hn)|(refine efBnn ?_;intro n hn)|(refine efB ?_)|(refine efBS ?_)|(refine wl_skip rfl rfl ?_)|((with_reducible refine wc_seq ?_);intro K hK)|(refine auC ?_)|(refine wc_cond rfl (fun hc=>?_) (fun hc=>?_))|(refine wc_draw (by kernel_rfl) (by kernel_rfl) (by decide +kernel) ?_;intro w0 hw0 hm0;(try simp only [List.append_eq,List.cons_append,List.nil_append]))|(refine auP ?_)|((refine auR ?_);clear hK K)|(refine auR ?_)|((with_reducible refine hK _ _ ?_);clear hK K)|fail)
  first|refine end_ret (ResP.cell rfl ld_whole (ResP.tmp rfl ResP.nil)) ?_|refine end_normal (ResP.cell rfl ld_whole (ResP.tmp rfl ResP.nil)) ?_
  first|rfl|(show _=_;rfl)|(simp only [tupV, *];done)
 have t2:decide ((d:Int)≥128)=false:=decide_eq_false (by omega)
 by_cases c2:d=0∧m>1∧p.getD 1 0<128
 ·obtain ⟨rfl,c3,c4⟩:=c2
  have g1':=g1 c3
  have t4:decide ((m:Int)>1)=true:=decide_eq_true (by omega)
  have t5:decide (((p.getD 1 0:Nat):Int)<128)=true:=decide_eq_true (by omega)
  have t6:(((0:Nat):Int) == 0)=true:=rfl
  rw [if_pos (.inr ⟨rfl,c3,c4⟩)] at hrd
  rw [hrd]
  refine fn_ret (N:=_) Tryd.func31 rfl Tryd.ntmps31 Tryd.results31 (by simp) ?_
  simp only [initS,Nat.reduceAdd,Nat.zero_add]
  repeat' (first|(refine wlS ?_)|(refine wlB ?_)|(refine wlNL ?_)|(refine wlE ?_)|(refine efSvao ?_;intro v oa ho)|(refine efZCnn ?_;intro n hn)|(refine efBnn ?_;intro n hn)|(refine efB ?_)|(refine efBS ?_)|(refine wl_skip rfl rfl ?_)|((with_reducible refine wc_seq ?_);intro K hK)|(refine auC ?_)|(refine wc_cond rfl (fun hc=>?_) (fun hc=>?_))|(refine wc_draw (by kernel_rfl) (by kernel_rfl) (by decide +kernel) ?_;intro w0 hw0 hm0;(try simp only [List.append_eq,List.cons_append,List.nil_append]))|(refine auP ?_)|((refine auR ?_);clear hK K)|(refine auR ?_)|((with_reducible refine hK _ _ ?_);clear hK K)|fail)
  first|refine end_ret (ResP.cell rfl ld_whole (ResP.tmp rfl ResP.nil)) ?_|refine end_normal (ResP.cell rfl ld_whole (ResP.tmp rfl ResP.nil)) ?_
  first|rfl|(show _=_;rfl)|(simp only [tupV, *];done)
 rw [if_neg (by omega)] at hrd
 replace c2:=Lib.hid c2
 refine fn_ret (N:=_) Tryd.func31 rfl Tryd.ntmps31 Tryd.results31 (by simp) ?_
 simp only [initS,Nat.reduceAdd,Nat.zero_add]
 repeat' (first|(refine wlS ?_)|(refine wlB ?_)|(refine wlNL ?_)|(refine wlE ?_)|(refine efSvao ?_;intro v oa ho)|(refine efZCnn ?_;intro n hn)|(refine efBnn ?_;intro n hn)|(refine efB ?_)|(refine efBS ?_)|(refine wl_skip rfl rfl ?_)|((with_reducible refine wc_seq ?_);intro K hK)|(refine auC ?_)|(refine wc_cond rfl (fun hc=>?_) (fun hc=>?_))|(refine wc_draw (by kernel_rfl) (by kernel_rfl) (by decide +kernel) ?_;intro w0 hw0 hm0;(try simp only [List.append_eq,List.cons_append,List.nil_append]))|(refine auP ?_)|((refine auR ?_);clear hK K)|(refine auR ?_)|((with_reducible refine hK _ _ ?_);clear hK K)|fail)
 replace c2:=c2.out
 obtain ⟨n2,rfl⟩:∃ n2,n2=n:=⟨n,rfl⟩
 rename_i KS hKS
 have SND:¬(m>33∨(m=33∧d>0))→∀ s l,SubS [(0,u),(2,ptr n2)] s→SubL [(n2,(numC 0,81))] l→KS s l:=by
  clear hK K
  intro hok s l h1 h2
  refine hKS s l (wc_sub h1 h2 rfl ?_)
  clear hKS h1 h2 KS s l
  rw [if_neg hok] at hrd
  rw [hrd]
  dsimp only
  have hvl:valL p<T256:=by
   cases p with
   | nil=>simp at hpl;omega
   | cons e r=>
    have hlr:r.length+1=m:=by simpa using hpl
    have hd':e=d:=by simpa using hd
    subst hd'
    rw [T256_eq]
    by_cases h33:m=33
    ·have hd0:e=0:=by omega
     rw [valL_cons,hd0,Nat.zero_mul,Nat.zero_add]
     have:=valL_lt r fun x hx=>hpb x (by simp [hx])
     rwa [show r.length=32 by omega] at this
    ·exact Nat.lt_of_lt_of_le (valL_lt _ hpb) (Nat.pow_le_pow_right (by decide) (by rw [hpl];omega))
  have OF:=OV hvl
  have v0:=valI_zero p
  have vA:=valI_all p
  have vS:=fun i (hi:i<p.length)=>valI_put (p:=p) hi (bys8' hpb i)
  rw [hpl] at vA vS
  have vK:m=33→valI p 1=valI p 0:=fun h33=>by
   obtain ⟨e1,e2⟩:=valI_succ (p:=p) (i:=0) (by omega)
   rw [e1,e2,hd,show d=0 by omega]
   simp [valL]
  clear g1 hd OV b0 g0 hrd
  repeat' (first|(refine wlS ?_)|(refine wlB ?_)|(refine wlE ?_)|(refine efSvao ?_;intro v oa ho)|(refine efZCnn ?_;intro n hn)|(refine efBnn ?_;intro n hn)|(refine efB ?_)|(refine efBS ?_)|(refine wl_skip rfl rfl ?_)|((with_reducible refine wc_seq ?_);intro K hK)|(refine auC ?_)|(refine wc_cond rfl (fun hc=>?_) (fun hc=>?_))|(refine wc_draw (by kernel_rfl) (by kernel_rfl) (by decide +kernel) ?_;intro w0 hw0 hm0;(try simp only [List.append_eq,List.cons_append,List.nil_append]))|(refine auP ?_)|((refine auR ?_);clear hK K)|(refine auR ?_)|((with_reducible refine hK _ _ ?_);clear hK K)|fail)
  obtain ⟨n4,rfl⟩:∃ n4,n4=n:=⟨n,rfl⟩
  refine wc_loop (σ:=Nat) (fun i=>[(0,u),(2,ptr n2),(4,ptr n4),(52,u),(53,.int .i64 (m:Int)),(54,.int .i64 (i:Int))])
   (fun i=>[(n4,(bytesC (valI p i),23)),(n2,(numC 0,81))]) (fun i=>i≤m) (fun i=>m - i) 0 (Nat.zero_le _)
   (Fits.of ⟨rfl,rfl,rfl,rfl,rfl,rfl,trivial⟩ (by rw [v0];exact SubL.refl _) rfl) ?_
  intro i hi
  by_cases hit:i<m
  ·have t1:decide ((i:Int)<(m:Int))=true:=decide_eq_true (by omega)
   have t3:IntKind.i64.wrap ((i:Int)+1)=((i+1:Nat):Int):=by rw [wrap_i64 _ (by omega) (by omega)];omega
   have t4:IntKind.i64.wrap ((m:Int) - 1)=((m - 1:Nat):Int):=by rw [wrap_i64 _ (by omega) (by omega)];omega
   have t5:IntKind.i64.wrap (((m - 1:Nat):Int) - (i:Int))=((m - 1 - i:Nat):Int):=by rw [wrap_i64 _ (by omega) (by omega)];omega
   have gi:=bl_get (l:=p) (i:=i) (by omega)
   have j1:(i:Int)<(m:Int):=by omega
   by_cases hk:m - 1 - i<32
   ·have t6:decide (((m - 1 - i:Nat):Int)<32)=true:=decide_eq_true (by omega)
    have st:=vS i hit hk
    have j2:((m - 1 - i:Nat):Int)<((32:Nat):Int):=by omega
    clear vS OF
    repeat' (first|(refine wlS ?_)|(refine wlB ?_)|(refine wlE ?_)|(refine efSvao ?_;intro v oa ho)|(refine efBnn ?_;intro n hn)|(refine efB ?_)|(refine efBS ?_)|(refine wl_skip rfl rfl ?_)|((with_reducible refine wc_seq ?_);intro K hK)|(refine auC ?_)|(refine wc_cond rfl (fun hc=>?_) (fun hc=>?_))|(refine wc_draw (by kernel_rfl) (by kernel_rfl) (by decide +kernel) ?_;intro w0 hw0 hm0;(try simp only [List.append_eq,List.cons_append,List.nil_append]))|(refine auP ?_)|((refine auR ?_);clear hK K)|(refine auR ?_)|((with_reducible refine hK _ _ ?_);clear hK K)|fail)
    exact ⟨i+1,hit,by omega,Fits.of ⟨rfl,rfl,rfl,rfl,rfl,rfl,trivial⟩ (SubL.refl _) rfl⟩
   ·have t6:decide (((m - 1 - i:Nat):Int)<32)=false:=decide_eq_false (by omega)
    obtain rfl:i=0:=by omega
    have st:=vK (by omega)
    clear vS OF
    repeat' (first|(refine wlS ?_)|(refine wlB ?_)|(refine wlE ?_)|(refine efSvao ?_;intro v oa ho)|(refine efBnn ?_;intro n hn)|(refine efB ?_)|(refine efBS ?_)|(refine wl_skip rfl rfl ?_)|((with_reducible refine wc_seq ?_);intro K hK)|(refine auC ?_)|(refine wc_cond rfl (fun hc=>?_) (fun hc=>?_))|(refine wc_draw (by kernel_rfl) (by kernel_rfl) (by decide +kernel) ?_;intro w0 hw0 hm0;(try simp only [List.append_eq,List.cons_append,List.nil_append]))|(refine auP ?_)|((refine auR ?_);clear hK K)|(refine auR ?_)|((with_reducible refine hK _ _ ?_);clear hK K)|fail)
    exact ⟨1,hit,by omega,Fits.of ⟨rfl,rfl,rfl,rfl,rfl,rfl,trivial⟩ (by rw [st];exact SubL.refl _) rfl⟩
  ·obtain rfl:i=m:=by omega
   have t1:decide ((i:Int)<(i:Int))=false:=decide_eq_false (by omega)
   rw [vA]
   repeat' (first|(refine wlS ?_)|(refine wlB ?_)|((with_reducible refine sel_call ?_);refine wl_rd rfl rfl (rd_call rfl rfl rfl (fun w hm=>by with_reducible exact OF w)) ?_)|(refine wlE ?_)|(refine efSvao ?_;intro v oa ho)|(refine efZCnn ?_;intro n hn)|(refine efBnn ?_;intro n hn)|(refine efB ?_)|(refine efBS ?_)|(refine wl_skip rfl rfl ?_)|((with_reducible refine wc_seq ?_);intro K hK)|(refine auC ?_)|(refine wc_cond rfl (fun hc=>?_) (fun hc=>?_))|(refine wc_draw (by kernel_rfl) (by kernel_rfl) (by decide +kernel) ?_;intro w0 hw0 hm0;(try simp only [List.append_eq,List.cons_append,List.nil_append]))|(refine auP ?_)|((refine auR ?_);clear hK K)|(refine auR ?_)|((with_reducible refine hK _ _ ?_);clear hK K)|fail)
   first|refine end_ret (ResP.cell rfl ld_whole (ResP.tmp rfl ResP.nil)) ?_|refine end_normal (ResP.cell rfl ld_whole (ResP.tmp rfl ResP.nil)) ?_
   first|rfl|(show _=_;rfl)|(simp only [tupV, *];done)
 clear hKS
 have SND2:∀ s l,SubS [(0,u),(2,ptr n2),(13,.bool false)] s→SubL [(n2,(numC 0,81))] l→K s l:=by
  intro s l h1 h2
  refine hK s l (wc_sub h1 h2 rfl ?_)
  clear hK h1 h2 K s l
  by_cases e1:m>33
  ·have t3:decide ((m:Int)>33)=true:=decide_eq_true (by omega)
   rw [if_pos (.inl e1)] at hrd
   rw [hrd]
   clear SND
   repeat' (first|(refine wlS ?_)|(refine wlB ?_)|(refine wlNL ?_)|(refine wlE ?_)|(refine efSvao ?_;intro v oa ho)|(refine efZCnn ?_;intro n hn)|(refine efBnn ?_;intro n hn)|(refine efB ?_)|(refine efBS ?_)|(refine wl_skip rfl rfl ?_)|((with_reducible refine wc_seq ?_);intro K hK)|(refine auC ?_)|(refine wc_cond rfl (fun hc=>?_) (fun hc=>?_))|(refine wc_draw (by kernel_rfl) (by kernel_rfl) (by decide +kernel) ?_;intro w0 hw0 hm0;(try simp only [List.append_eq,List.cons_append,List.nil_append]))|(refine auP ?_)|((refine auR ?_);clear hK K)|(refine auR ?_)|((with_reducible refine hK _ _ ?_);clear hK K)|fail)
   first|refine end_ret (ResP.cell rfl ld_whole (ResP.tmp rfl ResP.nil)) ?_|refine end_normal (ResP.cell rfl ld_whole (ResP.tmp rfl ResP.nil)) ?_
   first|rfl|(show _=_;rfl)|(simp only [tupV, *];done)
  have t3:decide ((m:Int)>33)=false:=decide_eq_false (by omega)
  by_cases e2:m=33
  ·have t4:((m:Int) == 33)=true:=by rw [e2];rfl
   by_cases e3:d>0
   ·have t5:decide ((d:Int)>0)=true:=decide_eq_true (by omega)
    rw [if_pos (.inr ⟨e2,e3⟩)] at hrd
    rw [hrd]
    clear SND
    repeat' (first|(refine wlS ?_)|(refine wlB ?_)|(refine wlNL ?_)|(refine wlE ?_)|(refine efSvao ?_;intro v oa ho)|(refine efZCnn ?_;intro n hn)|(refine efBnn ?_;intro n hn)|(refine efB ?_)|(refine efBS ?_)|(refine wl_skip rfl rfl ?_)|((with_reducible refine wc_seq ?_);intro K hK)|(refine auC ?_)|(refine wc_cond rfl (fun hc=>?_) (fun hc=>?_))|(refine wc_draw (by kernel_rfl) (by kernel_rfl) (by decide +kernel) ?_;intro w0 hw0 hm0;(try simp only [List.append_eq,List.cons_append,List.nil_append]))|(refine auP ?_)|((refine auR ?_);clear hK K)|(refine auR ?_)|((with_reducible refine hK _ _ ?_);clear hK K)|fail)
    first|refine end_ret (ResP.cell rfl ld_whole (ResP.tmp rfl ResP.nil)) ?_|refine end_normal (ResP.cell rfl ld_whole (ResP.tmp rfl ResP.nil)) ?_
    first|rfl|(show _=_;rfl)|(simp only [tupV, *];done)
   ·have t5:decide ((d:Int)>0)=false:=decide_eq_false (by omega)
    have SND1:=SND (by omega)
    repeat' (first|(refine wlS ?_)|(refine wlB ?_)|(refine wlNL ?_)|(refine wlE ?_)|(refine efSvao ?_;intro v oa ho)|(refine efZCnn ?_;intro n hn)|(refine efBnn ?_;intro n hn)|(refine efB ?_)|(refine efBS ?_)|(refine wl_skip rfl rfl ?_)|((with_reducible refine wc_seq ?_);intro K hK)|(refine auC ?_)|(refine wc_cond rfl (fun hc=>?_) (fun hc=>?_))|(refine wc_draw (by kernel_rfl) (by kernel_rfl) (by decide +kernel) ?_;intro w0 hw0 hm0;(try simp only [List.append_eq,List.cons_append,List.nil_append]))|(refine auP ?_)|((refine auR ?_);clear hK K)|(refine auR ?_)|((with_reducible refine hK _ _ ?_);clear hK K)|fail)
    refine SND1 _ _ (by exact ⟨rfl,rfl,trivial⟩) ?_
    repeat (first|exact SubL.nil|exact SubL.refl _|refine SubL.keep ?_|exact SubL.headA _ _|refine SubL.keepA ?_ _|refine SubL.skip ?_|refine SubL.skipA ?_ _)
  ·have t4:((m:Int) == 33)=false:=by simp only [beq_eq_false_iff_ne,ne_eq];omega
   have SND1:=SND (by omega)
   repeat' (first|(refine wlS ?_)|(refine wlB ?_)|(refine wlNL ?_)|(refine wlE ?_)|(refine efSvao ?_;intro v oa ho)|(refine efZCnn ?_;intro n hn)|(refine efBnn ?_;intro n hn)|(refine efB ?_)|(refine efBS ?_)|(refine wl_skip rfl rfl ?_)|((with_reducible refine wc_seq ?_);intro K hK)|(refine auC ?_)|(refine wc_cond rfl (fun hc=>?_) (fun hc=>?_))|(refine wc_draw (by kernel_rfl) (by kernel_rfl) (by decide +kernel) ?_;intro w0 hw0 hm0;(try simp only [List.append_eq,List.cons_append,List.nil_append]))|(refine auP ?_)|((refine auR ?_);clear hK K)|(refine auR ?_)|((with_reducible refine hK _ _ ?_);clear hK K)|fail)
   refine SND1 _ _ (by exact ⟨rfl,rfl,trivial⟩) ?_
   repeat (first|exact SubL.nil|exact SubL.refl _|refine SubL.keep ?_|exact SubL.headA _ _|refine SubL.keepA ?_ _|refine SubL.skip ?_|refine SubL.skipA ?_ _)
 clear hK SND
 by_cases d0:d=0
 ·have t3:((d:Int) == 0)=true:=by rw [d0];rfl
  rw [t3]
  by_cases m1:m>1
  ·have t4:decide ((m:Int)>1)=true:=decide_eq_true (by omega)
   have g1':=g1 m1
   have t5:decide (((p.getD 1 0:Nat):Int)<128)=false:=decide_eq_false (by omega)
   repeat' (first|(refine wlS ?_)|(refine wlB ?_)|(refine wlNL ?_)|(refine wlE ?_)|(refine efSvao ?_;intro v oa ho)|(refine efZCnn ?_;intro n hn)|(refine efBnn ?_;intro n hn)|(refine efB ?_)|(refine efBS ?_)|(refine wl_skip rfl rfl ?_)|((with_reducible refine wc_seq ?_);intro K hK)|(refine auC ?_)|(refine wc_cond rfl (fun hc=>?_) (fun hc=>?_))|(refine wc_draw (by kernel_rfl) (by kernel_rfl) (by decide +kernel) ?_;intro w0 hw0 hm0;(try simp only [List.append_eq,List.cons_append,List.nil_append]))|(refine auP ?_)|((refine auR ?_);clear hK K)|(refine auR ?_)|((with_reducible refine hK _ _ ?_);clear hK K)|fail)
   refine SND2 _ _ (by exact ⟨rfl,rfl,rfl,trivial⟩) ?_
   repeat (first|exact SubL.nil|exact SubL.refl _|refine SubL.keep ?_|exact SubL.headA _ _|refine SubL.keepA ?_ _|refine SubL.skip ?_|refine SubL.skipA ?_ _)
  ·have t4:decide ((m:Int)>1)=false:=decide_eq_false (by omega)
   repeat' (first|(refine wlS ?_)|(refine wlB ?_)|(refine wlNL ?_)|(refine wlE ?_)|(refine efSvao ?_;intro v oa ho)|(refine efZCnn ?_;intro n hn)|(refine efBnn ?_;intro n hn)|(refine efB ?_)|(refine efBS ?_)|(refine wl_skip rfl rfl ?_)|((with_reducible refine wc_seq ?_);intro K hK)|(refine auC ?_)|(refine wc_cond rfl (fun hc=>?_) (fun hc=>?_))|(refine wc_draw (by kernel_rfl) (by kernel_rfl) (by decide +kernel) ?_;intro w0 hw0 hm0;(try simp only [List.append_eq,List.cons_append,List.nil_append]))|(refine auP ?_)|((refine auR ?_);clear hK K)|(refine auR ?_)|((with_reducible refine hK _ _ ?_);clear hK K)|fail)
   refine SND2 _ _ (by exact ⟨rfl,rfl,rfl,trivial⟩) ?_
   repeat (first|exact SubL.nil|exact SubL.refl _|refine SubL.keep ?_|exact SubL.headA _ _|refine SubL.keepA ?_ _|refine SubL.skip ?_|refine SubL.skipA ?_ _)
 ·have t3:((d:Int) == 0)=false:=by simp only [beq_eq_false_iff_ne,ne_eq];omega
  rw [t3]
  repeat' (first|(refine wlS ?_)|(refine wlB ?_)|(refine wlNL ?_)|(refine wlE ?_)|(refine efSvao ?_;intro v oa ho)|(refine efZCnn ?_;intro n hn)|(refine efBnn ?_;intro n hn)|(refine efB ?_)|(refine efBS ?_)|(refine wl_skip rfl rfl ?_)|((with_reducible refine wc_seq ?_);intro K hK)|(refine auC ?_)|(refine wc_cond rfl (fun hc=>?_) (fun hc=>?_))|(refine wc_draw (by kernel_rfl) (by kernel_rfl) (by decide +kernel) ?_;intro w0 hw0 hm0;(try simp only [List.append_eq,List.cons_append,List.nil_append]))|(refine auP ?_)|((refine auR ?_);clear hK K)|(refine auR ?_)|((with_reducible refine hK _ _ ?_);clear hK K)|fail)
  refine SND2 _ _ (by exact ⟨rfl,rfl,rfl,trivial⟩) ?_
  repeat (first|exact SubL.nil|exact SubL.refl _|refine SubL.keep ?_|exact SubL.headA _ _|refine SubL.keepA ?_ _|refine SubL.skip ?_|refine SubL.skipA ?_ _)
end Go.Proofs.YthigacbelefadaaDoor
namespace Go.Proofs.YthigacbelefadaaDoor
open Go.RowKit
set_option linter.unusedVariables false
set_option linter.unusedSimpArgs false
section
variable {X:Cx}{s:Slots}{l:Blks}{o:Oper}{v:Value}{Q:Post}{ops:Array Oper}{r:List Oper}
theorem ld_sgR {t b off k e p m j:Nat}{g:Sg}{A:Array Value}{cs:List Value}[hu:KD X.P t true][hs:SZ X.P t k][hok:SgOk g](hh:Has X l b (rwA g,e):=by first|(with_reducible assumption)|(refine Has.inn ?_;repeat (first|exact Inn.here|apply Inn.there|apply Inn.skipA)))(ha:atL g p m=some A:=by rfl)(ho:p+j=off:=by first|(with_reducible assumption)|rfl|omega)
  (hv:(A.toList.drop j).take k=cs:=by first|(with_reducible assumption)) (hj:j+k≤m:=by first|(with_reducible assumption)|omega):Ld X l t b off (.agg cs.toArray):=by
 obtain ⟨h1,h2,h3⟩:=atL_spec hok ha
 subst ho
 refine ld_row (c:=rwA g) hh ?_ ?_
 ·rw [←hv,←h1,rwA]
  simp only [List.drop_take,List.drop_drop,List.take_take]
  rw [Nat.min_eq_left (by omega)]
 ·rw [←hv,List.length_take,List.length_drop,Array.length_toList,h2]
  omega
theorem wl_copyG {x y:Operand}{t t' e te n cap b off m pp mm j:Nat}{u:Value}{p q q':List Nat}{g g':Sg}{l':Blks}{s':Slots}(hg:gd s ops o=some true)(hd:dOk X.N o.dst=true)(hop:o.op=.call {callee:=.builtin .copy,args:=#[x,y],argTypes:=#[t,t']})
  (hx:val s x=some (.slice (some ⟨b,off,none⟩) n cap)) (hy:val s y=some u) [ht:UT X.P t (.slice e)] [hs:SZ X.P e 1] [hok:SgOk g] [hu:VwB X l u m p] {k:Nat}
  (h:Wl X ops Q r s' l') (hat:At l b (rwA g,te) (rwA g',te) l':=by repeat (first|exact At.here|apply At.there|apply At.skipA)) (ha:atL g pp mm=some (bys q):=by rfl) (hp:putG g pp mm (bys q')=some g':=by rfl) (ho:pp+j=off:=by first|(with_reducible assumption)|rfl|omega)
  (hk:Nat.min m n=k:=by first|(with_reducible assumption)|rfl) (hfit:j+k≤q.length:=by first|(with_reducible assumption)|omega) (hq:q.take j++(p.take k++q.drop (j+k))=q':=by first|(with_reducible assumption)|rfl)
  (hs':sputO s o.dst (.int .i64 (k:Int))=s':=by (try dsimp only [sputO,sput,Nat.reduceBEq,cond_true,cond_false,beq_self_eq_true]);first|done|exact rfl) (htb:Nat.blt te BIG=true:=by first|rfl|assumption):Wl X ops Q (o::r) s l:=fun a w hst=>by
 subst hs';subst ho
 have hw:=gd_wanted hst.env hg
 obtain ⟨hcs,hokb⟩:=hu.out w hst.mem
 obtain ⟨pu,cu,rfl,h1,h2,h3⟩:=hcs.ln.out
 have hgb:=(hst.mem.cls.now b (rwA g) te (hat.now hst.mem.nd)).trans (congrArg some (toObj_cells htb))
 have hkm:k≤m:=by rw [←hk];exact Nat.min_le_left _ _
 have hpk:(p.take k).length=k:=by rw [List.length_take,hokb.len];omega
 have htl:(bl (p.take k)).length=k:=by rw [bl_len,hpk]
 obtain ⟨f1,f2,f3⟩:=atL_spec hok ha
 have hql:q.length=mm:=by rw [←f2];simp [bys,bl]
 have hjk:j+k≤mm:=by rw [←hql];exact hfit
 have hq'n:q'.length=mm:=by
  rw [←hq,List.length_append,List.length_append,List.length_take,List.length_drop,hpk,hql];omega
 have hq'l:(bys q').size=mm:=by
  simp only [bys,List.size_toArray,bl_len,hq'n]
 obtain ⟨g1,g2,g3,g4⟩:=putG_spec hok hq'l (by simp [bys,bl,Value.oneCell']) hp
 have hrow:((rwA g).toList.take (pp+j)++bl (p.take k)++(rwA g).toList.drop (pp+j+(bl (p.take k)).length)).toArray=rwA g':=by
  rw [htl]
  unfold rwA
  rw [←g1]
  unfold putR
  have hbq:(bys q').toList=bl q':=by simp [bys]
  have hbq0:(bys q).toList=bl q:=by simp [bys]
  have hq2:(bys q').toList.length=mm:=by rw [Array.length_toList,hq'l]
  rw [hq2,hbq,←hq,bl_app,bl_app]
  rw [hbq0] at f1
  have hpl:pp≤(rwL g).length:=by omega
  have e0:(rwL g).take (pp+j)=(rwL g).take pp++bl (q.take j):=by
   rw [List.take_add,←bl_take,←f1,List.take_take,Nat.min_eq_left (by omega)]
  have e1:(rwL g).drop (pp+j+k)=bl (q.drop (j+k))++(rwL g).drop (pp+mm):=by
   rw [←bl_drop,←f1,List.drop_take,List.drop_drop]
   have:=List.take_append_drop (mm - (j+k)) ((rwL g).drop (pp+(j+k)))
   rw [List.drop_drop,show pp+(j+k)+(mm - (j+k))=pp+mm by omega] at this
   rw [show pp+j+k=pp+(j+k) by omega]
   exact this.symm
  rw [List.toList_toArray,e0,e1]
  simp only [List.append_assoc]
 have hrun:∃ w',(Builtin.copy_ #[t,t'] o.type #[.slice (some ⟨b,pp+j,none⟩) n cap,.slice pu m cu]).run X.P w=.ok (.int .i64 (k:Int)) w'∧Mem X l' w':=by
  by_cases h0:k=0
  ·subst h0
   refine ⟨w,run_copy_none (P:=X.P) w t t' o.type e _ pu n cap m cu ht.out hs.out hk,?_⟩
   have e1:rwA g'=rwA g:=by
    rw [←hrow,htl]
    have:bl (p.take 0)=[]:=rfl
    rw [this]
    simp
   rw [e1] at hat
   have e2:l'=l:=hat.same
   rw [e2];exact hst.mem
  ·obtain ⟨b',off',rfl⟩:=h3 (by omega)
   refine ⟨_,run_copy_row (P:=X.P) w t t' o.type e b (pp+j) n cap ⟨b',off',none⟩ m cu (rwA g) te (bl (p.take k)) ht.out hs.out hgb (by rw [htl,hk]) (fun i y hj=>?_) (by rw [htl,rw_size hok];rw [rwL_len hok] at f3;omega) (bl_one _) |>.trans (by rw [htl];rfl),?_⟩
   ·have hjl:i<k:=by rw [←htl];exact (List.getElem?_eq_some_iff.1 hj).1
    have hj':(bl p)[i]? = some y:=by
     rw [←bl_take,List.getElem?_take_of_lt hjl] at hj
     exact hj
    obtain ⟨b2,off2,cap2,hv,hc⟩:=hcs.cell i y hj'
    injection hv with hv
    injection hv with hv
    injection hv with hb' ho'
    subst hb';subst ho'
    rw [Addr.add_mid];exact hc
   ·have e0:pp+j+k=pp+j+(bl (p.take k)).length:=by rw [htl]
    rw [e0,hrow]
    exact hst.mem.upd hat
 obtain ⟨w',hrun,hmem⟩:=hrun
 unfold wpList
 rw [if_pos hw]
 refine .inl ?_
 unfold Oper.wp
 have:(execOp a.eval o).run X.P w=.ok (.value (.int .i64 (k:Int))) w':=by
  simp only [execOp,hop,resolve,invoke,builtin,Sem.run_bind,Sem.run_pure,Result.andThen_ok,List.map_toArray,List.map_cons,List.map_nil,hst.env.eval hx,hst.env.eval hy,hrun]
 rw [this]
 exact h _ _ ⟨hst.env.put hd _,hmem⟩
end
def lateC:List Oper→Nat→List Nat
 | [],_=>[]
 | o::r,k=>match o.op with
  | .store _ _ _=>k::lateC r (k+1)
  | .call c=>(match c.callee with
   | .builtin .copy=>k::lateC r (k+1)
   | _=>lateC r (k+1))
  | _=>lateC r (k+1)
theorem wc_drawC {X:Cx}{Q:Post}{s:Slots}{b:Blks}{id:Nat}{r:List Oper}(hm:X.P.follows .mixedOrders=true)(h:Wh X ⟨r.toArray,b,lateC r 0⟩ Q r.length [] s b):Wc X (.region id r.toArray true) Q s b:=wc_drawH b _ hm (SubL.refl b) h
end Go.Proofs.YthigacbelefadaaDoor
namespace Go.Proofs.YthigacbelefadaaDoor
open Go.RowKit
set_option linter.unusedVariables false
set_option linter.unusedSimpArgs false
set_option maxRecDepth 100000
theorem readN_lt {p:List Nat}(hb:∀ x∈p,x<256):(readN p).2<T256:=by
 by_cases h:(readN p).1=0
 ·exact (numL_readN hb h).2
 ·unfold readN at h ⊢
  split
  ·decide
  ·split
   ·decide
   ·split
    ·decide
    ·rename_i h1 h2 h3
     rw [if_neg h1,if_neg h2,if_neg h3] at h
     exact absurd rfl h
theorem limb_small {n:Nat}(h:n<18446744073709551616):limb n 0=(n:Int):=by rw [limb0,Nat.mod_eq_of_lt h]
def fnB (p:List Nat)(most:Nat):Bool:=(readN p).1 != 0 || decide (most<blen (readN p).2)
theorem fnum_c (w:World){g:Nat}{b:Bool}{v:Value}{n:Nat}{p:List Nat}(h:Cb w v n p)(most:Nat)(hne:bl p≠[]→elB v∉[g])(hg:w.heap[g]? = some (.cells #[.bool b] 56)) :
  Calls Tryd.prog 15 [ptr g,v,.int .i64 (most:Int)].toArray w (RetP (fun _:Unit=>.int .u64 (limb (readN p).2 0)) g #[.bool b] 56 (fun _ c=>c=#[.bool (b || fnB p most)]) w):=by
 have i0:CsB (Old w [g]) v n p:=⟨h.cs.oldY hne,h.ok⟩
 have hlt:=readN_lt h.ok.by'
 have RN:=fun w' (h:Cb w' v n p)=>readnum_c w' h
 have LN:=len_nu (readN p).2 hlt
 have gv:=numC_get (readN p).2 0 (by decide)
 obtain ⟨z,hz⟩:∃ z,z=fnB p most:=⟨_,rfl⟩
 rw [←hz]
 unfold fnB at hz
 clear h hlt
 generalize (readN p).1=e at *
 generalize (readN p).2=a at *
 have j0:(0:Int)<((4:Nat):Int):=by decide
 cases b
 ·by_cases he:e=0
  ·subst he
   have t1:(((0:Nat):Int) != 0)=false:=rfl
   have t2:decide ((blen a:Int)>(most:Int))=z:=by
    rw [hz];simp
   refine fn_updP (N:=_) Tryd.func15 rfl Tryd.ntmps15 Tryd.results15 (by simp) hg ?_
   simp only [initS,Nat.reduceAdd,Nat.zero_add]
   repeat' (first|(refine wlS ?_)|(refine wlB ?_)|((with_reducible refine sel_call ?_);refine wl_rd rfl rfl (rd_call rfl rfl rfl (fun w hm=>by with_reducible first|exact RN w (VwB.out w hm)|exact LN w)) ?_)|(refine wlE ?_)|(refine efSvao ?_;intro v oa ho)|(refine efZCnn ?_;intro n hn)|(refine efBnn ?_;intro n hn)|(refine efB ?_)|(refine efBS ?_)|(refine wl_skip rfl rfl ?_)|((with_reducible refine wc_seq ?_);intro K hK)|(refine auC ?_)|(refine wc_cond rfl (fun hc=>?_) (fun hc=>?_))|(refine wc_draw (by kernel_rfl) (by kernel_rfl) (by decide +kernel) ?_;intro w0 hw0 hm0;(try simp only [List.append_eq,List.cons_append,List.nil_append]))|(refine auP ?_)|((refine auR ?_);clear hK K)|(refine auR ?_)|((with_reducible refine hK _ _ ?_);clear hK K)|fail)
   first|refine end_ret (ResP.tmp rfl ResP.nil) ?_|refine end_normal (ResP.tmp rfl ResP.nil) ?_
   (try dsimp only [tupV])
   exact ⟨(),_,rfl,rfl,.skip (SubL.refl _)⟩
  ·have t1:((e:Int) != 0)=true:=by rw [bne_iff_ne];omega
   obtain rfl:z=true:=by rw [hz];simp [he]
   refine fn_updP (N:=_) Tryd.func15 rfl Tryd.ntmps15 Tryd.results15 (by simp) hg ?_
   simp only [initS,Nat.reduceAdd,Nat.zero_add]
   repeat' (first|(refine wlS ?_)|(refine wlB ?_)|((with_reducible refine sel_call ?_);refine wl_rd rfl rfl (rd_call rfl rfl rfl (fun w hm=>by with_reducible exact RN w (VwB.out w hm))) ?_)|(refine wlE ?_)|(refine efSvao ?_;intro v oa ho)|(refine efZCnn ?_;intro n hn)|(refine efBnn ?_;intro n hn)|(refine efB ?_)|(refine efBS ?_)|(refine wl_skip rfl rfl ?_)|((with_reducible refine wc_seq ?_);intro K hK)|(refine auC ?_)|(refine wc_cond rfl (fun hc=>?_) (fun hc=>?_))|(refine wc_draw (by kernel_rfl) (by kernel_rfl) (by decide +kernel) ?_;intro w0 hw0 hm0;(try simp only [List.append_eq,List.cons_append,List.nil_append]))|(refine auP ?_)|((refine auR ?_);clear hK K)|(refine auR ?_)|((with_reducible refine hK _ _ ?_);clear hK K)|fail)
   first|refine end_ret (ResP.tmp rfl ResP.nil) ?_|refine end_normal (ResP.tmp rfl ResP.nil) ?_
   (try dsimp only [tupV])
   exact ⟨(),_,rfl,rfl,.skip (SubL.refl _)⟩
 ·refine fn_updP (N:=_) Tryd.func15 rfl Tryd.ntmps15 Tryd.results15 (by simp) hg ?_
  simp only [initS,Nat.reduceAdd,Nat.zero_add]
  repeat' (first|(refine wlS ?_)|(refine wlB ?_)|((with_reducible refine sel_call ?_);refine wl_rd rfl rfl (rd_call rfl rfl rfl (fun w hm=>by with_reducible exact RN w (VwB.out w hm))) ?_)|(refine wlE ?_)|(refine efSvao ?_;intro v oa ho)|(refine efZCnn ?_;intro n hn)|(refine efBnn ?_;intro n hn)|(refine efB ?_)|(refine efBS ?_)|(refine wl_skip rfl rfl ?_)|((with_reducible refine wc_seq ?_);intro K hK)|(refine auC ?_)|(refine wc_cond rfl (fun hc=>?_) (fun hc=>?_))|(refine wc_draw (by kernel_rfl) (by kernel_rfl) (by decide +kernel) ?_;intro w0 hw0 hm0;(try simp only [List.append_eq,List.cons_append,List.nil_append]))|(refine auP ?_)|((refine auR ?_);clear hK K)|(refine auR ?_)|((with_reducible refine hK _ _ ?_);clear hK K)|fail)
  first|refine end_ret (ResP.tmp rfl ResP.nil) ?_|refine end_normal (ResP.tmp rfl ResP.nil) ?_
  (try dsimp only [tupV])
  exact ⟨(),_,rfl,rfl,.skip (SubL.refl _)⟩
theorem snum_c (w:World){a:Nat}(ha:a<18446744073709551616):Calls Tryd.prog 10 [.int .u64 (a:Int)].toArray w (RetO (fun v:Value=>v) (fun v oa=>OwnB 5 v (nbL a) (numL a) oa) w):=by
 have NM:=fun w'=>number_c w' (a:=a) (Nat.lt_trans ha (by decide))
 have hn:=nu_lit a ha
 refine fn_own (N:=_) Tryd.func10 rfl Tryd.ntmps10 Tryd.results10 (by simp) ?_
 simp only [initS,Nat.reduceAdd,Nat.zero_add]
 iterate 10 (first|(refine wlS ?_)|(refine wlB ?_)|(refine wlE ?_)|(refine efSvao ?_;intro v oa ho)|(refine wl_skip rfl rfl ?_)|((with_reducible refine wc_seq ?_);intro K hK)|(refine auC ?_)|(refine wc_cond rfl (fun hc=>?_) (fun hc=>?_))|(refine wc_draw (by kernel_rfl) (by kernel_rfl) (by decide +kernel) ?_;intro w0 hw0 hm0;(try simp only [List.append_eq,List.cons_append,List.nil_append]))|(refine auP ?_)|((refine auR ?_);clear hK K)|(refine auR ?_)|((with_reducible refine hK _ _ ?_);clear hK K))
 rw [hn]
 repeat' (first|(refine wlS ?_)|(refine wlB ?_)|(refine wlE ?_)|(refine efSvao ?_;intro v oa ho)|((with_reducible refine sel_call ?_);first|(refine wl_newO rfl rfl rfl rfl rfl (fun w hm=>by with_reducible exact NM w) ?_;intro x oa hx))|(refine wl_skip rfl rfl ?_)|((with_reducible refine wc_seq ?_);intro K hK)|(refine auC ?_)|(refine wc_cond rfl (fun hc=>?_) (fun hc=>?_))|(refine wc_draw (by kernel_rfl) (by kernel_rfl) (by decide +kernel) ?_;intro w0 hw0 hm0;(try simp only [List.append_eq,List.cons_append,List.nil_append]))|(refine auP ?_)|((refine auR ?_);clear hK K)|(refine auR ?_)|((with_reducible refine hK _ _ ?_);clear hK K)|fail)
 first|refine end_ret (ResP.tmp rfl ResP.nil) ?_|refine end_normal (ResP.tmp rfl ResP.nil) ?_
 (try dsimp only [tupV])
 exact ⟨_,_,rfl,hx,SubL.refl _⟩
def lkM (p:List Nat):List Nat:=if p.length=33 then p.take 32 else List.replicate 32 0
def lkZ (p:List Nat):Nat:=if p.length=33 then p.getD 32 0 else 0
theorem lkM_len (p:List Nat):(lkM p).length=32:=by
 unfold lkM
 split
 ·rename_i h;simp [h]
 ·simp
instance {p:List Nat}:NBy (lkM p) 32:=⟨lkM_len p⟩
set_option maxHeartbeats 2000000 in
theorem flock_c (w:World){g:Nat}{b:Bool}{v:Value}{n:Nat}{p:List Nat}(h:Cb w v n p)(hne:bl p≠[]→elB v∉[g])(hg:w.heap[g]? = some (.cells #[.bool b] 56)) :
  Calls Tryd.prog 16 [ptr g,v].toArray w (RetP (fun _:Unit=>.agg (rwA [(32,bys (lkM p)),(1,#[.int .i64 (lkZ p:Int)])])) g #[.bool b] 56 (fun _ c=>c=#[.bool (b || decide (p.length≠33))]) w):=by
 have i0:CsB (Old w [g]) v n p:=⟨h.cs.oldY hne,h.ok⟩
 have hlen:=h.ok.len
 have hb:=h.ok.by'
 clear h hne
 by_cases h33:p.length=33
 ·have hM:lkM p=p.take 32:=by rw [lkM,if_pos h33]
  have hZ:lkZ p=p.getD 32 0:=by rw [lkZ,if_pos h33]
  have hd:decide (p.length≠33)=false:=by simp [h33]
  rw [hM,hZ,hd,Bool.or_false]
  obtain rfl:n=33:=by omega
  have t1:(((33:Nat):Int) != 33)=false:=rfl
  have j0:(32:Int)<((33:Nat):Int):=by decide
  have gv:(bl p)[32]? = some (.int .u8 ((p.getD 32 0:Nat):Int)):=by simp [bl,h33,List.getD]
  have hx32:p.getD 32 0<256:=bys8' hb 32
  have k1:IntKind.i64.wrap ((p.getD 32 0:Nat):Int)=((p.getD 32 0:Nat):Int):=by rw [wrap_i64 _ (by omega) (by omega)]
  have hq:(List.replicate 32 0).take 0++(p.take 32++(List.replicate 32 0).drop (0+32))=p.take 32:=by simp
  have hfit:0+32≤(List.replicate 32 (0:Nat)).length:=by simp
  have hmin:Nat.min 33 32=32:=rfl
  haveI:NBy (p.take 32) 32:=⟨by simp [h33]⟩
  refine fn_updP (N:=_) Tryd.func16 rfl Tryd.ntmps16 Tryd.results16 (by simp) hg ?_
  simp only [initS,Nat.reduceAdd,Nat.zero_add]
  repeat' (first|(refine wlS ?_)|(refine wlG ?_)|(refine wlB ?_)|(refine wlE ?_)|(refine efSvvp ?_;intro v hv hp)|(refine efSvao ?_;intro v oa ho)|(refine efG ?_)|(refine efGnn ?_;intro n hn)|(refine efBnn ?_;intro n hn)|(refine efB ?_)|(refine efBS ?_)|(refine wl_skip rfl rfl ?_)|((with_reducible refine wc_seq ?_);intro K hK)|(refine auC ?_)|(refine wc_cond rfl (fun hc=>?_) (fun hc=>?_))|(refine wc_draw (by kernel_rfl) (by kernel_rfl) (by decide +kernel) ?_;intro w0 hw0 hm0;(try simp only [List.append_eq,List.cons_append,List.nil_append]))|(refine auP ?_)|((refine auR ?_);clear hK K)|(refine auR ?_)|((with_reducible refine hK _ _ ?_);clear hK K)|fail)
  refine wl_copyG (pp:=0) (mm:=32) (j:=0) (k:=32) (q:=List.replicate 32 0) (q':=p.take 32) rfl rfl rfl rfl rfl ?_
  repeat' (first|(refine wlS ?_)|(refine wlG ?_)|(refine wlB ?_)|(refine wlE ?_)|(refine efSvvp ?_;intro v hv hp)|(refine efSvao ?_;intro v oa ho)|(refine efG ?_)|(refine efGnn ?_;intro n hn)|(refine efBnn ?_;intro n hn)|(refine efB ?_)|(refine efBS ?_)|(refine wl_skip rfl rfl ?_)|((with_reducible refine wc_seq ?_);intro K hK)|(refine auC ?_)|(refine wc_cond rfl (fun hc=>?_) (fun hc=>?_))|(refine wc_draw (by kernel_rfl) (by kernel_rfl) (by decide +kernel) ?_;intro w0 hw0 hm0;(try simp only [List.append_eq,List.cons_append,List.nil_append]))|(refine auP ?_)|((refine auR ?_);clear hK K)|(refine auR ?_)|((with_reducible refine hK _ _ ?_);clear hK K)|fail)
  first|refine end_ret (ResP.cell rfl ld_wholeG ResP.nil) ?_|refine end_normal (ResP.cell rfl ld_wholeG ResP.nil) ?_
  (try dsimp only [tupV])
  exact ⟨(),_,rfl,rfl,.skip (.skip (SubL.refl _))⟩
 ·have hM:lkM p=List.replicate 32 0:=by rw [lkM,if_neg h33]
  have hZ:lkZ p=0:=by rw [lkZ,if_neg h33]
  have hd:decide (p.length≠33)=true:=by simp [h33]
  rw [hM,hZ,hd,Bool.or_true]
  have t1:((n:Int) != 33)=true:=by rw [bne_iff_ne];omega
  refine fn_updP (N:=_) Tryd.func16 rfl Tryd.ntmps16 Tryd.results16 (by simp) hg ?_
  simp only [initS,Nat.reduceAdd,Nat.zero_add]
  repeat' (first|(refine wlS ?_)|(refine wlG ?_)|(refine wlB ?_)|(refine wlE ?_)|(refine efSvvp ?_;intro v hv hp)|(refine efSvao ?_;intro v oa ho)|(refine efG ?_)|(refine efGnn ?_;intro n hn)|(refine efBnn ?_;intro n hn)|(refine efB ?_)|(refine efBS ?_)|(refine wl_skip rfl rfl ?_)|((with_reducible refine wc_seq ?_);intro K hK)|(refine auC ?_)|(refine wc_cond rfl (fun hc=>?_) (fun hc=>?_))|(refine wc_draw (by kernel_rfl) (by kernel_rfl) (by decide +kernel) ?_;intro w0 hw0 hm0;(try simp only [List.append_eq,List.cons_append,List.nil_append]))|(refine auP ?_)|((refine auR ?_);clear hK K)|(refine auR ?_)|((with_reducible refine hK _ _ ?_);clear hK K)|fail)
  first|refine end_ret (ResP.cell rfl ld_wholeG ResP.nil) ?_|refine end_normal (ResP.cell rfl ld_wholeG ResP.nil) ?_
  (try dsimp only [tupV])
  exact ⟨(),_,rfl,rfl,.skip (.skip (SubL.refl _))⟩
instance {X:Cx}{l:Blks}{g:Nat}{p:List Nat}{e:Nat}{z:Int}[hn:NBy p 32][h:BlkAt l g (rwA [(32,bys p),(1,#[.int .i64 z])],e)][h':BLc 32 p][ht:KD X.P e true]:VwB X l (.slice (some ⟨g,0,none⟩) 32 32) 32 p:=⟨fun w hm=>by
 have hg:=(hm.cls.now g (rwA [(32,bys p),(1,#[.int .i64 z])]) e (mu_mem_of h.out hm.nd)).trans (congrArg some (toObj_cells ht.tb))
 refine ⟨⟨⟨_,_,rfl,Nat.le_refl _,by simp only [maxLen];omega,fun _=>⟨g,0,rfl⟩⟩,fun j u hj=>⟨g,0,32,rfl,?_⟩⟩,h'.out⟩
 rw [cell_of_row w g (0+j) (rwA [(32,bys p),(1,#[.int .i64 z])]) e _ hg]
 have hl:(bl p).length=32:=by rw [bl_len,hn.out]
 have hj':=(List.getElem?_eq_some_iff.1 hj).1
 simp only [rwA,rwL,List.map_cons,List.flatten_cons,bys,List.getElem?_toArray,Nat.zero_add]
 rw [List.getElem?_append_left hj']
 exact hj⟩
theorem slock_c (w:World){mk:List Nat}{z:Nat}[NBy mk 32][ByL mk](hz:z<256):Calls Tryd.prog 11 [.agg (rwA [(32,bys mk),(1,#[.int .i64 (z:Int)])])].toArray w (RetO (fun v:Value=>v) (fun v oa=>OwnB 5 v 33 (mk++[z]) oa) w):=by
 have CL:=fun w'' {v:Value} (h:Cb w'' v 32 mk)=>clone_s w'' h (by decide)
 haveI:BLc 32 mk:=⟨⟨NBy.out,ByL.out⟩,by decide⟩
 have k1:IntKind.u8.wrap (z:Int)=(z:Int):=by rw [wrapB];omega
 refine fn_own (N:=_) Tryd.func11 rfl Tryd.ntmps11 Tryd.results11 (by simp) ?_
 simp only [initS,Nat.reduceAdd,Nat.zero_add]
 repeat' (first|(refine wlS ?_)|(refine wlG ?_)|(refine wlB ?_)|(refine wlE ?_)|(refine efSvvp ?_;intro v hv hp)|(refine efSvao ?_;intro v oa ho)|((with_reducible refine sel_call ?_);first|(refine wl_newO rfl rfl rfl rfl rfl (fun w hm=>by with_reducible exact CL w (VwB.out w hm)) ?_;intro x oa hx))|(refine efBnn ?_;intro n hn)|(refine wl_skip rfl rfl ?_)|((with_reducible refine wc_seq ?_);intro K hK)|(refine auC ?_)|(refine wc_cond rfl (fun hc=>?_) (fun hc=>?_))|((with_reducible refine wc_drawT (by kernel_rfl) ?_);(try simp only [List.append_eq,List.cons_append,List.nil_append,List.length_cons,List.length_nil,Nat.reduceAdd]))|((with_reducible refine sel_wh ?_);(refine wh_if (by decide +kernel) ?_);first|(refine wh_take (lq:=[]) rfl rfl rfl rfl (by first|exact rvS|exact rvG|exact rvB|exact rvE) (Or.inl rfl) ?_)|(refine wh_takeL rfl rfl rfl rfl (by first|exact rvS|exact rvG|exact rvB|exact rvE) (by decide +kernel) ?_))|(refine whS ?_;intro v hv hp)|((with_reducible refine sel_wh ?_);first|(refine wh_pass rfl rfl rfl rfl ?_)|(refine wh_done rfl ?_)|(refine wh_all rfl ?_))|((with_reducible refine sel_rest ?_);first|exact rest_nil rfl|refine rest_cons rfl rfl ?_ ?_)|((with_reducible refine sel_nx ?_);first|refine next_of ?_|refine next_late (by decide +kernel) ?_)|(refine auP ?_)|((refine auR ?_);clear hK K)|(refine auR ?_)|((with_reducible refine hK _ _ ?_);clear hK K)|fail)
 all_goals (first|refine end_ret (ResP.tmp rfl ResP.nil) ?_|refine end_normal (ResP.tmp rfl ResP.nil) ?_)
 all_goals (try dsimp only [tupV])
 ·exact ⟨_,_,rfl,ho,.skip (SubL.headA _ _)⟩
 ·exact ⟨_,_,rfl,ho,.skip (SubL.skipA (SubL.refl _) _)⟩
end Go.Proofs.YthigacbelefadaaDoor
namespace Go.Proofs.YthigacbelefadaaDoor
set_option linter.unusedVariables false
set_option linter.unusedSimpArgs false
def lenD:List Nat→Nat×Nat×Nat
 | []=>(3,0,0)
 | k::r=>if k<128 then (0,k,1) else if k=128∨k>130 then (4,0,0) else if r.length+1<k - 127 then (3,0,0)
  else if k=129 then (if r.getD 0 0<128 then (4,0,0) else (0,r.getD 0 0,2))
  else (if r.getD 0 0 * 256+r.getD 1 0<256 then (4,0,0) else (0,r.getD 0 0 * 256+r.getD 1 0,3))
def firstD:List Nat→Nat×(Nat×List Nat)×Nat
 | []=>(3,(0,[]),0)
 | t::r=>if (lenD r).1≠0 then ((lenD r).1,(0,[]),0) else if (lenD r).2.1>4096 then (2,(0,[]),0) else if (lenD r).2.1>r.length - (lenD r).2.2 then (3,(0,[]),0)
  else (0,(t,(r.drop (lenD r).2.2).take (lenD r).2.1),1+(lenD r).2.2+(lenD r).2.1)
theorem lenD_a {k:Nat}(h:k<128)(r:List Nat):lenD (k::r)=(0,k,1):=by rw [lenD,if_pos h]
theorem lenD_b {k:Nat}(h:k=128∨k>130)(r:List Nat):lenD (k::r)=(4,0,0):=by rw [lenD,if_neg (by omega),if_pos h]
theorem lenD_129s:lenD [129]=(3,0,0):=rfl
theorem lenD_129 (b:Nat)(r:List Nat):lenD (129::b::r)=if b<128 then (4,0,0) else (0,b,2):=by
 rw [lenD,if_neg (by omega),if_neg (by omega),if_neg (by simp only [List.length_cons];omega),if_pos rfl];rfl
theorem lenD_130s:lenD [130]=(3,0,0):=rfl
theorem lenD_130t (b:Nat):lenD [130,b]=(3,0,0):=rfl
theorem lenD_130 (b c:Nat)(r:List Nat):lenD (130::b::c::r)=if b * 256+c<256 then (4,0,0) else (0,b * 256+c,3):=by
 rw [lenD,if_neg (by omega),if_neg (by omega),if_neg (by simp only [List.length_cons];omega),if_neg (by omega)];rfl
theorem firstD_cons (t:Nat)(r:List Nat):firstD (t::r)=if (lenD r).1≠0 then ((lenD r).1,(0,[]),0) else if (lenD r).2.1>4096 then (2,(0,[]),0) else if (lenD r).2.1>r.length - (lenD r).2.2 then (3,(0,[]),0)
  else (0,(t,(r.drop (lenD r).2.2).take (lenD r).2.1),1+(lenD r).2.2+(lenD r).2.1):=rfl
theorem lenD_ways {M:List Nat→Prop}(h0:M [])(h1:∀ k r,k<128→M (k::r))(h2:∀ k r,k=128∨k>130→M (k::r))(h3:M [129])(h4:∀ b r,M (129::b::r))(h5:M [130])(h6:∀ b,M [130,b])(h7:∀ b c r,M (130::b::c::r)):∀ r,M r
 | []=>h0
 | k::r=>by
  by_cases c1:k<128
  ·exact h1 k r c1
  ·by_cases c2:k=128∨k>130
   ·exact h2 k r c2
   ·by_cases c3:k=129
    ·subst c3
     cases r with
     | nil=>exact h3
     | cons b r=>exact h4 b r
    ·obtain rfl:k=130:=by omega
     match r with
     | []=>exact h5
     | [b]=>exact h6 b
     | b::c::r=>exact h7 b c r
theorem lenD_at:∀ {r:List Nat},(lenD r).1=0→1≤(lenD r).2.2∧(lenD r).2.2≤3∧(lenD r).2.2≤r.length:=fun {r}=>by
 refine lenD_ways (M:=fun r=>(lenD r).1=0→1≤(lenD r).2.2∧(lenD r).2.2≤3∧(lenD r).2.2≤r.length) ?_ ?_ ?_ ?_ ?_ ?_ ?_ ?_ r
 ·intro h;simp [lenD] at h
 ·intro k r hk _;rw [lenD_a hk];simp
 ·intro k r hk h;rw [lenD_b hk] at h;simp at h
 ·intro h;simp [lenD_129s] at h
 ·intro b r h
  rw [lenD_129] at h ⊢
  by_cases c:b<128
  ·rw [if_pos c] at h;simp at h
  ·rw [if_neg c];simp
 ·intro h;simp [lenD_130s] at h
 ·intro b h;simp [lenD_130t] at h
 ·intro b c r h
  rw [lenD_130] at h ⊢
  by_cases c5:b * 256+c<256
  ·rw [if_pos c5] at h;simp at h
  ·rw [if_neg c5];simp
theorem lenD_head {t n:Nat}(hn:n≤4096)(s:List Nat):∃ r a,headL t n=t::r∧lenD (r++s)=(0,n,a)∧r.length=a:=by
 unfold headL
 by_cases c1:n<128
 ·exact ⟨[n],1,by simp [c1],lenD_a c1 _,rfl⟩
 ·by_cases c2:n<256
  ·refine ⟨[129,n],2,by simp [c1,c2],?_,rfl⟩
   show lenD (129::n::s)=_
   rw [lenD_129,if_neg c1]
  ·refine ⟨[130,n / 256 % 256,n % 256],3,by simp [c1,c2],?_,rfl⟩
   have e:n / 256 % 256 * 256+n % 256=n:=by omega
   show lenD (130::(n / 256 % 256)::(n % 256)::s)=_
   rw [lenD_130,e,if_neg c2]
theorem firstD_wr1 {x:Nat×List Nat}(hx:x.2.length≤4096)(s:List Nat):firstD (wr1 x++s)=(0,x,(wr1 x).length):=by
 obtain ⟨t,q⟩:=x
 dsimp only at hx
 obtain ⟨r,a,h1,h2,h3⟩:=lenD_head (t:=t) hx (q++s)
 have h4:wr1 (t,q)++s=t::(r++(q++s)):=by rw [wr1,h1];simp
 have h5:(r++(q++s)).length - a=q.length+s.length:=by simp only [List.length_append];omega
 have h6:((r++(q++s)).drop a).take q.length=q:=by rw [List.drop_left' h3,List.take_left]
 have h7:(wr1 (t,q)).length=1+a+q.length:=by rw [wr1,h1];simp only [List.length_append,List.length_cons];omega
 rw [h4,firstD_cons,h2]
 dsimp only
 rw [h5,h6,h7,if_neg (by simp),if_neg (by omega),if_neg (by omega)]
theorem lenD_back:∀ {r:List Nat},(∀ y∈r,y<256)→(lenD r).1=0→∀ t:Nat,headL t (lenD r).2.1=t::r.take (lenD r).2.2:=fun {r}=>by
 refine lenD_ways (M:=fun r=>(∀ y∈r,y<256)→(lenD r).1=0→∀ t:Nat,headL t (lenD r).2.1=t::r.take (lenD r).2.2) ?_ ?_ ?_ ?_ ?_ ?_ ?_ ?_ r
 ·intro _ h;simp [lenD] at h
 ·intro k r hk _ _ t;rw [lenD_a hk];simp [headL,hk]
 ·intro k r hk _ h;rw [lenD_b hk] at h;simp at h
 ·intro _ h;simp [lenD_129s] at h
 ·intro b r hb h t
  rw [lenD_129] at h ⊢
  by_cases c:b<128
  ·rw [if_pos c] at h;simp at h
  ·rw [if_neg c]
   have h1:b<256:=hb b (by simp)
   simp [headL,c,h1]
 ·intro _ h;simp [lenD_130s] at h
 ·intro b _ h;simp [lenD_130t] at h
 ·intro b c r hb h t
  rw [lenD_130] at h ⊢
  by_cases c5:b * 256+c<256
  ·rw [if_pos c5] at h;simp at h
  ·rw [if_neg c5]
   have h1:b<256:=hb b (by simp)
   have h2:c<256:=hb c (by simp)
   have e1:(b * 256+c) / 256 % 256=b:=by omega
   have e2:(b * 256+c) % 256=c:=by omega
   dsimp only
   rw [headL,if_neg (by omega),if_neg c5,e1,e2]
   rfl
theorem firstD_back {p:List Nat}(hb:∀ y∈p,y<256){x:Nat×List Nat}{n:Nat}(h:firstD p=(0,x,n)):p=wr1 x++p.drop n∧n=(wr1 x).length∧x.2.length≤4096∧x.1<256:=by
 cases p with
 | nil=>simp [firstD] at h
 | cons t r=>
  rw [firstD_cons] at h
  by_cases c1:(lenD r).1≠0
  ·rw [if_pos c1] at h;exact absurd (congrArg (·.1) h) c1
  ·rw [if_neg c1] at h
   by_cases c2:(lenD r).2.1>4096
   ·rw [if_pos c2] at h;simp at h
   ·rw [if_neg c2] at h
    by_cases c3:(lenD r).2.1>r.length - (lenD r).2.2
    ·rw [if_pos c3] at h;simp at h
    ·rw [if_neg c3] at h
     have c1':(lenD r).1=0:=Decidable.of_not_not c1
     obtain ⟨a1,a2,a3⟩:=lenD_at c1'
     have hbk:=lenD_back (fun y hy=>hb y (by simp [hy])) c1' t
     simp only [Prod.mk.injEq,true_and] at h
     obtain ⟨rfl,rfl⟩:=h
     have hl:((r.drop (lenD r).2.2).take (lenD r).2.1).length=(lenD r).2.1:=by rw [List.length_take,List.length_drop];omega
     have hw:wr1 (t,(r.drop (lenD r).2.2).take (lenD r).2.1)=t::(r.take (lenD r).2.2++(r.drop (lenD r).2.2).take (lenD r).2.1):=by
      rw [wr1];dsimp only;rw [hl,hbk];rfl
     have hd:r=r.take (lenD r).2.2++((r.drop (lenD r).2.2).take (lenD r).2.1++r.drop ((lenD r).2.2+(lenD r).2.1)):=by
      rw [←List.drop_drop,List.take_append_drop,List.take_append_drop]
     refine ⟨?_,?_,by dsimp only;omega,hb t (by simp)⟩
     ·rw [hw,show 1+(lenD r).2.2+(lenD r).2.1=(lenD r).2.2+(lenD r).2.1+1 by omega,List.drop_succ_cons]
      rw [List.cons_append,List.append_assoc,←hd]
     ·rw [hw];simp only [List.length_cons,List.length_append,List.length_take,List.length_drop];omega
theorem firstD_short {t:Nat}{r:List Nat}(h:(lenD r).1=3∨((lenD r).1=0∧(lenD r).2.1≤4096∧(lenD r).2.1>r.length - (lenD r).2.2)):firstD (t::r)=(3,(0,[]),0):=by
 rw [firstD_cons]
 rcases h with h | ⟨h1,h2,h3⟩
 ·rw [if_pos (by omega),h]
 ·rw [if_neg (by omega),if_neg (by omega),if_pos h3]
theorem firstD_cut {x:Nat×List Nat}(hx:x.2.length≤4096){k:Nat}(hk:k<(wr1 x).length):firstD ((wr1 x).take k)=(3,(0,[]),0):=by
 obtain ⟨t,q⟩:=x
 dsimp only at hx
 cases k with
 | zero=>rfl
 | succ k=>
  unfold wr1 headL at hk ⊢
  dsimp only at hk ⊢
  by_cases c1:q.length<128
  ·rw [if_pos c1] at hk ⊢
   cases k with
   | zero=>exact firstD_short (.inl rfl)
   | succ k=>
    simp only [List.cons_append,List.nil_append,List.length_cons] at hk
    simp only [List.cons_append,List.nil_append,List.take_succ_cons]
    refine firstD_short (.inr ?_)
    rw [lenD_a c1]
    refine ⟨rfl,by dsimp only;omega,?_⟩
    dsimp only
    rw [List.length_cons,List.length_take]
    omega
  ·rw [if_neg c1] at hk ⊢
   by_cases c2:q.length<256
   ·rw [if_pos c2] at hk ⊢
    match k with
    | 0=>exact firstD_short (.inl rfl)
    | 1=>exact firstD_short (.inl rfl)
    | k+2=>
     simp only [List.cons_append,List.nil_append,List.length_cons] at hk
     simp only [List.cons_append,List.nil_append,List.take_succ_cons]
     refine firstD_short (.inr ?_)
     rw [lenD_129,if_neg c1]
     refine ⟨rfl,by dsimp only;omega,?_⟩
     dsimp only
     rw [List.length_cons,List.length_cons,List.length_take]
     omega
   ·rw [if_neg c2] at hk ⊢
    have e:q.length / 256 % 256 * 256+q.length % 256=q.length:=by omega
    match k with
    | 0=>exact firstD_short (.inl rfl)
    | 1=>exact firstD_short (.inl rfl)
    | 2=>exact firstD_short (.inl rfl)
    | k+3=>
     simp only [List.cons_append,List.nil_append,List.length_cons] at hk
     simp only [List.cons_append,List.nil_append,List.take_succ_cons]
     refine firstD_short (.inr ?_)
     rw [lenD_130,e,if_neg c2]
     refine ⟨rfl,by dsimp only;omega,?_⟩
     dsimp only
     rw [List.length_cons,List.length_cons,List.length_cons,List.length_take]
     omega
def rdL:Nat→Nat→List Nat→Nat×List (Nat×List Nat)
 | 0,_,_=>(0,[])
 | _+1,_,[]=>(0,[])
 | f+1,c,y::r=>if c=200 then (2,[]) else if (firstD (y::r)).1≠0 then ((firstD (y::r)).1,[])
  else if (rdL f (c+1) ((y::r).drop (firstD (y::r)).2.2)).1≠0 then ((rdL f (c+1) ((y::r).drop (firstD (y::r)).2.2)).1,[])
  else (0,(firstD (y::r)).2.1::(rdL f (c+1) ((y::r).drop (firstD (y::r)).2.2)).2)
def rdD (p:List Nat):Nat×List (Nat×List Nat):=if p.length>65536 then (2,[]) else rdL p.length 0 p
theorem wr1_pos (x:Nat×List Nat):2≤(wr1 x).length:=by
 have:=(headL_len x.1 x.2.length).2
 rw [wr1,List.length_append];omega
theorem wr1_ne (x:Nat×List Nat)(s:List Nat):wr1 x++s≠[]:=fun h=>by
 have h1:=congrArg List.length h
 have h2:=wr1_pos x
 rw [List.length_append,List.length_nil] at h1
 omega
theorem rdL_step {f c:Nat}{p:List Nat}(hp:p≠[])(hc:c≠200){x:Nat×List Nat}{n:Nat}(h:firstD p=(0,x,n)) :
  rdL (f+1) c p=if (rdL f (c+1) (p.drop n)).1≠0 then ((rdL f (c+1) (p.drop n)).1,[]) else (0,x::(rdL f (c+1) (p.drop n)).2):=by
 cases p with
 | nil=>exact absurd rfl hp
 | cons y r=>rw [rdL,h,if_neg hc,if_neg (by simp)]
theorem rdL_wrL:∀ (l:List (Nat×List Nat)) (f c:Nat),(∀ x∈l,x.2.length≤4096)→c+l.length≤200→(wrL l).length≤f→rdL f c (wrL l)=(0,l)
 | [],f,c,_,_,_=>by cases f <;> rfl
 | x::r,f,c,h,hc,hf=>by
  have hx:=h x (by simp)
  have e:wrL (x::r)=wr1 x++wrL r:=by rw [show x::r=[x]++r from rfl,wrL_app,wrL_one]
  have hp:=wr1_pos x
  rw [e,List.length_append] at hf
  simp only [List.length_cons] at hc
  obtain ⟨f,rfl⟩:∃ g,f=g+1:=⟨f - 1,by omega⟩
  rw [e,rdL_step (wr1_ne _ _) (by omega) (firstD_wr1 hx (wrL r)),List.drop_left,rdL_wrL r f (c+1) (fun y hy=>h y (by simp [hy])) (by omega) (by omega)]
  simp
theorem rdL_back:∀ (f c:Nat) (p:List Nat),(∀ y∈p,y<256)→p.length≤f→(rdL f c p).1=0→c≤200→p=wrL (rdL f c p).2∧(∀ x∈(rdL f c p).2,x.2.length≤4096∧x.1<256)∧c+(rdL f c p).2.length≤200
 | 0,c,p,_,hf,_,hc=>by
  obtain rfl:p=[]:=List.eq_nil_of_length_eq_zero (by omega)
  exact ⟨rfl,by simp [rdL],by simp [rdL];exact hc⟩
 | f+1,c,[],_,_,_,hc=>⟨rfl,by simp [rdL],by simp [rdL];exact hc⟩
 | f+1,c,y::r,hb,hf,h,hc=>by
  by_cases c1:c=200
  ·rw [rdL,if_pos c1] at h;simp at h
  by_cases c2:(firstD (y::r)).1≠0
  ·rw [rdL,if_neg c1,if_pos c2] at h;exact absurd h c2
  have c2':(firstD (y::r)).1=0:=Decidable.of_not_not c2
  obtain ⟨x,n,hx⟩:∃ x n,firstD (y::r)=(0,x,n):=⟨_,_,Prod.ext c2' rfl⟩
  obtain ⟨b1,b2,b3,b4⟩:=firstD_back hb hx
  have hs:=rdL_step (f:=f) (c:=c) (p:=y::r) (by simp) c1 hx
  rw [hs] at h ⊢
  have hn:=wr1_pos x
  by_cases c3:(rdL f (c+1) ((y::r).drop n)).1≠0
  ·rw [if_pos c3] at h;exact absurd h c3
  rw [if_neg c3]
  have c3':(rdL f (c+1) ((y::r).drop n)).1=0:=Decidable.of_not_not c3
  obtain ⟨i1,i2,i3⟩:=rdL_back f (c+1) ((y::r).drop n) (fun z hz=>hb z (List.mem_of_mem_drop hz)) (by rw [List.length_drop];generalize (y::r).length=L at *;omega) c3' (by omega)
  refine ⟨?_,?_,by simp only [List.length_cons];omega⟩
  ·dsimp only
   rw [show x::(rdL f (c+1) ((y::r).drop n)).2=[x]++(rdL f (c+1) ((y::r).drop n)).2 from rfl,wrL_app,wrL_one,←i1]
   exact b1
  ·intro z hz
   rcases List.mem_cons.1 hz with rfl|hz
   ·exact ⟨b3,b4⟩
   ·exact i2 z hz
theorem rdL_cut:∀ (l:List (Nat×List Nat)) (f c:Nat) (x:Nat×List Nat) (k:Nat),(∀ y∈l,y.2.length≤4096)→x.2.length≤4096→0<k→k<(wr1 x).length→c+l.length<200→(wrL l).length+k≤f→rdL f c (wrL l++(wr1 x).take k)=(3,[])
 | [],f,c,x,k,_,hx,hk,hkl,hc,hf=>by
  have e:wrL []++(wr1 x).take k=(wr1 x).take k:=rfl
  rw [e]
  have hlen:((wr1 x).take k).length=k:=by rw [List.length_take];omega
  have hf':0<f:=by simp [wrL] at hf;omega
  obtain ⟨f,rfl⟩:∃ g,f=g+1:=⟨f - 1,by omega⟩
  have hc1:=firstD_cut hx hkl
  cases hq:(wr1 x).take k with
  | nil=>rw [hq] at hlen;simp at hlen;omega
  | cons y r=>
   rw [hq] at hc1
   rw [rdL,hc1,if_neg (by simp at hc;omega),if_pos (by simp)]
 | z::r,f,c,x,k,h,hx,hk,hkl,hc,hf=>by
  have hz:=h z (by simp)
  have e:wrL (z::r)=wr1 z++wrL r:=by rw [show z::r=[z]++r from rfl,wrL_app,wrL_one]
  have hp:=wr1_pos z
  rw [e,List.length_append] at hf
  simp only [List.length_cons] at hc
  obtain ⟨f,rfl⟩:∃ g,f=g+1:=⟨f - 1,by omega⟩
  rw [e,List.append_assoc,rdL_step (wr1_ne _ _) (by omega) (firstD_wr1 hz _),List.drop_left,rdL_cut r f (c+1) x k (fun y hy=>h y (by simp [hy])) hx hk hkl (by omega) (by omega)]
  simp
end Go.Proofs.YthigacbelefadaaDoor
namespace Go.Proofs.YthigacbelefadaaDoor
open Go.RowKit
set_option linter.unusedVariables false
set_option maxRecDepth 100000
set_option linter.unusedSimpArgs false
theorem or_i64 {a b:Nat}(ha:a<4294967296)(hb:b<4294967296):bits .or .i64 (a:Int) (b:Int)=((a ||| b:Nat):Int):=by
 have hx:a ||| b<4294967296:=Nat.or_lt_two_pow (n:=32) ha hb
 have h1:(BitVec.ofInt 64 (a:Int)).toNat=a:=by
  rw [BitVec.ofInt_natCast,BitVec.toNat_ofNat];exact Nat.mod_eq_of_lt (by omega)
 have h2:(BitVec.ofInt 64 (b:Int)).toNat=b:=by
  rw [BitVec.ofInt_natCast,BitVec.toNat_ofNat];exact Nat.mod_eq_of_lt (by omega)
 show IntKind.i64.wrap ((BitVec.ofInt 64 (a:Int) ||| BitVec.ofInt 64 (b:Int)).toNat:Int)=_
 rw [BitVec.toNat_or,h1,h2]
 exact wrap_i64 _ (by omega) (by omega)
theorem or_byte {b c:Nat}(hb:b<256)(hc:c<256):bits .or .i64 ((b * 256:Nat):Int) (c:Int)=((b * 256+c:Nat):Int):=by
 rw [or_i64 (by omega) (by omega)]
 have:=Nat.shiftLeft_add_eq_or_of_lt (i:=8) (show c<2 ^ 8 by omega) b
 rw [Nat.shiftLeft_eq] at this
 rw [←this]
def lenV (x:Nat×Nat×Nat):Value:=.tuple #[.int .i64 (x.2.1:Int),.int .i64 (x.2.2:Int),.int .i64 (x.1:Int)]
set_option maxHeartbeats 4000000 in
theorem len_c (w:World){v:Value}{m:Nat}{p:List Nat}(h:Cb w v m p):Calls Tryd.prog 50 [v].toArray w (Ret (lenV (lenD p)) w):=by
 have i0:=h.old
 have hpl:=h.ok.len
 have hpb:=h.ok.by'
 have hmm:m≤maxLen:=by obtain ⟨_,_,_,h1,h2,_⟩:=i0.cs.ln.out;omega
 simp only [maxLen] at hmm
 clear h
 revert i0 hpl hpb
 refine lenD_ways (M:=fun p=>CsB (Old w []) v m p→p.length=m→(∀ x∈p,x<256)→Calls Tryd.prog 50 [v].toArray w (Ret (lenV (lenD p)) w)) ?_ ?_ ?_ ?_ ?_ ?_ ?_ ?_ p
 ·rintro i0 rfl -
  have t1:(((([]:List Nat).length:Nat):Int) == 0)=true:=rfl
  refine fn_ret (N:=_) Tryd.func50 rfl Tryd.ntmps50 Tryd.results50 (by simp) ?_
  simp only [initS,Nat.reduceAdd,Nat.zero_add]
  repeat' (first|(refine wlS ?_)|(refine wlB ?_)|(refine wlE ?_)|(refine efSvao ?_;intro v oa ho)|(refine wl_skip rfl rfl ?_)|(refine wdS ?_)|(refine wdV ?_)|(refine wdB ?_)|(refine wd_skip rfl rfl ?_)|((with_reducible refine seld_nil ?_);refine wd_nil hm0 ?_;clear hm0 hw0)|((with_reducible refine wc_seq ?_);intro K hK)|(refine auC ?_)|(refine wc_cond rfl (fun hc=>?_) (fun hc=>?_))|(refine wc_draw (by kernel_rfl) (by kernel_rfl) (by decide +kernel) ?_;intro w0 hw0 hm0;(try simp only [List.append_eq,List.cons_append,List.nil_append]))|(refine auP ?_)|((refine auR ?_);clear hK K)|(refine auR ?_)|((with_reducible refine hK _ _ ?_);clear hK K)|fail)
  first|refine end_ret (ResP.tmp rfl (ResP.tmp rfl (ResP.tmp rfl ResP.nil))) ?_|refine end_normal (ResP.tmp rfl (ResP.tmp rfl (ResP.tmp rfl ResP.nil))) ?_
  first|rfl|(show _=_;rfl)|(simp only [tupV, *];done)
 ·intro k r hk i0 hl hb
  simp only [List.length_cons] at hl
  have t1:((m:Int) == 0)=false:=by simp only [beq_eq_false_iff_ne,ne_eq];omega
  have g0:(bl (k::r))[0]? = some (.int .u8 (k:Int)):=rfl
  have j0:0<m:=by omega
  have t2:decide ((k:Int)<128)=true:=decide_eq_true (by omega)
  have t3:IntKind.i64.wrap (k:Int)=(k:Int):=wrap_i64 _ (by omega) (by omega)
  rw [lenD_a hk]
  refine fn_ret (N:=_) Tryd.func50 rfl Tryd.ntmps50 Tryd.results50 (by simp) ?_
  simp only [initS,Nat.reduceAdd,Nat.zero_add]
  repeat' (first|(refine wlS ?_)|(refine wlB ?_)|(refine wlE ?_)|(refine efSvao ?_;intro v oa ho)|(refine wl_skip rfl rfl ?_)|(refine wdS ?_)|(refine wdV ?_)|(refine wdB ?_)|(refine wd_skip rfl rfl ?_)|((with_reducible refine seld_nil ?_);refine wd_nil hm0 ?_;clear hm0 hw0)|((with_reducible refine wc_seq ?_);intro K hK)|(refine auC ?_)|(refine wc_cond rfl (fun hc=>?_) (fun hc=>?_))|(refine wc_draw (by kernel_rfl) (by kernel_rfl) (by decide +kernel) ?_;intro w0 hw0 hm0;(try simp only [List.append_eq,List.cons_append,List.nil_append]))|(refine auP ?_)|((refine auR ?_);clear hK K)|(refine auR ?_)|((with_reducible refine hK _ _ ?_);clear hK K)|fail)
  first|refine end_ret (ResP.tmp rfl (ResP.tmp rfl (ResP.tmp rfl ResP.nil))) ?_|refine end_normal (ResP.tmp rfl (ResP.tmp rfl (ResP.tmp rfl ResP.nil))) ?_
  first|rfl|(show _=_;rfl)|(simp only [tupV, *];done)
 ·intro k r hk i0 hl hb
  have hk8:=hb k (by simp)
  simp only [List.length_cons] at hl
  have t1:((m:Int) == 0)=false:=by simp only [beq_eq_false_iff_ne,ne_eq];omega
  have g0:(bl (k::r))[0]? = some (.int .u8 (k:Int)):=rfl
  have j0:0<m:=by omega
  have t2:decide ((k:Int)<128)=false:=decide_eq_false (by omega)
  rw [lenD_b hk]
  by_cases c:k=128
  ·have t3:((k:Int) == 128)=true:=by rw [c];rfl
   refine fn_ret (N:=_) Tryd.func50 rfl Tryd.ntmps50 Tryd.results50 (by simp) ?_
   simp only [initS,Nat.reduceAdd,Nat.zero_add]
   repeat' (first|(refine wlS ?_)|(refine wlB ?_)|(refine wlE ?_)|(refine efSvao ?_;intro v oa ho)|(refine wl_skip rfl rfl ?_)|(refine wdS ?_)|(refine wdV ?_)|(refine wdB ?_)|(refine wd_skip rfl rfl ?_)|((with_reducible refine seld_nil ?_);refine wd_nil hm0 ?_;clear hm0 hw0)|((with_reducible refine wc_seq ?_);intro K hK)|(refine auC ?_)|(refine wc_cond rfl (fun hc=>?_) (fun hc=>?_))|(refine wc_draw (by kernel_rfl) (by kernel_rfl) (by decide +kernel) ?_;intro w0 hw0 hm0;(try simp only [List.append_eq,List.cons_append,List.nil_append]))|(refine auP ?_)|((refine auR ?_);clear hK K)|(refine auR ?_)|((with_reducible refine hK _ _ ?_);clear hK K)|fail)
   first|refine end_ret (ResP.tmp rfl (ResP.tmp rfl (ResP.tmp rfl ResP.nil))) ?_|refine end_normal (ResP.tmp rfl (ResP.tmp rfl (ResP.tmp rfl ResP.nil))) ?_
   first|rfl|(show _=_;rfl)|(simp only [tupV, *];done)
  ·have t3:((k:Int) == 128)=false:=by simp only [beq_eq_false_iff_ne,ne_eq];omega
   have t4:decide ((k:Int)>130)=true:=decide_eq_true (by omega)
   refine fn_ret (N:=_) Tryd.func50 rfl Tryd.ntmps50 Tryd.results50 (by simp) ?_
   simp only [initS,Nat.reduceAdd,Nat.zero_add]
   repeat' (first|(refine wlS ?_)|(refine wlB ?_)|(refine wlE ?_)|(refine efSvao ?_;intro v oa ho)|(refine wl_skip rfl rfl ?_)|(refine wdS ?_)|(refine wdV ?_)|(refine wdB ?_)|(refine wd_skip rfl rfl ?_)|((with_reducible refine seld_nil ?_);refine wd_nil hm0 ?_;clear hm0 hw0)|((with_reducible refine wc_seq ?_);intro K hK)|(refine auC ?_)|(refine wc_cond rfl (fun hc=>?_) (fun hc=>?_))|(refine wc_draw (by kernel_rfl) (by kernel_rfl) (by decide +kernel) ?_;intro w0 hw0 hm0;(try simp only [List.append_eq,List.cons_append,List.nil_append]))|(refine auP ?_)|((refine auR ?_);clear hK K)|(refine auR ?_)|((with_reducible refine hK _ _ ?_);clear hK K)|fail)
   first|refine end_ret (ResP.tmp rfl (ResP.tmp rfl (ResP.tmp rfl ResP.nil))) ?_|refine end_normal (ResP.tmp rfl (ResP.tmp rfl (ResP.tmp rfl ResP.nil))) ?_
   first|rfl|(show _=_;rfl)|(simp only [tupV, *];done)
 ·intro i0 hl hb
  obtain rfl:m=1:=by rw [←hl];rfl
  have g0:(bl [129])[0]? = some (.int .u8 129):=rfl
  refine fn_ret (N:=_) Tryd.func50 rfl Tryd.ntmps50 Tryd.results50 (by simp) ?_
  simp only [initS,Nat.reduceAdd,Nat.zero_add]
  repeat' (first|(refine wlS ?_)|(refine wlB ?_)|(refine wlE ?_)|(refine efSvao ?_;intro v oa ho)|(refine wl_skip rfl rfl ?_)|(refine wdS ?_)|(refine wdV ?_)|(refine wdB ?_)|(refine wd_skip rfl rfl ?_)|((with_reducible refine seld_nil ?_);refine wd_nil hm0 ?_;clear hm0 hw0)|((with_reducible refine wc_seq ?_);intro K hK)|(refine auC ?_)|(refine wc_cond rfl (fun hc=>?_) (fun hc=>?_))|(refine wc_draw (by kernel_rfl) (by kernel_rfl) (by decide +kernel) ?_;intro w0 hw0 hm0;(try simp only [List.append_eq,List.cons_append,List.nil_append]))|(refine auP ?_)|((refine auR ?_);clear hK K)|(refine auR ?_)|((with_reducible refine hK _ _ ?_);clear hK K)|fail)
  first|refine end_ret (ResP.tmp rfl (ResP.tmp rfl (ResP.tmp rfl ResP.nil))) ?_|refine end_normal (ResP.tmp rfl (ResP.tmp rfl (ResP.tmp rfl ResP.nil))) ?_
  first|rfl|(show _=_;rfl)|(simp only [tupV, *];done)
 ·intro b r i0 hl hb
  have hb8:=hb b (by simp)
  simp only [List.length_cons] at hl
  have t1:((m:Int) == 0)=false:=by simp only [beq_eq_false_iff_ne,ne_eq];omega
  have g0:(bl (129::b::r))[0]? = some (.int .u8 129):=rfl
  have g1:(bl (129::b::r))[1]? = some (.int .u8 (b:Int)):=rfl
  have j0:0<m:=by omega
  have j1:1<m:=by omega
  have t3:decide ((m:Int)<2)=false:=decide_eq_false (by omega)
  have t4:IntKind.i64.wrap (b:Int)=(b:Int):=wrap_i64 _ (by omega) (by omega)
  rw [lenD_129]
  by_cases c:b<128
  ·rw [if_pos c]
   have t5:decide ((b:Int)<128)=true:=decide_eq_true (by omega)
   refine fn_ret (N:=_) Tryd.func50 rfl Tryd.ntmps50 Tryd.results50 (by simp) ?_
   simp only [initS,Nat.reduceAdd,Nat.zero_add]
   repeat' (first|(refine wlS ?_)|(refine wlB ?_)|(refine wlE ?_)|(refine efSvao ?_;intro v oa ho)|(refine wl_skip rfl rfl ?_)|(refine wdS ?_)|(refine wdV ?_)|(refine wdB ?_)|(refine wd_skip rfl rfl ?_)|((with_reducible refine seld_nil ?_);refine wd_nil hm0 ?_;clear hm0 hw0)|((with_reducible refine wc_seq ?_);intro K hK)|(refine auC ?_)|(refine wc_cond rfl (fun hc=>?_) (fun hc=>?_))|(refine wc_draw (by kernel_rfl) (by kernel_rfl) (by decide +kernel) ?_;intro w0 hw0 hm0;(try simp only [List.append_eq,List.cons_append,List.nil_append]))|(refine auP ?_)|((refine auR ?_);clear hK K)|(refine auR ?_)|((with_reducible refine hK _ _ ?_);clear hK K)|fail)
   first|refine end_ret (ResP.tmp rfl (ResP.tmp rfl (ResP.tmp rfl ResP.nil))) ?_|refine end_normal (ResP.tmp rfl (ResP.tmp rfl (ResP.tmp rfl ResP.nil))) ?_
   first|rfl|(show _=_;rfl)|(simp only [tupV, *];done)
  ·rw [if_neg c]
   have t5:decide ((b:Int)<128)=false:=decide_eq_false (by omega)
   refine fn_ret (N:=_) Tryd.func50 rfl Tryd.ntmps50 Tryd.results50 (by simp) ?_
   simp only [initS,Nat.reduceAdd,Nat.zero_add]
   repeat' (first|(refine wlS ?_)|(refine wlB ?_)|(refine wlE ?_)|(refine efSvao ?_;intro v oa ho)|(refine wl_skip rfl rfl ?_)|(refine wdS ?_)|(refine wdV ?_)|(refine wdB ?_)|(refine wd_skip rfl rfl ?_)|((with_reducible refine seld_nil ?_);refine wd_nil hm0 ?_;clear hm0 hw0)|((with_reducible refine wc_seq ?_);intro K hK)|(refine auC ?_)|(refine wc_cond rfl (fun hc=>?_) (fun hc=>?_))|(refine wc_draw (by kernel_rfl) (by kernel_rfl) (by decide +kernel) ?_;intro w0 hw0 hm0;(try simp only [List.append_eq,List.cons_append,List.nil_append]))|(refine auP ?_)|((refine auR ?_);clear hK K)|(refine auR ?_)|((with_reducible refine hK _ _ ?_);clear hK K)|fail)
   first|refine end_ret (ResP.tmp rfl (ResP.tmp rfl (ResP.tmp rfl ResP.nil))) ?_|refine end_normal (ResP.tmp rfl (ResP.tmp rfl (ResP.tmp rfl ResP.nil))) ?_
   first|rfl|(show _=_;rfl)|(simp only [tupV, *];done)
 ·intro i0 hl hb
  obtain rfl:m=1:=by rw [←hl];rfl
  have g0:(bl [130])[0]? = some (.int .u8 130):=rfl
  refine fn_ret (N:=_) Tryd.func50 rfl Tryd.ntmps50 Tryd.results50 (by simp) ?_
  simp only [initS,Nat.reduceAdd,Nat.zero_add]
  repeat' (first|(refine wlS ?_)|(refine wlB ?_)|(refine wlE ?_)|(refine efSvao ?_;intro v oa ho)|(refine wl_skip rfl rfl ?_)|(refine wdS ?_)|(refine wdV ?_)|(refine wdB ?_)|(refine wd_skip rfl rfl ?_)|((with_reducible refine seld_nil ?_);refine wd_nil hm0 ?_;clear hm0 hw0)|((with_reducible refine wc_seq ?_);intro K hK)|(refine auC ?_)|(refine wc_cond rfl (fun hc=>?_) (fun hc=>?_))|(refine wc_draw (by kernel_rfl) (by kernel_rfl) (by decide +kernel) ?_;intro w0 hw0 hm0;(try simp only [List.append_eq,List.cons_append,List.nil_append]))|(refine auP ?_)|((refine auR ?_);clear hK K)|(refine auR ?_)|((with_reducible refine hK _ _ ?_);clear hK K)|fail)
  first|refine end_ret (ResP.tmp rfl (ResP.tmp rfl (ResP.tmp rfl ResP.nil))) ?_|refine end_normal (ResP.tmp rfl (ResP.tmp rfl (ResP.tmp rfl ResP.nil))) ?_
  first|rfl|(show _=_;rfl)|(simp only [tupV, *];done)
 ·intro b i0 hl hb
  obtain rfl:m=2:=by rw [←hl];rfl
  have g0:(bl [130,b])[0]? = some (.int .u8 130):=rfl
  refine fn_ret (N:=_) Tryd.func50 rfl Tryd.ntmps50 Tryd.results50 (by simp) ?_
  simp only [initS,Nat.reduceAdd,Nat.zero_add]
  repeat' (first|(refine wlS ?_)|(refine wlB ?_)|(refine wlE ?_)|(refine efSvao ?_;intro v oa ho)|(refine wl_skip rfl rfl ?_)|(refine wdS ?_)|(refine wdV ?_)|(refine wdB ?_)|(refine wd_skip rfl rfl ?_)|((with_reducible refine seld_nil ?_);refine wd_nil hm0 ?_;clear hm0 hw0)|((with_reducible refine wc_seq ?_);intro K hK)|(refine auC ?_)|(refine wc_cond rfl (fun hc=>?_) (fun hc=>?_))|(refine wc_draw (by kernel_rfl) (by kernel_rfl) (by decide +kernel) ?_;intro w0 hw0 hm0;(try simp only [List.append_eq,List.cons_append,List.nil_append]))|(refine auP ?_)|((refine auR ?_);clear hK K)|(refine auR ?_)|((with_reducible refine hK _ _ ?_);clear hK K)|fail)
  first|refine end_ret (ResP.tmp rfl (ResP.tmp rfl (ResP.tmp rfl ResP.nil))) ?_|refine end_normal (ResP.tmp rfl (ResP.tmp rfl (ResP.tmp rfl ResP.nil))) ?_
  first|rfl|(show _=_;rfl)|(simp only [tupV, *];done)
 ·intro b c r i0 hl hb
  have hb8:=hb b (by simp)
  have hc8:=hb c (by simp)
  simp only [List.length_cons] at hl
  have t1:((m:Int) == 0)=false:=by simp only [beq_eq_false_iff_ne,ne_eq];omega
  have g0:(bl (130::b::c::r))[0]? = some (.int .u8 130):=rfl
  have g1:(bl (130::b::c::r))[1]? = some (.int .u8 (b:Int)):=rfl
  have g2:(bl (130::b::c::r))[2]? = some (.int .u8 (c:Int)):=rfl
  have j0:0<m:=by omega
  have j1:1<m:=by omega
  have j2:2<m:=by omega
  have t3:decide ((m:Int)<3)=false:=decide_eq_false (by omega)
  have t4:IntKind.i64.wrap (b:Int)=(b:Int):=wrap_i64 _ (by omega) (by omega)
  have t6:IntKind.i64.wrap (c:Int)=(c:Int):=wrap_i64 _ (by omega) (by omega)
  have t7:IntKind.i64.wrap ((b:Int) * 2 ^ min ((8:Int).toNat) (IntKind.bits .i64))=((b * 256:Nat):Int):=by
   show IntKind.i64.wrap ((b:Int) * 256)=_
   rw [wrap_i64 _ (by omega) (by omega)];omega
  have t8:=or_byte hb8 hc8
  rw [lenD_130]
  by_cases e:b * 256+c<256
  ·rw [if_pos e]
   have t5:decide (((b * 256+c:Nat):Int)<256)=true:=decide_eq_true (by omega)
   refine fn_ret (N:=_) Tryd.func50 rfl Tryd.ntmps50 Tryd.results50 (by simp) ?_
   simp only [initS,Nat.reduceAdd,Nat.zero_add]
   repeat' (first|(refine wlS ?_)|(refine wlB ?_)|(refine wlE ?_)|(refine efSvao ?_;intro v oa ho)|(refine wl_skip rfl rfl ?_)|((with_reducible refine wc_seq ?_);intro K hK)|(refine auC ?_)|(refine wc_cond rfl (fun hc=>?_) (fun hc=>?_))|((with_reducible refine wc_drawT (by kernel_rfl) ?_);(try simp only [List.append_eq,List.cons_append,List.nil_append,List.length_cons,List.length_nil,Nat.reduceAdd]))|((with_reducible refine sel_wh ?_);(refine wh_if (by decide +kernel) ?_);first|(refine wh_take (lq:=[]) rfl rfl rfl rfl (by first|exact rvS|exact rvB) (Or.inl rfl) ?_)|(refine wh_takeL rfl rfl rfl rfl (by first|exact rvS|exact rvB) (by decide +kernel) ?_))|(refine whS ?_;intro v hv hp)|((with_reducible refine sel_wh ?_);first|(refine wh_pass rfl rfl rfl rfl ?_)|(refine wh_done rfl ?_)|(refine wh_all rfl ?_))|((with_reducible refine sel_rest ?_);first|exact rest_nil rfl|refine rest_cons rfl rfl ?_ ?_)|((with_reducible refine sel_nx ?_);first|refine next_of ?_|refine next_late (by decide +kernel) ?_)|(refine auP ?_)|((refine auR ?_);clear hK K)|(refine auR ?_)|((with_reducible refine hK _ _ ?_);clear hK K)|fail)
   first|refine end_ret (ResP.tmp rfl (ResP.tmp rfl (ResP.tmp rfl ResP.nil))) ?_|refine end_normal (ResP.tmp rfl (ResP.tmp rfl (ResP.tmp rfl ResP.nil))) ?_
   first|rfl|(show _=_;rfl)|(simp only [tupV, *];done)
  ·rw [if_neg e]
   have t5:decide (((b * 256+c:Nat):Int)<256)=false:=decide_eq_false (by omega)
   refine fn_ret (N:=_) Tryd.func50 rfl Tryd.ntmps50 Tryd.results50 (by simp) ?_
   simp only [initS,Nat.reduceAdd,Nat.zero_add]
   repeat' (first|(refine wlS ?_)|(refine wlB ?_)|(refine wlE ?_)|(refine efSvao ?_;intro v oa ho)|(refine wl_skip rfl rfl ?_)|((with_reducible refine wc_seq ?_);intro K hK)|(refine auC ?_)|(refine wc_cond rfl (fun hc=>?_) (fun hc=>?_))|((with_reducible refine wc_drawT (by kernel_rfl) ?_);(try simp only [List.append_eq,List.cons_append,List.nil_append,List.length_cons,List.length_nil,Nat.reduceAdd]))|((with_reducible refine sel_wh ?_);(refine wh_if (by decide +kernel) ?_);first|(refine wh_take (lq:=[]) rfl rfl rfl rfl (by first|exact rvS|exact rvB) (Or.inl rfl) ?_)|(refine wh_takeL rfl rfl rfl rfl (by first|exact rvS|exact rvB) (by decide +kernel) ?_))|(refine whS ?_;intro v hv hp)|((with_reducible refine sel_wh ?_);first|(refine wh_pass rfl rfl rfl rfl ?_)|(refine wh_done rfl ?_)|(refine wh_all rfl ?_))|((with_reducible refine sel_rest ?_);first|exact rest_nil rfl|refine rest_cons rfl rfl ?_ ?_)|((with_reducible refine sel_nx ?_);first|refine next_of ?_|refine next_late (by decide +kernel) ?_)|(refine auP ?_)|((refine auR ?_);clear hK K)|(refine auR ?_)|((with_reducible refine hK _ _ ?_);clear hK K)|fail)
   first|refine end_ret (ResP.tmp rfl (ResP.tmp rfl (ResP.tmp rfl ResP.nil))) ?_|refine end_normal (ResP.tmp rfl (ResP.tmp rfl (ResP.tmp rfl ResP.nil))) ?_
   first|rfl|(show _=_;rfl)|(simp only [tupV, *];done)
end Go.Proofs.YthigacbelefadaaDoor
namespace Go.Proofs.YthigacbelefadaaDoor
open Go.RowKit
set_option linter.unusedVariables false
set_option linter.unusedSimpArgs false
set_option maxRecDepth 100000
theorem lenD_small {r:List Nat}(hb:∀ y∈r,y<256):(lenD r).1<256∧(lenD r).2.1<65536∧(lenD r).2.2<256:=by
 revert hb
 refine lenD_ways (M:=fun r=>(∀ y∈r,y<256)→(lenD r).1<256∧(lenD r).2.1<65536∧(lenD r).2.2<256) ?_ ?_ ?_ ?_ ?_ ?_ ?_ ?_ r
 ·intro _;simp [lenD]
 ·intro k r hk hb;rw [lenD_a hk];simp;omega
 ·intro k r hk hb;rw [lenD_b hk];simp
 ·intro _;simp [lenD_129s]
 ·intro b r hb
  have:=hb b (by simp)
  rw [lenD_129];split <;> simp <;> omega
 ·intro _;simp [lenD_130s]
 ·intro b _;simp [lenD_130t]
 ·intro b c r hb
  have h1:=hb b (by simp)
  have h2:=hb c (by simp)
  rw [lenD_130];split <;> simp <;> omega
set_option maxHeartbeats 4000000 in
theorem first_err (w:World){u:Value}{m e:Nat}{p:List Nat}(h:Cb w u m p)(he:(firstD p).1=e)(h0:e≠0)(hmm:m≤1073741824) :
  Calls Tryd.prog 30 [u].toArray w (Ret (.tuple #[.agg #[.int .u8 0,.slice none 0 0],.int .i64 0,.int .i64 (e:Int)]) w):=by
 have i0:=h.old
 have hpl:=h.ok.len
 have hpb:=h.ok.by'
 have LN:∀ {v:Value} {k:Nat} {q:List Nat} w',Cb w' v k q→Calls Tryd.prog 50 [v].toArray w' (Ret (lenV (lenD q)) w'):=fun w' h=>len_c w' h
 cases p with
 | nil=>
  obtain rfl:m=0:=by rw [←hpl];rfl
  have he':e=3:=he.symm
  subst he'
  clear h LN
  refine fn_ret (N:=_) Tryd.func30 rfl Tryd.ntmps30 Tryd.results30 (by simp) ?_
  simp only [initS,Nat.reduceAdd,Nat.zero_add]
  repeat' (first|(refine wlS ?_)|(refine wlB ?_)|(refine wlE ?_)|(refine efSvvp ?_;intro v hv hp)|(refine efSvao ?_;intro v oa ho)|(refine efBnn ?_;intro n hn)|(refine efB ?_)|(refine efBS ?_)|(refine wl_skip rfl rfl ?_)|(refine wdS ?_)|(refine wdV ?_)|(refine wdB ?_)|(refine wdE ?_)|(refine wdT ?_)|(refine wdTO ?_)|(refine wd_skip rfl rfl ?_)|((with_reducible refine seld_nil ?_);refine wd_nil hm0 ?_;clear hm0 hw0)|((with_reducible refine wc_seq ?_);intro K hK)|(refine auC ?_)|(refine wc_cond rfl (fun hc=>?_) (fun hc=>?_))|(refine wc_draw (by kernel_rfl) (by kernel_rfl) (by decide +kernel) ?_;intro w0 hw0 hm0;(try simp only [List.append_eq,List.cons_append,List.nil_append]))|(refine auP ?_)|((refine auR ?_);clear hK K)|(refine auR ?_)|((with_reducible refine hK _ _ ?_);clear hK K)|fail)
  first|refine end_ret (ResP.cell rfl ld_whole (ResP.tmp rfl (ResP.tmp rfl ResP.nil))) ?_|refine end_normal (ResP.cell rfl ld_whole (ResP.tmp rfl (ResP.tmp rfl ResP.nil))) ?_
  first|rfl|(show _=_;rfl)|(simp only [tupV, *];done)
 | cons t r=>
  have t1:((m:Int) == 0)=false:=by rw [←hpl];simp only [beq_eq_false_iff_ne,ne_eq,List.length_cons];omega
  have j0:0<m:=by rw [←hpl];simp
  have j1:1≤m:=j0
  have d1:((t::r).drop 1).take (m - 1)=r:=by rw [List.drop_succ_cons,List.drop_zero];exact List.take_of_length_le (by simp only [List.length_cons] at hpl;omega)
  have hrl:r.length=m - 1:=by simp only [List.length_cons] at hpl;omega
  obtain ⟨s1,s2,s3⟩:=lenD_small (r:=r) (fun y hy=>hpb y (by simp [hy]))
  rw [firstD_cons] at he
  have hat:=fun h=>lenD_at (r:=r) h
  have LN1:∀ {v:Value} w',Cb w' v (m - 1) r→Calls Tryd.prog 50 [v].toArray w' (Ret (.tuple #[.int .i64 ((lenD r).2.1:Int),.int .i64 ((lenD r).2.2:Int),.int .i64 ((lenD r).1:Int)]) w'):=fun w' h=>len_c w' h
  clear LN h
  generalize (lenD r).1=e1 at *
  generalize (lenD r).2.1=k at *
  generalize (lenD r).2.2=a at *
  by_cases c1:e1≠0
  ·rw [if_pos c1] at he
   obtain rfl:e1=e:=he
   have t2:((e1:Int) != 0)=true:=by simp only [bne_iff_ne,ne_eq];omega
   refine fn_ret (N:=_) Tryd.func30 rfl Tryd.ntmps30 Tryd.results30 (by simp) ?_
   simp only [initS,Nat.reduceAdd,Nat.zero_add]
   repeat' (first|(refine wlS ?_)|(refine wlB ?_)|((with_reducible refine sel_call ?_);refine wl_rd rfl rfl (rd_call rfl rfl rfl (fun w hm=>by with_reducible exact LN1 w (VwB.out w hm))) ?_)|(refine wlE ?_)|(refine efSvvp ?_;intro v hv hp)|(refine efSvao ?_;intro v oa ho)|((with_reducible refine sel_slice ?_);first|(refine wl_subB (lo:=1) rfl rfl rfl rfl rfl rfl rfl rfl ?_;intro v hv hp))|(refine efBnn ?_;intro n hn)|(refine efB ?_)|(refine efBS ?_)|(refine wl_skip rfl rfl ?_)|(refine wdS ?_)|(refine wdV ?_)|(refine wdB ?_)|((with_reducible refine seld_call ?_);refine wd_rd hm0 rfl rfl rfl rfl (rd_call rfl rfl rfl (fun w hm=>by with_reducible exact LN1 w (VwB.out w hm))) ?_)|(refine wdE ?_)|(refine wdT ?_)|(refine wdTO ?_)|(refine wd_skip rfl rfl ?_)|((with_reducible refine seld_nil ?_);refine wd_nil hm0 ?_;clear hm0 hw0)|((with_reducible refine wc_seq ?_);intro K hK)|(refine auC ?_)|(refine wc_cond rfl (fun hc=>?_) (fun hc=>?_))|(refine wc_draw (by kernel_rfl) (by kernel_rfl) (by decide +kernel) ?_;intro w0 hw0 hm0;(try simp only [List.append_eq,List.cons_append,List.nil_append]))|(refine auP ?_)|((refine auR ?_);clear hK K)|(refine auR ?_)|((with_reducible refine hK _ _ ?_);clear hK K)|fail)
   first|refine end_ret (ResP.cell rfl ld_whole (ResP.tmp rfl (ResP.tmp rfl ResP.nil))) ?_|refine end_normal (ResP.cell rfl ld_whole (ResP.tmp rfl (ResP.tmp rfl ResP.nil))) ?_
   first|rfl|(show _=_;rfl)|(simp only [tupV, *];done)
  ·rw [if_neg c1] at he
   have c1':e1=0:=Decidable.of_not_not c1
   obtain ⟨a1,a2,a3⟩:=hat c1'
   subst c1'
   have t2:(((0:Nat):Int) != 0)=false:=rfl
   have t3:IntKind.i64.wrap (1+(a:Int))=((1+a:Nat):Int):=by rw [wrap_i64 _ (by omega) (by omega)];omega
   have d2:1+a≤m:=by omega
   by_cases c2:k>4096
   ·rw [if_pos c2] at he
    obtain rfl:2=e:=he
    have t4:decide ((k:Int)>4096)=true:=decide_eq_true (by omega)
    refine fn_ret (N:=_) Tryd.func30 rfl Tryd.ntmps30 Tryd.results30 (by simp) ?_
    simp only [initS,Nat.reduceAdd,Nat.zero_add]
    repeat' (first|(refine wlS ?_)|(refine wlB ?_)|((with_reducible refine sel_call ?_);refine wl_rd rfl rfl (rd_call rfl rfl rfl (fun w hm=>by with_reducible exact LN1 w (VwB.out w hm))) ?_)|(refine wlE ?_)|(refine efSvvp ?_;intro v hv hp)|(refine efSvao ?_;intro v oa ho)|((with_reducible refine sel_slice ?_);first|(refine wl_subB (lo:=1) rfl rfl rfl rfl rfl rfl rfl rfl ?_;intro v hv hp))|(refine efBnn ?_;intro n hn)|(refine efB ?_)|(refine efBS ?_)|(refine wl_skip rfl rfl ?_)|(refine wdS ?_)|(refine wdV ?_)|(refine wdB ?_)|((with_reducible refine seld_call ?_);refine wd_rd hm0 rfl rfl rfl rfl (rd_call rfl rfl rfl (fun w hm=>by with_reducible exact LN1 w (VwB.out w hm))) ?_)|(refine wdE ?_)|(refine wdT ?_)|(refine wdTO ?_)|(refine wd_skip rfl rfl ?_)|((with_reducible refine seld_nil ?_);refine wd_nil hm0 ?_;clear hm0 hw0)|((with_reducible refine wc_seq ?_);intro K hK)|(refine auC ?_)|(refine wc_cond rfl (fun hc=>?_) (fun hc=>?_))|(refine wc_draw (by kernel_rfl) (by kernel_rfl) (by decide +kernel) ?_;intro w0 hw0 hm0;(try simp only [List.append_eq,List.cons_append,List.nil_append]))|(refine auP ?_)|((refine auR ?_);clear hK K)|(refine auR ?_)|((with_reducible refine hK _ _ ?_);clear hK K)|fail)
    first|refine end_ret (ResP.cell rfl ld_whole (ResP.tmp rfl (ResP.tmp rfl ResP.nil))) ?_|refine end_normal (ResP.cell rfl ld_whole (ResP.tmp rfl (ResP.tmp rfl ResP.nil))) ?_
    first|rfl|(show _=_;rfl)|(simp only [tupV, *];done)
   ·rw [if_neg c2] at he
    have t4:decide ((k:Int)>4096)=false:=decide_eq_false (by omega)
    by_cases c3:k>r.length - a
    ·rw [if_pos c3] at he
     obtain rfl:3=e:=he
     have t5:decide ((k:Int)>((m - (1+a):Nat):Int))=true:=decide_eq_true (by omega)
     refine fn_ret (N:=_) Tryd.func30 rfl Tryd.ntmps30 Tryd.results30 (by simp) ?_
     simp only [initS,Nat.reduceAdd,Nat.zero_add]
     repeat' (first|(refine wlS ?_)|(refine wlB ?_)|((with_reducible refine sel_call ?_);refine wl_rd rfl rfl (rd_call rfl rfl rfl (fun w hm=>by with_reducible exact LN1 w (VwB.out w hm))) ?_)|(refine wlE ?_)|(refine efSvvp ?_;intro v hv hp)|(refine efSvao ?_;intro v oa ho)|((with_reducible refine sel_slice ?_);first|(refine wl_subB (lo:=1) rfl rfl rfl rfl rfl rfl rfl rfl ?_;intro v hv hp))|(refine efBnn ?_;intro n hn)|(refine efB ?_)|(refine efBS ?_)|(refine wl_skip rfl rfl ?_)|(refine wdS ?_)|(refine wdV ?_)|(refine wdB ?_)|((with_reducible refine seld_call ?_);refine wd_rd hm0 rfl rfl rfl rfl (rd_call rfl rfl rfl (fun w hm=>by with_reducible exact LN1 w (VwB.out w hm))) ?_)|(refine wdE ?_)|(refine wdT ?_)|(refine wdTO ?_)|(refine wd_skip rfl rfl ?_)|((with_reducible refine seld_nil ?_);refine wd_nil hm0 ?_;clear hm0 hw0)|((with_reducible refine wc_seq ?_);intro K hK)|(refine auC ?_)|(refine wc_cond rfl (fun hc=>?_) (fun hc=>?_))|(refine wc_draw (by kernel_rfl) (by kernel_rfl) (by decide +kernel) ?_;intro w0 hw0 hm0;(try simp only [List.append_eq,List.cons_append,List.nil_append]))|(refine auP ?_)|((refine auR ?_);clear hK K)|(refine auR ?_)|((with_reducible refine hK _ _ ?_);clear hK K)|fail)
     first|refine end_ret (ResP.cell rfl ld_whole (ResP.tmp rfl (ResP.tmp rfl ResP.nil))) ?_|refine end_normal (ResP.cell rfl ld_whole (ResP.tmp rfl (ResP.tmp rfl ResP.nil))) ?_
     first|rfl|(show _=_;rfl)|(simp only [tupV, *];done)
    ·rw [if_neg c3] at he
     exact absurd he.symm h0
set_option maxHeartbeats 4000000 in
theorem first_yes (w:World){u:Value}{m c t0:Nat}{p q:List Nat}(h:Cb w u m p)(he:firstD p=(0,(t0,q),c))(hmm:m≤1073741824) :
  Calls Tryd.prog 30 [u].toArray w (RetO (fun b:Value=>.tuple #[.agg #[.int .u8 (t0:Int),b],.int .i64 (c:Int),.int .i64 0]) (fun b oa=>OwnB 5 b q.length q oa) w):=by
 have i0:=h.old
 have hpl:=h.ok.len
 have hpb:=h.ok.by'
 cases p with
 | nil=>simp [firstD] at he
 | cons t r=>
  have t1:((m:Int) == 0)=false:=by rw [←hpl];simp only [beq_eq_false_iff_ne,ne_eq,List.length_cons];omega
  have j0:0<m:=by rw [←hpl];simp
  have j1:1≤m:=j0
  have d1:((t::r).drop 1).take (m - 1)=r:=by rw [List.drop_succ_cons,List.drop_zero];exact List.take_of_length_le (by simp only [List.length_cons] at hpl;omega)
  have hrl:r.length=m - 1:=by simp only [List.length_cons] at hpl;omega
  obtain ⟨s1,s2,s3⟩:=lenD_small (r:=r) (fun y hy=>hpb y (by simp [hy]))
  rw [firstD_cons] at he
  have hat:=fun h=>lenD_at (r:=r) h
  have LN1:∀ {v:Value} w',Cb w' v (m - 1) r→Calls Tryd.prog 50 [v].toArray w' (Ret (.tuple #[.int .i64 ((lenD r).2.1:Int),.int .i64 ((lenD r).2.2:Int),.int .i64 ((lenD r).1:Int)]) w'):=fun w' h=>len_c w' h
  clear h
  generalize (lenD r).1=e1 at *
  generalize (lenD r).2.1=k at *
  generalize (lenD r).2.2=a at *
  by_cases c1:e1≠0
  ·rw [if_pos c1] at he
   exact absurd (congrArg (·.1) he) c1
  rw [if_neg c1] at he
  by_cases c2:k>4096
  ·rw [if_pos c2] at he;simp at he
  rw [if_neg c2] at he
  by_cases c3:k>r.length - a
  ·rw [if_pos c3] at he;simp at he
  rw [if_neg c3] at he
  simp only [Prod.mk.injEq,true_and] at he
  obtain ⟨⟨rfl,rfl⟩,rfl⟩:=he
  have c1':e1=0:=Decidable.of_not_not c1
  obtain ⟨a1,a2,a3⟩:=hat c1'
  subst c1'
  have t2:(((0:Nat):Int) != 0)=false:=rfl
  have t3:IntKind.i64.wrap (1+(a:Int))=((1+a:Nat):Int):=by rw [wrap_i64 _ (by omega) (by omega)];omega
  have d2:1+a≤m:=by omega
  have t4:decide ((k:Int)>4096)=false:=decide_eq_false (by omega)
  have t5:decide ((k:Int)>((m - (1+a):Nat):Int))=false:=decide_eq_false (by omega)
  have t6:IntKind.i64.wrap (((1+a:Nat):Int)+(k:Int))=((1+a+k:Nat):Int):=by rw [wrap_i64 _ (by omega) (by omega)];omega
  have g0:(bl (t::r))[0]? = some (.int .u8 (t:Int)):=rfl
  have d3:((t::r).drop (1+a)).take (m - (1+a))=r.drop a:=by
   rw [Nat.add_comm 1 a,List.drop_succ_cons];exact List.take_of_length_le (by rw [List.length_drop];omega)
  have d4:((r.drop a).drop 0).take (k - 0)=(r.drop a).take k:=by rw [List.drop_zero,Nat.sub_zero]
  have d5:k - 0=k:=rfl
  have d6:k≤m - (1+a):=by omega
  have hl:((r.drop a).take k).length=k:=by rw [List.length_take,List.length_drop];omega
  have onil:OwnB 5 (.slice none 0 0) 0 [] []:=⟨OwnL.nil _ _,BL.nil⟩
  rw [hl]
  generalize (r.drop a).take k=z at *
  refine fn_own (N:=_) Tryd.func30 rfl Tryd.ntmps30 Tryd.results30 (by simp) ?_
  simp only [initS,Nat.reduceAdd,Nat.zero_add]
  repeat' (first|(refine wlS ?_)|(refine wlB ?_)|((with_reducible refine sel_call ?_);refine wl_rd rfl rfl (rd_call rfl rfl rfl (fun w hm=>by with_reducible exact LN1 w (VwB.out w hm))) ?_)|(refine wlE ?_)|(refine efSvvp ?_;intro v hv hp)|(refine efSvao ?_;intro v oa ho)|((with_reducible refine sel_slice ?_);first|(refine wl_subB (lo:=1) rfl rfl rfl rfl rfl rfl rfl rfl ?_;intro v hv hp))|(refine efBnn ?_;intro n hn)|(refine efB ?_)|(refine efBS ?_)|(refine wl_skip rfl rfl ?_)|((with_reducible refine wc_seq ?_);intro K hK)|(refine auC ?_)|(refine wc_cond rfl (fun hc=>?_) (fun hc=>?_))|((with_reducible refine wc_drawT (by kernel_rfl) ?_);(try simp only [List.append_eq,List.cons_append,List.nil_append,List.length_cons,List.length_nil,Nat.reduceAdd]))|((with_reducible refine sel_wh ?_);(refine wh_if (by decide +kernel) ?_);first|(refine wh_take (lq:=[]) rfl rfl rfl rfl (by first|exact rvS|exact rvB|exact rvE) (Or.inl rfl) ?_)|(refine wh_takeL rfl rfl rfl rfl (by first|exact rvS|exact rvB|exact rvE) (by decide +kernel) ?_))|(refine whS ?_;intro v hv hp)|((with_reducible refine sel_wh ?_);first|(refine wh_pass rfl rfl rfl rfl ?_)|(refine wh_done rfl ?_)|(refine wh_all rfl ?_))|((with_reducible refine sel_rest ?_);first|exact rest_nil rfl|refine rest_cons rfl rfl ?_ ?_)|((with_reducible refine sel_nx ?_);first|refine next_of ?_|refine next_late (by decide +kernel) ?_)|(refine auP ?_)|((refine auR ?_);clear hK K)|(refine auR ?_)|((with_reducible refine hK _ _ ?_);clear hK K)|fail)
  all_goals refine end_ret (ResP.cell rfl ld_whole (ResP.tmp rfl (ResP.tmp rfl ResP.nil))) ?_
  all_goals (try dsimp only [tupV])
  all_goals exact ⟨_,_,rfl,by simpa using ho,.skip (SubL.refl _)⟩
end Go.Proofs.YthigacbelefadaaDoor
namespace Go.Proofs.YthigacbelefadaaDoor
open Go.RowKit
set_option linter.unusedVariables false
set_option linter.unusedSimpArgs false
set_option maxRecDepth 100000
abbrev itP' (l:List It):List (Nat×List Nat):=l.map It.p
def RdOk (T:Nat×List (Nat×List Nat))(x:Value×Int×List It)(oa:Blks):Prop:=
 (T.1=0∧x.2.1=0∧x.2.2.map It.p=T.2∧OwnI 44 x.1 x.2.2 oa)∨(T.1≠0∧x.1=.slice none 0 0∧x.2.1=(T.1:Int)∧oa=[])
structure RdS where
 its:List It
 v4:Value
 oo:Blks
 ob:Blks
 f:Nat
 u:Value
 m:Nat
 p:List Nat
def RdS.ok (w:World)(T:Nat×List (Nat×List Nat))(x:RdS):Prop:=
 x.its.length≤200∧OwnL 44 2 x.v4 x.its.length (itsC x.its) x.oo∧BodI x.its x.ob∧CsB (Old w []) x.u x.m x.p∧x.m≤65536∧x.p.length≤x.f∧(rdL x.f x.its.length x.p).1=T.1∧(T.1=0→T.2=x.its.map It.p++(rdL x.f x.its.length x.p).2)
theorem rdL_nil (f c:Nat):rdL f c []=(0,[]):=by cases f <;> rfl
set_option maxHeartbeats 8000000 in
theorem read_c (w:World){u:Value}{m:Nat}{p:List Nat}(h:Cb w u m p) :
  Calls Tryd.prog 14 [u].toArray w (RetO (fun x:Value×Int×List It=>.tuple #[x.1,.int .i64 x.2.1]) (RdOk (rdD p)) w):=by
 have i0:=h.old
 have hpl:=h.ok.len
 by_cases hbig:m>65536
 ·have t1:decide ((m:Int)>65536)=true:=decide_eq_true (by omega)
  have hT:rdD p=(2,[]):=by rw [rdD,if_pos (by omega)]
  rw [hT]
  clear h
  refine fn_own (N:=_) Tryd.func14 rfl Tryd.ntmps14 Tryd.results14 (by simp) ?_
  simp only [initS,Nat.reduceAdd,Nat.zero_add]
  repeat' (first|(refine wlS ?_)|(refine wlB ?_)|(refine wlE ?_)|(refine efSvvp ?_;intro v hv hp)|(refine efSvao ?_;intro v oa ho)|(refine efBnn ?_;intro n hn)|(refine efB ?_)|(refine efBS ?_)|(refine wl_skip rfl rfl ?_)|((with_reducible refine wc_seq ?_);intro K hK)|(refine auC ?_)|(refine wc_cond rfl (fun hc=>?_) (fun hc=>?_))|(refine wc_draw (by kernel_rfl) (by kernel_rfl) (by decide +kernel) ?_;intro w0 hw0 hm0;(try simp only [List.append_eq,List.cons_append,List.nil_append]))|(refine auP ?_)|((refine auR ?_);clear hK K)|(refine auR ?_)|((with_reducible refine hK _ _ ?_);clear hK K)|fail)
  first|refine end_ret (ResP.tmp rfl (ResP.tmp rfl ResP.nil)) ?_|refine end_normal (ResP.tmp rfl (ResP.tmp rfl ResP.nil)) ?_
  (try dsimp only [tupV])
  exact ⟨(.slice none 0 0,2,[]),[],rfl,.inr ⟨by decide,rfl,rfl,rfl⟩,.nil⟩
 have t1:decide ((m:Int)>65536)=false:=decide_eq_false (by omega)
 obtain ⟨T,hT⟩:∃ T,T=rdD p:=⟨_,rfl⟩
 have hT2:T=rdL p.length 0 p:=by rw [hT,rdD,if_neg (by omega)]
 rw [←hT]
 clear hT
 have hstart:RdS.ok w T ⟨[],.slice none 0 0,[],[],p.length,u,m,p⟩:=⟨by simp,OwnL.nil _ _,BodI.nil,i0,by dsimp only;omega,Nat.le_refl _,by rw [hT2];rfl,fun _=>by rw [hT2];rfl⟩
 clear hT2 h hpl
 have FE:∀ {v:Value} {k e:Nat} {q:List Nat},(firstD q).1=e→e≠0→k≤65536→∀ w',Cb w' v k q→Calls Tryd.prog 30 [v].toArray w' (Ret (.tuple #[.agg #[.int .u8 0,.slice none 0 0],.int .i64 0,.int .i64 (e:Int)]) w'):=fun he h0 hk w' h=>first_err w' h he h0 (by omega)
 have FY:∀ {v:Value} {k c t0:Nat} {q b:List Nat},firstD q=(0,(t0,b),c)→k≤65536→∀ w',Cb w' v k q→Calls Tryd.prog 30 [v].toArray w' (RetO (fun b:Value=>.tuple #[.agg #[.int .u8 (t0:Int),b],.int .i64 (c:Int),.int .i64 0]) (fun v oa=>OwnB 5 v b.length b oa) w'):=fun he hk w' h=>first_yes w' h he (by omega)
 refine fn_own (N:=_) Tryd.func14 rfl Tryd.ntmps14 Tryd.results14 (by simp) ?_
 simp only [initS,Nat.reduceAdd,Nat.zero_add]
 repeat' (first|(refine wlS ?_)|(refine wlB ?_)|(refine wlE ?_)|(refine efSvvp ?_;intro v hv hp)|(refine efSvao ?_;intro v oa ho)|(refine efBnn ?_;intro n hn)|(refine efB ?_)|(refine efBS ?_)|(refine wl_skip rfl rfl ?_)|((with_reducible refine wc_seq ?_);intro K hK)|(refine auC ?_)|(refine wc_cond rfl (fun hc=>?_) (fun hc=>?_))|(refine wc_draw (by kernel_rfl) (by kernel_rfl) (by decide +kernel) ?_;intro w0 hw0 hm0;(try simp only [List.append_eq,List.cons_append,List.nil_append]))|(refine auP ?_)|((refine auR ?_);clear hK K)|(refine auR ?_)|((with_reducible refine hK _ _ ?_);clear hK K)|fail)
 refine wc_loop (σ:=RdS) (fun x=>[(0,x.u),(4,x.v4)]) (fun x=>x.oo++x.ob) (RdS.ok w T) (fun x=>x.p.length) ⟨[],.slice none 0 0,[],[],p.length,u,m,p⟩ hstart (Fits.of ⟨rfl,rfl,trivial⟩ .nil rfl) ?_
 clear hstart i0 t1 hbig u m p
 rintro ⟨its,v4,oo,ob,f,u,m,p⟩ ⟨hil,ho,hb,i0,hm,hf,h1,h2⟩
 dsimp only at hil ho hb i0 hm hf h1 h2 ⊢
 have hpl:=i0.ok.len
 have hpb:=i0.ok.by'
 by_cases hp0:m=0
 ·subst hp0
  obtain rfl:p=[]:=List.eq_nil_of_length_eq_zero hpl
  have t1:decide (((0:Nat):Int)>0)=false:=rfl
  rw [rdL_nil] at h1 h2
  have hT0:T.1=0:=h1.symm
  have hT1:=h2 hT0
  rw [List.append_nil] at hT1
  clear FE FY
  repeat' (first|(refine wlS ?_)|(refine wlB ?_)|(refine wlE ?_)|(refine efSvvp ?_;intro v hv hp)|(refine efSvao ?_;intro v oa ho)|(refine efBnn ?_;intro n hn)|(refine efB ?_)|(refine efBS ?_)|(refine wl_skip rfl rfl ?_)|((with_reducible refine wc_seq ?_);intro K hK)|(refine auC ?_)|(refine wc_cond rfl (fun hc=>?_) (fun hc=>?_))|(refine wc_draw (by kernel_rfl) (by kernel_rfl) (by decide +kernel) ?_;intro w0 hw0 hm0;(try simp only [List.append_eq,List.cons_append,List.nil_append]))|(refine auP ?_)|((refine auR ?_);clear hK K)|(refine auR ?_)|((with_reducible refine hK _ _ ?_);clear hK K)|fail)
  first|refine end_ret (ResP.tmp rfl (ResP.tmp rfl ResP.nil)) ?_|refine end_normal (ResP.tmp rfl (ResP.tmp rfl ResP.nil)) ?_
  (try dsimp only [tupV])
  exact ⟨(v4,0,its),oo++ob,rfl,.inl ⟨hT0,rfl,hT1.symm,⟨oo,ob,rfl,ho,hb⟩⟩,SubL.refl _⟩
 have t1:decide ((m:Int)>0)=true:=decide_eq_true (by omega)
 have hpne:p≠[]:=fun h=>by rw [h] at hpl;simp at hpl;omega
 obtain ⟨g,rfl⟩:∃ g,f=g+1:=⟨f - 1,by omega⟩
 by_cases hfull:its.length=200
 ·have t2:((its.length:Int) == 200)=true:=by rw [hfull];rfl
  have hr:rdL (g+1) its.length p=(2,[]):=by
   cases p with
   | nil=>exact absurd rfl hpne
   | cons y r=>rw [rdL,if_pos hfull]
  rw [hr] at h1
  have hT1:T.1=2:=h1.symm
  clear FE FY
  repeat' (first|(refine wlS ?_)|(refine wlB ?_)|(refine wlE ?_)|(refine efSvvp ?_;intro v hv hp)|(refine efSvao ?_;intro v oa ho)|(refine efBnn ?_;intro n hn)|(refine efB ?_)|(refine efBS ?_)|(refine wl_skip rfl rfl ?_)|((with_reducible refine wc_seq ?_);intro K hK)|(refine auC ?_)|(refine wc_cond rfl (fun hc=>?_) (fun hc=>?_))|(refine wc_draw (by kernel_rfl) (by kernel_rfl) (by decide +kernel) ?_;intro w0 hw0 hm0;(try simp only [List.append_eq,List.cons_append,List.nil_append]))|(refine auP ?_)|((refine auR ?_);clear hK K)|(refine auR ?_)|((with_reducible refine hK _ _ ?_);clear hK K)|fail)
  first|refine end_ret (ResP.tmp rfl (ResP.tmp rfl ResP.nil)) ?_|refine end_normal (ResP.tmp rfl (ResP.tmp rfl ResP.nil)) ?_
  (try dsimp only [tupV])
  exact ⟨(.slice none 0 0,2,[]),[],rfl,.inr ⟨by omega,rfl,by rw [hT1];rfl,rfl⟩,.nil⟩
 have t2:((its.length:Int) == 200)=false:=by simp only [beq_eq_false_iff_ne,ne_eq];omega
 by_cases he:(firstD p).1=0
 ·obtain ⟨⟨t0,q⟩,c,hx⟩:∃ x n,firstD p=(0,x,n):=⟨_,_,Prod.ext he rfl⟩
  obtain ⟨b1,b2,b3,b4⟩:=firstD_back hpb hx
  have hs:=rdL_step (f:=g) hpne hfull hx
  have hw:=wr1_pos (t0,q)
  dsimp only at b3 b4
  have FY1:=FY (v:=u) (k:=m) hx hm
  have hcm:c≤m:=by have:=congrArg List.length b1;rw [List.length_append] at this;omega
  have d1:(p.drop c).take (m - c)=p.drop c:=List.take_of_length_le (by rw [List.length_drop];omega)
  have hh:(rdL g (its.length+1) (p.drop c)).1=T.1∧(T.1=0→T.2=its.map It.p++((t0,q)::(rdL g (its.length+1) (p.drop c)).2)):=by
   rw [hs] at h1 h2
   by_cases hz:(rdL g (its.length+1) (p.drop c)).1≠0
   ·rw [if_pos hz] at h1 h2
    exact ⟨h1,fun h=>absurd (h1.trans h) hz⟩
   ·rw [if_neg hz] at h1 h2
    exact ⟨(Decidable.of_not_not hz).trans h1,h2⟩
  have t3:((0:Int) != 0)=false:=rfl
  clear FE FY hs h1 h2 hx he b1
  repeat' (first|(refine wlS ?_)|(refine wlB ?_)|(refine wlE ?_)|(refine efSvvp ?_;intro v hv hp)|(refine efSvao ?_;intro v oa ho)|((with_reducible refine sel_call ?_);first|(refine wl_newO rfl rfl rfl rfl rfl (fun w hm=>by with_reducible exact FY1 w (VwB.out w hm)) ?_;intro x oa hx))|(refine efBnn ?_;intro n hn)|(refine efB ?_)|(refine efBS ?_)|(refine wl_skip rfl rfl ?_)|((with_reducible refine wc_seq ?_);intro K hK)|(refine auC ?_)|(refine wc_cond rfl (fun hc=>?_) (fun hc=>?_))|(refine wc_draw (by kernel_rfl) (by kernel_rfl) (by decide +kernel) ?_;intro w0 hw0 hm0;(try simp only [List.append_eq,List.cons_append,List.nil_append]))|(refine auP ?_)|((refine auR ?_);clear hK K)|(refine auR ?_)|((with_reducible refine hK _ _ ?_);clear hK K)|fail)
  obtain ⟨v9,rfl⟩:∃ v9,v9=v:=⟨v,rfl⟩
  obtain ⟨oN,rfl⟩:∃ oN,oN=oa:=⟨oa,rfl⟩
  obtain ⟨oS,rfl⟩:∃ oS,oS=oa:=⟨oa,rfl⟩
  have hlen:(its++[(t0,x,q)]).length=its.length+1:=by simp
  refine ⟨⟨its++[(t0,x,q)],v,oN,ob++oa,g,v9,m - c,p.drop c⟩,⟨by dsimp only;omega,?_,hb.app (BodI.one hx b4),by assumption,by dsimp only;omega,by dsimp only;rw [List.length_drop];omega,?_,?_⟩,by dsimp only;rw [List.length_drop];omega,Fits.of ⟨rfl,rfl,trivial⟩ (.skip ?_) rfl⟩
  ·dsimp only
   rw [hlen,itsC_app]
   assumption
  ·dsimp only;rw [hlen];exact hh.1
  ·dsimp only;rw [hlen,List.map_append,List.append_assoc];exact hh.2
  ·dsimp only
   exact SubL.keepA (SubL.keepA (SubL.headA _ _) _) _
 ·have FE1:=FE (v:=u) (k:=m) rfl he hm
  have hr:rdL (g+1) its.length p=((firstD p).1,[]):=by
   cases p with
   | nil=>exact absurd rfl hpne
   | cons y r=>rw [rdL,if_neg hfull,if_pos he]
  rw [hr] at h1
  have hT1:(firstD p).1=T.1:=h1
  rw [hT1] at FE1 he
  have t3:((T.1:Int) != 0)=true:=by simp only [bne_iff_ne,ne_eq];omega
  clear FE FY h1 h2 hr hT1
  repeat' (first|(refine wlS ?_)|(refine wlB ?_)|((with_reducible refine sel_call ?_);refine wl_rd rfl rfl (rd_call rfl rfl rfl (fun w hm=>by with_reducible exact FE1 w (VwB.out w hm))) ?_)|(refine wlE ?_)|(refine efSvvp ?_;intro v hv hp)|(refine efSvao ?_;intro v oa ho)|(refine efBnn ?_;intro n hn)|(refine efB ?_)|(refine efBS ?_)|(refine wl_skip rfl rfl ?_)|((with_reducible refine wc_seq ?_);intro K hK)|(refine auC ?_)|(refine wc_cond rfl (fun hc=>?_) (fun hc=>?_))|(refine wc_draw (by kernel_rfl) (by kernel_rfl) (by decide +kernel) ?_;intro w0 hw0 hm0;(try simp only [List.append_eq,List.cons_append,List.nil_append]))|(refine auP ?_)|((refine auR ?_);clear hK K)|(refine auR ?_)|((with_reducible refine hK _ _ ?_);clear hK K)|fail)
  first|refine end_ret (ResP.tmp rfl (ResP.tmp rfl ResP.nil)) ?_|refine end_normal (ResP.tmp rfl (ResP.tmp rfl ResP.nil)) ?_
  (try dsimp only [tupV])
  exact ⟨(.slice none 0 0,T.1,[]),[],rfl,.inr ⟨he,rfl,rfl,rfl⟩,.nil⟩
end Go.Proofs.YthigacbelefadaaDoor
