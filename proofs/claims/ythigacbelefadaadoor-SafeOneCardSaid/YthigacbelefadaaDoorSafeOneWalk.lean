/- SafeOne: the walk. -/
import Derived.Test.YthigacbelefadaaDoorSafeD
import Derived.Test.YthigacbelefadaaDoorJnAL
namespace Go.Proofs.YthigacbelefadaaDoor.SafeOneWalk
open Go.RowKit
attribute [local irreducible] rwA bys iw blkD byteD MS.sum MS.write
set_option linter.unusedVariables false
set_option linter.unusedSimpArgs false
set_option maxRecDepth 100000 in
set_option maxHeartbeats 8000000 in
theorem walk (w:World)(hT:Tab w){v:Value}{n:Nat}{p:List Nat}(hp:Cb w v n p) :
  Calls Tryd.prog 4 [v].toArray w (Ret (.bool true) w):=by
 haveI i1:=hp.old
 have hpb:=hp.ok.by'
 by_cases hS:SafeOk p
 ·have hform:=hS.form
  obtain ⟨hw,hfit⟩:=rdD_back hpb hS.rd
  have hbyt:=wrL_bytes hw hpb
  have hkp:=kpL_un hbyt hform
  have UN:=fun w' (hb:Below w.heap.size w w') (h:Cb w' v n p)=>sun_yes w' (hT.below hb) h hS
  have BE:=fun w' {a b:Value} {k m:Nat} (h1:Cb w' a k p) (h2:Cb w' b m p)=>beq_r w' h1 h2 (r:=true) (by simp)
  have hpl:unPl (rdD p).2<18446744073709551616:=by
   obtain ⟨x,hx⟩:∃ x,(rdD p).2[0]? = some x:=⟨_,List.getElem?_eq_getElem (by have:=hform.1;omega)⟩
   have h1:=(hform.2 0 x hx).2
   rw [if_pos rfl] at h1
   have h2:=(fnB_read (hbyt x (List.mem_of_getElem? hx)) h1).2.1
   unfold unPl
   rw [getD_at hx]
   exact h2
  haveI b1:ByL (unM (rdD p).2 1):=by
   obtain ⟨x,hx⟩:∃ x,(rdD p).2[1]? = some x:=⟨_,List.getElem?_eq_getElem (by have:=hform.1;omega)⟩
   unfold unM
   rw [getD_at hx]
   exact lkM_by (hbyt x (List.mem_of_getElem? hx))
  haveI b2:ByL (unM (rdD p).2 2):=by
   obtain ⟨x,hx⟩:∃ x,(rdD p).2[2]? = some x:=⟨_,List.getElem?_eq_getElem (by have:=hform.1;omega)⟩
   unfold unM
   rw [getD_at hx]
   exact lkM_by (hbyt x (List.mem_of_getElem? hx))
  have t1:((0:Int) != 0)=false:=rfl
  have t2:((0:Int) == 0)=true:=rfl
  clear hp hS hfit
  refine fn_ret (N:=_) Tryd.func4 rfl Tryd.ntmps4 Tryd.results4 (by simp) ?_
  simp only [initS,Nat.reduceAdd,Nat.zero_add]
  repeat' (first|(refine wlS ?_)|(refine wlG ?_)|(refine wlB ?_)|(refine wlE ?_)|(refine efSvao ?_;intro v oa ho)|(refine efG ?_)|(refine efGnn ?_;intro n hn)|((with_reducible refine sel_call ?_);first|(refine wl_newO rfl rfl rfl rfl rfl (fun w hm=>by with_reducible exact UN w (hm.below rfl) (VwB.out w hm)) ?_;intro x oa hx))|(refine efBnn ?_;intro n hn)|(refine efB ?_)|(refine efBS ?_)|(refine wl_skip rfl rfl ?_)|((with_reducible refine wc_seq ?_);intro K hK)|(refine auC ?_)|(refine wc_cond rfl (fun hc=>?_) (fun hc=>?_))|(refine wc_draw (by kernel_rfl) (by kernel_rfl) (by decide +kernel) ?_;intro w0 hw0 hm0;(try simp only [List.append_eq,List.cons_append,List.nil_append]))|(refine auP ?_)|((refine auR ?_);clear hK K)|(refine auR ?_)|((with_reducible refine hK _ _ ?_);clear hK K)|fail)
  obtain ⟨l2,hO,hab,hK⟩:=hx
  obtain ⟨xp,xl,xc⟩:=x
  dsimp only at hO ⊢
  obtain ⟨o2,rfl⟩:∃ o,o=oa:=⟨oa,rfl⟩
  haveI hcs:=hO.cs
  have hbod:=hO.bod
  have hsm:=unH_small hform hab
  have PK:=fun w' (h0:Below w.heap.size w w') (h1:Cs w' (.slice xp xl xc) l2.length (hesC l2)) (h2:Hd o2 w')=>spack_yes hpl hK hsm (m1:=unM (rdD p).2 1) (m2:=unM (rdD p).2 2) w' (hT.below h0) (hv:=.slice xp xl xc) ⟨h1,fun x hx=>(hbod x hx).out w' h2⟩
  rw [hab,hkp,hw] at PK
  clear UN hbod hsm hK hab hO hform hbyt hkp hw
  repeat' (first|(refine wlS ?_)|(refine wlG ?_)|(refine wlB ?_)|((with_reducible refine sel_call ?_);refine wl_rd rfl rfl (rd_call rfl rfl rfl (fun w hm=>by with_reducible exact BE w (VwB.out w hm) (VwB.out w hm))) ?_)|(refine wlE ?_)|(refine efSvao ?_;intro v oa ho)|(refine efG ?_)|(refine efGnn ?_;intro n hn)|((with_reducible refine sel_call ?_);first|(refine wl_newO rfl rfl rfl rfl rfl (fun w hm=>by with_reducible exact PK w (hm.below rfl) (Vw.out w hm) (Mem.hd hm)) ?_;intro x oa hx))|(refine efBnn ?_;intro n hn)|(refine efB ?_)|(refine efBS ?_)|(refine wl_skip rfl rfl ?_)|((with_reducible refine wc_seq ?_);intro K hK)|(refine auC ?_)|(refine wc_cond rfl (fun hc=>?_) (fun hc=>?_))|(refine wc_draw (by kernel_rfl) (by kernel_rfl) (by decide +kernel) ?_;intro w0 hw0 hm0;(try simp only [List.append_eq,List.cons_append,List.nil_append]))|(refine auP ?_)|((refine auR ?_);clear hK K)|(refine auR ?_)|((with_reducible refine hK _ _ ?_);clear hK K)|fail)
  first|refine end_ret (ResP.tmp rfl ResP.nil) ?_|refine end_normal (ResP.tmp rfl ResP.nil) ?_
  first|rfl|(show _=_;rfl)|(simp only [tupV, *];done)
 ·have UN:=fun w' (hb:Below w.heap.size w w') (h:Cb w' v n p)=>sun_no w' (hT.below hb) h hS
  haveI:=byl_zero
  have SK:∀ w',Calls Tryd.prog 7 [kzV,kzV].toArray w' (Ret (.bool true) w'):=fun w'=>sameK_c w' (hes_nil w') (hes_nil w') rfl (pl:=0) (k1:=0) (k2:=0) (nx:=0) (m1:=List.replicate 32 0) (m2:=List.replicate 32 0)
  clear hp hT hS
  refine fn_ret (N:=_) Tryd.func4 rfl Tryd.ntmps4 Tryd.results4 (by simp) ?_
  simp only [initS,Nat.reduceAdd,Nat.zero_add]
  repeat' (first|(refine wlS ?_)|(refine wlG ?_)|(refine wlBZ ?_)|(refine wlB ?_)|((with_reducible refine sel_call ?_);refine wl_rd rfl rfl (rd_call rfl rfl rfl (fun w hm=>by with_reducible exact SK w)) ?_)|(refine wlE ?_)|(refine efSvao ?_;intro v oa ho)|(refine efG ?_)|(refine efGnn ?_;intro n hn)|((with_reducible refine sel_call ?_);first|(refine wl_newO rfl rfl rfl rfl rfl (fun w hm=>by with_reducible exact UN w (hm.below rfl) (VwB.out w hm)) ?_;intro x oa hx))|(refine efBnn ?_;intro n hn)|(refine efB ?_)|(refine efBS ?_)|(refine wl_skip rfl rfl ?_)|((with_reducible refine wc_seq ?_);intro K hK)|(refine auC ?_)|(refine wc_cond rfl (fun hc=>?_) (fun hc=>?_))|(refine wc_draw (by kernel_rfl) (by kernel_rfl) (by decide +kernel) ?_;intro w0 hw0 hm0;(try simp only [List.append_eq,List.cons_append,List.nil_append]))|(refine auP ?_)|((refine auR ?_);clear hK K)|(refine auR ?_)|((with_reducible refine hK _ _ ?_);clear hK K)|fail)
  first|refine end_ret (ResP.tmp rfl ResP.nil) ?_|refine end_normal (ResP.tmp rfl ResP.nil) ?_
  first|rfl|(show _=_;rfl)|(simp only [tupV, *];done)
end Go.Proofs.YthigacbelefadaaDoor.SafeOneWalk
