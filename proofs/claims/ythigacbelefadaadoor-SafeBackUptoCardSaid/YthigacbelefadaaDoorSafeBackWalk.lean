/- SafeBack: the walk. -/
import Derived.Test.YthigacbelefadaaDoorSafeD
import Derived.Test.YthigacbelefadaaDoorJnAL
namespace Go.Proofs.YthigacbelefadaaDoor.SafeBackWalk
open Go.RowKit
attribute [local irreducible] rwA bys iw blkD byteD MS.sum MS.write
set_option linter.unusedVariables false
set_option linter.unusedSimpArgs false
theorem lk_nat {z:Int}(h:lkE z=0):∃ k:Nat,z=(k:Int):=⟨z.toNat,by unfold lkE at h;split at h <;> omega⟩
theorem safe_packed {pl k1 k2 nx:Nat}{m1 m2:List Nat}{l:List He}(hP:KpP pl m1 k1 m2 k2 nx (l.map absH))(hk:KOk (k1:Int) (k2:Int) (nx:Int) l):rdD (wrL (kpL pl m1 k1 m2 k2 nx (l.map absH)))=(0,kpL pl m1 k1 m2 k2 nx (l.map absH))∧SafeOk (wrL (kpL pl m1 k1 m2 k2 nx (l.map absH)))∧unH (kpL pl m1 k1 m2 k2 nx (l.map absH))=l.map absH:=by
 have hr:rdD (wrL (kpL pl m1 k1 m2 k2 nx (l.map absH)))=(0,kpL pl m1 k1 m2 k2 nx (l.map absH)):=rdD_wrL hP.fits (by have:=kpL_len hP;omega)
 obtain ⟨u1,u2,u3,u4,u5,u6,u7⟩:=un_kpL hP
 have hH:unH (kpL pl m1 k1 m2 k2 nx (l.map absH))=l.map absH:=by
  rw [u7,List.map_map]
  refine List.map_congr_left fun x hx=>?_
  have:=(hk.each x hx).own
  show (x.1,0,abs x.2.2.2)=(x.1,x.2.1,abs x.2.2.2)
  rw [this]
 refine ⟨hr,⟨by rw [hr],by rw [hr];exact kform_kpL hP,⟨l,by rw [hr];exact hH.symm,?_⟩⟩,hH⟩
 rw [hr]
 dsimp only
 rw [u3,u5,u6];exact hk
set_option maxRecDepth 100000 in
set_option maxHeartbeats 8000000 in
theorem walk (w:World)(hT:Tab w){v:Value}{x:Nat×List Nat×Int×List Nat×Int×Int×Value×List He}(hx:KeptA w v x.1 x.2.1 x.2.2.1 x.2.2.2.1 x.2.2.2.2.1 x.2.2.2.2.2.1 x.2.2.2.2.2.2.1 x.2.2.2.2.2.2.2){b:Nat}(hsz:SmH b x.2.2.2.2.2.2.2)(hb:b≤1048576) :
  Calls Tryd.prog 3 [v].toArray w (Ret (.bool true) w):=by
 obtain ⟨pl,m1,z1,m2,z2,nx,hv,l⟩:=x
 obtain ⟨rfl,hpl,hm1,hm2,hes⟩:=hx
 dsimp only at hpl hm1 hm2 hes hsz ⊢
 haveI:NBy m1 32:=⟨hm1.1⟩
 haveI:ByL m1:=⟨hm1.2⟩
 haveI:NBy m2 32:=⟨hm2.1⟩
 haveI:ByL m2:=⟨hm2.2⟩
 have hsm:∀ x∈l,Small x.2.2.2:=fun x hx=>(hsz.each x hx).small hb
 have hlen:l.length≤1048576:=Nat.le_trans hsz.len hb
 haveI i1:=hes.cs.old
 haveI:One hv:=⟨by obtain ⟨_,_,rfl,_⟩:=hes.cs.ln.out;rfl⟩
 by_cases hK:KOk z1 z2 nx l
 ·obtain ⟨k1,rfl⟩:=lk_nat hK.l1
  obtain ⟨k2,rfl⟩:=lk_nat hK.l2
  obtain ⟨n0,rfl⟩:∃ k:Nat,nx=(k:Int):=⟨nx.toNat,by have:=hK.sto.num;omega⟩
  have hP:=kok_kpp (pl:=pl) (m1:=m1) (m2:=m2) hK hpl
  obtain ⟨hr,hS,hH⟩:=safe_packed hP hK
  obtain ⟨u1,u2,u3,u4,u5,u6,u7⟩:=un_kpL hP
  have hL:=kpL_len hP
  have PK:=fun w' (hb:Below w.heap.size w w')=>spack_yes hpl hK hsm (m1:=m1) (m2:=m2) w' (hT.below hb) (hes.below hb)
  have UN:=fun w' (hb:Below w.heap.size w w') {v:Value} {n:Nat} (h:Cb w' v n (wrL (kpL pl m1 k1 m2 k2 n0 (l.map absH))))=>sun_yes w' (hT.below hb) h hS
  rw [hr] at UN
  dsimp only at UN
  rw [u1,u2,u3,u4,u5,u6,hH] at UN
  have SK:=fun w' (h0:Below w.heap.size w w') {va:Value} {l2:List He} (h1:Hes w' va l2) (he:l.map absH=l2.map absH)=>sameK_c (m1:=m1) (m2:=m2) (pl:=pl) (k1:=k1) (k2:=k2) (nx:=(n0:Int)) w' (hes.below h0) h1 he
  have t1:((0:Int) != 0)=false:=rfl
  have t2:((0:Int) == 0)=true:=rfl
  generalize wrL (kpL pl m1 k1 m2 k2 n0 (l.map absH))=B at *
  have t3:decide ((B.length:Int)≤4064)=true:=decide_eq_true (by omega)
  clear hr hS hH u1 u2 u3 u4 u5 u6 u7 hP hK hsm hes hT hsz
  refine fn_ret (N:=_) Tryd.func3 rfl Tryd.ntmps3 Tryd.results3 (by simp) ?_
  simp only [initS,Nat.reduceAdd,Nat.zero_add]
  repeat' (first|(refine wlS ?_)|(refine wlG ?_)|(refine wlB ?_)|(refine wlE ?_)|(refine efSvao ?_;intro v oa ho)|(refine efG ?_)|(refine efGnn ?_;intro n hn)|((with_reducible refine sel_call ?_);first|(refine wl_newO rfl rfl rfl rfl rfl (fun w hm=>by with_reducible exact PK w (hm.below rfl)) ?_;intro x oa hx)|(refine wl_newO rfl rfl rfl rfl rfl (fun w hm=>by with_reducible exact UN w (hm.below rfl) (VwB.out w hm)) ?_;intro x oa hx))|(refine efBnn ?_;intro n hn)|(refine efB ?_)|(refine efBS ?_)|(refine wl_skip rfl rfl ?_)|((with_reducible refine wc_seq ?_);intro K hK)|(refine auC ?_)|(refine wc_cond rfl (fun hc=>?_) (fun hc=>?_))|(refine wc_draw (by kernel_rfl) (by kernel_rfl) (by decide +kernel) ?_;intro w0 hw0 hm0;(try simp only [List.append_eq,List.cons_append,List.nil_append]))|(refine auP ?_)|((refine auR ?_);clear hK K)|(refine auR ?_)|((with_reducible refine hK _ _ ?_);clear hK K)|fail)
  obtain ⟨l2,hO,hab,_⟩:=hx
  obtain ⟨xp,xl,xc⟩:=x
  dsimp only at hO ⊢
  obtain ⟨o2,rfl⟩:∃ o,o=oa:=⟨oa,rfl⟩
  haveI hcs:=hO.cs
  have hbod:=hO.bod
  have SK1:=fun w' (h0:Below w.heap.size w w') (h1:Cs w' (.slice xp xl xc) l2.length (hesC l2)) (h2:Hd o2 w')=>SK w' h0 (va:=.slice xp xl xc) ⟨h1,fun x hx=>(hbod x hx).out w' h2⟩ hab.symm
  repeat' (first|(refine wlS ?_)|(refine wlG ?_)|(refine wlB ?_)|((with_reducible refine sel_call ?_);refine wl_rd rfl rfl (rd_call rfl rfl rfl (fun w hm=>by with_reducible exact SK1 w (hm.below rfl) (Vw.out w hm) (Mem.hd hm))) ?_)|(refine wlE ?_)|(refine efSvao ?_;intro v oa ho)|(refine efG ?_)|(refine efGnn ?_;intro n hn)|(refine efBnn ?_;intro n hn)|(refine efB ?_)|(refine efBS ?_)|(refine wl_skip rfl rfl ?_)|((with_reducible refine wc_seq ?_);intro K hK)|(refine auC ?_)|(refine wc_cond rfl (fun hc=>?_) (fun hc=>?_))|(refine wc_draw (by kernel_rfl) (by kernel_rfl) (by decide +kernel) ?_;intro w0 hw0 hm0;(try simp only [List.append_eq,List.cons_append,List.nil_append]))|(refine auP ?_)|((refine auR ?_);clear hK K)|(refine auR ?_)|((with_reducible refine hK _ _ ?_);clear hK K)|fail)
  first|refine end_ret (ResP.tmp rfl ResP.nil) ?_|refine end_normal (ResP.tmp rfl ResP.nil) ?_
  first|rfl|(show _=_;rfl)|(simp only [tupV, *];done)
 ·obtain ⟨e,he,PN⟩:=spack_no hK hsm hlen
  have PN1:=fun w' (hb:Below w.heap.size w w')=>PN (pl:=pl) (m1:=m1) (m2:=m2) w' (hT.below hb) (hes.below hb)
  have t1:(e != 0)=true:=by rw [bne_iff_ne];exact he
  clear PN hK hsm hes hT hsz
  refine fn_ret (N:=_) Tryd.func3 rfl Tryd.ntmps3 Tryd.results3 (by simp) ?_
  simp only [initS,Nat.reduceAdd,Nat.zero_add]
  repeat' (first|(refine wlS ?_)|(refine wlG ?_)|(refine wlB ?_)|(refine wlE ?_)|(refine efSvao ?_;intro v oa ho)|(refine efG ?_)|(refine efGnn ?_;intro n hn)|((with_reducible refine sel_call ?_);first|(refine wl_newO rfl rfl rfl rfl rfl (fun w hm=>by with_reducible exact PN1 w (hm.below rfl)) ?_;intro x oa hx))|(refine efBnn ?_;intro n hn)|(refine efB ?_)|(refine efBS ?_)|(refine wl_skip rfl rfl ?_)|((with_reducible refine wc_seq ?_);intro K hK)|(refine auC ?_)|(refine wc_cond rfl (fun hc=>?_) (fun hc=>?_))|(refine wc_draw (by kernel_rfl) (by kernel_rfl) (by decide +kernel) ?_;intro w0 hw0 hm0;(try simp only [List.append_eq,List.cons_append,List.nil_append]))|(refine auP ?_)|((refine auR ?_);clear hK K)|(refine auR ?_)|((with_reducible refine hK _ _ ?_);clear hK K)|fail)
  first|refine end_ret (ResP.tmp rfl ResP.nil) ?_|refine end_normal (ResP.tmp rfl ResP.nil) ?_
  first|rfl|(show _=_;rfl)|(simp only [tupV, *];done)
end Go.Proofs.YthigacbelefadaaDoor.SafeBackWalk
