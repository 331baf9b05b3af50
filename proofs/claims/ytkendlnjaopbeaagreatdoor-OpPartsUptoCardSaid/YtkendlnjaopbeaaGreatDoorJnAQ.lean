/- The package sign,walked: claim of what may be right. SCHNORR: what was signed is verified,and nothing else of the same front. Plain laws. The package sign,walked: Verify. -/
import Derived.Test.YtkendlnjaopbeaaGreatDoorSignC
namespace Go.Proofs.YtkendlnjaopbeaaGreatDoor
open Go.RowKit
attribute [local irreducible] rwA bys iw
set_option linter.unusedVariables false
set_option linter.unusedSimpArgs false
set_option maxRecDepth 100000
set_option maxHeartbeats 16000000 in
theorem claim_ok (w:World)(hT:Tab w)(w':World)(hb:Below w.heap.size w w')(k f s:Nat)(hk:k<T256)(hf:f<T256)(hs:s<T256)(hok:clOk k f s){v:Value}{n:Nat}{p:List Nat}(hq:Cb w' v n p)(hn:n≤1048576){u:Value}(hsig:Cb w' u 64 (lb f++lb s)) :
  Calls Tryz.prog 104 [.agg (bys (lb k)),v,u].toArray w' (Ret (.tuple #[nu s,pv (tP k f p),.int .i64 0]) w'):=by
 have hT':=hT.below hb
 have i1:=hsig.old
 have i2:=hq.old
 have t1:((64:Int) != 64)=false:=rfl
 obtain ⟨q1,q2,q3⟩:=sig_parts f s
 have hl1:0+32≤(List.replicate 32 0).length:=by simp
 have k1:Nat.min 64 32=32:=rfl
 have k2:Nat.min 32 32=32:=rfl
 have U1:=unpack_yes hk hok.1
 have U2:=unpack_yes hf hok.2.1
 simp only [bv_lb] at U1 U2
 have OF:=of_lb s hs
 have LC:=l_c
 have CC:=cmp_nu s SLn hs SL_T
 have z0:((0:Int) != 0)=false:=rfl
 have s3:decide (cmpI s SLn≥0)=false:=decide_eq_false (by have:=hok.2.2;unfold cmpI;rw [if_pos (by omega)];decide)
 have CH:∀ w'',Below w'.heap.size w' w''→Cb w'' v n p→Calls Tryz.prog 98 [.agg (bys (lb f)),.agg (bys (lb k)),v].toArray w'' (Ret (nu (chal f k p)) w''):=fun w'' h1 h2=>chal_c w' hT' w'' h1 _ _ h2 hn
 have on1:=up_on hk hok.1
 have on2:=up_on hf hok.2.1
 have TC:=times_yes (chal f k p) (dgN_lt _ _) on1.red.lt on1
 have on3:=times_on on1 (chal f k p)
 have AC:=add_yes on2.red.lt on2 on3.red.lt on3
 have e:(upPt f).add ((upPt k).times (chal f k p))=tP k f p:=rfl
 rw [e] at AC
 clear hsig hq hT hb hT' on1 on2 on3 e hok hk hf hs
 generalize cmpI s SLn=cz at *
 generalize SLn=sl at *
 generalize tP k f p=T at *
 generalize (upPt k).times (chal f k p)=P3 at *
 generalize upPt k=P1 at *
 generalize upPt f=P2 at *
 generalize chal f k p=C at *
 refine fn_ret (N:=_) Tryz.func104 rfl Tryz.ntmps104 Tryz.results104 (by simp) ?_
 simp only [initS,Nat.reduceAdd,Nat.zero_add]
 repeat' (first|(refine wlS ?_)|(refine wlB ?_)|(refine wlNB ?_)|(refine wlE ?_)|(refine efSvvp ?_;intro v hv hp)|(refine efSvao ?_;intro v oa ho)|(refine efM ?_)|(refine efMvao ?_;intro v oa ho)|((with_reducible refine sel_store ?_);first|(refine wl_putB (e:=5) rfl rfl rfl rfl rfl ?_;intro oa ho))|((with_reducible refine sel_slice ?_);first|(refine wl_subB (lo:=32) rfl rfl rfl rfl rfl rfl rfl rfl ?_;intro v hv hp))|(refine efZCnn ?_;intro n hn)|(refine efBnn ?_;intro n hn)|(refine efB ?_)|(refine efBS ?_)|(refine wl_skip rfl rfl ?_)|((with_reducible refine wc_seq ?_);intro K hK)|(refine auC ?_)|(refine wc_cond rfl (fun hc=>?_) (fun hc=>?_))|((with_reducible refine wc_drawC (by kernel_rfl) ?_);(try simp only [List.append_eq,List.cons_append,List.nil_append,List.length_cons,List.length_nil,Nat.reduceAdd]))|((with_reducible refine sel_wh ?_);(refine wh_if (by decide +kernel) ?_);first|(refine wh_take (lq:=[]) rfl rfl rfl rfl (by first|exact rvS|exact rvB|exact rvNB|exact rvE) (Or.inl rfl) ?_)|(refine wh_takeL rfl rfl rfl rfl (by first|exact rvS|exact rvB|exact rvNB|exact rvE) (by decide +kernel) ?_))|(refine whS ?_;intro v hv hp)|((with_reducible refine sel_wh ?_);first|(refine wh_pass rfl rfl rfl rfl ?_)|(refine wh_done rfl ?_)|(refine wh_all rfl ?_))|((with_reducible refine sel_rest ?_);first|exact rest_nil rfl|refine rest_cons rfl rfl ?_ ?_)|((with_reducible refine sel_nx ?_);first|refine next_of ?_|refine next_late (by decide +kernel) ?_)|(refine auP ?_)|((refine auR ?_);clear hK K)|(refine auR ?_)|((with_reducible refine hK _ _ ?_);clear hK K)|fail)
 repeat' (first|(refine wlS ?_)|(refine wlR ?_)|(refine wlB ?_)|(refine wlNB ?_)|((with_reducible refine sel_call ?_);refine wl_rd rfl rfl (rd_call rfl rfl rfl (fun w hm=>by with_reducible first|exact U1 w|exact U2 w|exact OF w|exact LC w|exact CC w|exact CH w (hm.below rfl) (VwB.out w hm)|exact TC w|exact AC w)) ?_)|(refine wlE ?_)|(refine efSvvp ?_;intro v hv hp)|(refine efSvao ?_;intro v oa ho)|(refine efR ?_)|(refine efZCnn ?_;intro n hn)|(refine efBnn ?_;intro n hn)|(refine efB ?_)|(refine efBS ?_)|(refine wl_skip rfl rfl ?_)|(refine wdS ?_)|(refine wd_pure hm0 rfl rfl rfl rfl rvS ?_)|(refine wdR ?_)|(refine wd_pure hm0 rfl rfl rfl rfl rvR ?_)|(refine wdV ?_)|(refine wdB ?_)|(refine wd_pure hm0 rfl rfl rfl rfl rvB ?_)|(refine wdNB ?_)|(refine wd_pure hm0 rfl rfl rfl rfl rvNB ?_)|((with_reducible refine seld_call ?_);refine wd_rd hm0 rfl rfl rfl rfl (rd_call rfl rfl rfl (fun w hm=>by with_reducible first|exact U1 w|exact U2 w|exact OF w|exact LC w|exact CC w|exact CH w (hm.below rfl) (VwB.out w hm)|exact TC w|exact AC w)) ?_)|(refine wdE ?_)|(refine wd_pure hm0 rfl rfl rfl rfl rvE ?_)|((with_reducible refine seld_load ?_);first|refine wd_ld hm0 rfl rfl rfl rfl rfl rfl (by repeat (first|exact Inn.here|refine Inn.there ?_)) (ld_O (Has.inn Inn.here)) ?_|refine wd_ld hm0 rfl rfl rfl rfl rfl rfl (by repeat (first|exact Inn.here|refine Inn.there ?_)) (ld_OR (Has.inn Inn.here)) ?_|refine wd_ld hm0 rfl rfl rfl rfl rfl rfl (by repeat (first|exact Inn.here|refine Inn.there ?_)) (ld_num (Has.inn Inn.here)) ?_|refine wd_ld hm0 rfl rfl rfl rfl rfl rfl (by repeat (first|exact Inn.here|refine Inn.there ?_)) (ld_whole (Has.inn Inn.here)) ?_|refine wd_ld hm0 rfl rfl rfl rfl rfl rfl (by repeat (first|exact Inn.here|refine Inn.there ?_)) (ld_cell (Has.inn Inn.here)) ?_|refine wd_ld hm0 rfl rfl rfl rfl rfl rfl (by repeat (first|exact Inn.here|refine Inn.there ?_)) (ld_row (Has.inn Inn.here)) ?_)|(refine wdT ?_)|(refine wdTO ?_)|(refine wd_skip rfl rfl ?_)|((with_reducible refine seld_nil ?_);refine wd_nil hm0 ?_;clear hm0 hw0)|((with_reducible refine wc_seq ?_);intro K hK)|(refine auC ?_)|(refine wc_cond rfl (fun hc=>?_) (fun hc=>?_))|(refine wc_drawS (id:=13) [6,7] (by kernel_rfl) (by kernel_rfl) (by decide +kernel) (by decide +kernel) ?_;intro w0 hw0 hm0;(try simp only [List.append_eq,List.cons_append,List.nil_append]))|(refine wc_draw (id:=9) (by kernel_rfl) (by kernel_rfl) (by decide +kernel) ?_;intro w0 hw0 hm0;(try simp only [List.append_eq,List.cons_append,List.nil_append]))|(refine wc_draw (id:=11) (by kernel_rfl) (by kernel_rfl) (by decide +kernel) ?_;intro w0 hw0 hm0;(try simp only [List.append_eq,List.cons_append,List.nil_append]))|((with_reducible refine wc_drawC (by kernel_rfl) ?_);(try simp only [List.append_eq,List.cons_append,List.nil_append,List.length_cons,List.length_nil,Nat.reduceAdd]))|((with_reducible refine sel_wh ?_);(refine wh_if (by decide +kernel) ?_);first|(refine wh_take (lq:=[]) rfl rfl rfl rfl (by first|exact rvS|exact rvR|exact rvB|exact rvNB|exact rvE) (Or.inl rfl) ?_)|(refine wh_takeL rfl rfl rfl rfl (by first|exact rvS|exact rvR|exact rvB|exact rvNB|exact rvE) (by decide +kernel) ?_))|(refine whS ?_;intro v hv hp)|((with_reducible refine sel_wh ?_);first|(refine wh_pass rfl rfl rfl rfl ?_)|(refine wh_done rfl ?_)|(refine wh_all rfl ?_))|((with_reducible refine sel_rest ?_);first|exact rest_nil rfl|refine rest_cons rfl rfl ?_ ?_)|((with_reducible refine sel_nx ?_);first|refine next_of ?_|refine next_late (by decide +kernel) ?_)|(refine auP ?_)|((refine auR ?_);clear hK K)|(refine auR ?_)|((with_reducible refine hK _ _ ?_);clear hK K)|fail)
 first|refine end_ret (ResP.cell rfl ld_whole (ResP.cell rfl ld_whole (ResP.tmp rfl ResP.nil))) ?_|refine end_normal (ResP.cell rfl ld_whole (ResP.cell rfl ld_whole (ResP.tmp rfl ResP.nil))) ?_
 first|rfl|(show _=_;rfl)|(simp only [tupV, *];done)
end Go.Proofs.YtkendlnjaopbeaaGreatDoor
namespace Go.Proofs.YtkendlnjaopbeaaGreatDoor
set_option linter.unusedVariables false
open Classical in
noncomputable def verI (k f s:Nat) (p:List Nat):Int:=if clOk k f s then (if Pt.base.times s=tP k f p then 0 else 5) else 4
theorem verI_zero {k f s:Nat}{p:List Nat}:verI k f s p=0↔clOk k f s∧Pt.base.times s=tP k f p:=by
 unfold verI
 by_cases h:clOk k f s
 ·by_cases h2:Pt.base.times s=tP k f p
  ·simp [h,h2]
  ·simp [h,h2]
 ·simp [h]
theorem verI_five {k f s:Nat}{p:List Nat}(h:clOk k f s)(h2:Pt.base.times s≠tP k f p):verI k f s p=5:=by
 unfold verI;rw [if_pos h,if_neg h2]
theorem verI_four {k f s:Nat}{p:List Nat}(h:¬clOk k f s):verI k f s p=4:=by
 unfold verI;rw [if_neg h]
end Go.Proofs.YtkendlnjaopbeaaGreatDoor
namespace Go.Proofs.YtkendlnjaopbeaaGreatDoor
open Go.RowKit
attribute [local irreducible] rwA bys iw
set_option linter.unusedVariables false
set_option linter.unusedSimpArgs false
set_option maxRecDepth 100000
set_option maxHeartbeats 4000000 in
theorem ver_len (w:World)(k:Nat){v u:Value}{m:Nat}{sig:List Nat}(hsig:Cb w u m sig)(hm:m≠64) :
  Calls Tryz.prog 103 [.agg (bys (lb k)),v,u].toArray w (Ret (.int .i64 1) w):=by
 have i1:=hsig.old
 have CL:∀ w'',Cb w'' u m sig→Calls Tryz.prog 104 [.agg (bys (lb k)),v,u].toArray w'' (Ret (.tuple #[nu 0,pv ⟨0,0⟩,.int .i64 1]) w''):=fun w'' h=>claim_len w'' k h hm
 have z1:((1:Int) != 0)=true:=rfl
 clear hsig
 refine fn_ret (N:=_) Tryz.func103 rfl Tryz.ntmps103 Tryz.results103 (by simp) ?_
 simp only [initS,Nat.reduceAdd,Nat.zero_add]
 repeat' (first|(refine wlS ?_)|(refine wlR ?_)|(refine wlB ?_)|(refine wlNB ?_)|((with_reducible refine sel_call ?_);refine wl_rd rfl rfl (rd_call rfl rfl rfl (fun w hm=>by with_reducible exact CL w (VwB.out w hm))) ?_)|(refine wlE ?_)|(refine efSvao ?_;intro v oa ho)|(refine efR ?_)|(refine efZCnn ?_;intro n hn)|(refine efBnn ?_;intro n hn)|(refine efB ?_)|(refine efBS ?_)|(refine wl_skip rfl rfl ?_)|(refine wdS ?_)|(refine wdR ?_)|(refine wdV ?_)|(refine wdB ?_)|((with_reducible refine seld_call ?_);refine wd_rd hm0 rfl rfl rfl rfl (rd_call rfl rfl rfl (fun w hm=>by with_reducible exact CL w (VwB.out w hm))) ?_)|(refine wdE ?_)|(refine wd_allocC hm0 rfl rfl rfl ?_;intro n hn hn0)|(refine wd_alloc hm0 rfl rfl rfl ?_;intro n hn hn0)|(refine wdT ?_)|(refine wdTO ?_)|(refine wd_skip rfl rfl ?_)|((with_reducible refine seld_nil ?_);refine wd_nil hm0 ?_;clear hm0 hw0)|((with_reducible refine wc_seq ?_);intro K hK)|(refine auC ?_)|(refine wc_cond rfl (fun hc=>?_) (fun hc=>?_))|(refine wc_draw (by kernel_rfl) (by kernel_rfl) (by decide +kernel) ?_;intro w0 hw0 hm0;(try simp only [List.append_eq,List.cons_append,List.nil_append]))|(refine auP ?_)|((refine auR ?_);clear hK K)|(refine auR ?_)|((with_reducible refine hK _ _ ?_);clear hK K)|fail)
 first|refine end_ret (ResP.tmp rfl ResP.nil) ?_|refine end_normal (ResP.tmp rfl ResP.nil) ?_
 first|rfl|(show _=_;rfl)|(simp only [tupV, *];done)
set_option maxHeartbeats 8000000 in
theorem ver_c (w:World)(hT:Tab w)(w':World)(hb:Below w.heap.size w w')(k f s:Nat)(hk:k<T256)(hf:f<T256)(hs:s<T256){v:Value}{n:Nat}{p:List Nat}(hq:Cb w' v n p)(hn:n≤1048576){u:Value}(hsig:Cb w' u 64 (lb f++lb s)) :
  Calls Tryz.prog 103 [.agg (bys (lb k)),v,u].toArray w' (Ret (.int .i64 (verI k f s p)) w'):=by
 have i1:=hsig.old
 have i2:=hq.old
 have hT':=hT.below hb
 have z0:((0:Int) != 0)=false:=rfl
 have z4:((4:Int) != 0)=true:=rfl
 by_cases hok:clOk k f s
 ·have CL:∀ w'',Below w'.heap.size w' w''→Cb w'' v n p→Cb w'' u 64 (lb f++lb s)→Calls Tryz.prog 104 [.agg (bys (lb k)),v,u].toArray w'' (Ret (.tuple #[nu s,pv (tP k f p),.int .i64 0]) w''):=fun w'' h1 h2 h3=>claim_ok w' hT' w'' h1 k f s hk hf hs hok h2 hn h3
  have BC:=base_c
  have TC:=times_yes s hs base_red.lt base_on
  have on1:=times_on base_on s
  have on2:=tP_on (s:=s) hk hf hok p
  by_cases he:Pt.base.times s=tP k f p
  ·have hv:verI k f s p=0:=verI_zero.2 ⟨hok,he⟩
   rw [hv]
   rw [he] at TC
   have q1:=eq_pt_yes on2.red.lt (rfl:tP k f p=tP k f p)
   clear hsig hq hT hb hT' hv he hok on1 on2 hk hf hs
   generalize tP k f p=P1 at *
   generalize Pt.base=B at *
   refine fn_ret (N:=_) Tryz.func103 rfl Tryz.ntmps103 Tryz.results103 (by simp) ?_
   simp only [initS,Nat.reduceAdd,Nat.zero_add]
   repeat' (first|(refine wlS ?_)|(refine wlR ?_)|(refine wlB ?_)|((with_reducible refine sel_b_neq ?_);refine wv rfl rfl (rd_neqV rfl rfl rfl (by with_reducible exact q1)) ?_)|(refine wlNB ?_)|((with_reducible refine sel_call ?_);refine wl_rd rfl rfl (rd_call rfl rfl rfl (fun w hm=>by with_reducible first|exact CL w (hm.below rfl) (VwB.out w hm) (VwB.out w hm)|exact BC w|exact TC w)) ?_)|(refine wlE ?_)|(refine efSvao ?_;intro v oa ho)|(refine efR ?_)|(refine efZCnn ?_;intro n hn)|(refine efBnn ?_;intro n hn)|(refine efB ?_)|(refine efBS ?_)|(refine wl_skip rfl rfl ?_)|(refine wdS ?_)|(refine wdR ?_)|(refine wdV ?_)|(refine wdB ?_)|((with_reducible refine seld_call ?_);refine wd_rd hm0 rfl rfl rfl rfl (rd_call rfl rfl rfl (fun w hm=>by with_reducible first|exact CL w (hm.below rfl) (VwB.out w hm) (VwB.out w hm)|exact BC w|exact TC w)) ?_)|(refine wdE ?_)|(refine wd_allocC hm0 rfl rfl rfl ?_;intro n hn hn0)|(refine wd_alloc hm0 rfl rfl rfl ?_;intro n hn hn0)|(refine wdT ?_)|(refine wdTO ?_)|(refine wd_skip rfl rfl ?_)|((with_reducible refine seld_nil ?_);refine wd_nil hm0 ?_;clear hm0 hw0)|((with_reducible refine wc_seq ?_);intro K hK)|(refine auC ?_)|(refine wc_cond rfl (fun hc=>?_) (fun hc=>?_))|(refine wc_draw (by kernel_rfl) (by kernel_rfl) (by decide +kernel) ?_;intro w0 hw0 hm0;(try simp only [List.append_eq,List.cons_append,List.nil_append]))|(refine auP ?_)|((refine auR ?_);clear hK K)|(refine auR ?_)|((with_reducible refine hK _ _ ?_);clear hK K)|fail)
   first|refine end_ret (ResP.tmp rfl ResP.nil) ?_|refine end_normal (ResP.tmp rfl ResP.nil) ?_
   first|rfl|(show _=_;rfl)|(simp only [tupV, *];done)
  ·have hv:verI k f s p=5:=verI_five hok he
   rw [hv]
   have q1:=eq_pt_no on1.red.lt on2.red.lt he
   clear hsig hq hT hb hT' hv he hok on1 on2 hk hf hs
   generalize Pt.base.times s=P2 at *
   generalize tP k f p=P1 at *
   generalize Pt.base=B at *
   refine fn_ret (N:=_) Tryz.func103 rfl Tryz.ntmps103 Tryz.results103 (by simp) ?_
   simp only [initS,Nat.reduceAdd,Nat.zero_add]
   repeat' (first|(refine wlS ?_)|(refine wlR ?_)|(refine wlB ?_)|((with_reducible refine sel_b_neq ?_);refine wv rfl rfl (rd_neqV rfl rfl rfl (by with_reducible exact q1)) ?_)|(refine wlNB ?_)|((with_reducible refine sel_call ?_);refine wl_rd rfl rfl (rd_call rfl rfl rfl (fun w hm=>by with_reducible first|exact CL w (hm.below rfl) (VwB.out w hm) (VwB.out w hm)|exact BC w|exact TC w)) ?_)|(refine wlE ?_)|(refine efSvao ?_;intro v oa ho)|(refine efR ?_)|(refine efZCnn ?_;intro n hn)|(refine efBnn ?_;intro n hn)|(refine efB ?_)|(refine efBS ?_)|(refine wl_skip rfl rfl ?_)|(refine wdS ?_)|(refine wdR ?_)|(refine wdV ?_)|(refine wdB ?_)|((with_reducible refine seld_call ?_);refine wd_rd hm0 rfl rfl rfl rfl (rd_call rfl rfl rfl (fun w hm=>by with_reducible first|exact CL w (hm.below rfl) (VwB.out w hm) (VwB.out w hm)|exact BC w|exact TC w)) ?_)|(refine wdE ?_)|(refine wd_allocC hm0 rfl rfl rfl ?_;intro n hn hn0)|(refine wd_alloc hm0 rfl rfl rfl ?_;intro n hn hn0)|(refine wdT ?_)|(refine wdTO ?_)|(refine wd_skip rfl rfl ?_)|((with_reducible refine seld_nil ?_);refine wd_nil hm0 ?_;clear hm0 hw0)|((with_reducible refine wc_seq ?_);intro K hK)|(refine auC ?_)|(refine wc_cond rfl (fun hc=>?_) (fun hc=>?_))|(refine wc_draw (by kernel_rfl) (by kernel_rfl) (by decide +kernel) ?_;intro w0 hw0 hm0;(try simp only [List.append_eq,List.cons_append,List.nil_append]))|(refine auP ?_)|((refine auR ?_);clear hK K)|(refine auR ?_)|((with_reducible refine hK _ _ ?_);clear hK K)|fail)
   first|refine end_ret (ResP.tmp rfl ResP.nil) ?_|refine end_normal (ResP.tmp rfl ResP.nil) ?_
   first|rfl|(show _=_;rfl)|(simp only [tupV, *];done)
 ·have hv:=verI_four (p:=p) hok
  rw [hv]
  have CL:∀ w'',Cb w'' u 64 (lb f++lb s)→Calls Tryz.prog 104 [.agg (bys (lb k)),v,u].toArray w'' (Ret (.tuple #[nu 0,pv ⟨0,0⟩,.int .i64 4]) w''):=fun w'' h3=>claim_bad w'' k f s hk hf hs hok h3
  clear hsig hq hT hb hT' hv hok hk hf hs
  refine fn_ret (N:=_) Tryz.func103 rfl Tryz.ntmps103 Tryz.results103 (by simp) ?_
  simp only [initS,Nat.reduceAdd,Nat.zero_add]
  repeat' (first|(refine wlS ?_)|(refine wlR ?_)|(refine wlB ?_)|(refine wlNB ?_)|((with_reducible refine sel_call ?_);refine wl_rd rfl rfl (rd_call rfl rfl rfl (fun w hm=>by with_reducible exact CL w (VwB.out w hm))) ?_)|(refine wlE ?_)|(refine efSvao ?_;intro v oa ho)|(refine efR ?_)|(refine efZCnn ?_;intro n hn)|(refine efBnn ?_;intro n hn)|(refine efB ?_)|(refine efBS ?_)|(refine wl_skip rfl rfl ?_)|(refine wdS ?_)|(refine wdR ?_)|(refine wdV ?_)|(refine wdB ?_)|((with_reducible refine seld_call ?_);refine wd_rd hm0 rfl rfl rfl rfl (rd_call rfl rfl rfl (fun w hm=>by with_reducible exact CL w (VwB.out w hm))) ?_)|(refine wdE ?_)|(refine wd_allocC hm0 rfl rfl rfl ?_;intro n hn hn0)|(refine wd_alloc hm0 rfl rfl rfl ?_;intro n hn hn0)|(refine wdT ?_)|(refine wdTO ?_)|(refine wd_skip rfl rfl ?_)|((with_reducible refine seld_nil ?_);refine wd_nil hm0 ?_;clear hm0 hw0)|((with_reducible refine wc_seq ?_);intro K hK)|(refine auC ?_)|(refine wc_cond rfl (fun hc=>?_) (fun hc=>?_))|(refine wc_draw (by kernel_rfl) (by kernel_rfl) (by decide +kernel) ?_;intro w0 hw0 hm0;(try simp only [List.append_eq,List.cons_append,List.nil_append]))|(refine auP ?_)|((refine auR ?_);clear hK K)|(refine auR ?_)|((with_reducible refine hK _ _ ?_);clear hK K)|fail)
  first|refine end_ret (ResP.tmp rfl ResP.nil) ?_|refine end_normal (ResP.tmp rfl ResP.nil) ?_
  first|rfl|(show _=_;rfl)|(simp only [tupV, *];done)
end Go.Proofs.YtkendlnjaopbeaaGreatDoor
