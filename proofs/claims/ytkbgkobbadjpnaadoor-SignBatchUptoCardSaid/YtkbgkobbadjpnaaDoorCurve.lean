/- curve.d, Zero, Base, quadOf, plus, point, On, Neg, Add. -/
import Derived.Test.YtkbgkobbadjpnaaDoorQuotAll
import Derived.Test.YtkbgkobbadjpnaaDoorPlainA
import Derived.Test.YtkbgkobbadjpnaaDoorFpow
namespace Go.Proofs.YtkbgkobbadjpnaaDoor
open Go.RowKit
set_option maxRecDepth 100000
set_option linter.unusedVariables false
set_option linter.unusedSimpArgs false
set_option maxRecDepth 8000
instance r2_point : R2 Tryd.prog 36 := ⟨⟨by kernel_rfl⟩, ⟨by kernel_rfl⟩⟩
instance r4_quad : R4 Tryd.prog 107 := ⟨⟨by kernel_rfl⟩, ⟨by kernel_rfl⟩⟩
instance zc_point : ZC Tryd.prog 36 (rowC [0, 0]) := zc_r2 r2_point
instance zc_quad : ZC Tryd.prog 107 (rowC [0, 0, 0, 0]) := zc_r4 r4_quad
abbrev pv (p : Pt) : Value := ro [p.x, p.y]
abbrev qv (q : Qd) : Value := ro [q.x, q.y, q.z, q.t]
theorem DD_val : Value.agg [.int .u64 8496970652267935907, .int .u64 31536524315187371, .int .u64 10144147576115030168, .int .u64 5909686906226998899].toArray = nu DD := four_val 8496970652267935907 31536524315187371 10144147576115030168 5909686906226998899 DD (by decide +kernel) (by decide +kernel) (by decide +kernel) (by decide +kernel)
theorem BX_val : Value.agg [.int .u64 14507833142362363162, .int .u64 7578651490590762930, .int .u64 13881468655802702940, .int .u64 2407515759118799870].toArray = nu BX := four_val 14507833142362363162 7578651490590762930 13881468655802702940 2407515759118799870 BX (by decide +kernel) (by decide +kernel) (by decide +kernel) (by decide +kernel)
theorem BY_val : Value.agg [.int .u64 7378697629483820632, .int .u64 7378697629483820646, .int .u64 7378697629483820646, .int .u64 7378697629483820646].toArray = nu BY := four_val 7378697629483820632 7378697629483820646 7378697629483820646 7378697629483820646 BY (by decide +kernel) (by decide +kernel) (by decide +kernel) (by decide +kernel)
theorem d_c (w : World) : Calls Tryd.prog 73 [].toArray w (Ret (nu DD) w) := by
  refine fn_ret (N := _) Tryd.func73 rfl Tryd.ntmps73 Tryd.results73 (by simp) ?_
  simp only [initS, Nat.reduceAdd, Nat.zero_add]
  repeat' (first | ((with_reducible refine sel_build ?_); refine wv rfl rfl (rd_cast (rd_buildA rfl rfl) DD_val) ?_) | (refine wlE ?_) | (refine efZCnn ?_; intro n hn) | (refine efBnn ?_; intro n hn) | (refine efB ?_) | (refine wl_skip rfl rfl ?_) | ((with_reducible refine wc_seq ?_); intro K hK) | (refine auC ?_) | (refine wc_cond rfl (fun hc => ?_) (fun hc => ?_)) | (refine wc_draw (by kernel_rfl) (by kernel_rfl) (by decide +kernel) ?_; intro w0 hw0 hm0; (try simp only [List.append_eq, List.cons_append, List.nil_append])) | (refine auP ?_) | ((refine auR ?_); clear hK K) | (refine auR ?_) | ((with_reducible refine hK _ _ ?_); clear hK K) | fail)
  first | refine end_ret (ResP.cell rfl ld_whole ResP.nil) ?_ | refine end_normal (ResP.cell rfl ld_whole ResP.nil) ?_
  first | rfl | (show _ = _; rfl) | (simp only [tupV, *]; done)
theorem zero_c (w : World) : Calls Tryd.prog 48 [].toArray w (Ret (pv Pt.zero) w) := by
  refine fn_ret (N := _) Tryd.func48 rfl Tryd.ntmps48 Tryd.results48 (by simp) ?_
  simp only [initS, Nat.reduceAdd, Nat.zero_add]
  repeat' (first | (refine wlR ?_) | (refine wlNL ?_) | (refine wlE ?_) | (refine efR ?_) | (refine efZCnn ?_; intro n hn) | (refine efBnn ?_; intro n hn) | (refine efB ?_) | (refine wl_skip rfl rfl ?_) | ((with_reducible refine wc_seq ?_); intro K hK) | (refine auC ?_) | (refine wc_cond rfl (fun hc => ?_) (fun hc => ?_)) | (refine wc_draw (by kernel_rfl) (by kernel_rfl) (by decide +kernel) ?_; intro w0 hw0 hm0; (try simp only [List.append_eq, List.cons_append, List.nil_append])) | (refine auP ?_) | ((refine auR ?_); clear hK K) | (refine auR ?_) | ((with_reducible refine hK _ _ ?_); clear hK K) | fail)
  first | refine end_ret (ResP.cell rfl ld_whole ResP.nil) ?_ | refine end_normal (ResP.cell rfl ld_whole ResP.nil) ?_
  first | rfl | (show _ = _; rfl) | (simp only [tupV, *]; done)
theorem base_c (w : World) : Calls Tryd.prog 17 [].toArray w (Ret (pv Pt.base) w) := by
  refine fn_ret (N := _) Tryd.func17 rfl Tryd.ntmps17 Tryd.results17 (by simp) ?_
  simp only [initS, Nat.reduceAdd, Nat.zero_add]
  repeat' (first | (refine wlR ?_) | ((with_reducible refine sel_build ?_); refine wv rfl rfl (rd_cast (rd_buildA rfl rfl) BX_val) ?_) | ((with_reducible refine sel_build ?_); refine wv rfl rfl (rd_cast (rd_buildA rfl rfl) BY_val) ?_) | (refine wlE ?_) | (refine efR ?_) | (refine efZCnn ?_; intro n hn) | (refine efBnn ?_; intro n hn) | (refine efB ?_) | (refine wl_skip rfl rfl ?_) | ((with_reducible refine wc_seq ?_); intro K hK) | (refine auC ?_) | (refine wc_cond rfl (fun hc => ?_) (fun hc => ?_)) | (refine wc_draw (by kernel_rfl) (by kernel_rfl) (by decide +kernel) ?_; intro w0 hw0 hm0; (try simp only [List.append_eq, List.cons_append, List.nil_append])) | (refine auP ?_) | ((refine auR ?_); clear hK K) | (refine auR ?_) | ((with_reducible refine hK _ _ ?_); clear hK K) | fail)
  first | refine end_ret (ResP.cell rfl ld_whole ResP.nil) ?_ | refine end_normal (ResP.cell rfl ld_whole ResP.nil) ?_
  first | rfl | (show _ = _; rfl) | (simp only [tupV, *]; done)
set_option maxHeartbeats 2000000 in
theorem quadOf_c (p : Pt) (hp : p.lt) (w : World) : Calls Tryd.prog 61 [pv p].toArray w (Ret (qv p.quad) w) := by
  obtain ⟨h1, h2⟩ := hp
  refine fn_ret (N := _) Tryd.func61 rfl Tryd.ntmps61 Tryd.results61 (by simp) ?_
  simp only [initS, Nat.reduceAdd, Nat.zero_add]
  repeat' (first | (refine efZCnn ?_; intro n hn) | (refine efBnn ?_; intro n hn) | (refine wl_skip rfl rfl ?_) | (refine wdR ?_) | (refine wdV ?_) | (refine wdB ?_) | (refine wdNL ?_) | ((with_reducible refine seld_call ?_); refine wd_rd hm0 rfl rfl rfl rfl (rd_call rfl rfl rfl (fun w _ => by with_reducible exact mulG _ _ (by first | (with_reducible assumption) | (with_reducible exact SmT.out) | decide) (by first | (with_reducible assumption) | (with_reducible exact SmT.out) | decide) w)) ?_) | (refine wdE ?_) | (refine wdT ?_) | (refine wd_skip rfl rfl ?_) | ((with_reducible refine seld_nil ?_); refine wd_nil hm0 ?_; clear hm0 hw0) | ((with_reducible refine wc_seq ?_); intro K hK) | (refine auC ?_) | (refine wc_cond rfl (fun hc => ?_) (fun hc => ?_)) | (refine wc_draw (by kernel_rfl) (by kernel_rfl) (by decide +kernel) ?_; intro w0 hw0 hm0; (try simp only [List.append_eq, List.cons_append, List.nil_append])) | (refine auP ?_) | ((refine auR ?_); clear hK K) | (refine auR ?_) | ((with_reducible refine hK _ _ ?_); clear hK K) | fail)
  first | refine end_ret (ResP.cell rfl ld_whole ResP.nil) ?_ | refine end_normal (ResP.cell rfl ld_whole ResP.nil) ?_
  first | rfl | (show _ = _; rfl) | (simp only [tupV, *]; done)
set_option maxHeartbeats 2000000 in
theorem point_c (q : Qd) (hq : q.lt) (w : World) : Calls Tryd.prog 65 [qv q].toArray w (Ret (pv q.point) w) := by
  obtain ⟨h1, h2, h3, h4⟩ := hq
  refine fn_ret (N := _) Tryd.func65 rfl Tryd.ntmps65 Tryd.results65 (by simp) ?_
  simp only [initS, Nat.reduceAdd, Nat.zero_add]
  repeat' (first | (refine wlR ?_) | (refine wlB ?_) | ((with_reducible refine sel_call ?_); first | refine wl_rd rfl rfl (rd_call rfl rfl rfl (fun w _ => by with_reducible exact mulG _ _ (by first | (with_reducible assumption) | (with_reducible exact SmT.out) | decide) (by first | (with_reducible assumption) | (with_reducible exact SmT.out) | decide) w)) ?_ | refine wl_rd rfl rfl (rd_call rfl rfl rfl (fun w _ => by with_reducible exact invG _ (by first | (with_reducible assumption) | (with_reducible exact SmT.out) | decide) w)) ?_) | (refine wlE ?_) | (refine efR ?_) | (refine efZCnn ?_; intro n hn) | (refine efBnn ?_; intro n hn) | (refine efB ?_) | (refine wl_skip rfl rfl ?_) | (refine wdR ?_) | (refine wdV ?_) | (refine wdB ?_) | (refine wdNL ?_) | ((with_reducible refine seld_call ?_); refine wd_rd hm0 rfl rfl rfl rfl (rd_call rfl rfl rfl (fun w _ => by with_reducible exact mulG _ _ (by first | (with_reducible assumption) | (with_reducible exact SmT.out) | decide) (by first | (with_reducible assumption) | (with_reducible exact SmT.out) | decide) w)) ?_) | ((with_reducible refine seld_call ?_); refine wd_rd hm0 rfl rfl rfl rfl (rd_call rfl rfl rfl (fun w _ => by with_reducible exact invG _ (by first | (with_reducible assumption) | (with_reducible exact SmT.out) | decide) w)) ?_) | (refine wdE ?_) | (refine wdT ?_) | (refine wd_skip rfl rfl ?_) | ((with_reducible refine seld_nil ?_); refine wd_nil hm0 ?_; clear hm0 hw0) | ((with_reducible refine wc_seq ?_); intro K hK) | (refine auC ?_) | (refine wc_cond rfl (fun hc => ?_) (fun hc => ?_)) | (refine wc_draw (by kernel_rfl) (by kernel_rfl) (by decide +kernel) ?_; intro w0 hw0 hm0; (try simp only [List.append_eq, List.cons_append, List.nil_append])) | (refine auP ?_) | ((refine auR ?_); clear hK K) | (refine auR ?_) | ((with_reducible refine hK _ _ ?_); clear hK K) | fail)
  first | refine end_ret (ResP.cell rfl ld_whole ResP.nil) ?_ | refine end_normal (ResP.cell rfl ld_whole ResP.nil) ?_
  first | rfl | (show _ = _; rfl) | (simp only [tupV, *]; done)
set_option maxHeartbeats 8000000 in
theorem plus_c (q r : Qd) (hq : q.lt) (hr : r.lt) (w : World) : Calls Tryd.prog 63 [qv q, qv r].toArray w (Ret (qv (q.plus r)) w) := by
  obtain ⟨h1, h2, h3, h4⟩ := hq
  obtain ⟨k1, k2, k3, k4⟩ := hr
  have hD := DD_lt
  have D := d_c
  refine fn_ret (N := _) Tryd.func63 rfl Tryd.ntmps63 Tryd.results63 (by simp) ?_
  simp only [initS, Nat.reduceAdd, Nat.zero_add]
  repeat' (first | (refine wlR ?_) | (refine wlB ?_) | ((with_reducible refine sel_call ?_); first | refine wl_rd rfl rfl (rd_call rfl rfl rfl (fun w _ => by with_reducible exact mulG _ _ (by first | (with_reducible assumption) | (with_reducible exact SmT.out) | decide) (by first | (with_reducible assumption) | (with_reducible exact SmT.out) | decide) w)) ?_ | refine wl_rd rfl rfl (rd_call rfl rfl rfl (fun w _ => by with_reducible exact addG _ _ (by first | (with_reducible assumption) | (with_reducible exact SmT.out) | decide) (by first | (with_reducible assumption) | (with_reducible exact SmT.out) | decide) w)) ?_ | refine wl_rd rfl rfl (rd_call rfl rfl rfl (fun w _ => by with_reducible exact subG _ _ (by first | (with_reducible assumption) | (with_reducible exact SmT.out) | decide) (by first | (with_reducible assumption) | (with_reducible exact SmT.out) | decide) w)) ?_ | refine wl_rd rfl rfl (rd_call rfl rfl rfl (fun w hm => by with_reducible exact D w)) ?_) | (refine wlE ?_) | (refine efR ?_) | (refine efZCnn ?_; intro n hn) | (refine efBnn ?_; intro n hn) | (refine efB ?_) | (refine wl_skip rfl rfl ?_) | (refine wdR ?_) | (refine wdV ?_) | (refine wdB ?_) | (refine wdNL ?_) | ((with_reducible refine seld_call ?_); refine wd_rd hm0 rfl rfl rfl rfl (rd_call rfl rfl rfl (fun w _ => by with_reducible exact mulG _ _ (by first | (with_reducible assumption) | (with_reducible exact SmT.out) | decide) (by first | (with_reducible assumption) | (with_reducible exact SmT.out) | decide) w)) ?_) | ((with_reducible refine seld_call ?_); refine wd_rd hm0 rfl rfl rfl rfl (rd_call rfl rfl rfl (fun w _ => by with_reducible exact addG _ _ (by first | (with_reducible assumption) | (with_reducible exact SmT.out) | decide) (by first | (with_reducible assumption) | (with_reducible exact SmT.out) | decide) w)) ?_) | ((with_reducible refine seld_call ?_); refine wd_rd hm0 rfl rfl rfl rfl (rd_call rfl rfl rfl (fun w _ => by with_reducible exact subG _ _ (by first | (with_reducible assumption) | (with_reducible exact SmT.out) | decide) (by first | (with_reducible assumption) | (with_reducible exact SmT.out) | decide) w)) ?_) | ((with_reducible refine seld_call ?_); refine wd_rd hm0 rfl rfl rfl rfl (rd_call rfl rfl rfl (fun w hm => by with_reducible exact D w)) ?_) | (refine wdE ?_) | (refine wd_allocC hm0 rfl rfl rfl ?_; intro n hn hn0) | (refine wd_alloc hm0 rfl rfl rfl ?_; intro n hn hn0) | (refine wdT ?_) | (refine wd_skip rfl rfl ?_) | ((with_reducible refine seld_nil ?_); refine wd_nil hm0 ?_; clear hm0 hw0) | ((with_reducible refine wc_seq ?_); intro K hK) | (refine auC ?_) | (refine wc_cond rfl (fun hc => ?_) (fun hc => ?_)) | (refine wc_draw (by kernel_rfl) (by kernel_rfl) (by decide +kernel) ?_; intro w0 hw0 hm0; (try simp only [List.append_eq, List.cons_append, List.nil_append])) | (refine auP ?_) | ((refine auR ?_); clear hK K) | (refine auR ?_) | ((with_reducible refine hK _ _ ?_); clear hK K) | fail)
  first | refine end_ret (ResP.cell rfl ld_whole ResP.nil) ?_ | refine end_normal (ResP.cell rfl ld_whole ResP.nil) ?_
  first | rfl | (show _ = _; rfl) | (simp only [tupV, *]; done)
end Go.Proofs.YtkbgkobbadjpnaaDoor
