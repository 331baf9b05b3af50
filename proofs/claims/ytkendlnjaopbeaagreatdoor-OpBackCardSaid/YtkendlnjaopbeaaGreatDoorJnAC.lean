/- Four bytes: as a value, as a variable. gf.column, gf.Mix, gf.Unmix. Mix: it comes back, it goes with xor, four times it is nothing; at least five of eight bytes are no nought. Printed by genmds.py. AES in plain terms: states as lists of 16 bytes; decrypting is back from encrypting. The package aes, walked: by. The walks of gf. gf.Sub and gf.Unsub, walked. The package aes, walked: each. The package aes, walked: Encrypt. -/
import Derived.Test.YtkendlnjaopbeaaGreatDoorZc
import Derived.Test.YtkendlnjaopbeaaGreatDoorTy
import Derived.Test.YtkendlnjaopbeaaGreatDoorJnAB
namespace Go.Proofs.YtkendlnjaopbeaaGreatDoor
open Go.RowKit
set_option linter.unusedVariables false
set_option linter.unusedSimpArgs false
def b4 (f : Nat → Nat) : Array Value := #[.int .u8 ((f 0 : Nat) : Int), .int .u8 ((f 1 : Nat) : Int), .int .u8 ((f 2 : Nat) : Int), .int .u8 ((f 3 : Nat) : Int)]
instance b4_cells (f : Nat → Nat) : Cells (b4 f) 4 := ⟨rfl, by simp [b4, Value.oneCell']⟩
theorem b4_get (f : Nat → Nat) (k : Nat) (h : k < 4) : (b4 f)[k]? = some (.int .u8 ((f k : Nat) : Int)) := by
  rcases (by omega : k = 0 ∨ k = 1 ∨ k = 2 ∨ k = 3) with rfl | rfl | rfl | rfl <;> rfl
theorem b4_congr {f g : Nat → Nat} (h : ∀ j, j < 4 → f j = g j) : b4 f = b4 g := by
  unfold b4; rw [h 0 (by omega), h 1 (by omega), h 2 (by omega), h 3 (by omega)]
theorem b4_put (f g : Nat → Nat) (k x : Nat) (h : k < 4) (hx : g k = x) (ho : ∀ j, j < 4 → j ≠ k → g j = f j) : putC (b4 f) k (.int .u8 ((x : Nat) : Int)) = b4 g := by
  subst hx
  rcases (by omega : k = 0 ∨ k = 1 ∨ k = 2 ∨ k = 3) with rfl | rfl | rfl | rfl
  · unfold b4; rw [ho 1 (by omega) (by omega), ho 2 (by omega) (by omega), ho 3 (by omega) (by omega)]; rfl
  · unfold b4; rw [ho 0 (by omega) (by omega), ho 2 (by omega) (by omega), ho 3 (by omega) (by omega)]; rfl
  · unfold b4; rw [ho 0 (by omega) (by omega), ho 1 (by omega) (by omega), ho 3 (by omega) (by omega)]; rfl
  · unfold b4; rw [ho 0 (by omega) (by omega), ho 1 (by omega) (by omega), ho 2 (by omega) (by omega)]; rfl
instance zc_b4 : ZC Tryz.prog 74 (b4 fun _ => 0) := ⟨by kernel_rfl⟩
theorem eql_b4 (f g : Nat → Nat) (r : Bool) (hr : r = true ↔ ∀ j, j < 4 → f j = g j) (w : World) : (Op.equalIn 10000 74 (.agg (b4 f)) (.agg (b4 g))).run Tryz.prog w = .ok r w := by
  have h := eql_ints (P := Tryz.prog) (t := 74) (e := 5) (k := .u8) (k' := .u8) w 9998 4 [((f 0 : Nat) : Int), ((f 1 : Nat) : Int), ((f 2 : Nat) : Int), ((f 3 : Nat) : Int)] [((g 0 : Nat) : Int), ((g 1 : Nat) : Int), ((g 2 : Nat) : Int), ((g 3 : Nat) : Int)] (by kernel_rfl) (by kernel_rfl) (by kernel_rfl) (by kernel_rfl) (by kernel_rfl) rfl rfl
  have e : ([((f 0 : Nat) : Int), ((f 1 : Nat) : Int), ((f 2 : Nat) : Int), ((f 3 : Nat) : Int)] == [((g 0 : Nat) : Int), ((g 1 : Nat) : Int), ((g 2 : Nat) : Int), ((g 3 : Nat) : Int)]) = r := by
    rw [Bool.eq_iff_iff, hr]
    simp only [beq_iff_eq, List.cons.injEq, Int.natCast_inj, and_true]
    constructor
    · rintro ⟨h0, h1, h2, h3⟩ j hj
      rcases (by omega : j = 0 ∨ j = 1 ∨ j = 2 ∨ j = 3) with rfl | rfl | rfl | rfl <;> assumption
    · exact fun h => ⟨h 0 (by omega), h 1 (by omega), h 2 (by omega), h 3 (by omega)⟩
  rw [e] at h
  exact h
theorem b4_build (f : Nat → Nat) (a b c d : Int) (h0 : a = f 0) (h1 : b = f 1) (h2 : c = f 2) (h3 : d = f 3) : Value.agg [.int .u8 a, .int .u8 b, .int .u8 c, .int .u8 d].toArray = .agg (b4 f) := by
  subst h0 h1 h2 h3; rfl
/-- Four bytes that came in. -/
theorem b4_in (zs : List Int) (hl : zs.length = 4) (hz : ∀ z ∈ zs, (Lit.int .u8 z).wf = true) : ∃ f : Nat → Nat, (∀ j, f j < 256) ∧ Value.agg (zs.map (Value.int .u8)).toArray = .agg (b4 f) := by
  have hr : ∀ z ∈ zs, 0 ≤ z ∧ z < 256 := fun z h => by
    have := hz z h
    simp [Lit.wf, IntKind.min, IntKind.max, IntKind.signed, IntKind.bits] at this
    omega
  match zs, hl with
  | [a, b, c, d], _ =>
    have ra := hr a (by simp)
    have rb := hr b (by simp)
    have rc := hr c (by simp)
    have rd := hr d (by simp)
    refine ⟨fun j => match j with | 0 => a.toNat | 1 => b.toNat | 2 => c.toNat | 3 => d.toNat | _ => 0, fun j => ?_, ?_⟩
    · match j with
      | 0 => show a.toNat < 256; omega
      | 1 => show b.toNat < 256; omega
      | 2 => show c.toNat < 256; omega
      | 3 => show d.toNat < 256; omega
      | _ + 4 => exact (by decide : 0 < 256)
    · unfold b4
      simp only [List.map_cons, List.map_nil, Int.toNat_of_nonneg ra.1, Int.toNat_of_nonneg rb.1, Int.toNat_of_nonneg rc.1, Int.toNat_of_nonneg rd.1]
attribute [irreducible] b4
end Go.Proofs.YtkendlnjaopbeaaGreatDoor
namespace Go.Proofs.YtkendlnjaopbeaaGreatDoor
open Go.RowKit
set_option linter.unusedVariables false
set_option linter.unusedSimpArgs false
set_option maxRecDepth 100000
def part (b c : Nat → Nat) (i : Nat) : Nat → Nat
  | 0 => 0
  | k + 1 => part b c i k ^^^ gmul (b k) (c ((i + k) % 4))
def colf (b c : Nat → Nat) (i : Nat) : Nat := part b c i 4
theorem part_lt {b c : Nat → Nat} (hb : ∀ j, b j < 256) (i : Nat) : ∀ k, part b c i k < 256
  | 0 => by unfold part; decide
  | k + 1 => xor_lt (part_lt hb i k) (gmul_lt _ (hb k))
def cst (b c : Nat → Nat) (i k j : Nat) : Nat := if j < i then colf b c j else if j = i then part b c i k else 0
set_option maxHeartbeats 4000000 in
theorem column_gf (b c : Nat → Nat) (hb : ∀ j, b j < 256) (hc : ∀ j, c j < 256) (w : World) : Calls Tryz.prog 121 [.agg (b4 c), .agg (b4 b)].toArray w (Ret (.agg (b4 (colf b c))) w) := by
  have z0 : (fun _ => 0) = cst b c 0 0 := by funext j; unfold cst; simp [part]
  have zend : b4 (colf b c) = b4 (cst b c 4 0) := b4_congr fun j hj => by unfold cst; rw [if_pos hj]
  rw [zend]
  clear zend
  refine fn_ret (N := _) Tryz.func121 rfl Tryz.ntmps121 Tryz.results121 (by simp) ?_
  simp only [initS, Nat.reduceAdd, Nat.zero_add]
  repeat' (first | (refine wlB ?_) | (refine efZCnn ?_; intro n hn) | (refine efBnn ?_; intro n hn) | (refine efB ?_) | (refine wl_skip rfl rfl ?_) | (refine wdV ?_) | (refine wdB ?_) | (refine wdE ?_) | (refine wdT ?_) | (refine wd_skip rfl rfl ?_) | ((with_reducible refine seld_nil ?_); refine wd_nil hm0 ?_; clear hm0 hw0) | ((with_reducible refine wc_seq ?_); intro K hK) | (refine auC ?_) | (refine wc_cond rfl (fun hc => ?_) (fun hc => ?_)) | (refine wc_draw (by kernel_rfl) (by kernel_rfl) (by decide +kernel) ?_; intro w0 hw0 hm0; (try simp only [List.append_eq, List.cons_append, List.nil_append])) | (refine auP ?_) | ((refine auR ?_); clear hK K) | (refine auR ?_) | ((with_reducible refine hK _ _ ?_); clear hK K) | fail)
  rename_i n1 g1 n2 g2 n3 g3
  obtain ⟨n4, rfl⟩ : ∃ n4, n4 = n := ⟨n, rfl⟩
  refine wc_loop (σ := Nat) (fun i => [(2, ptr n1), (3, ptr n2), (4, ptr n3), (5, ptr n4), (9, .int .i64 (i : Int))]) (fun i => [(n4, (b4 (cst b c i 0), 74)), (n3, (b4 fun _ => 0, 74)), (n2, (b4 b, 74)), (n1, (b4 c, 74))])
    (fun i => i ≤ 4) (fun i => 4 - i) 0 (Nat.zero_le _) (Fits.of ⟨rfl, rfl, rfl, rfl, rfl, trivial⟩ (by
      rw [← z0]
      repeat (first | exact SubL.nil | exact SubL.refl _ | refine SubL.keep ?_ | exact SubL.headA _ _ | refine SubL.keepA ?_ _ | refine SubL.skip ?_ | refine SubL.skipA ?_ _)) rfl) ?_
  clear z0
  intro i hi
  by_cases hlt : i < 4
  · have t1 : decide ((i : Int) < 4) = true := decide_eq_true (by omega)
    have hi1 : IntKind.i64.wrap ((i : Int) + 1) = ((i + 1 : Nat) : Int) := wrap_i64 _ (by omega) (by omega)
    clear hi
    repeat' (first | (refine wlB ?_) | (refine efBnn ?_; intro n hn) | (refine efB ?_) | (refine wl_skip rfl rfl ?_) | (refine wdV ?_) | (refine wdB ?_) | (refine wdE ?_) | (refine wdT ?_) | (refine wd_skip rfl rfl ?_) | ((with_reducible refine seld_nil ?_); refine wd_nil hm0 ?_; clear hm0 hw0) | ((with_reducible refine wc_seq ?_); intro K hK) | (refine auC ?_) | (refine wc_cond rfl (fun hc => ?_) (fun hc => ?_)) | (refine wc_draw (by kernel_rfl) (by kernel_rfl) (by decide +kernel) ?_; intro w0 hw0 hm0; (try simp only [List.append_eq, List.cons_append, List.nil_append])) | (refine auP ?_) | ((refine auR ?_); clear hK K) | (refine auR ?_) | ((with_reducible refine hK _ _ ?_); clear hK K) | fail)
    refine wc_loop (σ := Nat) (fun k => [(2, ptr n1), (3, ptr n2), (4, ptr n3), (5, ptr n4), (6, .int .i64 (i : Int)), (9, .int .i64 (i : Int)), (12, .agg (b4 b)), (13, .int .i64 (k : Int))]) (fun k => [(n4, (b4 (cst b c i k), 74)), (n3, (b4 fun _ => 0, 74)), (n2, (b4 b, 74)), (n1, (b4 c, 74))])
      (fun k => k ≤ 4) (fun k => 4 - k) 0 (Nat.zero_le _) (Fits.of ⟨rfl, rfl, rfl, rfl, rfl, rfl, rfl, rfl, trivial⟩ (by
        repeat (first | exact SubL.nil | exact SubL.refl _ | refine SubL.keep ?_ | exact SubL.headA _ _ | refine SubL.keepA ?_ _ | refine SubL.skip ?_ | refine SubL.skipA ?_ _)) rfl) ?_
    intro k hk
    by_cases hk4 : k < 4
    · have t2 : decide ((k : Int) < 4) = true := decide_eq_true (by omega)
      have hk1 : IntKind.i64.wrap ((k : Int) + 1) = ((k + 1 : Nat) : Int) := wrap_i64 _ (by omega) (by omega)
      have hik : IntKind.i64.wrap ((i : Int) + (k : Int)) = ((i + k : Nat) : Int) := wrap_i64 _ (by omega) (by omega)
      have hr : ((i + k : Nat) : Int).tmod 4 = (((i + k) % 4 : Nat) : Int) := by rw [rem_nn _ _ (by omega)]; omega
      have hm4 : (i + k) % 4 < 4 := Nat.mod_lt _ (by omega)
      have gb : (b4 b)[((k : Nat) : Int).toNat]? = some (.int .u8 ((b k : Nat) : Int)) := b4_get b k hk4
      have gc : (b4 c)[(i + k) % 4]? = some (.int .u8 ((c ((i + k) % 4) : Nat) : Int)) := b4_get c _ hm4
      have go : (b4 (cst b c i k))[i]? = some (.int .u8 ((part b c i k : Nat) : Int)) := by
        rw [b4_get _ i hlt]; unfold cst; rw [if_neg (by omega), if_pos rfl]
      have C := mul_gf (b k) (c ((i + k) % 4)) (hb k) (hc _)
      have hx := bits_u8 (part b c i k) (gmul (b k) (c ((i + k) % 4))) (part_lt hb i k) (gmul_lt _ (hb k))
      have hp : putC (b4 (cst b c i k)) i (.int .u8 ((part b c i k ^^^ gmul (b k) (c ((i + k) % 4)) : Nat) : Int)) = b4 (cst b c i (k + 1)) := by
        refine b4_put _ _ i _ hlt ?_ fun j hj hne => ?_
        · unfold cst; rw [if_neg (by omega), if_pos rfl]; rfl
        · unfold cst
          by_cases h : j < i
          · rw [if_pos h, if_pos h]
          · rw [if_neg h, if_neg h, if_neg hne, if_neg hne]
      clear hk t1 hi1 hb hc
      repeat' (first | (refine wlB ?_) | (refine efBnn ?_; intro n hn) | (refine efB ?_) | (refine wl_skip rfl rfl ?_) | (refine wdV ?_) | (refine wdB ?_) | ((with_reducible refine seld_call ?_); refine wd_rd hm0 rfl rfl rfl rfl (rd_call rfl rfl rfl (fun w hm => by with_reducible exact C w)) ?_) | (refine wdE ?_) | (refine wdT ?_) | (refine wd_skip rfl rfl ?_) | ((with_reducible refine seld_nil ?_); refine wd_nil hm0 ?_; clear hm0 hw0) | ((with_reducible refine wc_seq ?_); intro K hK) | (refine auC ?_) | (refine wc_cond rfl (fun hc => ?_) (fun hc => ?_)) | (refine wc_draw (by kernel_rfl) (by kernel_rfl) (by decide +kernel) ?_; intro w0 hw0 hm0; (try simp only [List.append_eq, List.cons_append, List.nil_append])) | (refine auP ?_) | ((refine auR ?_); clear hK K) | (refine auR ?_) | ((with_reducible refine hK _ _ ?_); clear hK K) | fail)
      exact ⟨k + 1, hk4, by omega, Fits.of ⟨rfl, rfl, rfl, rfl, rfl, rfl, rfl, rfl, trivial⟩ (by
        repeat (first | exact SubL.nil | exact SubL.refl _ | refine SubL.keep ?_ | exact SubL.headA _ _ | refine SubL.keepA ?_ _ | refine SubL.skip ?_ | refine SubL.skipA ?_ _)) rfl⟩
    · obtain rfl : k = 4 := by omega
      have t2 : decide (((4 : Nat) : Int) < 4) = false := rfl
      have e : b4 (cst b c i 4) = b4 (cst b c (i + 1) 0) := b4_congr fun j hj => by
        unfold cst colf
        by_cases h : j < i
        · rw [if_pos h, if_pos (by omega)]
        · by_cases h2 : j = i
          · subst h2; rw [if_neg (by omega), if_pos rfl, if_pos (by omega)]
          · rw [if_neg h, if_neg h2, if_neg (by omega)]
            by_cases h3 : j = i + 1
            · rw [if_pos h3]; rfl
            · rw [if_neg h3]
      rw [e]
      clear e hb hc hk hk4
      repeat' (first | (refine wlB ?_) | (refine efBnn ?_; intro n hn) | (refine efB ?_) | (refine wl_skip rfl rfl ?_) | (refine wdV ?_) | (refine wdB ?_) | (refine wdE ?_) | (refine wdT ?_) | (refine wd_skip rfl rfl ?_) | ((with_reducible refine seld_nil ?_); refine wd_nil hm0 ?_; clear hm0 hw0) | ((with_reducible refine wc_seq ?_); intro K hK) | (refine auC ?_) | (refine wc_cond rfl (fun hc => ?_) (fun hc => ?_)) | (refine wc_draw (by kernel_rfl) (by kernel_rfl) (by decide +kernel) ?_; intro w0 hw0 hm0; (try simp only [List.append_eq, List.cons_append, List.nil_append])) | (refine auP ?_) | ((refine auR ?_); clear hK K) | (refine auR ?_) | ((with_reducible refine hK _ _ ?_); clear hK K) | fail)
      exact ⟨i + 1, hlt, by omega, Fits.of ⟨rfl, rfl, rfl, rfl, rfl, trivial⟩ (by
        repeat (first | exact SubL.nil | exact SubL.refl _ | refine SubL.keep ?_ | exact SubL.headA _ _ | refine SubL.keepA ?_ _ | refine SubL.skip ?_ | refine SubL.skipA ?_ _)) rfl⟩
  · obtain rfl : i = 4 := by omega
    have t1 : decide (((4 : Nat) : Int) < 4) = false := rfl
    clear hi hb hc hlt
    repeat' (first | (refine wlB ?_) | (refine efBnn ?_; intro n hn) | (refine efB ?_) | (refine wl_skip rfl rfl ?_) | (refine wdV ?_) | (refine wdB ?_) | (refine wdE ?_) | (refine wdT ?_) | (refine wd_skip rfl rfl ?_) | ((with_reducible refine seld_nil ?_); refine wd_nil hm0 ?_; clear hm0 hw0) | ((with_reducible refine wc_seq ?_); intro K hK) | (refine auC ?_) | (refine wc_cond rfl (fun hc => ?_) (fun hc => ?_)) | (refine wc_draw (by kernel_rfl) (by kernel_rfl) (by decide +kernel) ?_; intro w0 hw0 hm0; (try simp only [List.append_eq, List.cons_append, List.nil_append])) | (refine auP ?_) | ((refine auR ?_); clear hK K) | (refine auR ?_) | ((with_reducible refine hK _ _ ?_); clear hK K) | fail)
    first | refine end_ret (ResP.cell rfl ld_whole ResP.nil) ?_ | refine end_normal (ResP.cell rfl ld_whole ResP.nil) ?_
    first | rfl | (show _ = _; rfl) | (simp only [tupV, *]; done)
def mixB (j : Nat) : Nat := match j with | 0 => 2 | 1 => 3 | 2 => 1 | 3 => 1 | _ => 0
def unB (j : Nat) : Nat := match j with | 0 => 14 | 1 => 11 | 2 => 13 | 3 => 9 | _ => 0
theorem mixB_lt (j : Nat) : mixB j < 256 := by unfold mixB; split <;> decide
theorem unB_lt (j : Nat) : unB j < 256 := by unfold unB; split <;> decide
theorem mixB_val : Value.agg [.int .u8 2, .int .u8 3, .int .u8 1, .int .u8 1].toArray = .agg (b4 mixB) := b4_build _ _ _ _ _ rfl rfl rfl rfl
theorem unB_val : Value.agg [.int .u8 14, .int .u8 11, .int .u8 13, .int .u8 9].toArray = .agg (b4 unB) := b4_build _ _ _ _ _ rfl rfl rfl rfl
theorem mix_gf (c : Nat → Nat) (hc : ∀ j, c j < 256) (w : World) : Calls Tryz.prog 120 [.agg (b4 c)].toArray w (Ret (.agg (b4 (colf mixB c))) w) := by
  have C := column_gf mixB c mixB_lt hc
  clear hc
  refine fn_ret (N := _) Tryz.func120 rfl Tryz.ntmps120 Tryz.results120 (by simp) ?_
  simp only [initS, Nat.reduceAdd, Nat.zero_add]
  repeat' (first | (refine wlB ?_) | ((with_reducible refine sel_build ?_); refine wv rfl rfl (rd_cast (rd_buildA rfl rfl) mixB_val) ?_) | ((with_reducible refine sel_call ?_); refine wl_rd rfl rfl (rd_call rfl rfl rfl (fun w hm => by with_reducible exact C w)) ?_) | (refine wlE ?_) | (refine efZCnn ?_; intro n hn) | (refine efBnn ?_; intro n hn) | (refine efB ?_) | (refine wl_skip rfl rfl ?_) | ((with_reducible refine wc_seq ?_); intro K hK) | (refine auC ?_) | (refine wc_cond rfl (fun hc => ?_) (fun hc => ?_)) | (refine wc_draw (by kernel_rfl) (by kernel_rfl) (by decide +kernel) ?_; intro w0 hw0 hm0; (try simp only [List.append_eq, List.cons_append, List.nil_append])) | (refine auP ?_) | ((refine auR ?_); clear hK K) | (refine auR ?_) | ((with_reducible refine hK _ _ ?_); clear hK K) | fail)
  first | refine end_ret (ResP.cell rfl ld_whole ResP.nil) ?_ | refine end_normal (ResP.cell rfl ld_whole ResP.nil) ?_
  first | rfl | (show _ = _; rfl) | (simp only [tupV, *]; done)
theorem unmix_gf (c : Nat → Nat) (hc : ∀ j, c j < 256) (w : World) : Calls Tryz.prog 129 [.agg (b4 c)].toArray w (Ret (.agg (b4 (colf unB c))) w) := by
  have C := column_gf unB c unB_lt hc
  clear hc
  refine fn_ret (N := _) Tryz.func129 rfl Tryz.ntmps129 Tryz.results129 (by simp) ?_
  simp only [initS, Nat.reduceAdd, Nat.zero_add]
  repeat' (first | (refine wlB ?_) | ((with_reducible refine sel_build ?_); refine wv rfl rfl (rd_cast (rd_buildA rfl rfl) unB_val) ?_) | ((with_reducible refine sel_call ?_); refine wl_rd rfl rfl (rd_call rfl rfl rfl (fun w hm => by with_reducible exact C w)) ?_) | (refine wlE ?_) | (refine efZCnn ?_; intro n hn) | (refine efBnn ?_; intro n hn) | (refine efB ?_) | (refine wl_skip rfl rfl ?_) | ((with_reducible refine wc_seq ?_); intro K hK) | (refine auC ?_) | (refine wc_cond rfl (fun hc => ?_) (fun hc => ?_)) | (refine wc_draw (by kernel_rfl) (by kernel_rfl) (by decide +kernel) ?_; intro w0 hw0 hm0; (try simp only [List.append_eq, List.cons_append, List.nil_append])) | (refine auP ?_) | ((refine auR ?_); clear hK K) | (refine auR ?_) | ((with_reducible refine hK _ _ ?_); clear hK K) | fail)
  first | refine end_ret (ResP.cell rfl ld_whole ResP.nil) ?_ | refine end_normal (ResP.cell rfl ld_whole ResP.nil) ?_
  first | rfl | (show _ = _; rfl) | (simp only [tupV, *]; done)
end Go.Proofs.YtkendlnjaopbeaaGreatDoor
namespace Go.Proofs.YtkendlnjaopbeaaGreatDoor
set_option linter.unusedSimpArgs false
set_option linter.unusedVariables false
def col4 (a b c d x y z u : Nat) : Nat := gmul a x ^^^ gmul b y ^^^ gmul c z ^^^ gmul d u
theorem col4_lt {a b c d : Nat} (x y z u : Nat) (ha : a < 256) (hb : b < 256) (hc : c < 256) (hd : d < 256) : col4 a b c d x y z u < 256 :=
  xor_lt (xor_lt (xor_lt (gmul_lt x ha) (gmul_lt y hb)) (gmul_lt z hc)) (gmul_lt u hd)
theorem gmul_col4 {m a b c d x y z u : Nat} (hm : m < 256) (ha : a < 256) (hb : b < 256) (hc : c < 256) (hd : d < 256) (hx : x < 256) (hy : y < 256) (hz : z < 256) (hu : u < 256) :
    gmul m (col4 a b c d x y z u) = col4 (gmul m a) (gmul m b) (gmul m c) (gmul m d) x y z u := by
  unfold col4
  rw [gmul_xor_right, gmul_xor_right, gmul_xor_right, gmul_assoc hm ha hx, gmul_assoc hm hb hy, gmul_assoc hm hc hz, gmul_assoc hm hd hu]
theorem col4_add {a b c d a' b' c' d' : Nat} (x y z u : Nat) (ha : a < 256) (hb : b < 256) (hc : c < 256) (hd : d < 256) (ha' : a' < 256) (hb' : b' < 256) (hc' : c' < 256) (hd' : d' < 256) :
    col4 a b c d x y z u ^^^ col4 a' b' c' d' x y z u = col4 (a ^^^ a') (b ^^^ b') (c ^^^ c') (d ^^^ d') x y z u := by
  unfold col4
  rw [gmul_xor_left x ha ha', gmul_xor_left y hb hb', gmul_xor_left z hc hc', gmul_xor_left u hd hd']
  ac_rfl
theorem col4_xor (a b c d x y z u x' y' z' u' : Nat) : col4 a b c d (x ^^^ x') (y ^^^ y') (z ^^^ z') (u ^^^ u') = col4 a b c d x y z u ^^^ col4 a b c d x' y' z' u' := by
  unfold col4
  rw [gmul_xor_right, gmul_xor_right, gmul_xor_right, gmul_xor_right]
  ac_rfl
theorem col4_rot (a b c d x y z u : Nat) : col4 a b c d x y z u = col4 d a b c u x y z := by unfold col4; ac_rfl
theorem comp {p q r s a b c d x y z u : Nat} (hp : p < 256) (hq : q < 256) (hr : r < 256) (hs : s < 256) (ha : a < 256) (hb : b < 256) (hc : c < 256) (hd : d < 256) (hx : x < 256) (hy : y < 256) (hz : z < 256) (hu : u < 256) :
    col4 p q r s (col4 a b c d x y z u) (col4 a b c d y z u x) (col4 a b c d z u x y) (col4 a b c d u x y z) =
      col4 (gmul p a ^^^ gmul q d ^^^ gmul r c ^^^ gmul s b) (gmul p b ^^^ gmul q a ^^^ gmul r d ^^^ gmul s c) (gmul p c ^^^ gmul q b ^^^ gmul r a ^^^ gmul s d) (gmul p d ^^^ gmul q c ^^^ gmul r b ^^^ gmul s a) x y z u := by
  have e : col4 p q r s (col4 a b c d x y z u) (col4 a b c d y z u x) (col4 a b c d z u x y) (col4 a b c d u x y z) = gmul p (col4 a b c d x y z u) ^^^ gmul q (col4 a b c d y z u x) ^^^ gmul r (col4 a b c d z u x y) ^^^ gmul s (col4 a b c d u x y z) := rfl
  have P : ∀ {m t : Nat}, m < 256 → gmul m t < 256 := fun h => gmul_lt _ h
  rw [e, gmul_col4 hp ha hb hc hd hx hy hz hu, gmul_col4 hq ha hb hc hd hy hz hu hx, gmul_col4 hr ha hb hc hd hz hu hx hy, gmul_col4 hs ha hb hc hd hu hx hy hz,
    col4_rot _ _ _ _ y z u x, col4_rot _ _ _ _ z u x y, col4_rot _ _ _ _ y z u x, col4_rot _ _ _ _ u x y z, col4_rot _ _ _ _ z u x y, col4_rot _ _ _ _ y z u x,
    col4_add _ _ _ _ (P hp) (P hp) (P hp) (P hp) (P hq) (P hq) (P hq) (P hq),
    col4_add _ _ _ _ (xor_lt (P hp) (P hq)) (xor_lt (P hp) (P hq)) (xor_lt (P hp) (P hq)) (xor_lt (P hp) (P hq)) (P hr) (P hr) (P hr) (P hr),
    col4_add _ _ _ _ (xor_lt (xor_lt (P hp) (P hq)) (P hr)) (xor_lt (xor_lt (P hp) (P hq)) (P hr)) (xor_lt (xor_lt (P hp) (P hq)) (P hr)) (xor_lt (xor_lt (P hp) (P hq)) (P hr)) (P hs) (P hs) (P hs) (P hs)]
theorem colf_eq (b c : Nat → Nat) (i : Nat) : colf b c i = col4 (b 0) (b 1) (b 2) (b 3) (c (i % 4)) (c ((i + 1) % 4)) (c ((i + 2) % 4)) (c ((i + 3) % 4)) := by
  unfold colf col4
  simp only [part, Nat.zero_xor, Nat.add_zero]
theorem colf_lt {b : Nat → Nat} (hb : ∀ j, b j < 256) (c : Nat → Nat) (i : Nat) : colf b c i < 256 := by
  rw [colf_eq]; exact col4_lt _ _ _ _ (hb 0) (hb 1) (hb 2) (hb 3)
theorem colf_congr {b c c' : Nat → Nat} (h : ∀ j, j < 4 → c j = c' j) (i : Nat) : colf b c i = colf b c' i := by
  rw [colf_eq, colf_eq, h _ (Nat.mod_lt _ (by omega)), h _ (Nat.mod_lt _ (by omega)), h _ (Nat.mod_lt _ (by omega)), h _ (Nat.mod_lt _ (by omega))]
theorem colf_xor (b c d : Nat → Nat) (i : Nat) : colf b (fun j => c j ^^^ d j) i = colf b c i ^^^ colf b d i := by
  rw [colf_eq, colf_eq, colf_eq, col4_xor]
theorem colf_comp {a b c : Nat → Nat} (e : Nat → Nat) (ha : ∀ j, a j < 256) (hb : ∀ j, b j < 256) (hc : ∀ j, c j < 256)
    (e0 : gmul (a 0) (b 0) ^^^ gmul (a 1) (b 3) ^^^ gmul (a 2) (b 2) ^^^ gmul (a 3) (b 1) = e 0) (e1 : gmul (a 0) (b 1) ^^^ gmul (a 1) (b 0) ^^^ gmul (a 2) (b 3) ^^^ gmul (a 3) (b 2) = e 1)
    (e2 : gmul (a 0) (b 2) ^^^ gmul (a 1) (b 1) ^^^ gmul (a 2) (b 0) ^^^ gmul (a 3) (b 3) = e 2) (e3 : gmul (a 0) (b 3) ^^^ gmul (a 1) (b 2) ^^^ gmul (a 2) (b 1) ^^^ gmul (a 3) (b 0) = e 3) (i : Nat) (hi : i < 4) :
    colf a (colf b c) i = colf e c i := by
  rcases (by omega : i = 0 ∨ i = 1 ∨ i = 2 ∨ i = 3) with rfl | rfl | rfl | rfl
  all_goals
    simp only [colf_eq, Nat.reduceAdd, Nat.reduceMod, Nat.zero_mod, Nat.zero_add]
    rw [comp (ha 0) (ha 1) (ha 2) (ha 3) (hb 0) (hb 1) (hb 2) (hb 3) (hc _) (hc _) (hc _) (hc _), e0, e1, e2, e3]
def oneB (j : Nat) : Nat := match j with | 0 => 1 | _ => 0
def sqB (j : Nat) : Nat := match j with | 0 => 5 | 2 => 4 | _ => 0
theorem sqB_lt (j : Nat) : sqB j < 256 := by unfold sqB; split <;> decide
theorem colf_one {c : Nat → Nat} (hc : ∀ j, c j < 256) (i : Nat) (hi : i < 4) : colf oneB c i = c i := by
  rw [colf_eq, Nat.mod_eq_of_lt hi]
  show gmul 1 (c i) ^^^ gmul 0 _ ^^^ gmul 0 _ ^^^ gmul 0 _ = _
  rw [one_gmul (hc i), zero_gmul, zero_gmul, zero_gmul, Nat.xor_zero, Nat.xor_zero, Nat.xor_zero]
theorem un_mix {c : Nat → Nat} (hc : ∀ j, c j < 256) (i : Nat) (hi : i < 4) : colf unB (colf mixB c) i = c i :=
  (colf_comp oneB unB_lt mixB_lt hc (by decide +kernel) (by decide +kernel) (by decide +kernel) (by decide +kernel) i hi).trans (colf_one hc i hi)
theorem mix_un {c : Nat → Nat} (hc : ∀ j, c j < 256) (i : Nat) (hi : i < 4) : colf mixB (colf unB c) i = c i :=
  (colf_comp oneB mixB_lt unB_lt hc (by decide +kernel) (by decide +kernel) (by decide +kernel) (by decide +kernel) i hi).trans (colf_one hc i hi)
theorem mix_sq {c : Nat → Nat} (hc : ∀ j, c j < 256) (i : Nat) (hi : i < 4) : colf mixB (colf mixB c) i = colf sqB c i :=
  colf_comp sqB mixB_lt mixB_lt hc (by decide +kernel) (by decide +kernel) (by decide +kernel) (by decide +kernel) i hi
theorem sq_sq {c : Nat → Nat} (hc : ∀ j, c j < 256) (i : Nat) (hi : i < 4) : colf sqB (colf sqB c) i = c i :=
  (colf_comp oneB sqB_lt sqB_lt hc (by decide +kernel) (by decide +kernel) (by decide +kernel) (by decide +kernel) i hi).trans (colf_one hc i hi)
theorem mix_four {c : Nat → Nat} (hc : ∀ j, c j < 256) (i : Nat) (hi : i < 4) : colf mixB (colf mixB (colf mixB (colf mixB c))) i = c i := by
  rw [mix_sq (colf_lt mixB_lt _) i hi, colf_congr (fun j hj => mix_sq hc j hj) i]
  exact sq_sq hc i hi
/-! ### At least five are no nought -/
theorem xor_nil {a b : Nat} (h : a ^^^ b = 0) : a = b := by
  have : a ^^^ (b ^^^ b) = b := by rw [← Nat.xor_assoc, h, Nat.zero_xor]
  rwa [Nat.xor_self, Nat.xor_zero] at this
theorem two {a b a' b' p q : Nat} (ha : a < 256) (hb : b < 256) (ha' : a' < 256) (hb' : b' < 256) (hp : p < 256) (hq : q < 256) (hdet : gmul a b' ^^^ gmul a' b ≠ 0) (h0 : b ≠ 0)
    (h1 : gmul a p ^^^ gmul b q = 0) (h2 : gmul a' p ^^^ gmul b' q = 0) : p = 0 ∧ q = 0 := by
  have e1 := xor_nil h1
  have e2 := xor_nil h2
  have k1 : gmul (gmul a b') p = gmul (gmul b b') q := by
    rw [gmul_comm ha hb', gmul_assoc hb' ha hp, e1, ← gmul_assoc hb' hb hq, gmul_comm hb' hb]
  have k2 : gmul (gmul a' b) p = gmul (gmul b b') q := by
    rw [gmul_comm ha' hb, gmul_assoc hb ha' hp, e2, ← gmul_assoc hb hb' hq]
  have k : gmul (gmul a b' ^^^ gmul a' b) p = 0 := by rw [gmul_xor_left p (gmul_lt _ ha) (gmul_lt _ ha'), k1, k2, Nat.xor_self]
  rcases gmul_eq_zero (xor_lt (gmul_lt _ ha) (gmul_lt _ ha')) hp k with h | h
  · exact absurd h hdet
  · subst h
    rw [gmul_zero] at e1
    rcases gmul_eq_zero hb hq e1.symm with h | h
    · exact absurd h h0
    · exact ⟨rfl, h⟩
def nz (a : Nat) : Nat := cond (decide (a = 0)) 0 1
theorem andT {a b : Bool} (ha : a = true) (hb : b = true) : (a && b) = true := by rw [ha, hb]; rfl
theorem imp2 {a b c d e f : Nat} (h : a = 0 → b = 0 → c = 0 → d = 0 → e = 0 ∧ f = 0) : (!(decide (a = 0) && decide (b = 0) && decide (c = 0) && decide (d = 0)) || (decide (e = 0) && decide (f = 0))) = true := by
  by_cases ha : a = 0 <;> by_cases hb : b = 0 <;> by_cases hc : c = 0 <;> by_cases hd : d = 0 <;> first | (simp [ha, hb, hc, hd]; done) | (have := h ha hb hc hd; simp [this])
theorem imp1 {a b c d e : Nat} (h : a = 0 → b = 0 → c = 0 → d = 0 → e = 0) : (!(decide (a = 0) && decide (b = 0) && decide (c = 0) && decide (d = 0)) || decide (e = 0)) = true := by
  by_cases ha : a = 0 <;> by_cases hb : b = 0 <;> by_cases hc : c = 0 <;> by_cases hd : d = 0 <;> first | (simp [ha, hb, hc, hd]; done) | (have := h ha hb hc hd; simp [this])
set_option maxRecDepth 100000 in
theorem pattern : ∀ c0 c1 c2 c3 x0 x1 x2 x3 : Bool, ((((((((((((((((((((((((((((((((((((((((((((((((((((((((((((((((((((((((!(c2 && c3 && x0 && x1) || (c0 && c1)) && (!(c2 && c3 && x0 && x2) || (c0 && c1))) && (!(c2 && c3 && x0 && x3) || (c0 && c1))) && (!(c2 && c3 && x1 && x2) || (c0 && c1))) && (!(c2 && c3 && x1 && x3) || (c0 && c1))) && (!(c2 && c3 && x2 && x3) || (c0 && c1))) && (!(c1 && c3 && x0 && x1) || (c0 && c2))) && (!(c1 && c3 && x0 && x2) || (c0 && c2))) && (!(c1 && c3 && x0 && x3) || (c0 && c2))) && (!(c1 && c3 && x1 && x2) || (c0 && c2))) && (!(c1 && c3 && x1 && x3) || (c0 && c2))) && (!(c1 && c3 && x2 && x3) || (c0 && c2))) && (!(c1 && c2 && x0 && x1) || (c0 && c3))) && (!(c1 && c2 && x0 && x2) || (c0 && c3))) && (!(c1 && c2 && x0 && x3) || (c0 && c3))) && (!(c1 && c2 && x1 && x2) || (c0 && c3))) && (!(c1 && c2 && x1 && x3) || (c0 && c3))) && (!(c1 && c2 && x2 && x3) || (c0 && c3))) && (!(c0 && c3 && x0 && x1) || (c1 && c2))) && (!(c0 && c3 && x0 && x2) || (c1 && c2))) && (!(c0 && c3 && x0 && x3) || (c1 && c2))) && (!(c0 && c3 && x1 && x2) || (c1 && c2))) && (!(c0 && c3 && x1 && x3) || (c1 && c2))) && (!(c0 && c3 && x2 && x3) || (c1 && c2))) && (!(c0 && c2 && x0 && x1) || (c1 && c3))) && (!(c0 && c2 && x0 && x2) || (c1 && c3))) && (!(c0 && c2 && x0 && x3) || (c1 && c3))) && (!(c0 && c2 && x1 && x2) || (c1 && c3))) && (!(c0 && c2 && x1 && x3) || (c1 && c3))) && (!(c0 && c2 && x2 && x3) || (c1 && c3))) && (!(c0 && c1 && x0 && x1) || (c2 && c3))) && (!(c0 && c1 && x0 && x2) || (c2 && c3))) && (!(c0 && c1 && x0 && x3) || (c2 && c3))) && (!(c0 && c1 && x1 && x2) || (c2 && c3))) && (!(c0 && c1 && x1 && x3) || (c2 && c3))) && (!(c0 && c1 && x2 && x3) || (c2 && c3))) && (!(c1 && c2 && c3 && x0) || c0)) && (!(c1 && c2 && c3 && x1) || c0)) && (!(c1 && c2 && c3 && x2) || c0)) && (!(c1 && c2 && c3 && x3) || c0)) && (!(c0 && c2 && c3 && x0) || c1)) && (!(c0 && c2 && c3 && x1) || c1)) && (!(c0 && c2 && c3 && x2) || c1)) && (!(c0 && c2 && c3 && x3) || c1)) && (!(c0 && c1 && c3 && x0) || c2)) && (!(c0 && c1 && c3 && x1) || c2)) && (!(c0 && c1 && c3 && x2) || c2)) && (!(c0 && c1 && c3 && x3) || c2)) && (!(c0 && c1 && c2 && x0) || c3)) && (!(c0 && c1 && c2 && x1) || c3)) && (!(c0 && c1 && c2 && x2) || c3)) && (!(c0 && c1 && c2 && x3) || c3)) && (!(x1 && x2 && x3 && c0) || x0)) && (!(x1 && x2 && x3 && c1) || x0)) && (!(x1 && x2 && x3 && c2) || x0)) && (!(x1 && x2 && x3 && c3) || x0)) && (!(x0 && x2 && x3 && c0) || x1)) && (!(x0 && x2 && x3 && c1) || x1)) && (!(x0 && x2 && x3 && c2) || x1)) && (!(x0 && x2 && x3 && c3) || x1)) && (!(x0 && x1 && x3 && c0) || x2)) && (!(x0 && x1 && x3 && c1) || x2)) && (!(x0 && x1 && x3 && c2) || x2)) && (!(x0 && x1 && x3 && c3) || x2)) && (!(x0 && x1 && x2 && c0) || x3)) && (!(x0 && x1 && x2 && c1) || x3)) && (!(x0 && x1 && x2 && c2) || x3)) && (!(x0 && x1 && x2 && c3) || x3)) && (!(x0 && x1 && x2 && x3) || c0)) && (!(x0 && x1 && x2 && x3) || c1)) && (!(x0 && x1 && x2 && x3) || c2)) && (!(x0 && x1 && x2 && x3) || c3)) = true → (Nat.ble 5 (cond c0 0 1 + cond c1 0 1 + cond c2 0 1 + cond c3 0 1 + cond x0 0 1 + cond x1 0 1 + cond x2 0 1 + cond x3 0 1) || (c0 && c1 && c2 && c3)) = true := by decide +kernel
theorem mds {c0 c1 c2 c3 x0 x1 x2 x3 : Nat} (h0 : c0 < 256) (h1 : c1 < 256) (h2 : c2 < 256) (h3 : c3 < 256) (k0 : x0 < 256) (k1 : x1 < 256) (k2 : x2 < 256) (k3 : x3 < 256) (X0 : x0 = col4 2 3 1 1 c0 c1 c2 c3) (X1 : x1 = col4 2 3 1 1 c1 c2 c3 c0) (X2 : x2 = col4 2 3 1 1 c2 c3 c0 c1) (X3 : x3 = col4 2 3 1 1 c3 c0 c1 c2) (C0 : c0 = col4 14 11 13 9 x0 x1 x2 x3) (C1 : c1 = col4 14 11 13 9 x1 x2 x3 x0) (C2 : c2 = col4 14 11 13 9 x2 x3 x0 x1) (C3 : c3 = col4 14 11 13 9 x3 x0 x1 x2) : 5 ≤ nz c0 + nz c1 + nz c2 + nz c3 + nz x0 + nz x1 + nz x2 + nz x3 ∨ (c0 = 0 ∧ c1 = 0 ∧ c2 = 0 ∧ c3 = 0) := by
  have F0 : c2 = 0 → c3 = 0 → x0 = 0 → x1 = 0 → c0 = 0 ∧ c1 = 0 := by
    intro a1 a2 b1 b2
    rw [X0, a1, a2] at b1
    rw [X1, a1, a2] at b2
    simp only [col4, gmul_zero, Nat.xor_zero, Nat.zero_xor] at b1 b2
    exact two (a := 2) (b := 3) (a' := 1) (b' := 2) (by decide) (by decide) (by decide) (by decide) h0 h1 (by decide +kernel) (by decide) b1 (by rw [Nat.xor_comm]; exact b2)
  have F1 : c2 = 0 → c3 = 0 → x0 = 0 → x2 = 0 → c0 = 0 ∧ c1 = 0 := by
    intro a1 a2 b1 b2
    rw [X0, a1, a2] at b1
    rw [X2, a1, a2] at b2
    simp only [col4, gmul_zero, Nat.xor_zero, Nat.zero_xor] at b1 b2
    exact two (a := 2) (b := 3) (a' := 1) (b' := 1) (by decide) (by decide) (by decide) (by decide) h0 h1 (by decide +kernel) (by decide) b1 b2
  have F2 : c2 = 0 → c3 = 0 → x0 = 0 → x3 = 0 → c0 = 0 ∧ c1 = 0 := by
    intro a1 a2 b1 b2
    rw [X0, a1, a2] at b1
    rw [X3, a1, a2] at b2
    simp only [col4, gmul_zero, Nat.xor_zero, Nat.zero_xor] at b1 b2
    exact two (a := 2) (b := 3) (a' := 3) (b' := 1) (by decide) (by decide) (by decide) (by decide) h0 h1 (by decide +kernel) (by decide) b1 b2
  have F3 : c2 = 0 → c3 = 0 → x1 = 0 → x2 = 0 → c0 = 0 ∧ c1 = 0 := by
    intro a1 a2 b1 b2
    rw [X1, a1, a2] at b1
    rw [X2, a1, a2] at b2
    simp only [col4, gmul_zero, Nat.xor_zero, Nat.zero_xor] at b1 b2
    exact two (a := 1) (b := 2) (a' := 1) (b' := 1) (by decide) (by decide) (by decide) (by decide) h0 h1 (by decide +kernel) (by decide) (by rw [Nat.xor_comm]; exact b1) b2
  have F4 : c2 = 0 → c3 = 0 → x1 = 0 → x3 = 0 → c0 = 0 ∧ c1 = 0 := by
    intro a1 a2 b1 b2
    rw [X1, a1, a2] at b1
    rw [X3, a1, a2] at b2
    simp only [col4, gmul_zero, Nat.xor_zero, Nat.zero_xor] at b1 b2
    exact two (a := 1) (b := 2) (a' := 3) (b' := 1) (by decide) (by decide) (by decide) (by decide) h0 h1 (by decide +kernel) (by decide) (by rw [Nat.xor_comm]; exact b1) b2
  have F5 : c2 = 0 → c3 = 0 → x2 = 0 → x3 = 0 → c0 = 0 ∧ c1 = 0 := by
    intro a1 a2 b1 b2
    rw [X2, a1, a2] at b1
    rw [X3, a1, a2] at b2
    simp only [col4, gmul_zero, Nat.xor_zero, Nat.zero_xor] at b1 b2
    exact two (a := 1) (b := 1) (a' := 3) (b' := 1) (by decide) (by decide) (by decide) (by decide) h0 h1 (by decide +kernel) (by decide) b1 b2
  have F6 : c1 = 0 → c3 = 0 → x0 = 0 → x1 = 0 → c0 = 0 ∧ c2 = 0 := by
    intro a1 a2 b1 b2
    rw [X0, a1, a2] at b1
    rw [X1, a1, a2] at b2
    simp only [col4, gmul_zero, Nat.xor_zero, Nat.zero_xor] at b1 b2
    exact two (a := 2) (b := 1) (a' := 1) (b' := 3) (by decide) (by decide) (by decide) (by decide) h0 h2 (by decide +kernel) (by decide) b1 (by rw [Nat.xor_comm]; exact b2)
  have F7 : c1 = 0 → c3 = 0 → x0 = 0 → x2 = 0 → c0 = 0 ∧ c2 = 0 := by
    intro a1 a2 b1 b2
    rw [X0, a1, a2] at b1
    rw [X2, a1, a2] at b2
    simp only [col4, gmul_zero, Nat.xor_zero, Nat.zero_xor] at b1 b2
    exact two (a := 2) (b := 1) (a' := 1) (b' := 2) (by decide) (by decide) (by decide) (by decide) h0 h2 (by decide +kernel) (by decide) b1 (by rw [Nat.xor_comm]; exact b2)
  have F8 : c1 = 0 → c3 = 0 → x0 = 0 → x3 = 0 → c0 = 0 ∧ c2 = 0 := by
    intro a1 a2 b1 b2
    rw [X0, a1, a2] at b1
    rw [X3, a1, a2] at b2
    simp only [col4, gmul_zero, Nat.xor_zero, Nat.zero_xor] at b1 b2
    exact two (a := 2) (b := 1) (a' := 3) (b' := 1) (by decide) (by decide) (by decide) (by decide) h0 h2 (by decide +kernel) (by decide) b1 b2
  have F9 : c1 = 0 → c3 = 0 → x1 = 0 → x2 = 0 → c0 = 0 ∧ c2 = 0 := by
    intro a1 a2 b1 b2
    rw [X1, a1, a2] at b1
    rw [X2, a1, a2] at b2
    simp only [col4, gmul_zero, Nat.xor_zero, Nat.zero_xor] at b1 b2
    exact two (a := 1) (b := 3) (a' := 1) (b' := 2) (by decide) (by decide) (by decide) (by decide) h0 h2 (by decide +kernel) (by decide) (by rw [Nat.xor_comm]; exact b1) (by rw [Nat.xor_comm]; exact b2)
  have F10 : c1 = 0 → c3 = 0 → x1 = 0 → x3 = 0 → c0 = 0 ∧ c2 = 0 := by
    intro a1 a2 b1 b2
    rw [X1, a1, a2] at b1
    rw [X3, a1, a2] at b2
    simp only [col4, gmul_zero, Nat.xor_zero, Nat.zero_xor] at b1 b2
    exact two (a := 1) (b := 3) (a' := 3) (b' := 1) (by decide) (by decide) (by decide) (by decide) h0 h2 (by decide +kernel) (by decide) (by rw [Nat.xor_comm]; exact b1) b2
  have F11 : c1 = 0 → c3 = 0 → x2 = 0 → x3 = 0 → c0 = 0 ∧ c2 = 0 := by
    intro a1 a2 b1 b2
    rw [X2, a1, a2] at b1
    rw [X3, a1, a2] at b2
    simp only [col4, gmul_zero, Nat.xor_zero, Nat.zero_xor] at b1 b2
    exact two (a := 1) (b := 2) (a' := 3) (b' := 1) (by decide) (by decide) (by decide) (by decide) h0 h2 (by decide +kernel) (by decide) (by rw [Nat.xor_comm]; exact b1) b2
  have F12 : c1 = 0 → c2 = 0 → x0 = 0 → x1 = 0 → c0 = 0 ∧ c3 = 0 := by
    intro a1 a2 b1 b2
    rw [X0, a1, a2] at b1
    rw [X1, a1, a2] at b2
    simp only [col4, gmul_zero, Nat.xor_zero, Nat.zero_xor] at b1 b2
    exact two (a := 2) (b := 1) (a' := 1) (b' := 1) (by decide) (by decide) (by decide) (by decide) h0 h3 (by decide +kernel) (by decide) b1 (by rw [Nat.xor_comm]; exact b2)
  have F13 : c1 = 0 → c2 = 0 → x0 = 0 → x2 = 0 → c0 = 0 ∧ c3 = 0 := by
    intro a1 a2 b1 b2
    rw [X0, a1, a2] at b1
    rw [X2, a1, a2] at b2
    simp only [col4, gmul_zero, Nat.xor_zero, Nat.zero_xor] at b1 b2
    exact two (a := 2) (b := 1) (a' := 1) (b' := 3) (by decide) (by decide) (by decide) (by decide) h0 h3 (by decide +kernel) (by decide) b1 (by rw [Nat.xor_comm]; exact b2)
  have F14 : c1 = 0 → c2 = 0 → x0 = 0 → x3 = 0 → c0 = 0 ∧ c3 = 0 := by
    intro a1 a2 b1 b2
    rw [X0, a1, a2] at b1
    rw [X3, a1, a2] at b2
    simp only [col4, gmul_zero, Nat.xor_zero, Nat.zero_xor] at b1 b2
    exact two (a := 2) (b := 1) (a' := 3) (b' := 2) (by decide) (by decide) (by decide) (by decide) h0 h3 (by decide +kernel) (by decide) b1 (by rw [Nat.xor_comm]; exact b2)
  have F15 : c1 = 0 → c2 = 0 → x1 = 0 → x2 = 0 → c0 = 0 ∧ c3 = 0 := by
    intro a1 a2 b1 b2
    rw [X1, a1, a2] at b1
    rw [X2, a1, a2] at b2
    simp only [col4, gmul_zero, Nat.xor_zero, Nat.zero_xor] at b1 b2
    exact two (a := 1) (b := 1) (a' := 1) (b' := 3) (by decide) (by decide) (by decide) (by decide) h0 h3 (by decide +kernel) (by decide) (by rw [Nat.xor_comm]; exact b1) (by rw [Nat.xor_comm]; exact b2)
  have F16 : c1 = 0 → c2 = 0 → x1 = 0 → x3 = 0 → c0 = 0 ∧ c3 = 0 := by
    intro a1 a2 b1 b2
    rw [X1, a1, a2] at b1
    rw [X3, a1, a2] at b2
    simp only [col4, gmul_zero, Nat.xor_zero, Nat.zero_xor] at b1 b2
    exact two (a := 1) (b := 1) (a' := 3) (b' := 2) (by decide) (by decide) (by decide) (by decide) h0 h3 (by decide +kernel) (by decide) (by rw [Nat.xor_comm]; exact b1) (by rw [Nat.xor_comm]; exact b2)
  have F17 : c1 = 0 → c2 = 0 → x2 = 0 → x3 = 0 → c0 = 0 ∧ c3 = 0 := by
    intro a1 a2 b1 b2
    rw [X2, a1, a2] at b1
    rw [X3, a1, a2] at b2
    simp only [col4, gmul_zero, Nat.xor_zero, Nat.zero_xor] at b1 b2
    exact two (a := 1) (b := 3) (a' := 3) (b' := 2) (by decide) (by decide) (by decide) (by decide) h0 h3 (by decide +kernel) (by decide) (by rw [Nat.xor_comm]; exact b1) (by rw [Nat.xor_comm]; exact b2)
  have F18 : c0 = 0 → c3 = 0 → x0 = 0 → x1 = 0 → c1 = 0 ∧ c2 = 0 := by
    intro a1 a2 b1 b2
    rw [X0, a1, a2] at b1
    rw [X1, a1, a2] at b2
    simp only [col4, gmul_zero, Nat.xor_zero, Nat.zero_xor] at b1 b2
    exact two (a := 3) (b := 1) (a' := 2) (b' := 3) (by decide) (by decide) (by decide) (by decide) h1 h2 (by decide +kernel) (by decide) b1 b2
  have F19 : c0 = 0 → c3 = 0 → x0 = 0 → x2 = 0 → c1 = 0 ∧ c2 = 0 := by
    intro a1 a2 b1 b2
    rw [X0, a1, a2] at b1
    rw [X2, a1, a2] at b2
    simp only [col4, gmul_zero, Nat.xor_zero, Nat.zero_xor] at b1 b2
    exact two (a := 3) (b := 1) (a' := 1) (b' := 2) (by decide) (by decide) (by decide) (by decide) h1 h2 (by decide +kernel) (by decide) b1 (by rw [Nat.xor_comm]; exact b2)
  have F20 : c0 = 0 → c3 = 0 → x0 = 0 → x3 = 0 → c1 = 0 ∧ c2 = 0 := by
    intro a1 a2 b1 b2
    rw [X0, a1, a2] at b1
    rw [X3, a1, a2] at b2
    simp only [col4, gmul_zero, Nat.xor_zero, Nat.zero_xor] at b1 b2
    exact two (a := 3) (b := 1) (a' := 1) (b' := 1) (by decide) (by decide) (by decide) (by decide) h1 h2 (by decide +kernel) (by decide) b1 b2
  have F21 : c0 = 0 → c3 = 0 → x1 = 0 → x2 = 0 → c1 = 0 ∧ c2 = 0 := by
    intro a1 a2 b1 b2
    rw [X1, a1, a2] at b1
    rw [X2, a1, a2] at b2
    simp only [col4, gmul_zero, Nat.xor_zero, Nat.zero_xor] at b1 b2
    exact two (a := 2) (b := 3) (a' := 1) (b' := 2) (by decide) (by decide) (by decide) (by decide) h1 h2 (by decide +kernel) (by decide) b1 (by rw [Nat.xor_comm]; exact b2)
  have F22 : c0 = 0 → c3 = 0 → x1 = 0 → x3 = 0 → c1 = 0 ∧ c2 = 0 := by
    intro a1 a2 b1 b2
    rw [X1, a1, a2] at b1
    rw [X3, a1, a2] at b2
    simp only [col4, gmul_zero, Nat.xor_zero, Nat.zero_xor] at b1 b2
    exact two (a := 2) (b := 3) (a' := 1) (b' := 1) (by decide) (by decide) (by decide) (by decide) h1 h2 (by decide +kernel) (by decide) b1 b2
  have F23 : c0 = 0 → c3 = 0 → x2 = 0 → x3 = 0 → c1 = 0 ∧ c2 = 0 := by
    intro a1 a2 b1 b2
    rw [X2, a1, a2] at b1
    rw [X3, a1, a2] at b2
    simp only [col4, gmul_zero, Nat.xor_zero, Nat.zero_xor] at b1 b2
    exact two (a := 1) (b := 2) (a' := 1) (b' := 1) (by decide) (by decide) (by decide) (by decide) h1 h2 (by decide +kernel) (by decide) (by rw [Nat.xor_comm]; exact b1) b2
  have F24 : c0 = 0 → c2 = 0 → x0 = 0 → x1 = 0 → c1 = 0 ∧ c3 = 0 := by
    intro a1 a2 b1 b2
    rw [X0, a1, a2] at b1
    rw [X1, a1, a2] at b2
    simp only [col4, gmul_zero, Nat.xor_zero, Nat.zero_xor] at b1 b2
    exact two (a := 3) (b := 1) (a' := 2) (b' := 1) (by decide) (by decide) (by decide) (by decide) h1 h3 (by decide +kernel) (by decide) b1 b2
  have F25 : c0 = 0 → c2 = 0 → x0 = 0 → x2 = 0 → c1 = 0 ∧ c3 = 0 := by
    intro a1 a2 b1 b2
    rw [X0, a1, a2] at b1
    rw [X2, a1, a2] at b2
    simp only [col4, gmul_zero, Nat.xor_zero, Nat.zero_xor] at b1 b2
    exact two (a := 3) (b := 1) (a' := 1) (b' := 3) (by decide) (by decide) (by decide) (by decide) h1 h3 (by decide +kernel) (by decide) b1 (by rw [Nat.xor_comm]; exact b2)
  have F26 : c0 = 0 → c2 = 0 → x0 = 0 → x3 = 0 → c1 = 0 ∧ c3 = 0 := by
    intro a1 a2 b1 b2
    rw [X0, a1, a2] at b1
    rw [X3, a1, a2] at b2
    simp only [col4, gmul_zero, Nat.xor_zero, Nat.zero_xor] at b1 b2
    exact two (a := 3) (b := 1) (a' := 1) (b' := 2) (by decide) (by decide) (by decide) (by decide) h1 h3 (by decide +kernel) (by decide) b1 (by rw [Nat.xor_comm]; exact b2)
  have F27 : c0 = 0 → c2 = 0 → x1 = 0 → x2 = 0 → c1 = 0 ∧ c3 = 0 := by
    intro a1 a2 b1 b2
    rw [X1, a1, a2] at b1
    rw [X2, a1, a2] at b2
    simp only [col4, gmul_zero, Nat.xor_zero, Nat.zero_xor] at b1 b2
    exact two (a := 2) (b := 1) (a' := 1) (b' := 3) (by decide) (by decide) (by decide) (by decide) h1 h3 (by decide +kernel) (by decide) b1 (by rw [Nat.xor_comm]; exact b2)
  have F28 : c0 = 0 → c2 = 0 → x1 = 0 → x3 = 0 → c1 = 0 ∧ c3 = 0 := by
    intro a1 a2 b1 b2
    rw [X1, a1, a2] at b1
    rw [X3, a1, a2] at b2
    simp only [col4, gmul_zero, Nat.xor_zero, Nat.zero_xor] at b1 b2
    exact two (a := 2) (b := 1) (a' := 1) (b' := 2) (by decide) (by decide) (by decide) (by decide) h1 h3 (by decide +kernel) (by decide) b1 (by rw [Nat.xor_comm]; exact b2)
  have F29 : c0 = 0 → c2 = 0 → x2 = 0 → x3 = 0 → c1 = 0 ∧ c3 = 0 := by
    intro a1 a2 b1 b2
    rw [X2, a1, a2] at b1
    rw [X3, a1, a2] at b2
    simp only [col4, gmul_zero, Nat.xor_zero, Nat.zero_xor] at b1 b2
    exact two (a := 1) (b := 3) (a' := 1) (b' := 2) (by decide) (by decide) (by decide) (by decide) h1 h3 (by decide +kernel) (by decide) (by rw [Nat.xor_comm]; exact b1) (by rw [Nat.xor_comm]; exact b2)
  have F30 : c0 = 0 → c1 = 0 → x0 = 0 → x1 = 0 → c2 = 0 ∧ c3 = 0 := by
    intro a1 a2 b1 b2
    rw [X0, a1, a2] at b1
    rw [X1, a1, a2] at b2
    simp only [col4, gmul_zero, Nat.xor_zero, Nat.zero_xor] at b1 b2
    exact two (a := 1) (b := 1) (a' := 3) (b' := 1) (by decide) (by decide) (by decide) (by decide) h2 h3 (by decide +kernel) (by decide) b1 b2
  have F31 : c0 = 0 → c1 = 0 → x0 = 0 → x2 = 0 → c2 = 0 ∧ c3 = 0 := by
    intro a1 a2 b1 b2
    rw [X0, a1, a2] at b1
    rw [X2, a1, a2] at b2
    simp only [col4, gmul_zero, Nat.xor_zero, Nat.zero_xor] at b1 b2
    exact two (a := 1) (b := 1) (a' := 2) (b' := 3) (by decide) (by decide) (by decide) (by decide) h2 h3 (by decide +kernel) (by decide) b1 b2
  have F32 : c0 = 0 → c1 = 0 → x0 = 0 → x3 = 0 → c2 = 0 ∧ c3 = 0 := by
    intro a1 a2 b1 b2
    rw [X0, a1, a2] at b1
    rw [X3, a1, a2] at b2
    simp only [col4, gmul_zero, Nat.xor_zero, Nat.zero_xor] at b1 b2
    exact two (a := 1) (b := 1) (a' := 1) (b' := 2) (by decide) (by decide) (by decide) (by decide) h2 h3 (by decide +kernel) (by decide) b1 (by rw [Nat.xor_comm]; exact b2)
  have F33 : c0 = 0 → c1 = 0 → x1 = 0 → x2 = 0 → c2 = 0 ∧ c3 = 0 := by
    intro a1 a2 b1 b2
    rw [X1, a1, a2] at b1
    rw [X2, a1, a2] at b2
    simp only [col4, gmul_zero, Nat.xor_zero, Nat.zero_xor] at b1 b2
    exact two (a := 3) (b := 1) (a' := 2) (b' := 3) (by decide) (by decide) (by decide) (by decide) h2 h3 (by decide +kernel) (by decide) b1 b2
  have F34 : c0 = 0 → c1 = 0 → x1 = 0 → x3 = 0 → c2 = 0 ∧ c3 = 0 := by
    intro a1 a2 b1 b2
    rw [X1, a1, a2] at b1
    rw [X3, a1, a2] at b2
    simp only [col4, gmul_zero, Nat.xor_zero, Nat.zero_xor] at b1 b2
    exact two (a := 3) (b := 1) (a' := 1) (b' := 2) (by decide) (by decide) (by decide) (by decide) h2 h3 (by decide +kernel) (by decide) b1 (by rw [Nat.xor_comm]; exact b2)
  have F35 : c0 = 0 → c1 = 0 → x2 = 0 → x3 = 0 → c2 = 0 ∧ c3 = 0 := by
    intro a1 a2 b1 b2
    rw [X2, a1, a2] at b1
    rw [X3, a1, a2] at b2
    simp only [col4, gmul_zero, Nat.xor_zero, Nat.zero_xor] at b1 b2
    exact two (a := 2) (b := 3) (a' := 1) (b' := 2) (by decide) (by decide) (by decide) (by decide) h2 h3 (by decide +kernel) (by decide) b1 (by rw [Nat.xor_comm]; exact b2)
  have F36 : c1 = 0 → c2 = 0 → c3 = 0 → x0 = 0 → c0 = 0 := by
    intro a1 a2 a3 b1
    rw [X0, a1, a2, a3] at b1
    simp only [col4, gmul_zero, Nat.xor_zero, Nat.zero_xor] at b1
    exact (gmul_eq_zero (by decide) h0 b1).resolve_left (by decide)
  have F37 : c1 = 0 → c2 = 0 → c3 = 0 → x1 = 0 → c0 = 0 := by
    intro a1 a2 a3 b1
    rw [X1, a1, a2, a3] at b1
    simp only [col4, gmul_zero, Nat.xor_zero, Nat.zero_xor] at b1
    exact (gmul_eq_zero (by decide) h0 b1).resolve_left (by decide)
  have F38 : c1 = 0 → c2 = 0 → c3 = 0 → x2 = 0 → c0 = 0 := by
    intro a1 a2 a3 b1
    rw [X2, a1, a2, a3] at b1
    simp only [col4, gmul_zero, Nat.xor_zero, Nat.zero_xor] at b1
    exact (gmul_eq_zero (by decide) h0 b1).resolve_left (by decide)
  have F39 : c1 = 0 → c2 = 0 → c3 = 0 → x3 = 0 → c0 = 0 := by
    intro a1 a2 a3 b1
    rw [X3, a1, a2, a3] at b1
    simp only [col4, gmul_zero, Nat.xor_zero, Nat.zero_xor] at b1
    exact (gmul_eq_zero (by decide) h0 b1).resolve_left (by decide)
  have F40 : c0 = 0 → c2 = 0 → c3 = 0 → x0 = 0 → c1 = 0 := by
    intro a1 a2 a3 b1
    rw [X0, a1, a2, a3] at b1
    simp only [col4, gmul_zero, Nat.xor_zero, Nat.zero_xor] at b1
    exact (gmul_eq_zero (by decide) h1 b1).resolve_left (by decide)
  have F41 : c0 = 0 → c2 = 0 → c3 = 0 → x1 = 0 → c1 = 0 := by
    intro a1 a2 a3 b1
    rw [X1, a1, a2, a3] at b1
    simp only [col4, gmul_zero, Nat.xor_zero, Nat.zero_xor] at b1
    exact (gmul_eq_zero (by decide) h1 b1).resolve_left (by decide)
  have F42 : c0 = 0 → c2 = 0 → c3 = 0 → x2 = 0 → c1 = 0 := by
    intro a1 a2 a3 b1
    rw [X2, a1, a2, a3] at b1
    simp only [col4, gmul_zero, Nat.xor_zero, Nat.zero_xor] at b1
    exact (gmul_eq_zero (by decide) h1 b1).resolve_left (by decide)
  have F43 : c0 = 0 → c2 = 0 → c3 = 0 → x3 = 0 → c1 = 0 := by
    intro a1 a2 a3 b1
    rw [X3, a1, a2, a3] at b1
    simp only [col4, gmul_zero, Nat.xor_zero, Nat.zero_xor] at b1
    exact (gmul_eq_zero (by decide) h1 b1).resolve_left (by decide)
  have F44 : c0 = 0 → c1 = 0 → c3 = 0 → x0 = 0 → c2 = 0 := by
    intro a1 a2 a3 b1
    rw [X0, a1, a2, a3] at b1
    simp only [col4, gmul_zero, Nat.xor_zero, Nat.zero_xor] at b1
    exact (gmul_eq_zero (by decide) h2 b1).resolve_left (by decide)
  have F45 : c0 = 0 → c1 = 0 → c3 = 0 → x1 = 0 → c2 = 0 := by
    intro a1 a2 a3 b1
    rw [X1, a1, a2, a3] at b1
    simp only [col4, gmul_zero, Nat.xor_zero, Nat.zero_xor] at b1
    exact (gmul_eq_zero (by decide) h2 b1).resolve_left (by decide)
  have F46 : c0 = 0 → c1 = 0 → c3 = 0 → x2 = 0 → c2 = 0 := by
    intro a1 a2 a3 b1
    rw [X2, a1, a2, a3] at b1
    simp only [col4, gmul_zero, Nat.xor_zero, Nat.zero_xor] at b1
    exact (gmul_eq_zero (by decide) h2 b1).resolve_left (by decide)
  have F47 : c0 = 0 → c1 = 0 → c3 = 0 → x3 = 0 → c2 = 0 := by
    intro a1 a2 a3 b1
    rw [X3, a1, a2, a3] at b1
    simp only [col4, gmul_zero, Nat.xor_zero, Nat.zero_xor] at b1
    exact (gmul_eq_zero (by decide) h2 b1).resolve_left (by decide)
  have F48 : c0 = 0 → c1 = 0 → c2 = 0 → x0 = 0 → c3 = 0 := by
    intro a1 a2 a3 b1
    rw [X0, a1, a2, a3] at b1
    simp only [col4, gmul_zero, Nat.xor_zero, Nat.zero_xor] at b1
    exact (gmul_eq_zero (by decide) h3 b1).resolve_left (by decide)
  have F49 : c0 = 0 → c1 = 0 → c2 = 0 → x1 = 0 → c3 = 0 := by
    intro a1 a2 a3 b1
    rw [X1, a1, a2, a3] at b1
    simp only [col4, gmul_zero, Nat.xor_zero, Nat.zero_xor] at b1
    exact (gmul_eq_zero (by decide) h3 b1).resolve_left (by decide)
  have F50 : c0 = 0 → c1 = 0 → c2 = 0 → x2 = 0 → c3 = 0 := by
    intro a1 a2 a3 b1
    rw [X2, a1, a2, a3] at b1
    simp only [col4, gmul_zero, Nat.xor_zero, Nat.zero_xor] at b1
    exact (gmul_eq_zero (by decide) h3 b1).resolve_left (by decide)
  have F51 : c0 = 0 → c1 = 0 → c2 = 0 → x3 = 0 → c3 = 0 := by
    intro a1 a2 a3 b1
    rw [X3, a1, a2, a3] at b1
    simp only [col4, gmul_zero, Nat.xor_zero, Nat.zero_xor] at b1
    exact (gmul_eq_zero (by decide) h3 b1).resolve_left (by decide)
  have F52 : x1 = 0 → x2 = 0 → x3 = 0 → c0 = 0 → x0 = 0 := by
    intro a1 a2 a3 b1
    rw [C0, a1, a2, a3] at b1
    simp only [col4, gmul_zero, Nat.xor_zero, Nat.zero_xor] at b1
    exact (gmul_eq_zero (by decide) k0 b1).resolve_left (by decide)
  have F53 : x1 = 0 → x2 = 0 → x3 = 0 → c1 = 0 → x0 = 0 := by
    intro a1 a2 a3 b1
    rw [C1, a1, a2, a3] at b1
    simp only [col4, gmul_zero, Nat.xor_zero, Nat.zero_xor] at b1
    exact (gmul_eq_zero (by decide) k0 b1).resolve_left (by decide)
  have F54 : x1 = 0 → x2 = 0 → x3 = 0 → c2 = 0 → x0 = 0 := by
    intro a1 a2 a3 b1
    rw [C2, a1, a2, a3] at b1
    simp only [col4, gmul_zero, Nat.xor_zero, Nat.zero_xor] at b1
    exact (gmul_eq_zero (by decide) k0 b1).resolve_left (by decide)
  have F55 : x1 = 0 → x2 = 0 → x3 = 0 → c3 = 0 → x0 = 0 := by
    intro a1 a2 a3 b1
    rw [C3, a1, a2, a3] at b1
    simp only [col4, gmul_zero, Nat.xor_zero, Nat.zero_xor] at b1
    exact (gmul_eq_zero (by decide) k0 b1).resolve_left (by decide)
  have F56 : x0 = 0 → x2 = 0 → x3 = 0 → c0 = 0 → x1 = 0 := by
    intro a1 a2 a3 b1
    rw [C0, a1, a2, a3] at b1
    simp only [col4, gmul_zero, Nat.xor_zero, Nat.zero_xor] at b1
    exact (gmul_eq_zero (by decide) k1 b1).resolve_left (by decide)
  have F57 : x0 = 0 → x2 = 0 → x3 = 0 → c1 = 0 → x1 = 0 := by
    intro a1 a2 a3 b1
    rw [C1, a1, a2, a3] at b1
    simp only [col4, gmul_zero, Nat.xor_zero, Nat.zero_xor] at b1
    exact (gmul_eq_zero (by decide) k1 b1).resolve_left (by decide)
  have F58 : x0 = 0 → x2 = 0 → x3 = 0 → c2 = 0 → x1 = 0 := by
    intro a1 a2 a3 b1
    rw [C2, a1, a2, a3] at b1
    simp only [col4, gmul_zero, Nat.xor_zero, Nat.zero_xor] at b1
    exact (gmul_eq_zero (by decide) k1 b1).resolve_left (by decide)
  have F59 : x0 = 0 → x2 = 0 → x3 = 0 → c3 = 0 → x1 = 0 := by
    intro a1 a2 a3 b1
    rw [C3, a1, a2, a3] at b1
    simp only [col4, gmul_zero, Nat.xor_zero, Nat.zero_xor] at b1
    exact (gmul_eq_zero (by decide) k1 b1).resolve_left (by decide)
  have F60 : x0 = 0 → x1 = 0 → x3 = 0 → c0 = 0 → x2 = 0 := by
    intro a1 a2 a3 b1
    rw [C0, a1, a2, a3] at b1
    simp only [col4, gmul_zero, Nat.xor_zero, Nat.zero_xor] at b1
    exact (gmul_eq_zero (by decide) k2 b1).resolve_left (by decide)
  have F61 : x0 = 0 → x1 = 0 → x3 = 0 → c1 = 0 → x2 = 0 := by
    intro a1 a2 a3 b1
    rw [C1, a1, a2, a3] at b1
    simp only [col4, gmul_zero, Nat.xor_zero, Nat.zero_xor] at b1
    exact (gmul_eq_zero (by decide) k2 b1).resolve_left (by decide)
  have F62 : x0 = 0 → x1 = 0 → x3 = 0 → c2 = 0 → x2 = 0 := by
    intro a1 a2 a3 b1
    rw [C2, a1, a2, a3] at b1
    simp only [col4, gmul_zero, Nat.xor_zero, Nat.zero_xor] at b1
    exact (gmul_eq_zero (by decide) k2 b1).resolve_left (by decide)
  have F63 : x0 = 0 → x1 = 0 → x3 = 0 → c3 = 0 → x2 = 0 := by
    intro a1 a2 a3 b1
    rw [C3, a1, a2, a3] at b1
    simp only [col4, gmul_zero, Nat.xor_zero, Nat.zero_xor] at b1
    exact (gmul_eq_zero (by decide) k2 b1).resolve_left (by decide)
  have F64 : x0 = 0 → x1 = 0 → x2 = 0 → c0 = 0 → x3 = 0 := by
    intro a1 a2 a3 b1
    rw [C0, a1, a2, a3] at b1
    simp only [col4, gmul_zero, Nat.xor_zero, Nat.zero_xor] at b1
    exact (gmul_eq_zero (by decide) k3 b1).resolve_left (by decide)
  have F65 : x0 = 0 → x1 = 0 → x2 = 0 → c1 = 0 → x3 = 0 := by
    intro a1 a2 a3 b1
    rw [C1, a1, a2, a3] at b1
    simp only [col4, gmul_zero, Nat.xor_zero, Nat.zero_xor] at b1
    exact (gmul_eq_zero (by decide) k3 b1).resolve_left (by decide)
  have F66 : x0 = 0 → x1 = 0 → x2 = 0 → c2 = 0 → x3 = 0 := by
    intro a1 a2 a3 b1
    rw [C2, a1, a2, a3] at b1
    simp only [col4, gmul_zero, Nat.xor_zero, Nat.zero_xor] at b1
    exact (gmul_eq_zero (by decide) k3 b1).resolve_left (by decide)
  have F67 : x0 = 0 → x1 = 0 → x2 = 0 → c3 = 0 → x3 = 0 := by
    intro a1 a2 a3 b1
    rw [C3, a1, a2, a3] at b1
    simp only [col4, gmul_zero, Nat.xor_zero, Nat.zero_xor] at b1
    exact (gmul_eq_zero (by decide) k3 b1).resolve_left (by decide)
  have F68 : x0 = 0 → x1 = 0 → x2 = 0 → x3 = 0 → c0 = 0 := by
    intro a1 a2 a3 a4
    rw [C0, a1, a2, a3, a4]
    simp only [col4, gmul_zero, Nat.xor_zero]
  have F69 : x0 = 0 → x1 = 0 → x2 = 0 → x3 = 0 → c1 = 0 := by
    intro a1 a2 a3 a4
    rw [C1, a1, a2, a3, a4]
    simp only [col4, gmul_zero, Nat.xor_zero]
  have F70 : x0 = 0 → x1 = 0 → x2 = 0 → x3 = 0 → c2 = 0 := by
    intro a1 a2 a3 a4
    rw [C2, a1, a2, a3, a4]
    simp only [col4, gmul_zero, Nat.xor_zero]
  have F71 : x0 = 0 → x1 = 0 → x2 = 0 → x3 = 0 → c3 = 0 := by
    intro a1 a2 a3 a4
    rw [C3, a1, a2, a3, a4]
    simp only [col4, gmul_zero, Nat.xor_zero]
  have P := pattern _ _ _ _ _ _ _ _ (andT (andT (andT (andT (andT (andT (andT (andT (andT (andT (andT (andT (andT (andT (andT (andT (andT (andT (andT (andT (andT (andT (andT (andT (andT (andT (andT (andT (andT (andT (andT (andT (andT (andT (andT (andT (andT (andT (andT (andT (andT (andT (andT (andT (andT (andT (andT (andT (andT (andT (andT (andT (andT (andT (andT (andT (andT (andT (andT (andT (andT (andT (andT (andT (andT (andT (andT (andT (andT (andT (andT (imp2 F0) (imp2 F1)) (imp2 F2)) (imp2 F3)) (imp2 F4)) (imp2 F5)) (imp2 F6)) (imp2 F7)) (imp2 F8)) (imp2 F9)) (imp2 F10)) (imp2 F11)) (imp2 F12)) (imp2 F13)) (imp2 F14)) (imp2 F15)) (imp2 F16)) (imp2 F17)) (imp2 F18)) (imp2 F19)) (imp2 F20)) (imp2 F21)) (imp2 F22)) (imp2 F23)) (imp2 F24)) (imp2 F25)) (imp2 F26)) (imp2 F27)) (imp2 F28)) (imp2 F29)) (imp2 F30)) (imp2 F31)) (imp2 F32)) (imp2 F33)) (imp2 F34)) (imp2 F35)) (imp1 F36)) (imp1 F37)) (imp1 F38)) (imp1 F39)) (imp1 F40)) (imp1 F41)) (imp1 F42)) (imp1 F43)) (imp1 F44)) (imp1 F45)) (imp1 F46)) (imp1 F47)) (imp1 F48)) (imp1 F49)) (imp1 F50)) (imp1 F51)) (imp1 F52)) (imp1 F53)) (imp1 F54)) (imp1 F55)) (imp1 F56)) (imp1 F57)) (imp1 F58)) (imp1 F59)) (imp1 F60)) (imp1 F61)) (imp1 F62)) (imp1 F63)) (imp1 F64)) (imp1 F65)) (imp1 F66)) (imp1 F67)) (imp1 F68)) (imp1 F69)) (imp1 F70)) (imp1 F71))
  rcases Bool.or_eq_true_iff.1 P with h | h
  · exact .inl (Nat.le_of_ble_eq_true h)
  · simp only [Bool.and_eq_true, decide_eq_true_eq] at h
    exact .inr ⟨h.1.1.1, h.1.1.2, h.1.2, h.2⟩
end Go.Proofs.YtkendlnjaopbeaaGreatDoor
namespace Go.Proofs.YtkendlnjaopbeaaGreatDoor
set_option linter.unusedVariables false
theorem gd16 {f : Nat → Nat} {i : Nat} (h : i < 16) : ((List.range 16).map f).getD i 0 = f i := by
  simp [List.getD, h]
theorem ext16 {a b : List Nat} (ha : a.length = 16) (hb : b.length = 16) (h : ∀ i, i < 16 → a.getD i 0 = b.getD i 0) : a = b := by
  refine List.ext_getElem (by omega) fun i h1 h2 => ?_
  have := h i (by omega)
  simpa [List.getD, h1, h2] using this
structure B16 (b : List Nat) : Prop where
  len : b.length = 16
  lt : ∀ i, b.getD i 0 < 256
theorem B16.map {f : Nat → Nat} (h : ∀ i, i < 16 → f i < 256) : B16 ((List.range 16).map f) := ⟨by simp, fun i => by
  by_cases hi : i < 16
  · rw [gd16 hi]; exact h i hi
  · simp [List.getD, hi]⟩
theorem B16.of {b : List Nat} (hl : b.length = 16) (h : ∀ x ∈ b, x < 256) : B16 b := ⟨hl, fun i => by
  rw [List.getD_eq_getElem?_getD]
  cases hx : b[i]? with
  | none => simp
  | some x => exact h x (List.mem_of_getElem? hx)⟩
theorem B16.byl {b : List Nat} (h : B16 b) : ∀ x ∈ b, x < 256 := fun x hx => by
  obtain ⟨i, hi, rfl⟩ := List.mem_iff_getElem.1 hx
  have := h.lt i
  simpa [List.getD, hi] using this
/-- A round's key is put to it. -/
def addK (W : List Nat) (r : Nat) (b : List Nat) : List Nat := (List.range 16).map fun i => b.getD i 0 ^^^ W.getD (16 * r + i) 0
def subL (b : List Nat) : List Nat := (List.range 16).map fun i => gsub (b.getD ((i + i % 4 * 4) % 16) 0)
def unsubL (b : List Nat) : List Nat := (List.range 16).map fun i => gunsub (b.getD ((i + i % 4 * 12) % 16) 0)
def mixL (B : Nat → Nat) (b : List Nat) : List Nat := (List.range 16).map fun i => colf B (fun j => b.getD (i / 4 * 4 + j) 0) (i % 4)
structure KOk (W : List Nat) : Prop where
  lt : ∀ i, W.getD i 0 < 256
theorem addK_ok {W : List Nat} (hW : KOk W) {r : Nat} {b : List Nat} (hb : B16 b) : B16 (addK W r b) := B16.map fun i hi => xor_lt (hb.lt i) (hW.lt _)
theorem subL_ok {b : List Nat} (hb : B16 b) : B16 (subL b) := B16.map fun i hi => gsub_lt _ (hb.lt _)
theorem unsubL_ok {b : List Nat} (hb : B16 b) : B16 (unsubL b) := B16.map fun i hi => gunsub_lt _ (hb.lt _)
theorem mixL_ok {B : Nat → Nat} (hB : ∀ j, B j < 256) {b : List Nat} : B16 (mixL B b) := B16.map fun i hi => colf_lt hB _ _
theorem addK_addK {W : List Nat} (r : Nat) {b : List Nat} (hb : b.length = 16) : addK W r (addK W r b) = b := by
  refine ext16 (by simp [addK]) hb fun i hi => ?_
  rw [addK, gd16 hi, addK, gd16 hi, Nat.xor_assoc, Nat.xor_self, Nat.xor_zero]
theorem addK_inj {W : List Nat} (r : Nat) {a b : List Nat} (ha : a.length = 16) (hb : b.length = 16) (h : addK W r a = addK W r b) : a = b := by
  rw [← addK_addK (W := W) r ha, h, addK_addK r hb]
theorem unsub_sub {b : List Nat} (hb : B16 b) : unsubL (subL b) = b := by
  refine ext16 (by simp [unsubL]) hb.len fun i hi => ?_
  rw [unsubL, gd16 hi, subL, gd16 (Nat.mod_lt _ (by decide)), law1 _ (hb.lt _)]
  congr 1
  omega
theorem sub_unsub {b : List Nat} (hb : B16 b) : subL (unsubL b) = b := by
  refine ext16 (by simp [subL]) hb.len fun i hi => ?_
  rw [subL, gd16 hi, unsubL, gd16 (Nat.mod_lt _ (by decide)), law2 _ (hb.lt _)]
  congr 1
  omega
theorem mix_get {B : Nat → Nat} {b : List Nat} {i j : Nat} (hi : i < 16) (hj : j < 4) : (mixL B b).getD (i / 4 * 4 + j) 0 = colf B (fun k => b.getD (i / 4 * 4 + k) 0) j := by
  rw [mixL, gd16 (by omega), show (i / 4 * 4 + j) / 4 = i / 4 by omega, show (i / 4 * 4 + j) % 4 = j by omega]
theorem unmix_mix {b : List Nat} (hb : B16 b) : mixL unB (mixL mixB b) = b := by
  refine ext16 (by simp [mixL]) hb.len fun i hi => ?_
  rw [mixL, gd16 hi, colf_congr (fun j hj => mix_get hi hj), un_mix (fun j => hb.lt _) _ (Nat.mod_lt _ (by decide))]
  congr 1
  omega
theorem mix_unmix {b : List Nat} (hb : B16 b) : mixL mixB (mixL unB b) = b := by
  refine ext16 (by simp [mixL]) hb.len fun i hi => ?_
  rw [mixL, gd16 hi, colf_congr (fun j hj => mix_get hi hj), mix_un (fun j => hb.lt _) _ (Nat.mod_lt _ (by decide))]
  congr 1
  omega
/-- Behind n rounds of R. -/
def encN (W : List Nat) (R : Nat) (b : List Nat) : Nat → List Nat
  | 0 => addK W 0 b
  | n + 1 => addK W (n + 1) (if n + 1 < R then mixL mixB (subL (encN W R b n)) else subL (encN W R b n))
def encL (W : List Nat) (R : Nat) (b : List Nat) : List Nat := encN W R b R
/-- With k rounds taken off. -/
def decN (W : List Nat) (R : Nat) (b : List Nat) : Nat → List Nat
  | 0 => b
  | k + 1 => unsubL (if R - k < R then mixL unB (addK W (R - k) (decN W R b k)) else addK W (R - k) (decN W R b k))
def decL (W : List Nat) (R : Nat) (b : List Nat) : List Nat := addK W 0 (decN W R b R)
theorem encN_ok {W : List Nat} (hW : KOk W) {R : Nat} {b : List Nat} (hb : B16 b) : ∀ n, B16 (encN W R b n)
  | 0 => addK_ok hW hb
  | n + 1 => by
    rw [encN]
    refine addK_ok hW ?_
    split
    · exact mixL_ok mixB_lt
    · exact subL_ok (encN_ok hW hb n)
theorem decN_ok {W : List Nat} (hW : KOk W) {R : Nat} {b : List Nat} (hb : B16 b) : ∀ n, B16 (decN W R b n)
  | 0 => hb
  | n + 1 => by
    rw [decN]
    refine unsubL_ok ?_
    split
    · exact mixL_ok unB_lt
    · exact addK_ok hW (decN_ok hW hb n)
theorem encL_ok {W : List Nat} (hW : KOk W) {R : Nat} {b : List Nat} (hb : B16 b) : B16 (encL W R b) := encN_ok hW hb R
theorem decL_ok {W : List Nat} (hW : KOk W) {R : Nat} {b : List Nat} (hb : B16 b) : B16 (decL W R b) := addK_ok hW (decN_ok hW hb R)
theorem dec_enc {W : List Nat} (hW : KOk W) {R : Nat} {b : List Nat} (hb : B16 b) : decL W R (encL W R b) = b := by
  have key : ∀ k, k ≤ R → decN W R (encL W R b) k = encN W R b (R - k) := fun k => by
    induction k with
    | zero => intro _; rfl
    | succ k ih =>
      intro hk
      obtain ⟨n, hn⟩ : ∃ n, R - k = n + 1 := ⟨R - k - 1, by omega⟩
      have hs := subL_ok (encN_ok hW hb n (R := R))
      rw [decN, ih (by omega), hn, show R - (k + 1) = n by omega, encN]
      by_cases hr : n + 1 < R
      · rw [if_pos hr, if_pos hr, addK_addK _ (mixL_ok mixB_lt).len, unmix_mix hs, unsub_sub (encN_ok hW hb n)]
      · rw [if_neg hr, if_neg hr, addK_addK _ hs.len, unsub_sub (encN_ok hW hb n)]
  rw [decL, key R (Nat.le_refl _), Nat.sub_self, encN, addK_addK _ hb.len]
theorem enc_dec {W : List Nat} (hW : KOk W) {R : Nat} {b : List Nat} (hb : B16 b) : encL W R (decL W R b) = b := by
  have key : ∀ n, n ≤ R → encN W R (decL W R b) n = decN W R b (R - n) := fun n => by
    induction n with
    | zero => intro _; rw [encN, decL, addK_addK _ (decN_ok hW hb R).len]; rfl
    | succ n ih =>
      intro hn
      obtain ⟨k, hk⟩ : ∃ k, R - n = k + 1 := ⟨R - n - 1, by omega⟩
      have ho := decN_ok hW hb k (R := R)
      rw [encN, ih (by omega), hk, decN, show R - k = n + 1 by omega, show R - (n + 1) = k by omega]
      by_cases hr : n + 1 < R
      · rw [if_pos hr, if_pos hr, sub_unsub (mixL_ok unB_lt), mix_unmix (addK_ok hW ho), addK_addK _ ho.len]
      · rw [if_neg hr, if_neg hr, sub_unsub (addK_ok hW ho), addK_addK _ ho.len]
  rw [encL, key R (Nat.le_refl _), Nat.sub_self]; rfl
theorem enc_inj {W : List Nat} (hW : KOk W) {R : Nat} {a b : List Nat} (ha : B16 a) (hb : B16 b) (h : encL W R a = encL W R b) : a = b := by
  rw [← dec_enc hW ha (R := R), h, dec_enc hW hb]
end Go.Proofs.YtkendlnjaopbeaaGreatDoor
namespace Go.Proofs.YtkendlnjaopbeaaGreatDoor
open Go.RowKit
set_option linter.unusedVariables false
set_option linter.unusedSimpArgs false
set_option maxRecDepth 100000
/-- A key's cells. -/
abbrev sgA (W : List Nat) (R : Nat) : Sg := [(240, bys W), (1, #[.int .i64 (R : Int)])]
abbrev kv (W : List Nat) (R : Nat) : Value := .agg (rwA (sgA W R))
class AKey (W : List Nat) : Prop where
  len : W.length = 240
  byl : ∀ x ∈ W, x < 256
theorem AKey.ok {W : List Nat} (h : AKey W) : KOk W := ⟨fun i => by
  rw [List.getD_eq_getElem?_getD]
  cases hx : W[i]? with
  | none => simp
  | some x => exact h.byl x (List.mem_of_getElem? hx)⟩
instance {W : List Nat} [h : AKey W] : SegL (bys W) 240 := seg_bys h.len
instance : ZC Tryz.prog 23 (bys (List.replicate 16 0)) := ⟨by kernel_rfl⟩
/-- The first i bytes have their key. -/
def addP (W : List Nat) (r : Nat) (b : List Nat) (i : Nat) : List Nat := (addK W r b).take i ++ b.drop i
theorem addK_len (W : List Nat) (r : Nat) (b : List Nat) : (addK W r b).length = 16 := by simp [addK]
theorem addP_len {W : List Nat} {r : Nat} {b : List Nat} (hb : b.length = 16) {i : Nat} (hi : i ≤ 16) : (addP W r b i).length = 16 := by
  rw [addP, List.length_append, List.length_take, addK_len, List.length_drop, hb]; omega
theorem addP_get {W : List Nat} {r : Nat} {b : List Nat} (hb : b.length = 16) {i : Nat} (hi : i < 16) : (addP W r b i).getD i 0 = b.getD i 0 := by
  rw [addP, List.getD_eq_getElem?_getD, List.getElem?_append_right (by rw [List.length_take, addK_len]; omega), List.length_take, addK_len, Nat.min_eq_left (by omega), Nat.sub_self, List.getElem?_drop, Nat.add_zero, List.getD_eq_getElem?_getD]
theorem addP_step {W : List Nat} {r : Nat} {b : List Nat} (hb : b.length = 16) {i : Nat} (hi : i < 16) : (addP W r b i).set i (b.getD i 0 ^^^ W.getD (16 * r + i) 0) = addP W r b (i + 1) := by
  have e1 : b.drop i = b.getD i 0 :: b.drop (i + 1) := by rw [List.drop_eq_getElem_cons (by omega)]; simp [List.getD, (by omega : i < b.length)]
  have e2 : (addK W r b).take (i + 1) = (addK W r b).take i ++ [b.getD i 0 ^^^ W.getD (16 * r + i) 0] := by
    have hg : (addK W r b)[i]? = some (b.getD i 0 ^^^ W.getD (16 * r + i) 0) := by simp [addK, hi]
    rw [List.take_add_one, hg]; rfl
  rw [addP, List.set_append_right _ _ (by rw [List.length_take, addK_len]; omega), List.length_take, addK_len, Nat.min_eq_left (by omega), Nat.sub_self, e1, List.set_cons_zero, addP, e2, List.append_assoc]
  rfl
theorem addP_all {W : List Nat} {r : Nat} {b : List Nat} (hb : b.length = 16) : addP W r b 16 = addK W r b := by
  rw [addP, List.take_of_length_le (by rw [addK_len]; exact Nat.le_refl _), List.drop_of_length_le (by omega), List.append_nil]
set_option maxHeartbeats 2000000 in
theorem by_c (w' : World) {g r R : Nat} {W b : List Nat} (hk : AKey W) (hr : r ≤ 14) (hb : B16 b) (hg : w'.heap[g]? = some (.cells (rwA (sgA W R)) 77)) :
    Calls Tryz.prog 118 [ptr g, .agg (bys b), .int .i64 (r : Int)].toArray w' (Ret (.agg (bys (addK W r b))) w') := by
  have hcell : ∀ j, j < 240 → w'.cell? ⟨g, j, none⟩ = some (.int .u8 (W.getD j 0 : Int)) := fun j hj => by
    refine cell_of hg ?_
    have hl : (bl W).length = 240 := by rw [bl_len, hk.len]
    rw [rwA, List.getElem?_toArray]
    simp only [rwL, List.map_cons, List.flatten_cons, bys]
    rw [List.getElem?_append_left (by rw [hl]; exact hj), bl_get (by rw [hk.len]; exact hj)]
  have hbl := hb.len
  have hW := hk.ok
  haveI : NBy b 16 := ⟨hbl⟩
  have k4 : IntKind.i64.wrap (4 * (r : Int)) = ((4 * r : Nat) : Int) := by rw [wrap_i64 _ (by omega) (by omega)]; omega
  have hp0 : addP W r b 0 = b := by simp [addP]
  clear hg
  refine fn_ret (N := _) Tryz.func118 rfl Tryz.ntmps118 Tryz.results118 (by simp) ?_
  simp only [initS, Nat.reduceAdd, Nat.zero_add]
  repeat' (first | (refine wlS ?_) | (refine wlB ?_) | (refine efZCnn ?_; intro n hn) | (refine efBnn ?_; intro n hn) | (refine efB ?_) | (refine efBS ?_) | (refine wl_skip rfl rfl ?_) | (refine wdS ?_) | (refine wdV ?_) | (refine wdB ?_) | (refine wdT ?_) | (refine wdTO ?_) | (refine wd_skip rfl rfl ?_) | ((with_reducible refine seld_nil ?_); refine wd_nil hm0 ?_; clear hm0 hw0) | ((with_reducible refine wc_seq ?_); intro K hK) | (refine auC ?_) | (refine wc_cond rfl (fun hc => ?_) (fun hc => ?_)) | (refine wc_draw (by kernel_rfl) (by kernel_rfl) (by decide +kernel) ?_; intro w0 hw0 hm0; (try simp only [List.append_eq, List.cons_append, List.nil_append])) | (refine auP ?_) | ((refine auR ?_); clear hK K) | (refine auR ?_) | ((with_reducible refine hK _ _ ?_); clear hK K) | fail)
  rename_i n4 hn4
  refine wc_loop (σ := Nat) (fun i => [(0, ptr g), (2, .int .i64 (r : Int)), (4, ptr n4), (6, ptr n), (8, .int .i64 (i : Int))])
    (fun i => [(n, (bys (List.replicate 16 0), 23)), (n4, (bys (addP W r b i), 23))])
    (fun i => i ≤ 16) (fun i => 16 - i) 0 (Nat.zero_le _) (Fits.of ⟨rfl, rfl, rfl, rfl, rfl, trivial⟩ (by rw [hp0]; exact SubL.refl _) rfl) ?_
  intro i hi
  haveI : NBy (addP W r b i) 16 := ⟨addP_len hbl hi⟩
  by_cases hlt : i < 16
  · have t1 : decide ((i : Int) < 16) = true := decide_eq_true (by omega)
    have k1 : IntKind.i64.wrap ((i : Int) + 1) = ((i + 1 : Nat) : Int) := by rw [wrap_i64 _ (by omega) (by omega)]; omega
    have k2 : IntKind.i64.wrap ((i : Int).tdiv 4) = ((i / 4 : Nat) : Int) := by rw [Int.tdiv_eq_ediv_of_nonneg (by omega), wrap_i64 _ (by omega) (by omega)]; omega
    have k3 : (i : Int).tmod 4 = ((i % 4 : Nat) : Int) := by rw [Int.tmod_eq_emod_of_nonneg (by omega)]; omega
    have k5 : IntKind.i64.wrap (((4 * r : Nat) : Int) + ((i / 4 : Nat) : Int)) = ((4 * r + i / 4 : Nat) : Int) := by rw [wrap_i64 _ (by omega) (by omega)]; omega
    have j1 : (i : Int) < ((16 : Nat) : Int) := by omega
    have j2 : ((4 * r + i / 4 : Nat) : Int) < ((60 : Nat) : Int) := by omega
    have j3 : ((i % 4 : Nat) : Int) < ((4 : Nat) : Int) := by omega
    have gv : (bys (addP W r b i))[i]? = some (.int .u8 ((b.getD i 0 : Nat) : Int)) := by
      have := bys_get (l := addP W r b i) (i := i) (by rw [addP_len hbl hi]; omega)
      rwa [addP_get hbl hlt] at this
    have hc : w'.cell? ⟨g, (4 * r + i / 4) * 4 + i % 4, none⟩ = some (.int .u8 (W.getD (16 * r + i) 0 : Int)) := by
      have := hcell ((4 * r + i / 4) * 4 + i % 4) (by omega)
      rwa [show W.getD ((4 * r + i / 4) * 4 + i % 4) 0 = W.getD (16 * r + i) 0 by congr 1; omega] at this
    have st := addP_step (W := W) (r := r) hbl hlt
    have xo := bits_u8 (b.getD i 0) (W.getD (16 * r + i) 0) (hb.lt i) (hW.lt _)
    repeat' (first | (refine wlS ?_) | (refine wlB ?_) | (refine wlO ?_) | (refine efBnn ?_; intro n hn) | (refine efB ?_) | (refine efBS ?_) | (refine wl_skip rfl rfl ?_) | ((with_reducible refine wc_seq ?_); intro K hK) | (refine auC ?_) | (refine wc_cond rfl (fun hc => ?_) (fun hc => ?_)) | ((with_reducible refine wc_drawT (by kernel_rfl) ?_); (try simp only [List.append_eq, List.cons_append, List.nil_append, List.length_cons, List.length_nil, Nat.reduceAdd])) | ((with_reducible refine sel_wh ?_); (refine wh_if (by decide +kernel) ?_); first | (refine wh_take (lq := []) rfl rfl rfl rfl (by first | exact rvS | exact rvB | exact rvO) (Or.inl rfl) ?_) | (refine wh_takeL rfl rfl rfl rfl (by first | exact rvS | exact rvB | exact rvO) (by decide +kernel) ?_)) | (refine whS ?_; intro v hv hp) | ((with_reducible refine sel_wh ?_); first | (refine wh_pass rfl rfl rfl rfl ?_) | (refine wh_done rfl ?_) | (refine wh_all rfl ?_)) | ((with_reducible refine sel_rest ?_); first | exact rest_nil rfl | refine rest_cons rfl rfl ?_ ?_) | ((with_reducible refine sel_nx ?_); first | refine next_of ?_ | refine next_late (by decide +kernel) ?_) | (refine auP ?_) | ((refine auR ?_); clear hK K) | (refine auR ?_) | ((with_reducible refine hK _ _ ?_); clear hK K) | fail)
    exact ⟨i + 1, hlt, by omega, Fits.of ⟨rfl, rfl, rfl, rfl, rfl, trivial⟩ (by rw [← st]; exact SubL.refl _) rfl⟩
  · obtain rfl : i = 16 := by omega
    have t1 : decide (((16 : Nat) : Int) < 16) = false := by decide
    rw [addP_all hbl] at *
    repeat' (first | (refine wlS ?_) | (refine wlB ?_) | (refine efZCnn ?_; intro n hn) | (refine efBnn ?_; intro n hn) | (refine efB ?_) | (refine efBS ?_) | (refine wl_skip rfl rfl ?_) | (refine wdS ?_) | (refine wdV ?_) | (refine wdB ?_) | (refine wdT ?_) | (refine wdTO ?_) | (refine wd_skip rfl rfl ?_) | ((with_reducible refine seld_nil ?_); refine wd_nil hm0 ?_; clear hm0 hw0) | ((with_reducible refine wc_seq ?_); intro K hK) | (refine auC ?_) | (refine wc_cond rfl (fun hc => ?_) (fun hc => ?_)) | (refine wc_draw (by kernel_rfl) (by kernel_rfl) (by decide +kernel) ?_; intro w0 hw0 hm0; (try simp only [List.append_eq, List.cons_append, List.nil_append])) | (refine auP ?_) | ((refine auR ?_); clear hK K) | (refine auR ?_) | ((with_reducible refine hK _ _ ?_); clear hK K) | fail)
    first | refine end_ret (ResP.cell rfl ld_whole ResP.nil) ?_ | refine end_normal (ResP.cell rfl ld_whole ResP.nil) ?_
    first | rfl | (show _ = _; rfl) | (simp only [tupV, *]; done)
end Go.Proofs.YtkendlnjaopbeaaGreatDoor
namespace Go.Proofs.YtkendlnjaopbeaaGreatDoor
open Go.RowKit
set_option linter.unusedVariables false
set_option linter.unusedSimpArgs false
set_option maxRecDepth 100000
set_option maxHeartbeats 2000000 in
theorem pow_gf (a n : Nat) (ha : a < 256) (hn : n < 18446744073709551616) (w : World) : Calls Tryz.prog 35 [.int .u8 a, .int .u64 n].toArray w (Ret (.int .u8 ((npow a n : Nat) : Int)) w) := by
  obtain ⟨R, hR⟩ : ∃ R, R = npow a n := ⟨_, rfl⟩
  rw [← hR]
  refine fn_ret (N := _) Tryz.func35 rfl Tryz.ntmps35 Tryz.results35 (by simp) ?_
  simp only [initS, Nat.reduceAdd, Nat.zero_add]
  repeat' (first | (refine wlB ?_) | (refine wlE ?_) | (refine wl_skip rfl rfl ?_) | ((with_reducible refine wc_seq ?_); intro K hK) | (refine auC ?_) | (refine wc_cond rfl (fun hc => ?_) (fun hc => ?_)) | (refine wc_draw (by kernel_rfl) (by kernel_rfl) (by decide +kernel) ?_; intro w0 hw0 hm0; (try simp only [List.append_eq, List.cons_append, List.nil_append])) | (refine auP ?_) | ((refine auR ?_); clear hK K) | (refine auR ?_) | ((with_reducible refine hK _ _ ?_); clear hK K) | fail)
  refine wc_loop (σ := Nat × Nat × Nat) (fun x => [(0, .int .u8 (x.1 : Int)), (1, .int .u64 (x.2.1 : Int)), (5, .int .u8 (x.2.2 : Int))]) (fun _ => [])
    (fun x => x.1 < 256 ∧ x.2.1 < 18446744073709551616 ∧ x.2.2 < 256 ∧ gmul x.2.2 (npow x.1 x.2.1) = R) (fun x => x.2.1) (a, n, 1) ⟨ha, hn, by dsimp only; omega, by rw [one_gmul (npow_lt n ha)]; exact hR.symm⟩ (Fits.of ⟨rfl, rfl, rfl, trivial⟩ .nil rfl) ?_
  clear hR ha hn a n
  rintro ⟨a, n, o⟩ ⟨ha, hn, ho, hR⟩
  dsimp only at ha hn ho hR ⊢
  by_cases hn0 : n = 0
  · subst hn0
    rw [npow, gmul_one] at hR
    subst hR
    have ht : decide (((0 : Nat) : Int) > 0) = false := rfl
    repeat' (first | (refine wlB ?_) | (refine wlE ?_) | (refine wl_skip rfl rfl ?_) | ((with_reducible refine wc_seq ?_); intro K hK) | (refine auC ?_) | (refine wc_cond rfl (fun hc => ?_) (fun hc => ?_)) | (refine wc_draw (by kernel_rfl) (by kernel_rfl) (by decide +kernel) ?_; intro w0 hw0 hm0; (try simp only [List.append_eq, List.cons_append, List.nil_append])) | (refine auP ?_) | ((refine auR ?_); clear hK K) | (refine auR ?_) | ((with_reducible refine hK _ _ ?_); clear hK K) | fail)
    first | refine end_ret (ResP.tmp rfl ResP.nil) ?_ | refine end_normal (ResP.tmp rfl ResP.nil) ?_
    first | rfl | (show _ = _; rfl) | (simp only [tupV, *]; done)
  · have ht : decide ((n : Int) > 0) = true := decide_eq_true (by omega)
    have hand := and1_u64 n hn
    have hn2 : (n : Int) / 2 ^ min ((1 : Int).toNat) (IntKind.bits .u64) = ((n / 2 : Nat) : Int) := by show (n : Int) / 2 = _; omega
    have hs := gmul_lt a ha
    have hoa := gmul_lt a ho
    rw [pow_step ha ho] at hR
    have hlt : n / 2 < n := by omega
    have hlt2 : n / 2 < 18446744073709551616 := by omega
    have C2 := mul_gf a a ha ha
    by_cases hp : n % 2 = 1
    · rw [if_pos hp] at hR
      rw [hp] at hand
      have C1 := mul_gf o a ho ha
      clear hp hn0 ha hn ho
      repeat' (first | (refine wlB ?_) | ((with_reducible refine sel_call ?_); refine wl_rd rfl rfl (rd_call rfl rfl rfl (fun w hm => by with_reducible first | exact C1 w | exact C2 w)) ?_) | (refine wlE ?_) | (refine wl_skip rfl rfl ?_) | ((with_reducible refine wc_seq ?_); intro K hK) | (refine auC ?_) | (refine wc_cond rfl (fun hc => ?_) (fun hc => ?_)) | (refine wc_draw (by kernel_rfl) (by kernel_rfl) (by decide +kernel) ?_; intro w0 hw0 hm0; (try simp only [List.append_eq, List.cons_append, List.nil_append])) | (refine auP ?_) | ((refine auR ?_); clear hK K) | (refine auR ?_) | ((with_reducible refine hK _ _ ?_); clear hK K) | fail)
      exact ⟨(gmul a a, n / 2, gmul o a), ⟨hs, hlt2, hoa, hR⟩, hlt, Fits.of ⟨rfl, rfl, rfl, trivial⟩ .nil rfl⟩
    · rw [if_neg hp] at hR
      rw [show n % 2 = 0 by omega] at hand
      clear hp hn0 ha hn
      repeat' (first | (refine wlB ?_) | ((with_reducible refine sel_call ?_); refine wl_rd rfl rfl (rd_call rfl rfl rfl (fun w hm => by with_reducible exact C2 w)) ?_) | (refine wlE ?_) | (refine wl_skip rfl rfl ?_) | ((with_reducible refine wc_seq ?_); intro K hK) | (refine auC ?_) | (refine wc_cond rfl (fun hc => ?_) (fun hc => ?_)) | (refine wc_draw (by kernel_rfl) (by kernel_rfl) (by decide +kernel) ?_; intro w0 hw0 hm0; (try simp only [List.append_eq, List.cons_append, List.nil_append])) | (refine auP ?_) | ((refine auR ?_); clear hK K) | (refine auR ?_) | ((with_reducible refine hK _ _ ?_); clear hK K) | fail)
      exact ⟨(gmul a a, n / 2, o), ⟨hs, hlt2, ho, hR⟩, hlt, Fits.of ⟨rfl, rfl, rfl, trivial⟩ .nil rfl⟩
theorem inv_gf (a : Nat) (ha : a < 256) (w : World) : Calls Tryz.prog 70 [.int .u8 a].toArray w (Ret (.int .u8 ((ginv a : Nat) : Int)) w) := by
  have C := pow_gf a 254 ha (by decide)
  rw [show ((254 : Nat) : Int) = 254 from rfl] at C
  clear ha
  refine fn_ret (N := _) Tryz.func70 rfl Tryz.ntmps70 Tryz.results70 (by simp) ?_
  simp only [initS, Nat.reduceAdd, Nat.zero_add]
  repeat' (first | (refine wlB ?_) | ((with_reducible refine sel_call ?_); refine wl_rd rfl rfl (rd_call rfl rfl rfl (fun w hm => by with_reducible exact C w)) ?_) | (refine wlE ?_) | (refine wl_skip rfl rfl ?_) | ((with_reducible refine wc_seq ?_); intro K hK) | (refine auC ?_) | (refine wc_cond rfl (fun hc => ?_) (fun hc => ?_)) | (refine wc_draw (by kernel_rfl) (by kernel_rfl) (by decide +kernel) ?_; intro w0 hw0 hm0; (try simp only [List.append_eq, List.cons_append, List.nil_append])) | (refine auP ?_) | ((refine auR ?_); clear hK K) | (refine auR ?_) | ((with_reducible refine hK _ _ ?_); clear hK K) | fail)
  first | refine end_ret (ResP.tmp rfl ResP.nil) ?_ | refine end_normal (ResP.tmp rfl ResP.nil) ?_
  first | rfl | (show _ = _; rfl) | (simp only [tupV, *]; done)
end Go.Proofs.YtkendlnjaopbeaaGreatDoor
namespace Go.Proofs.YtkendlnjaopbeaaGreatDoor
open Go.RowKit
set_option linter.unusedVariables false
set_option linter.unusedSimpArgs false
set_option maxRecDepth 100000
theorem rol_lt (x k : Nat) (hx : x < 256) : rol x k < 256 :=
  Nat.or_lt_two_pow (n := 8) (Nat.mod_lt _ (by omega)) (Nat.lt_of_le_of_lt (Nat.div_le_self _ _) hx)
theorem sp_lt {b : Nat} (hb : b < 256) : ∀ m, sp b m < 256
  | 0 => xor_lt (by decide) hb
  | m + 1 => xor_lt (sp_lt hb m) (rol_lt b _ hb)
theorem or_u8 {a b : Nat} (ha : a < 256) (hb : b < 256) : bits .or .u8 (a : Int) (b : Int) = ((a ||| b : Nat) : Int) := by
  have hx : a ||| b < 256 := Nat.or_lt_two_pow (n := 8) ha hb
  have h1 : (BitVec.ofInt 8 (a : Int)).toNat = a := by
    rw [BitVec.ofInt_natCast, BitVec.toNat_ofNat]; exact Nat.mod_eq_of_lt (by omega)
  have h2 : (BitVec.ofInt 8 (b : Int)).toNat = b := by
    rw [BitVec.ofInt_natCast, BitVec.toNat_ofNat]; exact Nat.mod_eq_of_lt (by omega)
  show IntKind.u8.wrap ((BitVec.ofInt 8 (a : Int) ||| BitVec.ofInt 8 (b : Int)).toNat : Int) = _
  rw [BitVec.toNat_or, h1, h2]
  exact wrap_u8 _ (by omega) (by omega)
theorem and7 (k : Nat) (h1 : 1 ≤ k) (h2 : k ≤ 7) : bits .and .u64 (k : Int) 7 = (k : Int) := by
  rcases (by omega : k = 1 ∨ k = 2 ∨ k = 3 ∨ k = 4 ∨ k = 5 ∨ k = 6 ∨ k = 7) with rfl | rfl | rfl | rfl | rfl | rfl | rfl <;> decide +kernel
set_option maxHeartbeats 2000000 in
theorem rot_gf (x k : Nat) (hx : x < 256) (h1 : 1 ≤ k) (h2 : k ≤ 7) (w : World) : Calls Tryz.prog 71 [.int .u8 x, .int .i64 k].toArray w (Ret (.int .u8 ((rol x k : Nat) : Int)) w) := by
  have e1 : IntKind.u64.wrap ((k : Nat) : Int) = ((k : Nat) : Int) := wrap_u64 _ (by omega) (by omega)
  have e2 := and7 k h1 h2
  have e3 : IntKind.u8.wrap ((x : Int) * 2 ^ min ((k : Int).toNat) (IntKind.bits .u8)) = ((x * 2 ^ k % 256 : Nat) : Int) := by
    rw [Int.toNat_natCast, show min k (IntKind.bits .u8) = k from Nat.min_eq_left (by show k ≤ 8; omega)]
    simp only [IntKind.wrap, IntKind.bits, IntKind.signed]
    simp
  have e4 : IntKind.u64.wrap (8 - (k : Int)) = ((8 - k : Nat) : Int) := by rw [wrap_u64 _ (by omega) (by omega)]; omega
  have e5 : (x : Int) / 2 ^ min (((8 - k : Nat) : Int).toNat) (IntKind.bits .u8) = ((x / 2 ^ (8 - k) : Nat) : Int) := by
    rw [Int.toNat_natCast, show min (8 - k) (IntKind.bits .u8) = 8 - k from Nat.min_eq_left (by show 8 - k ≤ 8; omega)]
    simp
  have e6 : bits .or .u8 ((x * 2 ^ k % 256 : Nat) : Int) ((x / 2 ^ (8 - k) : Nat) : Int) = ((rol x k : Nat) : Int) := or_u8 (Nat.mod_lt _ (by omega)) (Nat.lt_of_le_of_lt (Nat.div_le_self _ _) hx)
  have p1 : (0 : Int) ≤ (k : Int) := by omega
  have p2 : (0 : Int) ≤ ((8 - k : Nat) : Int) := by omega
  clear hx h1 h2
  refine fn_ret (N := _) Tryz.func71 rfl Tryz.ntmps71 Tryz.results71 (by simp) ?_
  simp only [initS, Nat.reduceAdd, Nat.zero_add]
  repeat' (first | (refine wlB ?_) | (refine wl_skip rfl rfl ?_) | ((with_reducible refine wc_seq ?_); intro K hK) | (refine auC ?_) | (refine wc_cond rfl (fun hc => ?_) (fun hc => ?_)) | (refine wc_draw (by kernel_rfl) (by kernel_rfl) (by decide +kernel) ?_; intro w0 hw0 hm0; (try simp only [List.append_eq, List.cons_append, List.nil_append])) | (refine auP ?_) | ((refine auR ?_); clear hK K) | (refine auR ?_) | ((with_reducible refine hK _ _ ?_); clear hK K) | fail)
  first | refine end_ret (ResP.tmp rfl ResP.nil) ?_ | refine end_normal (ResP.tmp rfl ResP.nil) ?_
  first | rfl | (show _ = _; rfl) | (simp only [tupV, *]; done)
set_option maxHeartbeats 2000000 in
theorem sub_gf (a : Nat) (ha : a < 256) (w : World) : Calls Tryz.prog 56 [.int .u8 a].toArray w (Ret (.int .u8 ((gsub a : Nat) : Int)) w) := by
  have C := inv_gf a ha
  rw [ginv_gi ha] at C
  have hb := gi_lt a ha
  unfold gsub
  generalize gi a = b at C hb
  have h0 := bits_u8 99 b (by decide) hb
  rw [show ((99 : Nat) : Int) = 99 from rfl, show 99 ^^^ b = sp b 0 from rfl] at h0
  refine fn_ret (N := _) Tryz.func56 rfl Tryz.ntmps56 Tryz.results56 (by simp) ?_
  simp only [initS, Nat.reduceAdd, Nat.zero_add]
  repeat' (first | (refine wlB ?_) | ((with_reducible refine sel_call ?_); refine wl_rd rfl rfl (rd_call rfl rfl rfl (fun w hm => by with_reducible exact C w)) ?_) | (refine wlE ?_) | (refine wl_skip rfl rfl ?_) | ((with_reducible refine wc_seq ?_); intro K hK) | (refine auC ?_) | (refine wc_cond rfl (fun hc => ?_) (fun hc => ?_)) | (refine wc_draw (by kernel_rfl) (by kernel_rfl) (by decide +kernel) ?_; intro w0 hw0 hm0; (try simp only [List.append_eq, List.cons_append, List.nil_append])) | (refine auP ?_) | ((refine auR ?_); clear hK K) | (refine auR ?_) | ((with_reducible refine hK _ _ ?_); clear hK K) | fail)
  refine wc_loop (σ := Nat) (fun m => [(3, .int .u8 (b : Int)), (4, .int .u8 (sp b m : Nat)), (5, .int .i64 ((m + 1 : Nat) : Int))]) (fun _ => [])
    (fun m => m ≤ 4) (fun m => 4 - m) 0 (Nat.zero_le _) (Fits.of ⟨rfl, rfl, rfl, trivial⟩ .nil rfl) ?_
  clear C h0 ha
  intro m hm
  by_cases hlt : m < 4
  · have t1 : decide (((m + 1 : Nat) : Int) ≤ 4) = true := decide_eq_true (by omega)
    have ROT := rot_gf b (m + 1) hb (by omega) (by omega)
    have hx : bits .xor .u8 ((sp b m : Nat) : Int) ((rol b (m + 1) : Nat) : Int) = ((sp b (m + 1) : Nat) : Int) := bits_u8 _ _ (sp_lt hb m) (rol_lt b _ hb)
    have hi : IntKind.i64.wrap (((m + 1 : Nat) : Int) + 1) = ((m + 1 + 1 : Nat) : Int) := wrap_i64 _ (by omega) (by omega)
    clear hm hb
    repeat' (first | (refine wlB ?_) | ((with_reducible refine sel_call ?_); refine wl_rd rfl rfl (rd_call rfl rfl rfl (fun w hm => by with_reducible exact ROT w)) ?_) | (refine wlE ?_) | (refine wl_skip rfl rfl ?_) | ((with_reducible refine wc_seq ?_); intro K hK) | (refine auC ?_) | (refine wc_cond rfl (fun hc => ?_) (fun hc => ?_)) | (refine wc_draw (by kernel_rfl) (by kernel_rfl) (by decide +kernel) ?_; intro w0 hw0 hm0; (try simp only [List.append_eq, List.cons_append, List.nil_append])) | (refine auP ?_) | ((refine auR ?_); clear hK K) | (refine auR ?_) | ((with_reducible refine hK _ _ ?_); clear hK K) | fail)
    exact ⟨m + 1, hlt, by omega, Fits.of ⟨rfl, rfl, rfl, trivial⟩ .nil rfl⟩
  · obtain rfl : m = 4 := by omega
    have t1 : decide (((4 + 1 : Nat) : Int) ≤ 4) = false := rfl
    clear hm hlt hb
    repeat' (first | (refine wlB ?_) | (refine wlE ?_) | (refine wl_skip rfl rfl ?_) | ((with_reducible refine wc_seq ?_); intro K hK) | (refine auC ?_) | (refine wc_cond rfl (fun hc => ?_) (fun hc => ?_)) | (refine wc_draw (by kernel_rfl) (by kernel_rfl) (by decide +kernel) ?_; intro w0 hw0 hm0; (try simp only [List.append_eq, List.cons_append, List.nil_append])) | (refine auP ?_) | ((refine auR ?_); clear hK K) | (refine auR ?_) | ((with_reducible refine hK _ _ ?_); clear hK K) | fail)
    first | refine end_ret (ResP.tmp rfl ResP.nil) ?_ | refine end_normal (ResP.tmp rfl ResP.nil) ?_
    first | rfl | (show _ = _; rfl) | (simp only [tupV, *]; done)
set_option maxHeartbeats 2000000 in
theorem unsub_gf (a : Nat) (ha : a < 256) (w : World) : Calls Tryz.prog 130 [.int .u8 a].toArray w (Ret (.int .u8 ((gunsub a : Nat) : Int)) w) := by
  have h0 := bits_u8 a 99 ha (by decide)
  rw [show ((99 : Nat) : Int) = 99 from rfl] at h0
  have ht : a ^^^ 99 < 256 := xor_lt ha (by decide)
  unfold gunsub
  generalize a ^^^ 99 = t at h0 ht
  have R1 := rot_gf t 1 ht (by decide) (by decide)
  have R3 := rot_gf t 3 ht (by decide) (by decide)
  have R6 := rot_gf t 6 ht (by decide) (by decide)
  rw [show ((1 : Nat) : Int) = 1 from rfl] at R1
  rw [show ((3 : Nat) : Int) = 3 from rfl] at R3
  rw [show ((6 : Nat) : Int) = 6 from rfl] at R6
  have x1 := bits_u8 (rol t 1) (rol t 3) (rol_lt t 1 ht) (rol_lt t 3 ht)
  have x2 : bits .xor .u8 ((rol t 1 ^^^ rol t 3 : Nat) : Int) ((rol t 6 : Nat) : Int) = ((mid t : Nat) : Int) := bits_u8 _ _ (xor_lt (rol_lt t 1 ht) (rol_lt t 3 ht)) (rol_lt t 6 ht)
  have hm : mid t < 256 := xor_lt (xor_lt (rol_lt t 1 ht) (rol_lt t 3 ht)) (rol_lt t 6 ht)
  have C := inv_gf (mid t) hm
  rw [ginv_gi hm] at C
  clear ht hm ha
  refine fn_ret (N := _) Tryz.func130 rfl Tryz.ntmps130 Tryz.results130 (by simp) ?_
  simp only [initS, Nat.reduceAdd, Nat.zero_add]
  repeat' (first | (refine wlB ?_) | ((with_reducible refine sel_call ?_); refine wl_rd rfl rfl (rd_call rfl rfl rfl (fun w hm => by with_reducible first | exact R1 w | exact R3 w | exact R6 w | exact C w)) ?_) | (refine wlE ?_) | (refine wl_skip rfl rfl ?_) | ((with_reducible refine wc_seq ?_); intro K hK) | (refine auC ?_) | (refine wc_cond rfl (fun hc => ?_) (fun hc => ?_)) | (refine wc_draw (by kernel_rfl) (by kernel_rfl) (by decide +kernel) ?_; intro w0 hw0 hm0; (try simp only [List.append_eq, List.cons_append, List.nil_append])) | (refine auP ?_) | ((refine auR ?_); clear hK K) | (refine auR ?_) | ((with_reducible refine hK _ _ ?_); clear hK K) | fail)
  first | refine end_ret (ResP.tmp rfl ResP.nil) ?_ | refine end_normal (ResP.tmp rfl ResP.nil) ?_
  first | rfl | (show _ = _; rfl) | (simp only [tupV, *]; done)
end Go.Proofs.YtkendlnjaopbeaaGreatDoor
namespace Go.Proofs.YtkendlnjaopbeaaGreatDoor
open Go.RowKit
set_option linter.unusedVariables false
set_option linter.unusedSimpArgs false
set_option maxRecDepth 100000
theorem b4_bys (f : Nat → Nat) : b4 f = bys [f 0, f 1, f 2, f 3] := by simp [b4, bys, bl]
/-- What a column's function makes of four bytes. -/
def colL (B : Nat → Nat) (l : List Nat) : List Nat := (List.range 4).map fun j => colf B (fun k => l.getD k 0) j
theorem colL_len (B : Nat → Nat) (l : List Nat) : (colL B l).length = 4 := by simp [colL]
instance {B : Nat → Nat} {l : List Nat} : NBy (colL B l) 4 := ⟨colL_len B l⟩
theorem four_getD (x0 x1 x2 x3 : Nat) (h0 : x0 < 256) (h1 : x1 < 256) (h2 : x2 < 256) (h3 : x3 < 256) (j : Nat) : [x0, x1, x2, x3].getD j 0 < 256 := by
  match j with
  | 0 => exact h0
  | 1 => exact h1
  | 2 => exact h2
  | 3 => exact h3
  | n + 4 => simp
theorem mix_l (x0 x1 x2 x3 : Nat) (h0 : x0 < 256) (h1 : x1 < 256) (h2 : x2 < 256) (h3 : x3 < 256) (w : World) : Calls Tryz.prog 120 [.agg (bys [x0, x1, x2, x3])].toArray w (Ret (.agg (bys (colL mixB [x0, x1, x2, x3]))) w) := by
  have := mix_gf (fun k => [x0, x1, x2, x3].getD k 0) (four_getD x0 x1 x2 x3 h0 h1 h2 h3) w
  rw [b4_bys, b4_bys] at this
  exact this
theorem unmix_l (x0 x1 x2 x3 : Nat) (h0 : x0 < 256) (h1 : x1 < 256) (h2 : x2 < 256) (h3 : x3 < 256) (w : World) : Calls Tryz.prog 129 [.agg (bys [x0, x1, x2, x3])].toArray w (Ret (.agg (bys (colL unB [x0, x1, x2, x3]))) w) := by
  have := unmix_gf (fun k => [x0, x1, x2, x3].getD k 0) (four_getD x0 x1 x2 x3 h0 h1 h2 h3) w
  rw [b4_bys, b4_bys] at this
  exact this
/-- The first c bytes are done. -/
def mixP (B : Nat → Nat) (b : List Nat) (c : Nat) : List Nat := (mixL B b).take c ++ b.drop c
theorem mixL_len (B : Nat → Nat) (b : List Nat) : (mixL B b).length = 16 := by simp [mixL]
theorem mixP_len {B : Nat → Nat} {b : List Nat} (hb : b.length = 16) {c : Nat} (hc : c ≤ 16) : (mixP B b c).length = 16 := by
  rw [mixP, List.length_append, List.length_take, mixL_len, List.length_drop, hb]; omega
theorem mixP_get {B : Nat → Nat} {b : List Nat} {c i : Nat} (hc : c ≤ 16) (hi : c ≤ i) : (mixP B b c).getD i 0 = b.getD i 0 := by
  rw [mixP, List.getD_eq_getElem?_getD, List.getElem?_append_right (by rw [List.length_take, mixL_len]; omega), List.length_take, mixL_len, Nat.min_eq_left hc, List.getElem?_drop, List.getD_eq_getElem?_getD]
  congr 2; omega
theorem mixP_step {B : Nat → Nat} {b : List Nat} (hb : b.length = 16) {q : Nat} (hq : q < 4) :
    (mixP B b (4 * q)).take (4 * q) ++ ((colL B [b.getD (4 * q) 0, b.getD (4 * q + 1) 0, b.getD (4 * q + 2) 0, b.getD (4 * q + 3) 0]).take 4 ++ (mixP B b (4 * q)).drop (4 * q + 4)) = mixP B b (4 * (q + 1)) := by
  have e0 : (mixP B b (4 * q)).take (4 * q) = (mixL B b).take (4 * q) := by
    rw [mixP, List.take_append_of_le_length (by rw [List.length_take, mixL_len]; omega), List.take_take, Nat.min_self]
  have e1 : (mixP B b (4 * q)).drop (4 * q + 4) = b.drop (4 * (q + 1)) := by
    rw [mixP, List.drop_append, List.drop_of_length_le (by rw [List.length_take, mixL_len]; omega), List.nil_append, List.length_take, mixL_len, Nat.min_eq_left (by omega), List.drop_drop]
    congr 1; omega
  have e2 : (mixL B b).take (4 * (q + 1)) = (mixL B b).take (4 * q) ++ colL B [b.getD (4 * q) 0, b.getD (4 * q + 1) 0, b.getD (4 * q + 2) 0, b.getD (4 * q + 3) 0] := by
    refine List.ext_getElem (by rw [List.length_append, List.length_take, List.length_take, mixL_len, colL_len]; omega) fun i h1 h2 => ?_
    rw [List.length_take, mixL_len] at h1
    rw [List.getElem_take]
    by_cases hi : i < 4 * q
    · rw [List.getElem_append_left (by rw [List.length_take, mixL_len]; omega), List.getElem_take]
    · rw [List.getElem_append_right (by rw [List.length_take, mixL_len]; omega)]
      simp only [mixL, colL, List.getElem_map, List.getElem_range, List.length_take, List.length_map, List.length_range]
      rw [Nat.min_eq_left (by omega), show i % 4 = i - 4 * q by omega]
      refine colf_congr (fun j hj => ?_) _
      rw [show i / 4 * 4 = 4 * q by omega]
      match j, hj with
      | 0, _ => rfl
      | 1, _ => rfl
      | 2, _ => rfl
      | 3, _ => rfl
  rw [e0, e1]
  have hC := colL_len B [b.getD (4 * q) 0, b.getD (4 * q + 1) 0, b.getD (4 * q + 2) 0, b.getD (4 * q + 3) 0]
  generalize colL B [b.getD (4 * q) 0, b.getD (4 * q + 1) 0, b.getD (4 * q + 2) 0, b.getD (4 * q + 3) 0] = C at *
  rw [List.take_of_length_le (l := C) (by omega), ← List.append_assoc, ← e2]
  rfl
instance zc4 : ZC Tryz.prog 74 (bys (List.replicate 4 0)) := ⟨by kernel_rfl⟩
set_option maxHeartbeats 2000000 in
theorem each_c (w' : World) {B : Nat → Nat} {F : Nat} {b : List Nat} (hb : B16 b) (hB : ∀ j, B j < 256)
    (hF : ∀ x0 x1 x2 x3, x0 < 256 → x1 < 256 → x2 < 256 → x3 < 256 → ∀ w, Calls Tryz.prog F [.agg (bys [x0, x1, x2, x3])].toArray w (Ret (.agg (bys (colL B [x0, x1, x2, x3]))) w)) (hk : callOk Tryz.prog F = true) :
    Calls Tryz.prog 119 [.agg (bys b), .func (.func F) #[] #[]].toArray w' (Ret (.agg (bys (mixL B b))) w') := by
  have hbl := hb.len
  haveI : NBy b 16 := ⟨hbl⟩
  have hp0 : mixP B b 0 = b := by simp [mixP]
  refine fn_ret (N := _) Tryz.func119 rfl Tryz.ntmps119 Tryz.results119 (by simp) ?_
  simp only [initS, Nat.reduceAdd, Nat.zero_add]
  repeat' (first | (refine wlS ?_) | (refine wlB ?_) | (refine efZCnn ?_; intro n hn) | (refine efBnn ?_; intro n hn) | (refine efB ?_) | (refine efBS ?_) | (refine wl_skip rfl rfl ?_) | (refine wdS ?_) | (refine wdV ?_) | (refine wdB ?_) | (refine wdE ?_) | (refine wd_allocC hm0 rfl rfl rfl ?_; intro n hn hn0) | (refine wd_alloc hm0 rfl rfl rfl ?_; intro n hn hn0) | (refine wdT ?_) | (refine wdTO ?_) | (refine wd_skip rfl rfl ?_) | ((with_reducible refine seld_nil ?_); refine wd_nil hm0 ?_; clear hm0 hw0) | ((with_reducible refine wc_seq ?_); intro K hK) | (refine auC ?_) | (refine wc_cond rfl (fun hc => ?_) (fun hc => ?_)) | (refine wc_draw (by kernel_rfl) (by kernel_rfl) (by decide +kernel) ?_; intro w0 hw0 hm0; (try simp only [List.append_eq, List.cons_append, List.nil_append])) | (refine auP ?_) | ((refine auR ?_); clear hK K) | (refine auR ?_) | ((with_reducible refine hK _ _ ?_); clear hK K) | fail)
  rename_i n2 hn2
  refine wc_loop (σ := Nat) (fun q => [(1, .func (.func F) #[] #[]), (2, ptr n2), (4, ptr n), (5, .int .i64 ((4 * q : Nat) : Int))])
    (fun q => [(n, (bys (List.replicate 16 0), 23)), (n2, (bys (mixP B b (4 * q)), 23))])
    (fun q => q ≤ 4) (fun q => 4 - q) 0 (Nat.zero_le _) (Fits.of ⟨rfl, rfl, rfl, rfl, trivial⟩ (by rw [Nat.mul_zero, hp0]; exact SubL.refl _) rfl) ?_
  intro q hq
  haveI : NBy (mixP B b (4 * q)) 16 := ⟨mixP_len hbl (by omega)⟩
  by_cases hlt : q < 4
  · have t1 : decide (((4 * q : Nat) : Int) < 16) = true := decide_eq_true (by omega)
    have k4 : IntKind.i64.wrap (((4 * q : Nat) : Int) + 4) = ((4 * (q + 1) : Nat) : Int) := by rw [wrap_i64 _ (by omega) (by omega)]; omega
    have k1 : IntKind.i64.wrap (((4 * q : Nat) : Int) + 1) = ((4 * q + 1 : Nat) : Int) := by rw [wrap_i64 _ (by omega) (by omega)]; omega
    have k2 : IntKind.i64.wrap (((4 * q : Nat) : Int) + 2) = ((4 * q + 2 : Nat) : Int) := by rw [wrap_i64 _ (by omega) (by omega)]; omega
    have k3 : IntKind.i64.wrap (((4 * q : Nat) : Int) + 3) = ((4 * q + 3 : Nat) : Int) := by rw [wrap_i64 _ (by omega) (by omega)]; omega
    have gv : ∀ j, 4 * q ≤ j → j < 16 → (bys (mixP B b (4 * q)))[j]? = some (.int .u8 ((b.getD j 0 : Nat) : Int)) := fun j h1 h2 => by
      have := bys_get (l := mixP B b (4 * q)) (i := j) (by rw [mixP_len hbl (by omega)]; exact h2)
      rwa [mixP_get (by omega) h1] at this
    have g0 := gv (4 * q) (by omega) (by omega)
    have g1 := gv (4 * q + 1) (by omega) (by omega)
    have g2 := gv (4 * q + 2) (by omega) (by omega)
    have g3 := gv (4 * q + 3) (by omega) (by omega)
    have j0 : ((4 * q : Nat) : Int) < ((16 : Nat) : Int) := by omega
    have j1 : ((4 * q + 1 : Nat) : Int) < ((16 : Nat) : Int) := by omega
    have j2 : ((4 * q + 2 : Nat) : Int) < ((16 : Nat) : Int) := by omega
    have j3 : ((4 * q + 3 : Nat) : Int) < ((16 : Nat) : Int) := by omega
    have C := hF _ _ _ _ (hb.lt (4 * q)) (hb.lt (4 * q + 1)) (hb.lt (4 * q + 2)) (hb.lt (4 * q + 3))
    have st := mixP_step (B := B) hbl hlt
    have hby : ∀ x ∈ colL B [b.getD (4 * q) 0, b.getD (4 * q + 1) 0, b.getD (4 * q + 2) 0, b.getD (4 * q + 3) 0], x < 256 := fun x hx => by
      obtain ⟨j, _, rfl⟩ := List.mem_map.1 hx
      exact colf_lt hB _ _
    have hcl := colL_len B [b.getD (4 * q) 0, b.getD (4 * q + 1) 0, b.getD (4 * q + 2) 0, b.getD (4 * q + 3) 0]
    have E : Value.agg [.int .u8 (b.getD (4 * q) 0 : Int), .int .u8 (b.getD (4 * q + 1) 0 : Int), .int .u8 (b.getD (4 * q + 2) 0 : Int), .int .u8 (b.getD (4 * q + 3) 0 : Int)].toArray = .agg (bys [b.getD (4 * q) 0, b.getD (4 * q + 1) 0, b.getD (4 * q + 2) 0, b.getD (4 * q + 3) 0]) := rfl
    generalize colL B [b.getD (4 * q) 0, b.getD (4 * q + 1) 0, b.getD (4 * q + 2) 0, b.getD (4 * q + 3) 0] = D at *
    haveI : NBy D 4 := ⟨hcl⟩
    haveI : BLc 4 D := ⟨⟨hcl, hby⟩, by decide⟩
    have hmn : Nat.min 4 (16 - 4 * q) = 4 := Nat.min_eq_left (by omega)
    have hft : 4 * q + 4 ≤ (mixP B b (4 * q)).length := by rw [mixP_len hbl (by omega)]; omega
    clear hF gv
    repeat' (first | (refine wlS ?_) | (refine wlB ?_) | ((with_reducible refine sel_build ?_); refine wv rfl rfl (rd_cast (rd_buildA rfl rfl) E) ?_) | ((with_reducible refine sel_call ?_); refine wl_rd rfl rfl (rd_callv rfl rfl rfl rfl (fun w _ => by with_reducible exact C w) (hk := by with_reducible assumption)) ?_) | (refine wlE ?_) | (refine efSvvp ?_; intro v hv hp) | (refine efSvao ?_; intro v oa ho) | (refine efM ?_) | (refine efMvao ?_; intro v oa ho) | ((with_reducible refine sel_store ?_); first | (refine wl_putB (e := 5) rfl rfl rfl rfl rfl ?_; intro oa ho)) | (refine efZCnn ?_; intro n hn) | (refine efBnn ?_; intro n hn) | (refine efB ?_) | (refine efBS ?_) | (refine wl_skip rfl rfl ?_) | ((with_reducible refine wc_seq ?_); intro K hK) | (refine auC ?_) | (refine wc_cond rfl (fun hc => ?_) (fun hc => ?_)) | ((with_reducible refine wc_drawC (by kernel_rfl) ?_); (try simp only [List.append_eq, List.cons_append, List.nil_append, List.length_cons, List.length_nil, Nat.reduceAdd])) | ((with_reducible refine sel_wh ?_); (refine wh_if (by decide +kernel) ?_); first | (refine wh_take (lq := []) rfl rfl rfl rfl (by first | exact rvS | exact rvB | ((with_reducible apply selr_build); exact rd_cast (rd_buildA rfl rfl) E) | exact rvE) (Or.inl rfl) ?_) | (refine wh_takeL rfl rfl rfl rfl (by first | exact rvS | exact rvB | ((with_reducible apply selr_build); exact rd_cast (rd_buildA rfl rfl) E) | exact rvE) (by decide +kernel) ?_)) | (refine whS ?_; intro v hv hp) | ((with_reducible refine sel_wh ?_); first | (refine wh_pass rfl rfl rfl rfl ?_) | (refine wh_done rfl ?_) | (refine wh_all rfl ?_)) | ((with_reducible refine sel_rest ?_); first | exact rest_nil rfl | refine rest_cons rfl rfl ?_ ?_) | ((with_reducible refine sel_nx ?_); first | refine next_of ?_ | refine next_late (by decide +kernel) ?_) | (refine auP ?_) | ((refine auR ?_); clear hK K) | (refine auR ?_) | ((with_reducible refine hK _ _ ?_); clear hK K) | fail)
    all_goals exact ⟨q + 1, hlt, by omega, Fits.of ⟨rfl, rfl, rfl, rfl, trivial⟩ (.skip (SubL.refl _)) rfl⟩
  · obtain rfl : q = 4 := by omega
    have t1 : decide (((4 * 4 : Nat) : Int) < 16) = false := by decide
    have hp : mixP B b (4 * 4) = mixL B b := by rw [mixP, List.take_of_length_le (by rw [mixL_len]; exact Nat.le_refl _), List.drop_of_length_le (by omega), List.append_nil]
    rw [hp]
    haveI : NBy (mixL B b) 16 := ⟨mixL_len B b⟩
    repeat' (first | (refine wlS ?_) | (refine wlB ?_) | (refine efZCnn ?_; intro n hn) | (refine efBnn ?_; intro n hn) | (refine efB ?_) | (refine efBS ?_) | (refine wl_skip rfl rfl ?_) | (refine wdS ?_) | (refine wdV ?_) | (refine wdB ?_) | (refine wdE ?_) | (refine wd_allocC hm0 rfl rfl rfl ?_; intro n hn hn0) | (refine wd_alloc hm0 rfl rfl rfl ?_; intro n hn hn0) | (refine wdT ?_) | (refine wdTO ?_) | (refine wd_skip rfl rfl ?_) | ((with_reducible refine seld_nil ?_); refine wd_nil hm0 ?_; clear hm0 hw0) | ((with_reducible refine wc_seq ?_); intro K hK) | (refine auC ?_) | (refine wc_cond rfl (fun hc => ?_) (fun hc => ?_)) | (refine wc_draw (by kernel_rfl) (by kernel_rfl) (by decide +kernel) ?_; intro w0 hw0 hm0; (try simp only [List.append_eq, List.cons_append, List.nil_append])) | (refine auP ?_) | ((refine auR ?_); clear hK K) | (refine auR ?_) | ((with_reducible refine hK _ _ ?_); clear hK K) | fail)
    first | refine end_ret (ResP.cell rfl ld_whole ResP.nil) ?_ | refine end_normal (ResP.cell rfl ld_whole ResP.nil) ?_
    first | rfl | (show _ = _; rfl) | (simp only [tupV, *]; done)
end Go.Proofs.YtkendlnjaopbeaaGreatDoor
namespace Go.Proofs.YtkendlnjaopbeaaGreatDoor
open Go.RowKit
attribute [local irreducible] rwA bys
set_option linter.unusedVariables false
set_option linter.unusedSimpArgs false
set_option maxRecDepth 100000
/-- The first i bytes. -/
def subP (b : List Nat) (i : Nat) : List Nat := (subL b).take i ++ List.replicate (16 - i) 0
theorem subL_len (b : List Nat) : (subL b).length = 16 := by simp [subL]
theorem subP_len (b : List Nat) {i : Nat} (hi : i ≤ 16) : (subP b i).length = 16 := by
  rw [subP, List.length_append, List.length_take, subL_len, List.length_replicate]; omega
theorem subP_step (b : List Nat) {i : Nat} (hi : i < 16) : (subP b i).set i (gsub (b.getD ((i + i % 4 * 4) % 16) 0)) = subP b (i + 1) := by
  have e2 : (subL b).take (i + 1) = (subL b).take i ++ [gsub (b.getD ((i + i % 4 * 4) % 16) 0)] := by
    have hg : (subL b)[i]? = some (gsub (b.getD ((i + i % 4 * 4) % 16) 0)) := by simp [subL, hi]
    rw [List.take_add_one, hg]; rfl
  rw [subP, List.set_append_right _ _ (by rw [List.length_take, subL_len]; omega), List.length_take, subL_len, Nat.min_eq_left (by omega), Nat.sub_self, show 16 - i = 16 - (i + 1) + 1 by omega, List.replicate_succ, List.set_cons_zero, subP, e2, List.append_assoc]
  rfl
theorem subP_all (b : List Nat) : subP b 16 = subL b := by
  rw [subP, List.take_of_length_le (by rw [subL_len]; exact Nat.le_refl _)]; simp
set_option maxHeartbeats 4000000 in
theorem enc_c (w' : World) {R : Nat} {W b : List Nat} [hk : AKey W] (hR : R ≤ 14) (hb : B16 b) :
    Calls Tryz.prog 116 [kv W R, .agg (bys b)].toArray w' (Ret (.agg (bys (encL W R b))) w') := by
  have hbl := hb.len
  have hW := hk.ok
  haveI : NBy b 16 := ⟨hbl⟩
  haveI : SgOk (sgA W R) := inferInstance
  have BY0 : ∀ {g : Nat} w'', w''.heap[g]? = some (.cells (rwA (sgA W R)) 77) → Calls Tryz.prog 118 [ptr g, .agg (bys b), .int .i64 0].toArray w'' (Ret (.agg (bys (addK W 0 b))) w'') := fun w'' h => by_c (r := 0) w'' hk (by omega) hb h
  haveI : NBy (addK W 0 b) 16 := ⟨addK_len _ _ _⟩
  refine fn_ret (N := _) Tryz.func116 rfl Tryz.ntmps116 Tryz.results116 (by simp) ?_
  simp only [initS, Nat.reduceAdd, Nat.zero_add]
  repeat' (first | (refine wlS ?_) | (refine wlG ?_) | (refine wlB ?_) | ((with_reducible refine sel_call ?_); refine wl_rd rfl rfl (rd_call rfl rfl rfl (fun w hm => by with_reducible exact BY0 w (Has.sees hm))) ?_) | (refine wlE ?_) | (refine efSvao ?_; intro v oa ho) | (refine efG ?_) | (refine efGnn ?_; intro n hn) | (refine efZCnn ?_; intro n hn) | (refine efBnn ?_; intro n hn) | (refine efB ?_) | (refine efBS ?_) | (refine wl_skip rfl rfl ?_) | ((with_reducible refine wc_seq ?_); intro K hK) | (refine auC ?_) | (refine wc_cond rfl (fun hc => ?_) (fun hc => ?_)) | (refine wc_draw (by kernel_rfl) (by kernel_rfl) (by decide +kernel) ?_; intro w0 hw0 hm0; (try simp only [List.append_eq, List.cons_append, List.nil_append])) | (refine auP ?_) | ((refine auR ?_); clear hK K) | (refine auR ?_) | ((with_reducible refine hK _ _ ?_); clear hK K) | fail)
  rename_i n2 hn2 n3 hn3
  obtain ⟨n4, rfl⟩ : ∃ n4, n4 = n := ⟨n, rfl⟩
  refine wc_loop (σ := Nat) (fun m => [(2, ptr n2), (3, ptr n3), (4, ptr n4), (5, .int .i64 ((m + 1 : Nat) : Int))])
    (fun m => [(n4, (bys (List.replicate 16 0), 23)), (n3, (bys (encN W R b m), 23)), (n2, (rwA (sgA W R), 77))])
    (fun m => m ≤ R) (fun m => R - m) 0 (Nat.zero_le _) (Fits.of ⟨rfl, rfl, rfl, rfl, trivial⟩ (SubL.refl _) rfl) ?_
  clear BY0
  intro m hmR
  have hS := encN_ok hW hb m (R := R)
  haveI : NBy (encN W R b m) 16 := ⟨hS.len⟩
  by_cases hlt : m < R
  · have t1 : decide (((m + 1 : Nat) : Int) ≤ (R : Int)) = true := decide_eq_true (by omega)
    have k1 : IntKind.i64.wrap (((m + 1 : Nat) : Int) + 1) = ((m + 1 + 1 : Nat) : Int) := by rw [wrap_i64 _ (by omega) (by omega)]; omega
    have hnx : encN W R b (m + 1) = addK W (m + 1) (if m + 1 < R then mixL mixB (subL (encN W R b m)) else subL (encN W R b m)) := rfl
    repeat' (first | (refine wlS ?_) | (refine wlG ?_) | (refine wlB ?_) | (refine wlE ?_) | (refine efSvao ?_; intro v oa ho) | (refine efG ?_) | (refine efGnn ?_; intro n hn) | (refine efZCnn ?_; intro n hn) | (refine efBnn ?_; intro n hn) | (refine efB ?_) | (refine efBS ?_) | (refine wl_skip rfl rfl ?_) | ((with_reducible refine wc_seq ?_); intro K hK) | (refine auC ?_) | (refine wc_cond rfl (fun hc => ?_) (fun hc => ?_)) | (refine wc_draw (by kernel_rfl) (by kernel_rfl) (by decide +kernel) ?_; intro w0 hw0 hm0; (try simp only [List.append_eq, List.cons_append, List.nil_append])) | (refine auP ?_) | ((refine auR ?_); clear hK K) | (refine auR ?_) | ((with_reducible refine hK _ _ ?_); clear hK K) | fail)
    obtain ⟨n6, rfl⟩ : ∃ n6, n6 = n := ⟨n, rfl⟩
    generalize encN W R b m = S at *
    have hs0 : subP S 0 = List.replicate 16 0 := by simp [subP]
    refine wc_loop (σ := Nat) (fun i => [(2, ptr n2), (3, ptr n3), (4, ptr n4), (5, .int .i64 ((m + 1 : Nat) : Int)), (6, ptr n6), (16, .int .i64 (i : Int))])
      (fun i => [(n6, (bys (subP S i), 23)), (n4, (bys (List.replicate 16 0), 23)), (n3, (bys S, 23)), (n2, (rwA (sgA W R), 77))])
      (fun i => i ≤ 16) (fun i => 16 - i) 0 (Nat.zero_le _) (Fits.of ⟨rfl, rfl, rfl, rfl, rfl, rfl, trivial⟩ (by rw [hs0]; exact SubL.refl _) rfl) ?_
    intro i hi
    haveI : NBy (subP S i) 16 := ⟨subP_len S hi⟩
    by_cases hit : i < 16
    · have t2 : decide ((i : Int) < 16) = true := decide_eq_true (by omega)
      have k2 : IntKind.i64.wrap ((i : Int) + 1) = ((i + 1 : Nat) : Int) := by rw [wrap_i64 _ (by omega) (by omega)]; omega
      have k3 : (i : Int).tmod 4 = ((i % 4 : Nat) : Int) := by rw [Int.tmod_eq_emod_of_nonneg (by omega)]; omega
      have k4 : IntKind.i64.wrap (((i % 4 : Nat) : Int) * 4) = ((i % 4 * 4 : Nat) : Int) := by rw [wrap_i64 _ (by omega) (by omega)]; omega
      have k5 : IntKind.i64.wrap ((i : Int) + ((i % 4 * 4 : Nat) : Int)) = ((i + i % 4 * 4 : Nat) : Int) := by rw [wrap_i64 _ (by omega) (by omega)]; omega
      have k6 : ((i + i % 4 * 4 : Nat) : Int).tmod 16 = (((i + i % 4 * 4) % 16 : Nat) : Int) := by rw [Int.tmod_eq_emod_of_nonneg (by omega)]; omega
      have j1 : (((i + i % 4 * 4) % 16 : Nat) : Int) < ((16 : Nat) : Int) := by omega
      have j2 : (i : Int) < ((16 : Nat) : Int) := by omega
      have gv := bys_get (l := S) (i := (i + i % 4 * 4) % 16) (by rw [hS.len]; omega)
      have SU := sub_gf (S.getD ((i + i % 4 * 4) % 16) 0) (hS.lt _)
      have st := subP_step S hit
      repeat' (first | (refine wlS ?_) | (refine wlG ?_) | (refine wlB ?_) | ((with_reducible refine sel_call ?_); refine wl_rd rfl rfl (rd_call rfl rfl rfl (fun w hm => by with_reducible exact SU w)) ?_) | (refine wlE ?_) | (refine efSvao ?_; intro v oa ho) | (refine efG ?_) | (refine efGnn ?_; intro n hn) | (refine efBnn ?_; intro n hn) | (refine efB ?_) | (refine efBS ?_) | (refine wl_skip rfl rfl ?_) | ((with_reducible refine wc_seq ?_); intro K hK) | (refine auC ?_) | (refine wc_cond rfl (fun hc => ?_) (fun hc => ?_)) | (refine wc_draw (by kernel_rfl) (by kernel_rfl) (by decide +kernel) ?_; intro w0 hw0 hm0; (try simp only [List.append_eq, List.cons_append, List.nil_append])) | (refine auP ?_) | ((refine auR ?_); clear hK K) | (refine auR ?_) | ((with_reducible refine hK _ _ ?_); clear hK K) | fail)
      exact ⟨i + 1, hit, by omega, Fits.of ⟨rfl, rfl, rfl, rfl, rfl, rfl, trivial⟩ (by rw [← st]; exact SubL.refl _) rfl⟩
    · obtain rfl : i = 16 := by omega
      have t2 : decide (((16 : Nat) : Int) < 16) = false := by decide
      rw [subP_all]
      have hT := subL_ok hS
      haveI : NBy (subL S) 16 := ⟨hT.len⟩
      by_cases hr : m + 1 < R
      · have t3 : decide (((m + 1 : Nat) : Int) < (R : Int)) = true := decide_eq_true (by omega)
        rw [if_pos hr] at hnx
        have EC := fun w => each_c w (F := 120) hT mixB_lt (fun x0 x1 x2 x3 => mix_l x0 x1 x2 x3) (by kernel_rfl)
        have BY : ∀ w'', w''.heap[n2]? = some (.cells (rwA (sgA W R)) 77) → Calls Tryz.prog 118 [ptr n2, .agg (bys (mixL mixB (subL S))), .int .i64 ((m + 1 : Nat) : Int)].toArray w'' (Ret (.agg (bys (addK W (m + 1) (mixL mixB (subL S))))) w'') := fun w'' h => by_c (r := m + 1) w'' hk (by omega) (mixL_ok mixB_lt) h
        haveI : NBy (mixL mixB (subL S)) 16 := ⟨mixL_len _ _⟩
        haveI : NBy (addK W (m + 1) (mixL mixB (subL S))) 16 := ⟨addK_len _ _ _⟩
        repeat' (first | (refine wlS ?_) | (refine wlG ?_) | (refine wlB ?_) | ((with_reducible refine sel_call ?_); refine wl_rd rfl rfl (rd_call rfl rfl rfl (fun w hm => by with_reducible first | exact EC w | exact BY w (Has.sees hm))) ?_) | (refine wlE ?_) | (refine efSvao ?_; intro v oa ho) | (refine efG ?_) | (refine efGnn ?_; intro n hn) | (refine efZCnn ?_; intro n hn) | (refine efBnn ?_; intro n hn) | (refine efB ?_) | (refine efBS ?_) | (refine wl_skip rfl rfl ?_) | ((with_reducible refine wc_seq ?_); intro K hK) | (refine auC ?_) | (refine wc_cond rfl (fun hc => ?_) (fun hc => ?_)) | (refine wc_draw (by kernel_rfl) (by kernel_rfl) (by decide +kernel) ?_; intro w0 hw0 hm0; (try simp only [List.append_eq, List.cons_append, List.nil_append])) | (refine auP ?_) | ((refine auR ?_); clear hK K) | (refine auR ?_) | ((with_reducible refine hK _ _ ?_); clear hK K) | fail)
        exact ⟨m + 1, hlt, by omega, Fits.of ⟨rfl, rfl, rfl, rfl, trivial⟩ (by rw [hnx]; exact .skip (SubL.refl _)) rfl⟩
      · have t3 : decide (((m + 1 : Nat) : Int) < (R : Int)) = false := decide_eq_false (by omega)
        rw [if_neg hr] at hnx
        have BY : ∀ w'', w''.heap[n2]? = some (.cells (rwA (sgA W R)) 77) → Calls Tryz.prog 118 [ptr n2, .agg (bys (subL S)), .int .i64 ((m + 1 : Nat) : Int)].toArray w'' (Ret (.agg (bys (addK W (m + 1) (subL S)))) w'') := fun w'' h => by_c (r := m + 1) w'' hk (by omega) hT h
        haveI : NBy (addK W (m + 1) (subL S)) 16 := ⟨addK_len _ _ _⟩
        repeat' (first | (refine wlS ?_) | (refine wlG ?_) | (refine wlB ?_) | ((with_reducible refine sel_call ?_); refine wl_rd rfl rfl (rd_call rfl rfl rfl (fun w hm => by with_reducible exact BY w (Has.sees hm))) ?_) | (refine wlE ?_) | (refine efSvao ?_; intro v oa ho) | (refine efG ?_) | (refine efGnn ?_; intro n hn) | (refine efZCnn ?_; intro n hn) | (refine efBnn ?_; intro n hn) | (refine efB ?_) | (refine efBS ?_) | (refine wl_skip rfl rfl ?_) | ((with_reducible refine wc_seq ?_); intro K hK) | (refine auC ?_) | (refine wc_cond rfl (fun hc => ?_) (fun hc => ?_)) | (refine wc_draw (by kernel_rfl) (by kernel_rfl) (by decide +kernel) ?_; intro w0 hw0 hm0; (try simp only [List.append_eq, List.cons_append, List.nil_append])) | (refine auP ?_) | ((refine auR ?_); clear hK K) | (refine auR ?_) | ((with_reducible refine hK _ _ ?_); clear hK K) | fail)
        exact ⟨m + 1, hlt, by omega, Fits.of ⟨rfl, rfl, rfl, rfl, trivial⟩ (by rw [hnx]; exact .skip (SubL.refl _)) rfl⟩
  · obtain rfl : m = R := by omega
    have t1 : decide (((m + 1 : Nat) : Int) ≤ (m : Int)) = false := decide_eq_false (by omega)
    have he : encL W m b = encN W m b m := rfl
    rw [he]
    repeat' (first | (refine wlS ?_) | (refine wlG ?_) | (refine wlB ?_) | (refine wlE ?_) | (refine efSvao ?_; intro v oa ho) | (refine efG ?_) | (refine efGnn ?_; intro n hn) | (refine efZCnn ?_; intro n hn) | (refine efBnn ?_; intro n hn) | (refine efB ?_) | (refine efBS ?_) | (refine wl_skip rfl rfl ?_) | ((with_reducible refine wc_seq ?_); intro K hK) | (refine auC ?_) | (refine wc_cond rfl (fun hc => ?_) (fun hc => ?_)) | (refine wc_draw (by kernel_rfl) (by kernel_rfl) (by decide +kernel) ?_; intro w0 hw0 hm0; (try simp only [List.append_eq, List.cons_append, List.nil_append])) | (refine auP ?_) | ((refine auR ?_); clear hK K) | (refine auR ?_) | ((with_reducible refine hK _ _ ?_); clear hK K) | fail)
    first | refine end_ret (ResP.cell rfl ld_whole ResP.nil) ?_ | refine end_normal (ResP.cell rfl ld_whole ResP.nil) ?_
    first | rfl | (show _ = _; rfl) | (simp only [tupV, *]; done)
end Go.Proofs.YtkendlnjaopbeaaGreatDoor
