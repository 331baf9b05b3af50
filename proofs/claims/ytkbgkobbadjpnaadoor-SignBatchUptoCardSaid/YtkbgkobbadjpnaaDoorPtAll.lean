/- When two rows of 32 bytes are told alike; a row of 32 bytes that came in. When two points are told alike; sealringkeep.sum, times, curves, pointed. Pack and Unpack joined to their laws. Structs that are built of their fields, as rows of segments. -/
import Derived.Test.YtkbgkobbadjpnaaDoorBytesAll
import Derived.Test.YtkbgkobbadjpnaaDoorHashAll
import Derived.Test.YtkbgkobbadjpnaaDoorCurve2
import Derived.Test.YtkbgkobbadjpnaaDoorEdwAll
import Derived.Laws.StructEq
import Derived.Test.YtkbgkobbadjpnaaDoorUnpack
import Derived.Test.YtkbgkobbadjpnaaDoorShaAll
namespace Go.Proofs.YtkbgkobbadjpnaaDoor
open Go.RowKit
set_option linter.unusedVariables false
set_option maxRecDepth 8000
def bytesZ (a : Nat) : List Int := (List.range 32).map fun j => ((byteN a j : Nat) : Int)
theorem bytesZ_len (a : Nat) : (bytesZ a).length = 32 := by unfold bytesZ; simp
theorem bytesC_Z (a : Nat) : bytesC a = ((bytesZ a).map (Value.int .u8)).toArray := by
  unfold bytesC byteCells bytesZ
  rw [List.map_map]
  rfl
theorem bytes_inj {a b : Nat} (ha : a < T256) (hb : b < T256) (h : ∀ j, j < 32 → byteN a j = byteN b j) : a = b := by
  have key : ∀ k, k ≤ 32 → fb (byteN a) k = fb (byteN b) k := by
    intro k
    induction k with
    | zero => intro _; unfold fb; rfl
    | succ k ih =>
      intro hk
      apply Nat.eq_of_testBit_eq
      intro j
      rw [fb_bit _ (byteN_lt a), fb_bit _ (byteN_lt b), ih (by omega), h k (by omega)]
  have := key 32 (Nat.le_refl _)
  rw [fb_byteN, fb_byteN, show 2 ^ (8 * 32) = T256 from T256_eq.symm, Nat.mod_eq_of_lt ha, Nat.mod_eq_of_lt hb] at this
  exact this
theorem eql_bv (a b : Nat) (ha : a < T256) (hb : b < T256) (w : World) :
    (Op.equalIn 10000 22 (bv a) (bv b)).run Tryd.prog w = .ok (decide (a = b)) w := by
  have h := eql_ints (P := Tryd.prog) (t := 22) (e := 5) (k := .u8) (k' := .u8) w 9998 32 (bytesZ a) (bytesZ b) (by kernel_rfl) (by kernel_rfl) (by kernel_rfl) (by kernel_rfl) (by kernel_rfl) (bytesZ_len a) (bytesZ_len b)
  rw [← bytesC_Z, ← bytesC_Z] at h
  have e : (bytesZ a == bytesZ b) = decide (a = b) := by
    by_cases hab : a = b
    · subst hab; simp
    · rw [decide_eq_false hab, Bool.eq_false_iff]
      intro hc
      have hc := eq_of_beq hc
      refine hab (bytes_inj ha hb fun j hj => ?_)
      have := congrArg (·[j]?) hc
      simp only [bytesZ, List.getElem?_map, List.getElem?_range hj, Option.map_some, Option.some.injEq] at this
      omega
  rw [e] at h
  exact h
end Go.Proofs.YtkbgkobbadjpnaaDoor
namespace Go.Proofs.YtkbgkobbadjpnaaDoor
open Go.RowKit
set_option linter.unusedVariables false
set_option linter.unusedSimpArgs false
set_option maxRecDepth 8000
theorem eql_numD (d a b : Nat) (ha : a < T256) (hb : b < T256) (w : World) : (Op.equalIn (d + 2) 29 (nu a) (nu b)).run Tryd.prog w = .ok (decide (a = b)) w := by
  rw [← nu_num, ← nu_num]
  have h := eql_ints (P := Tryd.prog) (t := 29) (e := 27) (k := .u64) (k' := .u64) w d 4 [limb a 0, limb a 1, limb a 2, limb a 3] [limb b 0, limb b 1, limb b 2, limb b 3] (by kernel_rfl) (by kernel_rfl) (by kernel_rfl) (by kernel_rfl) (by kernel_rfl) rfl rfl
  have e : (([limb a 0, limb a 1, limb a 2, limb a 3] : List Int) == [limb b 0, limb b 1, limb b 2, limb b 3]) = decide (a = b) := by
    by_cases hab : a = b
    · subst hab; simp
    · rw [decide_eq_false hab, Bool.eq_false_iff]
      intro hc
      have hc := eq_of_beq hc
      simp only [List.cons.injEq, and_true] at hc
      exact hab (num_inj ha hb hc.1 hc.2.1 hc.2.2.1 hc.2.2.2)
  rw [e] at h
  exact h
theorem part_num {P : Program} {t off : Nat} {L : List Nat} {x : Nat} [KD P t true] [SZ P t 4] (h : numAt L off = some x) (w : World) : (part t (rowC L) off).run P w = .ok (nu x) w := by
  have := part_row (P := P) (t := t) (off := off) (k := 4) (cs := rowC L) (numAt_part L off x h) w
  simpa using this
theorem pt_fields : ∃ f0 f1 : Field, (Tryd.prog.fieldsOf 36).toList = [f0, f1] ∧ decide (f0.name ≠ "_") = true ∧ decide (f1.name ≠ "_") = true ∧ f0.type = 29 ∧ f1.type = 29 ∧ f0.offset = 0 ∧ f1.offset = 4 :=
  ⟨(Tryd.prog.fieldsOf 36)[0]!, (Tryd.prog.fieldsOf 36)[1]!, by kernel_rfl, by decide +kernel, by decide +kernel, by kernel_rfl, by kernel_rfl, by kernel_rfl, by kernel_rfl⟩
theorem eq_pt (p q : Pt) (hp : p.lt) (hq : q.lt) (w : World) : (Op.equalIn 10000 36 (pv p) (pv q)).run Tryd.prog w = .ok (decide (p = q)) w := by
  obtain ⟨f0, f1, hf, n0, n1, t0, t1, o0, o1⟩ := pt_fields
  rw [show (10000 : Nat) = 9999 + 1 from rfl, run_equalIn_struct w 9999 _ _ _ (by kernel_rfl) (by kernel_rfl), hf]
  have n0' := of_decide_eq_true n0
  have n1' := of_decide_eq_true n1
  have a0 := part_num (P := Tryd.prog) (t := 29) (L := [p.x, p.y]) (off := 0) (x := p.x) rfl
  have a1 := part_num (P := Tryd.prog) (t := 29) (L := [p.x, p.y]) (off := 4) (x := p.y) rfl
  have b0 := part_num (P := Tryd.prog) (t := 29) (L := [q.x, q.y]) (off := 0) (x := q.x) rfl
  have b1 := part_num (P := Tryd.prog) (t := 29) (L := [q.x, q.y]) (off := 4) (x := q.y) rfl
  have e0 := eql_numD 9997 p.x q.x hp.1 hq.1 w
  have e1 := eql_numD 9997 p.y q.y hp.2 hq.2 w
  by_cases h0 : p.x = q.x
  · rw [decide_eq_true h0] at e0
    by_cases h1 : p.y = q.y
    · rw [decide_eq_true h1] at e1
      rw [decide_eq_true (show p = q by cases p; cases q; cases h0; cases h1; rfl)]
      clear h0 h1
      simp only [Op.eqFields, n0', n1', t0, t1, o0, o1, not_false_eq_true, ne_eq, if_true, if_false, Sem.run_bind, a0, a1, b0, b1, Result.andThen_ok, e0, e1, Bool.not_true, Bool.not_false, Bool.false_eq_true, Sem.run_pure]
    · rw [decide_eq_false h1] at e1
      rw [decide_eq_false (fun h : p = q => h1 (by rw [h]))]
      clear h0 h1
      simp only [Op.eqFields, n0', n1', t0, t1, o0, o1, not_false_eq_true, ne_eq, if_true, if_false, Sem.run_bind, a0, a1, b0, b1, Result.andThen_ok, e0, e1, Bool.not_true, Bool.not_false, Bool.false_eq_true, Sem.run_pure]
  · rw [decide_eq_false h0] at e0
    rw [decide_eq_false (fun h : p = q => h0 (by rw [h]))]
    clear h0
    simp only [Op.eqFields, n0', n1', t0, t1, o0, o1, not_false_eq_true, ne_eq, if_true, if_false, Sem.run_bind, a0, a1, b0, b1, Result.andThen_ok, e0, e1, Bool.not_true, Bool.not_false, Bool.false_eq_true, Sem.run_pure]
theorem eq_pt_yes {p q : Pt} (hp : p.lt) (h : p = q) (w : World) : (Op.equalIn 10000 36 (pv p) (pv q)).run Tryd.prog w = .ok true w := by
  rw [eq_pt p q hp (h ▸ hp) w, decide_eq_true h]
theorem eq_pt_no {p q : Pt} (hp : p.lt) (hq : q.lt) (h : p ≠ q) (w : World) : (Op.equalIn 10000 36 (pv p) (pv q)).run Tryd.prog w = .ok false w := by
  rw [eq_pt p q hp hq w, decide_eq_false h]
set_option maxHeartbeats 1000000 in
theorem times_k {p : Pt} (m : Nat) (hm : m < T256) (hp : p.on) (w : World) : Calls Tryd.prog 16 [nu m, pv p].toArray w (Ret (pv (p.times m)) w) := by
  have AC := times_yes m hm hp.red.lt hp
  clear hp hm
  generalize p.times m = r at *
  refine fn_ret (N := _) Tryd.func16 rfl Tryd.ntmps16 Tryd.results16 (by simp) ?_
  simp only [initS, Nat.reduceAdd, Nat.zero_add]
  repeat' (first | (refine wlR ?_) | (refine wlB ?_) | ((with_reducible refine sel_call ?_); refine wl_rd rfl rfl (rd_call rfl rfl rfl (fun w hm => by with_reducible exact AC w)) ?_) | (refine wlE ?_) | (refine efR ?_) | (refine efZCnn ?_; intro n hn) | (refine efBnn ?_; intro n hn) | (refine efB ?_) | (refine wl_skip rfl rfl ?_) | ((with_reducible refine wc_seq ?_); intro K hK) | (refine auC ?_) | (refine wc_cond rfl (fun hc => ?_) (fun hc => ?_)) | (refine wc_draw (by kernel_rfl) (by kernel_rfl) (by decide +kernel) ?_; intro w0 hw0 hm0; (try simp only [List.append_eq, List.cons_append, List.nil_append])) | (refine auP ?_) | ((refine auR ?_); clear hK K) | (refine auR ?_) | ((with_reducible refine hK _ _ ?_); clear hK K) | fail)
  first | refine end_ret (ResP.cell rfl ld_whole ResP.nil) ?_ | refine end_normal (ResP.cell rfl ld_whole ResP.nil) ?_
  first | rfl | (show _ = _; rfl) | (simp only [tupV, *]; done)
end Go.Proofs.YtkbgkobbadjpnaaDoor
namespace Go.Proofs.YtkbgkobbadjpnaaDoor
open Go.RowKit
set_option linter.unusedVariables false
theorem unpack_yes {k : Nat} (hk : k < T256) (h : upOk k) (w : World) : Calls Tryd.prog 60 [bv k].toArray w (Ret (.tuple #[pv (upPt k), .int .i64 0]) w) := by
  have := unpack_c k hk w
  unfold upOk at h
  rwa [if_pos h, if_pos h] at this
theorem unpack_no {k : Nat} (hk : k < T256) (h : ¬ upOk k) (w : World) : Calls Tryd.prog 60 [bv k].toArray w (Ret (.tuple #[pv ⟨0, 0⟩, .int .i64 4]) w) := by
  have := unpack_c k hk w
  unfold upOk at h
  rwa [if_neg h, if_neg h] at this
theorem pack_on {p : Pt} (h : p.on) (w : World) : Calls Tryd.prog 15 [pv p].toArray w (Ret (.tuple #[bv p.pack, .int .i64 0]) w) := pack_yes h.red.lt h (Nat.lt_trans h.red.2 PP_255) w
theorem pack_lt {p : Pt} (h : p.red) : p.pack < T256 := by
  have h1 : p.y < 2 ^ 255 := Nat.lt_trans h.2 PP_255
  unfold Pt.pack
  rw [T256_eq, show (2 : Nat) ^ 256 = 2 ^ 255 * 2 from rfl]
  rcases Nat.mod_two_eq_zero_or_one p.x with h2 | h2 <;> rw [h2] <;> omega
theorem pack_inj {p q : Pt} (hp : p.on) (hq : q.on) (h : p.pack = q.pack) : p = q := by
  have a := (unpack_pack hp).2
  have b := (unpack_pack hq).2
  rw [h] at a
  exact a.symm.trans b
end Go.Proofs.YtkbgkobbadjpnaaDoor
namespace Go.Proofs.YtkbgkobbadjpnaaDoor
open Go.RowKit
set_option linter.unusedVariables false
set_option linter.unusedSimpArgs false
def putsH (pl : List (Nat × Nat)) : Sg → List (Nat × Value) → Option Sg
  | g, [] => some g
  | g, (i, v) :: r => match pl[i]? with
    | none => none
    | some q => match putG g q.1 q.2 v.cells with
      | some g' => putsH pl g' r
      | none => none
theorem putsH_spec {pl : List (Nat × Nat)} : ∀ {vs : List (Nat × Value)} {g g' : Sg}, SgOk g → (∀ p ∈ vs, p.2.cells.all (·.oneCell') = true) → (∀ p ∈ vs, ∀ q, pl[p.1]? = some q → p.2.cells.size = q.2) → putsH pl g vs = some g' → fillC (fun i => pl[i]?) (rwL g) vs = some (rwL g') ∧ SgOk g'
  | [], g, g', hok, _, _, h => by cases h; exact ⟨rfl, hok⟩
  | (i, v) :: r, g, g', hok, h1, h2, h => by
    unfold putsH at h
    unfold fillC
    cases hp : pl[i]? with
    | none => simp [hp] at h
    | some q =>
      simp only [hp] at h ⊢
      have c : v.cells.size = q.2 := h2 (i, v) (by simp) q hp
      cases hg : putG g q.1 q.2 v.cells with
      | none => rw [hg] at h; cases h
      | some g1 =>
        rw [hg] at h
        simp only at h
        obtain ⟨e1, e2, e3, e4⟩ := putG_spec hok c (h1 (i, v) (by simp)) hg
        have hb : Nat.ble (q.1 + q.2) (rwL g).length = true := Nat.ble_eq_true_of_le (by rw [rwL_len hok]; exact e4)
        have c' : (v.cells.size == q.2) = true := by simp [c]
        rw [c', hb, Bool.and_self, cond_true, e1]
        exact putsH_spec e2 (fun p hp => h1 p (by simp [hp])) (fun p hp => h2 p (by simp [hp])) h
section
variable {X : Cx} {s : Slots} {l : Blks} {o : Oper} {v : Value}
theorem all_one {v : Value} (h : v.oneCell' = true) : v.cells.all (·.oneCell') = true := by rw [one_cells h]; simpa using h
theorem rd_buildH {t : Nat} {ps : Array (Nat × Operand)} {vs : List (Nat × Value)} {pl : List (Nat × Nat)} {g0 g g' : Sg} (ho : o.op = .build t ps) (hx : valsP s ps.toList = some vs) [ht : SP X.P t pl] [hz : ZG X.P t g0]
    (hc : putsH pl g0 vs = some g := by rfl) (hg : g = g' := by (try dsimp only [Value.cells]); first | done | exact rfl) (h1 : ∀ p ∈ vs, p.2.cells.all (·.oneCell') = true := by (simp only [List.forall_mem_cons, List.not_mem_nil, false_imp_iff, implies_true, and_true]; (repeat' apply And.intro) <;> first | (dsimp only [Value.cells]; exact Cells.one) | exact all_one rfl | rfl))
    (h2 : ∀ p ∈ vs, ∀ q, pl[p.1]? = some q → p.2.cells.size = q.2 := by (simp only [List.forall_mem_cons, List.not_mem_nil, false_imp_iff, implies_true, and_true]; (repeat' apply And.intro) <;> (intro q hq; obtain rfl := Option.some.inj hq; first | (dsimp only [Value.cells]; exact Cells.size) | rfl))) : RdV X s l o (.agg (rwA g')) := by
  subst hg
  haveI : ZR X.P t (.agg (rwA g0)) := ⟨hz.out⟩
  exact rd_buildS ho hx (by rw [rwA]; exact (putsH_spec hz.ok h1 h2 hc).1)
/-- A new block of a struct that was built. -/
theorem mk_boxG {t : Nat} {x : Operand} {g : Sg} (ho : o.op = .box t x) (hx : val s x = some (.agg (rwA g))) : Mk X s o (rwA g) t ptr := mk_box ho hx
end
end Go.Proofs.YtkbgkobbadjpnaaDoor
