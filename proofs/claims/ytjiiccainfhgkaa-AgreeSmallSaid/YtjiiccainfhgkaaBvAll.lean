/- When two rows of 32 bytes are told alike; a row of 32 bytes that came in. A row of 32 bytes that came in as an argument. -/
import Derived.Test.YtjiiccainfhgkaaBv
import Derived.Test.YtjiiccainfhgkaaOpenAll
namespace Go.Proofs.Ytjiiccainfhgkaa
open Go.RowKit
set_option linter.unusedVariables false
set_option maxRecDepth 8000
def bytesZ (a : Nat) : List Int := (List.range 32).map fun j => ((byteOf a j : Nat) : Int)
theorem bytesZ_len (a : Nat) : (bytesZ a).length = 32 := by unfold bytesZ; simp
theorem bytesC_Z (a : Nat) : bytesC a = ((bytesZ a).map (Value.int .u8)).toArray := by
  unfold bytesC byteCells bytesZ
  rw [List.map_map]
  rfl
theorem bytes_inj {a b : Nat} (ha : a < T256) (hb : b < T256) (h : ∀ j, j < 32 → byteOf a j = byteOf b j) : a = b := by
  have key : ∀ k, k ≤ 32 → fb (byteOf a) k = fb (byteOf b) k := by
    intro k
    induction k with
    | zero => intro _; unfold fb; rfl
    | succ k ih =>
      intro hk
      apply Nat.eq_of_testBit_eq
      intro j
      rw [fb_bit _ (byteOf_lt a), fb_bit _ (byteOf_lt b), ih (by omega), h k (by omega)]
  have := key 32 (Nat.le_refl _)
  rw [fb_byteOf, fb_byteOf, show 2 ^ (8 * 32) = T256 from T256_eq.symm, Nat.mod_eq_of_lt ha, Nat.mod_eq_of_lt hb] at this
  exact this
theorem eql_bv (a b : Nat) (ha : a < T256) (hb : b < T256) (w : World) :
    (Op.equalIn 10000 45 (bv a) (bv b)).run Try.prog w = .ok (decide (a = b)) w := by
  have h := eql_ints (P := Try.prog) (t := 45) (e := 5) (k := .u8) (k' := .u8) w 9998 32 (bytesZ a) (bytesZ b) (by kernel_rfl) (by kernel_rfl) (by kernel_rfl) (by kernel_rfl) (by kernel_rfl) (bytesZ_len a) (bytesZ_len b)
  rw [← bytesC_Z, ← bytesC_Z] at h
  have e : (bytesZ a == bytesZ b) = decide (a = b) := by
    by_cases hab : a = b
    · subst hab; simp
    · rw [decide_eq_false hab, Bool.eq_false_iff]
      intro hc
      have hc := eq_of_beq hc
      refine hab (bytes_inj ha hb fun j hj => ?_)
      have := congrArg (·[j]?) hc
      simp only [bytesZ, List.getElem?_map, List.getElem?_range hj, Option.map_some, Option.some.injEq] at this
      omega
  rw [e] at h
  exact h
end Go.Proofs.Ytjiiccainfhgkaa
namespace Go.Proofs.Ytjiiccainfhgkaa
open Go.RowKit
set_option linter.unusedVariables false
theorem u8_wf {z : Int} (h : (Lit.int .u8 z).wf = true) : 0 ≤ z ∧ z < 256 := by
  simp [Lit.wf, IntKind.min, IntKind.max, IntKind.signed, IntKind.bits] at h
  omega
theorem bv_list {zs : List Int} (hl : zs.length = 32) (hz : ∀ z ∈ zs, (Lit.int .u8 z).wf = true) : ∃ n, n < T256 ∧ Value.agg (zs.map (Value.int .u8)).toArray = bv n := by
  have hf : ∀ j : Nat, ((zs[j]?.getD (0 : Int)).toNat) < 256 := fun j => by
    cases h : zs[j]? with
    | none => decide
    | some z =>
      have := u8_wf (hz z (List.mem_of_getElem? h))
      simp only [Option.getD_some]
      omega
  obtain ⟨n, hn, e⟩ := byteCells_bv (fun j : Nat => (zs[j]?.getD (0 : Int)).toNat) hf
  refine ⟨n, hn, ?_⟩
  show _ = Value.agg (bytesC n)
  rw [← e]
  congr 1
  unfold byteCells
  congr 1
  apply List.ext_getElem?
  intro j
  by_cases hj : j < 32
  · rw [List.getElem?_map, List.getElem?_map, List.getElem?_range hj, List.getElem?_eq_getElem (by omega)]
    have := u8_wf (hz zs[j] (List.getElem_mem (by omega)))
    simp only [Option.map_some, Option.some.injEq, Value.int.injEq, true_and]
    rw [List.getElem?_eq_getElem (by omega), Option.getD_some]
    omega
  · rw [List.getElem?_eq_none (by simp; omega), List.getElem?_eq_none (by simp; omega)]
theorem open_b32 {H : Type} {enc : TypeId × Value → H} {P : Program} {w : World} {base : Nat} {spare : Nat → Bool} {held : Bool} {t e : TypeId} {r : Reach} {b0 : Nat} {v : Value} {d : DataW H} {p : List MemPlace} (ht : P.underlying t = some (.array 32 e)) (he : P.underlying e = some (.int .u8)) (hce : P.cellsOf e = 1) (hct : P.cellsOf t = 32)
    (hv : Value.okWide P w r b0 t v) (h : DataW.Trod enc P w base spare held t v d p) : ∃ n, n < T256 ∧ v = bv n := by
  obtain ⟨zs, hl, rfl, hz⟩ := open_array ht he hce hct hv h
  exact bv_list hl hz
end Go.Proofs.Ytjiiccainfhgkaa
