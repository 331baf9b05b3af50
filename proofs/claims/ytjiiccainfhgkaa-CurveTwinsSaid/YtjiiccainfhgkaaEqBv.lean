/- When two rows of 32 bytes are told alike; a row of 32 bytes that came in. -/
import Derived.Test.YtjiiccainfhgkaaBv
import Derived.Test.YtjiiccainfhgkaaOpen
namespace Go.Proofs.Ytjiiccainfhgkaa
open Go.RowKit
set_option linter.unusedVariables false
set_option maxRecDepth 8000
def bytesZ (a : Nat) : List Int := (List.range 32).map fun j => ((byteOf a j : Nat) : Int)
theorem bytesZ_len (a : Nat) : (bytesZ a).length = 32 := by unfold bytesZ; simp
theorem bytesC_Z (a : Nat) : bytesC a = ((bytesZ a).map (Value.int .u8)).toArray := by
  unfold bytesC byteCells bytesZ
  rw [List.map_map]
  rfl
theorem bytes_inj {a b : Nat} (ha : a < T256) (hb : b < T256) (h : ∀ j, j < 32 → byteOf a j = byteOf b j) : a = b := by
  have key : ∀ k, k ≤ 32 → fb (byteOf a) k = fb (byteOf b) k := by
    intro k
    induction k with
    | zero => intro _; unfold fb; rfl
    | succ k ih =>
      intro hk
      apply Nat.eq_of_testBit_eq
      intro j
      rw [fb_bit _ (byteOf_lt a), fb_bit _ (byteOf_lt b), ih (by omega), h k (by omega)]
  have := key 32 (Nat.le_refl _)
  rw [fb_byteOf, fb_byteOf, show 2 ^ (8 * 32) = T256 from T256_eq.symm, Nat.mod_eq_of_lt ha, Nat.mod_eq_of_lt hb] at this
  exact this
theorem eql_bv (a b : Nat) (ha : a < T256) (hb : b < T256) (w : World) :
    (Op.equalIn 10000 45 (bv a) (bv b)).run Try.prog w = .ok (decide (a = b)) w := by
  have h := eql_ints (P := Try.prog) (t := 45) (e := 5) (k := .u8) (k' := .u8) w 9998 32 (bytesZ a) (bytesZ b) (by kernel_rfl) (by kernel_rfl) (by kernel_rfl) (by kernel_rfl) (by kernel_rfl) (bytesZ_len a) (bytesZ_len b)
  rw [← bytesC_Z, ← bytesC_Z] at h
  have e : (bytesZ a == bytesZ b) = decide (a = b) := by
    by_cases hab : a = b
    · subst hab; simp
    · rw [decide_eq_false hab, Bool.eq_false_iff]
      intro hc
      have hc := eq_of_beq hc
      refine hab (bytes_inj ha hb fun j hj => ?_)
      have := congrArg (·[j]?) hc
      simp only [bytesZ, List.getElem?_map, List.getElem?_range hj, Option.map_some, Option.some.injEq] at this
      omega
  rw [e] at h
  exact h
end Go.Proofs.Ytjiiccainfhgkaa
