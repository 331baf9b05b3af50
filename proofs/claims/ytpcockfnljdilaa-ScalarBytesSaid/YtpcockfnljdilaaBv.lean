/- Rows of 32 bytes as numbers. -/
import Derived.Test.YtpcockfnljdilaaBytes
import Derived.Test.YtpcockfnljdilaaNuBase
namespace Go.Proofs.Ytpcockfnljdilaa
open Go.RowKit
set_option linter.unusedVariables false
def bytesC (n : Nat) : Array Value := byteCells (byteN n)
abbrev bv (n : Nat) : Value := .agg (bytesC n)
theorem byteN_lt (a j : Nat) : byteN a j < 256 := Nat.mod_lt _ (by decide)
theorem bytesC_size (n : Nat) : (bytesC n).size = 32 := by unfold bytesC byteCells; simp
instance bytesC_cells (n : Nat) : Cells (bytesC n) 32 := ⟨bytesC_size n, byteCells_one _⟩
theorem bytesC_get (n k : Nat) (hk : k < 32) : (bytesC n)[k]? = some (.int .u8 (byteN n k : Nat)) := byteCells_get _ k hk
theorem byteCells_congr {f g : Nat → Nat} (h : ∀ j, j < 32 → f j = g j) : byteCells f = byteCells g := by
  apply Array.ext_getElem?
  intro i
  by_cases hi : i < 32
  · rw [byteCells_get _ i hi, byteCells_get _ i hi, h i hi]
  · rw [Array.getElem?_eq_none (by unfold byteCells; simp; omega), Array.getElem?_eq_none (by unfold byteCells; simp; omega)]
theorem bytesC_put (n n' k v : Nat) (hk : k < 32) (hv : v = byteN n' k) (ho : ∀ j, j < 32 → j ≠ k → byteN n j = byteN n' j) : putC (bytesC n) k (.int .u8 (v : Nat)) = bytesC n' := by
  unfold putC bytesC
  rw [byteCells_set _ k v hk]
  apply byteCells_congr
  intro j hj
  by_cases h : j = k
  · rw [if_pos h, h, hv]
  · rw [if_neg h, ho j hj h]
theorem fb_byteN (n : Nat) : ∀ k, fb (byteN n) k = n % 2 ^ (8 * k)
  | 0 => by unfold fb; rw [Nat.mul_zero, Nat.pow_zero, Nat.mod_one]
  | k + 1 => by
    have ih := fb_byteN n k
    apply Nat.eq_of_testBit_eq
    intro j
    rw [fb_bit _ (byteN_lt n), ih, Nat.testBit_mod_two_pow, Nat.testBit_mod_two_pow]
    split
    · rename_i h
      rw [decide_eq_true (show j < 8 * k from h), decide_eq_true (show j < 8 * (k + 1) by omega)]
    · rename_i h
      unfold byteN
      rw [show (256 : Nat) = 2 ^ 8 from rfl, Nat.testBit_mod_two_pow, Nat.testBit_div_two_pow, show j - 8 * k + 8 * k = j by omega]
      congr 1
      rw [decide_eq_decide]
      omega
theorem bytes_bv (a : Nat) (ha : a < T256) (w : World) : Calls Try.prog 23 [nu a].toArray w (Ret (bv a) w) := by
  have := bytes_all a ha w
  rw [nu_num] at this
  exact this
theorem of_bv (a : Nat) (ha : a < T256) (w : World) : Calls Try.prog 34 [bv a].toArray w (Ret (nu a) w) := by
  have := of_all (byteN a) (byteN_lt a) w
  rw [fb_byteN, nu_num, show 2 ^ (8 * 32) = T256 from T256_eq.symm, Nat.mod_eq_of_lt ha] at this
  exact this
theorem byteCells_bv (f : Nat → Nat) (hf : ∀ j, f j < 256) : ∃ n, n < T256 ∧ byteCells f = bytesC n := by
  refine ⟨fb f 32, by rw [T256_eq]; exact fb_lt f hf 32, ?_⟩
  apply byteCells_congr
  intro j hj
  apply Nat.eq_of_testBit_eq
  intro i
  unfold byteN
  rw [show (256 : Nat) = 2 ^ 8 from rfl, Nat.testBit_mod_two_pow, Nat.testBit_div_two_pow]
  have key : ∀ k, j < k → i < 8 → (fb f k).testBit (i + 8 * j) = (f j).testBit i := by
    intro k
    induction k with
    | zero => intro h; omega
    | succ k ih =>
      intro h hi
      rw [fb_bit f hf]
      by_cases hjk : j < k
      · rw [if_pos (by omega)]; exact ih hjk hi
      · obtain rfl : j = k := by omega
        rw [if_neg (by omega), show i + 8 * j - 8 * j = i by omega]
  by_cases hi : i < 8
  · rw [decide_eq_true hi, Bool.true_and, key 32 hj hi]
  · rw [decide_eq_false hi, Bool.false_and]
    exact Nat.testBit_lt_two_pow (Nat.lt_of_lt_of_le (hf j) (by
      rw [show (256 : Nat) = 2 ^ 8 from rfl]; exact Nat.pow_le_pow_right (by decide) (by omega)))
attribute [irreducible] bytesC
end Go.Proofs.Ytpcockfnljdilaa
