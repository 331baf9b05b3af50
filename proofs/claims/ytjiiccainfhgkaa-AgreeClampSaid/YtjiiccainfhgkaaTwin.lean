/- A pack with its highest bit turned: plain laws. -/
import Derived.Test.YtjiiccainfhgkaaPk
namespace Go.Proofs.Ytjiiccainfhgkaa
open Go.RowKit
set_option linter.unusedVariables false
def turned (k : Nat) : Nat := upY k + 2 ^ 255 * (1 - upO k)
theorem upY_255 (k : Nat) : upY k < 2 ^ 255 := Nat.mod_lt _ (by decide)
theorem turned_lt (k : Nat) : turned k < T256 := by
  have h := upY_255 k
  rw [T256_eq, show (2 : Nat) ^ 256 = 2 ^ 255 * 2 from rfl]
  unfold turned
  have : 2 ^ 255 * (1 - upO k) ≤ 2 ^ 255 * 1 := Nat.mul_le_mul_left _ (by omega)
  omega
theorem turned_Y (k : Nat) : upY (turned k) = upY k := by
  have h := upY_255 k
  have : upY (turned k) = turned k % 2 ^ 255 := rfl
  rw [this]
  unfold turned
  rw [Nat.add_mul_mod_self_left, Nat.mod_eq_of_lt h]
theorem turned_O (k : Nat) : upO (turned k) = 1 - upO k := by
  have h := upY_255 k
  have : upO (turned k) = turned k / 2 ^ 255 := rfl
  rw [this]
  unfold turned
  rw [Nat.add_mul_div_left _ _ (by decide), Nat.div_eq_of_lt h, Nat.zero_add]
theorem turned_V (k : Nat) : upV (turned k) = upV k := by
  unfold upV; rw [turned_Y]
theorem xor_top : ∀ b : Nat, b < 128 → ∀ o : Nat, o < 2 → bits .xor .u8 ((b + o * 128 : Nat) : Int) 128 = ((b + (1 - o) * 128 : Nat) : Int) := by decide +kernel
theorem turned_byte {k : Nat} (hk : k < T256) : bits .xor .u8 ((byteOf k 31 : Nat) : Int) 128 = ((byteOf (turned k) 31 : Nat) : Int) ∧ ∀ j, j < 32 → j ≠ 31 → byteOf k j = byteOf (turned k) j := by
  have e : k = upY k + 2 ^ 255 * upO k := (Nat.mod_add_div k (2 ^ 255)).symm
  have ho : upO k < 2 := by have := upO_two hk; omega
  have hy := upY_255 k
  obtain ⟨a1, a2⟩ := byteOf_put hy ho
  obtain ⟨b1, b2⟩ := byteOf_put hy (show 1 - upO k < 2 by omega)
  rw [← e] at a1 a2
  refine ⟨?_, fun j hj hn => (a2 j hj hn).symm.trans (b2 j hj hn)⟩
  show _ = ((byteOf (upY k + 2 ^ 255 * (1 - upO k)) 31 : Nat) : Int)
  rw [← a1, ← b1]
  exact xor_top _ (byteOf_top hy) _ ho
theorem upPt_x (k : Nat) : (upPt k).x = if upO k = 1 then fsub 0 (froot (upV k)) else froot (upV k) := rfl
theorem upPt_y (k : Nat) : (upPt k).y = upY k := rfl
theorem twin_no {k : Nat} (hk : k < T256) (h : upOk k) (hx : (upPt k).x = 0) : ¬ upOk (turned k) := by
  obtain ⟨h1, h2, h3⟩ := h
  have hP := froot_P (upV k)
  have ho := upO_two hk
  intro ⟨_, _, c3⟩
  rw [turned_O, turned_V] at c3
  rw [upPt_x] at hx
  rcases ho with h0 | h0
  · rw [h0, if_neg (by decide)] at hx
    exact c3 ⟨by rw [h0], hx⟩
  · rw [h0, if_pos rfl] at hx
    have hn := fneg_neg (froot (upV k))
    rw [hx, flow_of hP] at hn
    exact h3 ⟨h0, by rw [← hn, fsub_def]; decide +kernel⟩
theorem twin_yes {k : Nat} (hk : k < T256) (h : upOk k) (hx : (upPt k).x ≠ 0) : upOk (turned k) ∧ upPt (turned k) = (upPt k).neg := by
  obtain ⟨h1, h2, h3⟩ := h
  have hP := froot_P (upV k)
  have ho := upO_two hk
  have hz : fsub 0 0 = 0 := by rw [fsub_def]; decide +kernel
  have hr : froot (upV k) ≠ 0 := fun h0 => by
    rw [upPt_x, h0, hz] at hx
    exact hx (by split <;> rfl)
  refine ⟨⟨by rw [turned_V]; exact h1, by rw [turned_Y]; exact h2, fun c => hr (by rw [← turned_V]; exact c.2)⟩, ?_⟩
  have e : (upPt (turned k)).x = (upPt k).neg.x := by
    show _ = fsub 0 (upPt k).x
    rw [upPt_x, upPt_x, turned_O, turned_V]
    rcases ho with h0 | h0
    · rw [h0, if_pos (by decide), if_neg (by decide)]
    · rw [h0, if_neg (by decide), if_pos rfl, fneg_neg, flow_of hP]
  have e2 : (upPt (turned k)).y = (upPt k).neg.y := by
    show _ = (upPt k).y
    rw [upPt_y, upPt_y, turned_Y]
  revert e e2
  generalize upPt (turned k) = a
  generalize (upPt k).neg = b
  intro e e2
  cases a; cases b; cases e; cases e2; rfl
end Go.Proofs.Ytjiiccainfhgkaa
