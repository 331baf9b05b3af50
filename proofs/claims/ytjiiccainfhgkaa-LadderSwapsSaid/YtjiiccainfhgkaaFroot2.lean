/- More of roots: the root of a square is one of the two, the even one. -/
import Derived.Test.YtjiiccainfhgkaaFroot
namespace Go.Proofs.Ytjiiccainfhgkaa
set_option linter.unusedVariables false
theorem sq_sq (a : Nat) : isSq (fmul a a) = true := by
  by_cases h : flow a = 0
  · rw [(fmul_zero_iff a a).2 (.inl h)]; exact isSq_zero
  · obtain ⟨i, hi⟩ := is_pow2 h
    rw [← fmul_ff, hi, ← fpow_add, isSq_pow2]
    exact decide_eq_true (by omega)
theorem root_sq {a : Nat} (h : isSq a = true) : fmul (froot a) (froot a) = flow a := by
  unfold froot
  rw [if_pos h, rootC_sq]
  exact isSq_iff.1 h
theorem root_even (a : Nat) : froot a % 2 = 0 := by
  unfold froot; split
  · exact rootC_even a
  · rfl
theorem froot_flow' (a : Nat) : flow (froot a) = froot a := flow_of (froot_P a)
theorem root_two (a : Nat) : froot (fmul a a) = flow a ∨ froot (fmul a a) = fsub 0 a := by
  have h := root_sq (sq_sq a)
  rw [fmul_flow] at h
  generalize hr : froot (fmul a a) = r at *
  have hrP : r < PP := by rw [← hr]; exact froot_P _
  have e : fmul (fadd r a) (fsub r a) = 0 := by
    refine add_cancel (c := fmul (fadd r a) a) (fmul_P _ _) (by decide) ?_
    rw [← fmul_add, fsub_add, fmul_flow_right, fmul_comm (fadd r a) r, fmul_add, h, fmul_comm (fadd r a) a, fmul_add, fmul_comm a r, fadd_comm 0, fadd_zero, flow_of (fadd_P _ _), fadd_comm]
  rcases (fmul_zero_iff _ _).1 e with h1 | h1
  · right
    rw [flow_of (fadd_P _ _)] at h1
    refine add_cancel (c := a) hrP (fsub_P _ _) ?_
    rw [h1, fneg_add]
  · left
    rw [flow_of (fsub_P _ _)] at h1
    have := fsub_add r a
    rw [h1, fadd_comm, fadd_zero, flow_of hrP] at this
    exact this.symm
end Go.Proofs.Ytjiiccainfhgkaa
