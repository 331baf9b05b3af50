/- LimbOrder: the walk. -/
import Derived.Test.YtodhoeijbcclgaaPlus
import Derived.Test.YtodhoeijbcclgaaCmp
namespace Go.Proofs.Ytodhoeijbcclgaa.LimbOrderWalk
open Go.RowKit
set_option linter.unusedVariables false
set_option maxHeartbeats 4000000 in
theorem core (a b c d x y t i j : Nat) (n n' m k g : Int) (u v : Bool) (w : World)
    (S : ∀ w, Calls Try.prog 22 #[num a, num b] w (Ret (.tuple #[num d, .int .u64 t]) w))
    (C1 : ∀ w, Calls Try.prog 29 #[num a, num b] w (Ret (.int .i64 n) w))
    (C2 : ∀ w, Calls Try.prog 29 #[num b, num a] w (Ret (.int .i64 n') w))
    (C3 : ∀ w, Calls Try.prog 29 #[num b, num c] w (Ret (.int .i64 m) w))
    (C4 : ∀ w, Calls Try.prog 29 #[num a, num c] w (Ret (.int .i64 k) w))
    (C5 : ∀ w, Calls Try.prog 29 #[num x, num y] w (Ret (.int .i64 g) w))
    (A1 : ∀ w, Calls Try.prog 21 #[num a, num c] w (Ret (.tuple #[num x, .int .u64 i]) w))
    (A2 : ∀ w, Calls Try.prog 21 #[num b, num c] w (Ret (.tuple #[num y, .int .u64 j]) w))
    (q : ∀ w : World, (Op.equalIn 10000 24 (num a) (num b)).run Try.prog w = .ok u w)
    (hn : -1 ≤ n ∧ n ≤ 1) (hn' : IntKind.i64.wrap (-n') = n) (hu : (n == 0) = u) (hv : decide (n < 0) = v) (ht : ((t : Int) == 1) = v)
    (hij : IntKind.u64.wrap ((i : Int) + j) = (i : Int) + j)
    (H5 : decide (n ≤ 0) = false ∨ (decide (n ≤ 0) = true ∧ decide (m ≤ 0) = false) ∨ (decide (n ≤ 0) = true ∧ decide (m ≤ 0) = true ∧ decide (0 < k) = false))
    (H9 : decide (0 < (i : Int) + j) = true ∨ (decide (0 < (i : Int) + j) = false ∧ g = n)) :
    Calls Try.prog 5 #[num a, num b, num c] w (Ret (.bool true) w) := by
  rcases H9 with h9 | ⟨h9, rfl⟩ <;> rcases H5 with h5 | ⟨h5, h6⟩ | ⟨h5, h6, h7⟩
  all_goals
    replace S := Lib.hid S
    replace C1 := Lib.hid C1
    replace C2 := Lib.hid C2
    replace C3 := Lib.hid C3
    replace C4 := Lib.hid C4
    replace C5 := Lib.hid C5
    replace A1 := Lib.hid A1
    replace A2 := Lib.hid A2
    go_enter Try.func5, Try.ntmps5
    go_wp2_with (first | (go_at_call 22; with_reducible refine (grow (S.out _)).mono ?_; rintro _ _ ⟨x1, rfl, rfl⟩) | (go_at_call 29; with_reducible refine (grow (C1.out _)).mono ?_; rintro _ _ ⟨x2, rfl, rfl⟩) | (go_at_call 29; with_reducible refine (grow (C2.out _)).mono ?_; rintro _ _ ⟨x3, rfl, rfl⟩) | (go_at_call 29; with_reducible refine (grow (C3.out _)).mono ?_; rintro _ _ ⟨x4, rfl, rfl⟩) | (go_at_call 29; with_reducible refine (grow (C4.out _)).mono ?_; rintro _ _ ⟨x5, rfl, rfl⟩) | (go_at_call 29; with_reducible refine (grow (C5.out _)).mono ?_; rintro _ _ ⟨x6, rfl, rfl⟩) | (go_at_call 21; with_reducible refine (grow (A1.out _)).mono ?_; rintro _ _ ⟨x7, rfl, rfl⟩) | (go_at_call 21; with_reducible refine (grow (A2.out _)).mono ?_; rintro _ _ ⟨x8, rfl, rfl⟩))
    go_returns
    refine ⟨rfl, ?_⟩
    repeat' (first | (with_reducible exact Below.refl _ _) | (with_reducible refine up_alloc ?_ _) | (with_reducible refine up ?_ _) | (with_reducible refine up_drew ?_) | (with_reducible refine up_row ?_ ?_ _) | (with_reducible refine up_set ?_ ?_ _) | ((try dsimp only); first | omega | exact le_size | exact le_size1 | exact le_size2 | exact le_size3))
theorem cmp_lt {a b : Nat} (h : a < b) : cmpI a b = -1 := if_pos h
theorem cmp_gt {a b : Nat} (h : b < a) : cmpI a b = 1 := by unfold cmpI; rw [if_neg (by omega), if_neg (by omega)]
theorem cmp_self (a : Nat) : cmpI a a = 0 := by unfold cmpI; simp
theorem add_div_zero {T a c : Nat} (hT : 0 < T) (h : (a + c) / T = 0) : (a + c) % T = a + c := Nat.mod_eq_of_lt (Nat.lt_of_div_eq_zero hT h)
theorem walk (a : Nat) (ha : a < T256) (b : Nat) (hb : b < T256) (c : Nat) (hc : c < T256) (w : World) :
    Calls Try.prog 5 #[num a, num b, num c] w (Ret (.bool true) w) := by
  obtain ⟨d, t, h1, hd, ht, S⟩ := sub_all a b ha hb
  obtain ⟨x, i, h2, hx, hi, A1⟩ := add_all a c ha hc
  obtain ⟨y, j, h3, hy, hj, A2⟩ := add_all b c hb hc
  have ⟨e1, e2⟩ := h1.out
  have ⟨e3, e4⟩ := h2.out
  have ⟨e5, e6⟩ := h3.out
  refine core a b c d x y t i j _ _ _ _ _ _ (decide (cmpI a b < 0)) w S (cmp_all a b ha hb) (cmp_all b a hb ha) (cmp_all b c hb hc) (cmp_all a c ha hc) (cmp_all x y hx hy) A1 A2 (fun w => eql_num a b ha hb w) ?_ ?_ ?_ rfl ?_ ?_ ?_ ?_
  · unfold cmpI; (repeat' split) <;> omega
  · rcases Nat.lt_trichotomy a b with h | h | h
    · rw [cmp_lt h, cmp_gt h]; decide
    · subst h; rw [cmp_self]; decide
    · rw [cmp_lt h, cmp_gt h]; decide
  · rcases Nat.lt_trichotomy a b with h | h | h
    · rw [cmp_lt h, decide_eq_false (by omega)]; rfl
    · subst h; rw [cmp_self, decide_eq_true rfl]; rfl
    · rw [cmp_gt h, decide_eq_false (by omega)]; rfl
  · rcases Nat.lt_trichotomy a b with h | h | h
    · rw [cmp_lt h, e2, if_pos h]; rfl
    · subst h; rw [cmp_self, e2, if_neg (by omega)]; rfl
    · rw [cmp_gt h, e2, if_neg (by omega)]; rfl
  · have : (0 : Int) ≤ i := by omega
    simp only [IntKind.wrap, IntKind.bits, IntKind.signed]
    have e : ((i : Int) + j) % 18446744073709551616 = i + j := Int.emod_eq_of_lt (by omega) (by omega)
    simpa using e
  · by_cases h : a ≤ b
    · by_cases g : b ≤ c
      · right; right
        refine ⟨decide_eq_true ?_, decide_eq_true ?_, decide_eq_false ?_⟩
        · unfold cmpI; (repeat' split) <;> omega
        · unfold cmpI; (repeat' split) <;> omega
        · unfold cmpI; (repeat' split) <;> omega
      · right; left
        refine ⟨decide_eq_true ?_, ?_⟩
        · unfold cmpI; (repeat' split) <;> omega
        · rw [cmp_gt (by omega)]; rfl
    · left; rw [cmp_gt (by omega)]; rfl
  · by_cases h : 0 < i + j
    · left; exact decide_eq_true (by omega)
    · right
      refine ⟨decide_eq_false (by omega), ?_⟩
      have k1 := add_div_zero (a := a) (c := c) T256_pos (by omega)
      have k2 := add_div_zero (a := b) (c := c) T256_pos (by omega)
      rw [k1] at e3
      rw [k2] at e5
      unfold cmpI
      by_cases h' : a < b
      · rw [if_pos h', if_pos (by omega)]
      · rw [if_neg h', if_neg (by omega)]
        by_cases h'' : a = b
        · rw [if_pos h'', if_pos (by omega)]
        · rw [if_neg h'', if_neg (by omega)]
end Go.Proofs.Ytodhoeijbcclgaa.LimbOrderWalk
