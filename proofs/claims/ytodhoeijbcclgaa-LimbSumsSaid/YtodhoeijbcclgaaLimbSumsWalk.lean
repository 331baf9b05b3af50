/- LimbSums: the walk. -/
import Derived.Test.YtodhoeijbcclgaaPlus
namespace Go.Proofs.Ytodhoeijbcclgaa.LimbSumsWalk
open Go.RowKit
set_option linter.unusedVariables false
theorem sums_law {T a b c : Nat} (hT : 0 < T) : ((a + b) % T + c) % T = (a + (b + c) % T) % T ∧ (a + b) / T + ((a + b) % T + c) / T = (b + c) / T + (a + (b + c) % T) / T := by
  refine ⟨by rw [Nat.mod_add_mod, Nat.add_mod_mod, Nat.add_assoc], ?_⟩
  have h1 : (a + b + c) / T = (a + b) / T + ((a + b) % T + c) / T := by
    conv => lhs; rw [← Nat.mod_add_div (a + b) T]
    rw [show (a + b) % T + T * ((a + b) / T) + c = ((a + b) % T + c) + T * ((a + b) / T) by omega, Nat.add_mul_div_left _ _ hT]; omega
  have h2 : (a + (b + c)) / T = (b + c) / T + (a + (b + c) % T) / T := by
    conv => lhs; rw [← Nat.mod_add_div (b + c) T]
    rw [show a + ((b + c) % T + T * ((b + c) / T)) = (a + (b + c) % T) + T * ((b + c) / T) by omega, Nat.add_mul_div_left _ _ hT]; omega
  rw [← h1, ← h2, Nat.add_assoc]
set_option maxHeartbeats 1000000 in
theorem walk (a : Nat) (ha : a < T256) (b : Nat) (hb : b < T256) (c : Nat) (hc : c < T256) (w : World) :
    Calls Try.prog 6 #[num a, num b, num c] w (Ret (.bool true) w) := by
  have L := limbs_all
  obtain ⟨s, i, h1, hs, hi, C1⟩ := add_all a b ha hb
  obtain ⟨t, j, h2, ht, hj, C2⟩ := add_all b a hb ha
  obtain ⟨x, k, h3, hx, hk, C3⟩ := add_all s c hs hc
  obtain ⟨y, l, h4, hy, hl, C4⟩ := add_all b c hb hc
  obtain ⟨z, m, h5, hz, hm, C5⟩ := add_all a y ha hy
  have ⟨e1, e2⟩ := h1.out
  have ⟨e3, e4⟩ := h2.out
  have ⟨e5, e6⟩ := h3.out
  have ⟨e7, e8⟩ := h4.out
  have ⟨e9, e10⟩ := h5.out
  have p := sums_law (T := T256) (a := a) (b := b) (c := c) T256_pos
  obtain rfl : t = s := by rw [e1, e3, Nat.add_comm]
  obtain rfl : j = i := by rw [e2, e4, Nat.add_comm]
  obtain rfl : z = x := by rw [e9, e5, e7, e1]; exact p.1.symm
  have q : (j : Int) + k = l + m := by
    have : j + k = l + m := by rw [e2, e6, e8, e10, e1, e7]; exact p.2
    omega
  have q1 := eql_num t t hs hs
  have q2 := eql_num z z hx hx
  simp only [decide_true] at q1 q2
  have b1 : (0:Int) ≤ j := by omega
  have b2 : (j:Int) ≤ 1 := by omega
  have b3 : (0:Int) ≤ k := by omega
  have b4 : (k:Int) ≤ 1 := by omega
  have b5 : (0:Int) ≤ l := by omega
  have b6 : (l:Int) ≤ 1 := by omega
  have b7 : (0:Int) ≤ m := by omega
  have b8 : (m:Int) ≤ 1 := by omega
  clear h1 h2 h3 h4 h5 e1 e2 e3 e4 e5 e6 e7 e8 e9 e10 p
  replace L := Lib.hid L
  replace C1 := Lib.hid C1
  replace C2 := Lib.hid C2
  replace C3 := Lib.hid C3
  replace C4 := Lib.hid C4
  replace C5 := Lib.hid C5
  go_enter Try.func6, Try.ntmps6
  go_wp2_with (first | (go_at_call 30; with_reducible refine (grow (L.out _)).mono ?_; rintro _ _ ⟨x1, rfl, rfl⟩) | (go_at_call 21; with_reducible refine (grow (C1.out _)).mono ?_; rintro _ _ ⟨x2, rfl, rfl⟩) | (go_at_call 21; with_reducible refine (grow (C2.out _)).mono ?_; rintro _ _ ⟨x3, rfl, rfl⟩) | (go_at_call 21; with_reducible refine (grow (C3.out _)).mono ?_; rintro _ _ ⟨x4, rfl, rfl⟩) | (go_at_call 21; with_reducible refine (grow (C4.out _)).mono ?_; rintro _ _ ⟨x5, rfl, rfl⟩) | (go_at_call 21; with_reducible refine (grow (C5.out _)).mono ?_; rintro _ _ ⟨x6, rfl, rfl⟩))
  go_returns
  refine ⟨rfl, ?_⟩
  repeat' (first | (with_reducible exact Below.refl _ _) | (with_reducible refine up_alloc ?_ _) | (with_reducible refine up ?_ _) | (with_reducible refine up_drew ?_) | (with_reducible refine up_row ?_ ?_ _) | (with_reducible refine up_set ?_ ?_ _) | ((try dsimp only); first | omega | exact le_size | exact le_size1 | exact le_size2 | exact le_size3))
end Go.Proofs.Ytodhoeijbcclgaa.LimbSumsWalk
