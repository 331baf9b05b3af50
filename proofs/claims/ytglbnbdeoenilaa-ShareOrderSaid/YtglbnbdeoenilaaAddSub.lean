/- The walks of limb.Add and limb.Sub. -/
import Derived.Test.YtglbnbdeoenilaaProg
import Derived.Test.YtglbnbdeoenilaaNum
import Derived.Test.YtglbnbdeoenilaaCom
import Derived.WalkKit
import Derived.WalkLawsBesides
import Derived.WalkSpells
import Derived.BigRegion
import Derived.RegionTactic
import Derived.ChangeAlike
import Derived.Lib.Hide
import Derived.Handy
namespace Go.Proofs.Ytglbnbdeoenilaa
open Go.RowKit



theorem run_add (x y c : Int) (hx : U x) (hy : U y) (h0 : 0 ≤ c) (h1 : c ≤ 1) (w : World) :
    (callFunc 57 #[.int .u64 x, .int .u64 y, .int .u64 c]).run Try.prog w = .ok (.value (.tuple #[.int .u64 (sumLo x y c), .int .u64 (sumHi x y c)])) w := by
  rw [run_callFunc_extern (e := add64Entry) (fn := Try.f57) (by kernel_rfl) (by kernel_rfl) (by kernel_rfl) (by kernel_rfl) (by kernel_rfl),
    run_add64 x y c hx.1 hy.1 h0 h1]
  rfl

set_option maxHeartbeats 1000000 in
theorem add_words (a0 a1 a2 a3 b0 b1 b2 b3 : Int) (w : World) (ha0 : U a0) (ha1 : U a1) (ha2 : U a2) (ha3 : U a3) 
    (hb0 : U b0) (hb1 : U b1) (hb2 : U b2) (hb3 : U b3) (c0 c1 c2 : Int) (e0 : c0 = sumHi a0 b0 0) (e1 : c1 = sumHi a1 b1 c0) (e2 : c2 = sumHi a2 b2 c1) :
    Calls Try.prog 45 #[.agg #[.int .u64 a0, .int .u64 a1, .int .u64 a2, .int .u64 a3], .agg #[.int .u64 b0, .int .u64 b1, .int .u64 b2, .int .u64 b3]] w
      (Ret (.tuple #[.agg #[.int .u64 (sumLo a0 b0 0), .int .u64 (sumLo a1 b1 c0), .int .u64 (sumLo a2 b2 c1), .int .u64 (sumLo a3 b3 c2)], .int .u64 (sumHi a3 b3 c2)]) w) := by
  have z0 : (0:Int) ≤ 0 := by omega
  have z1 : (0:Int) ≤ 1 := by omega
  have d0 := sumHi_bd ha0 hb0 z0 z1
  rw [← e0] at d0
  have d1 := sumHi_bd ha1 hb1 d0.1 d0.2
  rw [← e1] at d1
  have d2 := sumHi_bd ha2 hb2 d1.1 d1.2
  rw [← e2] at d2
  have r0 := run_add a0 b0 0 ha0 hb0 z0 z1
  have r1 := run_add a1 b1 _ ha1 hb1 d0.1 d0.2
  have r2 := run_add a2 b2 _ ha2 hb2 d1.1 d1.2
  have r3 := run_add a3 b3 _ ha3 hb3 d2.1 d2.2
  rw [← e0] at r0
  rw [← e1] at r1
  rw [← e2] at r2
  clear ha0 ha1 ha2 ha3 hb0 hb1 hb2 hb3 d0 d1 d2 z0 z1 e0 e1 e2
  go_enter Try.func45, Try.ntmps45
  go_wp2
  refine wp_loop_rounds 5 ?_
  rw [rounds_succ]
  go_wp2
  go_region
  go_wp2
  rw [rounds_succ]
  go_wp2
  go_region
  go_wp2
  rw [rounds_succ]
  go_wp2
  go_region
  go_wp2
  rw [rounds_succ]
  go_wp2
  go_region
  go_wp2
  rw [rounds_succ]
  go_wp2
  go_returns
  refine ⟨rfl, ?_⟩
  go_grown

theorem add_num (a b : Nat) (ha : a < T256) (hb : b < T256) (w : World) :
    Calls Try.prog 45 #[num a, num b] w (Ret (.tuple #[num ((a + b) % T256), .int .u64 ((a + b) / T256 : Nat)]) w) := by
  have h := add_law a b ha hb _ _ _ rfl rfl rfl
  have k := add_words _ _ _ _ _ _ _ _ w (limb_U a 0) (limb_U a 1) (limb_U a 2) (limb_U a 3) (limb_U b 0) (limb_U b 1) (limb_U b 2) (limb_U b 3) _ _ _ rfl rfl rfl
  rw [← h.1, ← h.2.1, ← h.2.2.1, ← h.2.2.2.1, ← h.2.2.2.2] at k
  exact k

theorem add_ex (a b : Nat) (ha : a < T256) (hb : b < T256) (w : World) :
    Calls Try.prog 45 #[num a, num b] w fun e w' => ∃ s c : Nat, Hid (s = (a + b) % T256 ∧ c = (a + b) / T256) ∧ s < T256 ∧ c ≤ 1 ∧ Ret (.tuple #[num s, .int .u64 c]) w e w' :=
  (add_num a b ha hb w).mono fun _ _ h => ⟨_, _, ⟨rfl, rfl⟩, Nat.mod_lt _ (by unfold T256; omega), Nat.le_of_lt_succ (Nat.div_lt_of_lt_mul (by omega)), h⟩

def sub64Entry : Array Value → Sem Value := fun args => do
  let (x, y, b) ← Extern.MathBitsCarry.three "Sub64" args
  pure (Extern.MathBitsCarry.pair ((x + Extern.MathBitsCarry.m64 - y - b) % Extern.MathBitsCarry.m64) (if x < y + b then 1 else 0))

theorem run_sub64 {P : Program} (x y c : Int) (hx : U x) (hy : U y) (hc0 : 0 ≤ c) (hc : c ≤ 1) (w : World) :
    (sub64Entry #[.int .u64 x, .int .u64 y, .int .u64 c]).run P w = .ok (.tuple #[.int .u64 (subLo x y c), .int .u64 (subHi x y c)]) w := by
  have key : ∀ k : Nat, k ≤ 1 → (sub64Entry #[.int .u64 x, .int .u64 y, .int .u64 (k : Int)]).run P w =
      .ok (Extern.MathBitsCarry.pair ((x.toNat + Extern.MathBitsCarry.m64 - y.toNat - k) % Extern.MathBitsCarry.m64) (if x.toNat < y.toNat + k then 1 else 0)) w := by
    intro k hk
    have : k = 0 ∨ k = 1 := by omega
    rcases this with rfl | rfl <;> rfl
  obtain ⟨k, rfl⟩ := Int.eq_ofNat_of_zero_le hc0
  rw [key k (by omega)]
  obtain ⟨X, rfl⟩ := Int.eq_ofNat_of_zero_le hx.1
  obtain ⟨Y, rfl⟩ := Int.eq_ofNat_of_zero_le hy.1
  unfold U at hx hy
  simp only [Extern.MathBitsCarry.pair, Extern.MathBitsCarry.m64, Int.toNat_natCast, subLo, subHi]
  by_cases h : X < Y + k
  · rw [if_pos h, if_pos (by omega)]
    congr 4; simp; omega
  · rw [if_neg h, if_neg (by omega)]
    congr 4; simp; omega

theorem run_subN (x y c : Int) (hx : U x) (hy : U y) (h0 : 0 ≤ c) (h1 : c ≤ 1) (w : World) :
    (callFunc 59 #[.int .u64 x, .int .u64 y, .int .u64 c]).run Try.prog w = .ok (.value (.tuple #[.int .u64 (subLo x y c), .int .u64 (subHi x y c)])) w := by
  rw [run_callFunc_extern (e := sub64Entry) (fn := Try.f59) (by kernel_rfl) (by kernel_rfl) (by kernel_rfl) (by kernel_rfl) (by kernel_rfl),
    run_sub64 x y c hx hy h0 h1]
  rfl

set_option maxHeartbeats 1000000 in
theorem sub_words (a0 a1 a2 a3 b0 b1 b2 b3 : Int) (w : World) (ha0 : U a0) (ha1 : U a1) (ha2 : U a2) (ha3 : U a3) 
    (hb0 : U b0) (hb1 : U b1) (hb2 : U b2) (hb3 : U b3) (c0 c1 c2 : Int) (e0 : c0 = subHi a0 b0 0) (e1 : c1 = subHi a1 b1 c0) (e2 : c2 = subHi a2 b2 c1) :
    Calls Try.prog 47 #[.agg #[.int .u64 a0, .int .u64 a1, .int .u64 a2, .int .u64 a3], .agg #[.int .u64 b0, .int .u64 b1, .int .u64 b2, .int .u64 b3]] w
      (Ret (.tuple #[.agg #[.int .u64 (subLo a0 b0 0), .int .u64 (subLo a1 b1 c0), .int .u64 (subLo a2 b2 c1), .int .u64 (subLo a3 b3 c2)], .int .u64 (subHi a3 b3 c2)]) w) := by
  have z0 : (0:Int) ≤ 0 := by omega
  have z1 : (0:Int) ≤ 1 := by omega
  have d0 := subHi_bd a0 b0 0
  rw [← e0] at d0
  have d1 := subHi_bd a1 b1 c0
  rw [← e1] at d1
  have d2 := subHi_bd a2 b2 c1
  rw [← e2] at d2
  have r0 := run_subN a0 b0 0 ha0 hb0 z0 z1
  have r1 := run_subN a1 b1 _ ha1 hb1 d0.1 d0.2
  have r2 := run_subN a2 b2 _ ha2 hb2 d1.1 d1.2
  have r3 := run_subN a3 b3 _ ha3 hb3 d2.1 d2.2
  rw [← e0] at r0
  rw [← e1] at r1
  rw [← e2] at r2
  clear ha0 ha1 ha2 ha3 hb0 hb1 hb2 hb3 d0 d1 d2 z0 z1 e0 e1 e2
  go_enter Try.func47, Try.ntmps47
  go_wp2
  refine wp_loop_rounds 5 ?_
  rw [rounds_succ]
  go_wp2
  go_region
  go_wp2
  rw [rounds_succ]
  go_wp2
  go_region
  go_wp2
  rw [rounds_succ]
  go_wp2
  go_region
  go_wp2
  rw [rounds_succ]
  go_wp2
  go_region
  go_wp2
  rw [rounds_succ]
  go_wp2
  go_returns
  refine ⟨rfl, ?_⟩
  go_grown

theorem sub_num (a b : Nat) (ha : a < T256) (hb : b < T256) (w : World) :
    Calls Try.prog 47 #[num a, num b] w (Ret (.tuple #[num ((a + T256 - b) % T256), .int .u64 (if a < b then 1 else 0)]) w) := by
  have h := sub_law a b ha hb _ _ _ rfl rfl rfl
  have k := sub_words _ _ _ _ _ _ _ _ w (limb_U a 0) (limb_U a 1) (limb_U a 2) (limb_U a 3) (limb_U b 0) (limb_U b 1) (limb_U b 2) (limb_U b 3) _ _ _ rfl rfl rfl
  rw [← h.1, ← h.2.1, ← h.2.2.1, ← h.2.2.2.1, ← h.2.2.2.2] at k
  exact k
theorem add_all (a b : Nat) (ha : a < T256) (hb : b < T256) : ∃ s c : Nat, Hid (s = (a + b) % T256 ∧ c = (a + b) / T256) ∧ s < T256 ∧ c ≤ 1 ∧
    ∀ w, Calls Try.prog 45 #[num a, num b] w (Ret (.tuple #[num s, .int .u64 c]) w) :=
  ⟨_, _, ⟨rfl, rfl⟩, Nat.mod_lt _ (by unfold T256; omega), Nat.le_of_lt_succ (Nat.div_lt_of_lt_mul (by omega)), fun w => add_num a b ha hb w⟩
theorem sub_all (a b : Nat) (ha : a < T256) (hb : b < T256) : ∃ s c : Nat, Hid (s = (a + T256 - b) % T256 ∧ c = if a < b then 1 else 0) ∧ s < T256 ∧ c ≤ 1 ∧
    ∀ w, Calls Try.prog 47 #[num a, num b] w (Ret (.tuple #[num s, .int .u64 c]) w) := by
  refine ⟨_, if a < b then 1 else 0, ⟨rfl, rfl⟩, Nat.mod_lt _ (by unfold T256; omega), by split <;> omega, fun w => ?_⟩
  rw [show ((if a < b then 1 else 0 : Nat) : Int) = if a < b then 1 else 0 by split <;> rfl]
  exact sub_num a b ha hb w
theorem sub_exN (a b : Nat) (ha : a < T256) (hb : b < T256) (w : World) :
    Calls Try.prog 47 #[num a, num b] w fun e w' => ∃ s c : Nat, Hid (s = (a + T256 - b) % T256 ∧ c = if a < b then 1 else 0) ∧ s < T256 ∧ c ≤ 1 ∧ Ret (.tuple #[num s, .int .u64 c]) w e w' := by
  refine (sub_num a b ha hb w).mono fun e w' h => ⟨_, if a < b then 1 else 0, ⟨rfl, rfl⟩, Nat.mod_lt _ (by unfold T256; omega), by split <;> omega, ?_⟩
  rw [show ((if a < b then 1 else 0 : Nat) : Int) = if a < b then 1 else 0 by split <;> rfl]
  exact h
end Go.Proofs.Ytglbnbdeoenilaa
