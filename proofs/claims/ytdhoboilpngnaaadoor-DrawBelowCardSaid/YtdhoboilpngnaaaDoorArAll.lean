/- The walks of limb.Add and limb.Sub. The walks of math/bits.Mul64, limb.step and limb.Mul. -/
import Derived.Test.YtdhoboilpngnaaaDoorProg
import Derived.Test.YtdhoboilpngnaaaDoorNum
import Derived.Test.YtdhoboilpngnaaaDoorCom
import Derived.WalkKit
import Derived.WalkLawsBesides
import Derived.WalkSpells
import Derived.BigRegion
import Derived.RegionTactic
import Derived.ChangeAlike
import Derived.Lib.Hide
import Derived.Handy
import Derived.Test.YtdhoboilpngnaaaDoorEqNum
import Derived.Lib.Mul64
import Derived.Laws.Bits64b
import Derived.Deep.RegionWith
namespace Go.Proofs.YtdhoboilpngnaaaDoor
open Go.RowKit



def sub64Entry : Array Value → Sem Value := fun args => do
  let (x, y, b) ← Extern.MathBitsCarry.three "Sub64" args
  pure (Extern.MathBitsCarry.pair ((x + Extern.MathBitsCarry.m64 - y - b) % Extern.MathBitsCarry.m64) (if x < y + b then 1 else 0))

theorem run_sub64 {P : Program} (x y c : Int) (hx : U x) (hy : U y) (hc0 : 0 ≤ c) (hc : c ≤ 1) (w : World) :
    (sub64Entry #[.int .u64 x, .int .u64 y, .int .u64 c]).run P w = .ok (.tuple #[.int .u64 (subLo x y c), .int .u64 (subHi x y c)]) w := by
  have key : ∀ k : Nat, k ≤ 1 → (sub64Entry #[.int .u64 x, .int .u64 y, .int .u64 (k : Int)]).run P w =
      .ok (Extern.MathBitsCarry.pair ((x.toNat + Extern.MathBitsCarry.m64 - y.toNat - k) % Extern.MathBitsCarry.m64) (if x.toNat < y.toNat + k then 1 else 0)) w := by
    intro k hk
    have : k = 0 ∨ k = 1 := by omega
    rcases this with rfl | rfl <;> rfl
  obtain ⟨k, rfl⟩ := Int.eq_ofNat_of_zero_le hc0
  rw [key k (by omega)]
  obtain ⟨X, rfl⟩ := Int.eq_ofNat_of_zero_le hx.1
  obtain ⟨Y, rfl⟩ := Int.eq_ofNat_of_zero_le hy.1
  unfold U at hx hy
  simp only [Extern.MathBitsCarry.pair, Extern.MathBitsCarry.m64, Int.toNat_natCast, subLo, subHi]
  by_cases h : X < Y + k
  · rw [if_pos h, if_pos (by omega)]
    congr 4; simp; omega
  · rw [if_neg h, if_neg (by omega)]
    congr 4; simp; omega

theorem run_subN (x y c : Int) (hx : U x) (hy : U y) (h0 : 0 ≤ c) (h1 : c ≤ 1) (w : World) :
    (callFunc 59 #[.int .u64 x, .int .u64 y, .int .u64 c]).run Tryd.prog w = .ok (.value (.tuple #[.int .u64 (subLo x y c), .int .u64 (subHi x y c)])) w := by
  rw [run_callFunc_extern (e := sub64Entry) (fn := Tryd.f59) (by kernel_rfl) (by kernel_rfl) (by kernel_rfl) (by kernel_rfl) (by kernel_rfl),
    run_sub64 x y c hx hy h0 h1]
  rfl

set_option maxHeartbeats 1000000 in
theorem sub_words (a0 a1 a2 a3 b0 b1 b2 b3 : Int) (w : World) (ha0 : U a0) (ha1 : U a1) (ha2 : U a2) (ha3 : U a3) 
    (hb0 : U b0) (hb1 : U b1) (hb2 : U b2) (hb3 : U b3) (c0 c1 c2 : Int) (e0 : c0 = subHi a0 b0 0) (e1 : c1 = subHi a1 b1 c0) (e2 : c2 = subHi a2 b2 c1) :
    Calls Tryd.prog 32 #[.agg #[.int .u64 a0, .int .u64 a1, .int .u64 a2, .int .u64 a3], .agg #[.int .u64 b0, .int .u64 b1, .int .u64 b2, .int .u64 b3]] w
      (Ret (.tuple #[.agg #[.int .u64 (subLo a0 b0 0), .int .u64 (subLo a1 b1 c0), .int .u64 (subLo a2 b2 c1), .int .u64 (subLo a3 b3 c2)], .int .u64 (subHi a3 b3 c2)]) w) := by
  have z0 : (0:Int) ≤ 0 := by omega
  have z1 : (0:Int) ≤ 1 := by omega
  have d0 := subHi_bd a0 b0 0
  rw [← e0] at d0
  have d1 := subHi_bd a1 b1 c0
  rw [← e1] at d1
  have d2 := subHi_bd a2 b2 c1
  rw [← e2] at d2
  have r0 := run_subN a0 b0 0 ha0 hb0 z0 z1
  have r1 := run_subN a1 b1 _ ha1 hb1 d0.1 d0.2
  have r2 := run_subN a2 b2 _ ha2 hb2 d1.1 d1.2
  have r3 := run_subN a3 b3 _ ha3 hb3 d2.1 d2.2
  rw [← e0] at r0
  rw [← e1] at r1
  rw [← e2] at r2
  clear ha0 ha1 ha2 ha3 hb0 hb1 hb2 hb3 d0 d1 d2 z0 z1 e0 e1 e2
  go_enter Tryd.func32, Tryd.ntmps32
  go_wp2
  refine wp_loop_rounds 5 ?_
  rw [rounds_succ]
  go_wp2
  go_region
  go_wp2
  rw [rounds_succ]
  go_wp2
  go_region
  go_wp2
  rw [rounds_succ]
  go_wp2
  go_region
  go_wp2
  rw [rounds_succ]
  go_wp2
  go_region
  go_wp2
  rw [rounds_succ]
  go_wp2
  go_returns
  refine ⟨rfl, ?_⟩
  go_grown

theorem sub_num (a b : Nat) (ha : a < T256) (hb : b < T256) (w : World) :
    Calls Tryd.prog 32 #[num a, num b] w (Ret (.tuple #[num ((a + T256 - b) % T256), .int .u64 (if a < b then 1 else 0)]) w) := by
  have h := sub_law a b ha hb _ _ _ rfl rfl rfl
  have k := sub_words _ _ _ _ _ _ _ _ w (limb_U a 0) (limb_U a 1) (limb_U a 2) (limb_U a 3) (limb_U b 0) (limb_U b 1) (limb_U b 2) (limb_U b 3) _ _ _ rfl rfl rfl
  rw [← h.1, ← h.2.1, ← h.2.2.1, ← h.2.2.2.1, ← h.2.2.2.2] at k
  exact k
theorem sub_all (a b : Nat) (ha : a < T256) (hb : b < T256) : ∃ s c : Nat, Hid (s = (a + T256 - b) % T256 ∧ c = if a < b then 1 else 0) ∧ s < T256 ∧ c ≤ 1 ∧
    ∀ w, Calls Tryd.prog 32 #[num a, num b] w (Ret (.tuple #[num s, .int .u64 c]) w) := by
  refine ⟨_, if a < b then 1 else 0, ⟨rfl, rfl⟩, Nat.mod_lt _ (by unfold T256; omega), by split <;> omega, fun w => ?_⟩
  rw [show ((if a < b then 1 else 0 : Nat) : Int) = if a < b then 1 else 0 by split <;> rfl]
  exact sub_num a b ha hb w
theorem sub_exN (a b : Nat) (ha : a < T256) (hb : b < T256) (w : World) :
    Calls Tryd.prog 32 #[num a, num b] w fun e w' => ∃ s c : Nat, Hid (s = (a + T256 - b) % T256 ∧ c = if a < b then 1 else 0) ∧ s < T256 ∧ c ≤ 1 ∧ Ret (.tuple #[num s, .int .u64 c]) w e w' := by
  refine (sub_num a b ha hb w).mono fun e w' h => ⟨_, if a < b then 1 else 0, ⟨rfl, rfl⟩, Nat.mod_lt _ (by unfold T256; omega), by split <;> omega, ?_⟩
  rw [show ((if a < b then 1 else 0 : Nat) : Int) = if a < b then 1 else 0 by split <;> rfl]
  exact h
end Go.Proofs.YtdhoboilpngnaaaDoor
namespace Go.Proofs.YtdhoboilpngnaaaDoor
open Go.RowKit

theorem maskN (a : Nat) (ha : a < 18446744073709551616) : bits .and .u64 (a : Int) 4294967295 = ((a % 4294967296 : Nat) : Int) := by
  have h := bits_and_u64_nat a 4294967295 ha (by omega)
  have e : a &&& 4294967295 = a % 4294967296 := Nat.and_two_pow_sub_one_eq_mod a 32
  rw [e] at h
  exact h
theorem divN (a : Nat) : (a : Int) / 4294967296 = ((a / 4294967296 : Nat) : Int) := by omega
theorem mulN (a b : Nat) : (a : Int) * (b : Int) = ((a * b : Nat) : Int) := (Int.natCast_mul a b).symm
theorem addN (a b : Nat) : (a : Int) + (b : Int) = ((a + b : Nat) : Int) := (Int.natCast_add a b).symm
theorem wrapN (a : Nat) (ha : a < 18446744073709551616) : IntKind.u64.wrap (a : Int) = (a : Int) := by rw [IntKind.wrap_u64]; omega
theorem wrapM (a : Nat) : IntKind.u64.wrap (a : Int) = ((a % 18446744073709551616 : Nat) : Int) := by rw [IntKind.wrap_u64]; omega

theorem prod_lt {a b : Nat} (ha : a < 18446744073709551616) (hb : b < 18446744073709551616) : a * b ≤ 340282366920938463426481119284349108225 :=
  Nat.mul_le_mul (Nat.le_of_lt_succ ha) (Nat.le_of_lt_succ hb)

/-- The four rows of four steps. -/
theorem mul_plain (a0 a1 a2 a3 b0 b1 b2 b3 r00 s00 r01 s01 r02 s02 r03 s03 r10 s10 r11 s11 r12 s12 r13 s13 r20 s20 r21 s21 r22 s22 r23 s23 r30 s30 r31 s31 r32 s32 r33 s33 : Nat)
    (e00 : Hid (a0 * b0 + 0 + 0 = r00 + 18446744073709551616 * s00))
    (e01 : Hid (a0 * b1 + 0 + s00 = r01 + 18446744073709551616 * s01))
    (e02 : Hid (a0 * b2 + 0 + s01 = r02 + 18446744073709551616 * s02))
    (e03 : Hid (a0 * b3 + 0 + s02 = r03 + 18446744073709551616 * s03))
    (e10 : Hid (a1 * b0 + r01 + 0 = r10 + 18446744073709551616 * s10))
    (e11 : Hid (a1 * b1 + r02 + s10 = r11 + 18446744073709551616 * s11))
    (e12 : Hid (a1 * b2 + r03 + s11 = r12 + 18446744073709551616 * s12))
    (e13 : Hid (a1 * b3 + s03 + s12 = r13 + 18446744073709551616 * s13))
    (e20 : Hid (a2 * b0 + r11 + 0 = r20 + 18446744073709551616 * s20))
    (e21 : Hid (a2 * b1 + r12 + s20 = r21 + 18446744073709551616 * s21))
    (e22 : Hid (a2 * b2 + r13 + s21 = r22 + 18446744073709551616 * s22))
    (e23 : Hid (a2 * b3 + s13 + s22 = r23 + 18446744073709551616 * s23))
    (e30 : Hid (a3 * b0 + r21 + 0 = r30 + 18446744073709551616 * s30))
    (e31 : Hid (a3 * b1 + r22 + s30 = r31 + 18446744073709551616 * s31))
    (e32 : Hid (a3 * b2 + r23 + s31 = r32 + 18446744073709551616 * s32))
    (e33 : Hid (a3 * b3 + s23 + s32 = r33 + 18446744073709551616 * s33))
    : four a0 a1 a2 a3 * four b0 b1 b2 b3 = four r00 r10 r20 r30 + T256 * four r31 r32 r33 s33 := by
  replace e00 := e00.out
  replace e01 := e01.out
  replace e02 := e02.out
  replace e03 := e03.out
  replace e10 := e10.out
  replace e11 := e11.out
  replace e12 := e12.out
  replace e13 := e13.out
  replace e20 := e20.out
  replace e21 := e21.out
  replace e22 := e22.out
  replace e23 := e23.out
  replace e30 := e30.out
  replace e31 := e31.out
  replace e32 := e32.out
  replace e33 := e33.out
  have h : four a0 a1 a2 a3 * four b0 b1 b2 b3 = (a0 * b0) + 18446744073709551616 * (a0 * b1) + 340282366920938463463374607431768211456 * (a0 * b2) + 6277101735386680763835789423207666416102355444464034512896 * (a0 * b3) + 18446744073709551616 * (a1 * b0) + 340282366920938463463374607431768211456 * (a1 * b1) + 6277101735386680763835789423207666416102355444464034512896 * (a1 * b2) + 115792089237316195423570985008687907853269984665640564039457584007913129639936 * (a1 * b3) + 340282366920938463463374607431768211456 * (a2 * b0) + 6277101735386680763835789423207666416102355444464034512896 * (a2 * b1) + 115792089237316195423570985008687907853269984665640564039457584007913129639936 * (a2 * b2) + 2135987035920910082395021706169552114602704522356652769947041607822219725780640550022962086936576 * (a2 * b3) + 6277101735386680763835789423207666416102355444464034512896 * (a3 * b0) + 115792089237316195423570985008687907853269984665640564039457584007913129639936 * (a3 * b1) + 2135987035920910082395021706169552114602704522356652769947041607822219725780640550022962086936576 * (a3 * b2) + 39402006196394479212279040100143613805079739270465446667948293404245721771497210611414266254884915640806627990306816 * (a3 * b3) := by
    unfold four; grind
  rw [h]
  clear h
  generalize a0 * b0 = p00 at *
  generalize a0 * b1 = p01 at *
  generalize a0 * b2 = p02 at *
  generalize a0 * b3 = p03 at *
  generalize a1 * b0 = p10 at *
  generalize a1 * b1 = p11 at *
  generalize a1 * b2 = p12 at *
  generalize a1 * b3 = p13 at *
  generalize a2 * b0 = p20 at *
  generalize a2 * b1 = p21 at *
  generalize a2 * b2 = p22 at *
  generalize a2 * b3 = p23 at *
  generalize a3 * b0 = p30 at *
  generalize a3 * b1 = p31 at *
  generalize a3 * b2 = p32 at *
  generalize a3 * b3 = p33 at *
  unfold four T256
  omega

end Go.Proofs.YtdhoboilpngnaaaDoor
