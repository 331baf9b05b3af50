/- Numbers of 256 bits as rows of four words: plain facts, no program in sight. What an argument is that came in: arrays of integers, numbers of 256 and 512 bits. The package hash, walked: Sum of bytes; equality of 32 bytes. The package hash: contracts for whatever state and bytes, in all worlds that a walk meets. Marks by a key, in plain terms. Bytes: copy, make, append of noughts, stores into a slice of the walk's own. Structs that are built of their fields, as rows of segments. The package mac, walked. The package mac, walked: Write. The package mac, walked: Sum of a state. The package mac, walked: Sum. Items as bytes, in plain terms. Items read, in plain terms. Records on a tape, in plain terms. Items that came in: a tag, a body. Items of the walk's own: a slice that nobody else holds, with bodies that stand in blocks of the walk's own. -/
import Derived.WalkKit
import Derived.Test.YtlpalhagndmpjaaDoorCom
import Derived.ProofKit
import Derived.OpenShut
import Derived.Test.YtlpalhagndmpjaaDoorJnAA
import Derived.Laws.CopyRow
import Derived.Laws.IdiomCopy
import Derived.Laws.MakeOwn
import Derived.Lib.AppendZerosOnto
import Derived.Test.YtlpalhagndmpjaaDoorOwnB
import Derived.Test.YtlpalhagndmpjaaDoorLwH
namespace Go.Proofs.YtlpalhagndmpjaaDoor
open Go.RowKit

/-- A word of 64 bits. -/
def U (x : Int) : Prop := 0 ≤ x ∧ x < 18446744073709551616
def limb (n i : Nat) : Int := ((n / 2 ^ (64 * i) % 18446744073709551616 : Nat) : Int)
abbrev num (n : Nat) : Value := .agg #[.int .u64 (limb n 0), .int .u64 (limb n 1), .int .u64 (limb n 2), .int .u64 (limb n 3)]
abbrev wide (n : Nat) : Value := .agg #[.int .u64 (limb n 0), .int .u64 (limb n 1), .int .u64 (limb n 2), .int .u64 (limb n 3), .int .u64 (limb n 4), .int .u64 (limb n 5), .int .u64 (limb n 6), .int .u64 (limb n 7)]
def T256 : Nat := 115792089237316195423570985008687907853269984665640564039457584007913129639936
/-- Less than 2^256, by what it is. -/
class SmT (a : Nat) : Prop where
  out : a < T256
def T512 : Nat := T256 * T256
theorem T256_eq : T256 = 2 ^ 256 := by decide +kernel
theorem T512_eq : T512 = 2 ^ 512 := by decide +kernel

theorem limb_U (n i : Nat) : U (limb n i) := by
  unfold limb U
  have := Nat.mod_lt (n / 2 ^ (64 * i)) (show 0 < 18446744073709551616 by omega)
  omega
theorem limb_nonneg (n i : Nat) : 0 ≤ limb n i := (limb_U n i).1

def sumLo (x y c : Int) : Int := (x + y + c) % 18446744073709551616
def sumHi (x y c : Int) : Int := (x + y + c) / 18446744073709551616
def subLo (x y c : Int) : Int := (x - y - c) % 18446744073709551616
def subHi (x y c : Int) : Int := if x < y + c then 1 else 0
theorem sumHi_bd {x y c : Int} (hx : U x) (hy : U y) (h0 : 0 ≤ c) (h1 : c ≤ 1) : 0 ≤ sumHi x y c ∧ sumHi x y c ≤ 1 := by
  unfold sumHi U at *; omega
theorem subHi_bd (x y c : Int) : 0 ≤ subHi x y c ∧ subHi x y c ≤ 1 := by
  unfold subHi; split <;> omega

/-- A number below 2^256 out of its four words. -/
def four (a0 a1 a2 a3 : Nat) : Nat := a0 + 18446744073709551616 * a1 + 340282366920938463463374607431768211456 * a2 + 6277101735386680763835789423207666416102355444464034512896 * a3
theorem limb0 (n : Nat) : limb n 0 = ((n % 18446744073709551616 : Nat) : Int) := by unfold limb; simp
theorem limb1 (n : Nat) : limb n 1 = ((n / 18446744073709551616 % 18446744073709551616 : Nat) : Int) := by unfold limb; simp
theorem limb2 (n : Nat) : limb n 2 = ((n / 340282366920938463463374607431768211456 % 18446744073709551616 : Nat) : Int) := by unfold limb; simp
theorem limb3 (n : Nat) : limb n 3 = ((n / 6277101735386680763835789423207666416102355444464034512896 % 18446744073709551616 : Nat) : Int) := by unfold limb; simp
theorem limb4 (n : Nat) : limb n 4 = ((n / T256 % 18446744073709551616 : Nat) : Int) := by unfold limb T256; simp
theorem limb_shift4 (n i : Nat) : limb n (i + 4) = limb (n / T256) i := by
  unfold limb
  rw [Nat.div_div_eq_div_mul, T256_eq, ← Nat.pow_add, show 64 * (i + 4) = 256 + 64 * i by omega]
theorem limb_four (a0 a1 a2 a3 : Nat) (h0 : a0 < 18446744073709551616) (h1 : a1 < 18446744073709551616) (h2 : a2 < 18446744073709551616) (h3 : a3 < 18446744073709551616) :
    limb (four a0 a1 a2 a3) 0 = a0 ∧ limb (four a0 a1 a2 a3) 1 = a1 ∧ limb (four a0 a1 a2 a3) 2 = a2 ∧ limb (four a0 a1 a2 a3) 3 = a3 := by
  rw [limb0, limb1, limb2, limb3]; unfold four
  refine ⟨?_, ?_, ?_, ?_⟩ <;> (congr 1; omega)
theorem four_lt (a0 a1 a2 a3 : Nat) (h0 : a0 < 18446744073709551616) (h1 : a1 < 18446744073709551616) (h2 : a2 < 18446744073709551616) (h3 : a3 < 18446744073709551616) : four a0 a1 a2 a3 < T256 := by
  unfold four T256; omega
/-- Every number below 2^256 is four words. -/
theorem four_of (n : Nat) (h : n < T256) : ∃ a0 a1 a2 a3, a0 < 18446744073709551616 ∧ a1 < 18446744073709551616 ∧ a2 < 18446744073709551616 ∧ a3 < 18446744073709551616 ∧ n = four a0 a1 a2 a3 := by
  refine ⟨n % 18446744073709551616, n / 18446744073709551616 % 18446744073709551616, n / 340282366920938463463374607431768211456 % 18446744073709551616, n / 6277101735386680763835789423207666416102355444464034512896 % 18446744073709551616, ?_, ?_, ?_, ?_, ?_⟩
  all_goals unfold T256 at h
  all_goals first | omega | (unfold four; omega)
theorem num_of (x0 x1 x2 x3 : Int) (h0 : U x0) (h1 : U x1) (h2 : U x2) (h3 : U x3) : ∃ n, n < T256 ∧ x0 = limb n 0 ∧ x1 = limb n 1 ∧ x2 = limb n 2 ∧ x3 = limb n 3 := by
  obtain ⟨a0, rfl⟩ := Int.eq_ofNat_of_zero_le h0.1
  obtain ⟨a1, rfl⟩ := Int.eq_ofNat_of_zero_le h1.1
  obtain ⟨a2, rfl⟩ := Int.eq_ofNat_of_zero_le h2.1
  obtain ⟨a3, rfl⟩ := Int.eq_ofNat_of_zero_le h3.1
  unfold U at *
  have k := limb_four a0 a1 a2 a3 (by omega) (by omega) (by omega) (by omega)
  exact ⟨four a0 a1 a2 a3, four_lt _ _ _ _ (by omega) (by omega) (by omega) (by omega), k.1.symm, k.2.1.symm, k.2.2.1.symm, k.2.2.2.symm⟩
/-- Two numbers with the same words are one. -/
theorem num_inj {a b : Nat} (ha : a < T256) (hb : b < T256) (h0 : limb a 0 = limb b 0) (h1 : limb a 1 = limb b 1) (h2 : limb a 2 = limb b 2) (h3 : limb a 3 = limb b 3) : a = b := by
  obtain ⟨a0, a1, a2, a3, k0, k1, k2, k3, rfl⟩ := four_of a ha
  obtain ⟨b0, b1, b2, b3, l0, l1, l2, l3, rfl⟩ := four_of b hb
  have k := limb_four a0 a1 a2 a3 k0 k1 k2 k3
  have l := limb_four b0 b1 b2 b3 l0 l1 l2 l3
  rw [k.1, l.1] at h0; rw [k.2.1, l.2.1] at h1; rw [k.2.2.1, l.2.2.1] at h2; rw [k.2.2.2, l.2.2.2] at h3
  obtain rfl := Int.ofNat.inj h0; obtain rfl := Int.ofNat.inj h1; obtain rfl := Int.ofNat.inj h2; obtain rfl := Int.ofNat.inj h3
  rfl

/-- Two halves make a wide one. -/
theorem limb_lo (n m i : Nat) (hi : i < 4) : limb (n % T256 + T256 * m) i = limb n i := by
  unfold limb
  congr 1
  rw [T256_eq]
  have e : 2 ^ 256 = 2 ^ (64 * i) * (18446744073709551616 * 2 ^ (192 - 64 * i)) := by
    rw [show (18446744073709551616 : Nat) = 2 ^ 64 by decide, ← Nat.pow_add, ← Nat.pow_add]; congr 1; omega
  have h1 : (n % 2 ^ 256 + 2 ^ 256 * m) / 2 ^ (64 * i) = n % 2 ^ 256 / 2 ^ (64 * i) + 18446744073709551616 * (2 ^ (192 - 64 * i) * m) := by
    rw [show 2 ^ 256 * m = 2 ^ (64 * i) * (18446744073709551616 * (2 ^ (192 - 64 * i) * m)) by conv => lhs; rw [e]; simp only [Nat.mul_assoc], Nat.add_mul_div_left _ _ (Nat.two_pow_pos _)]
  rw [h1, Nat.add_mul_mod_self_left]
  conv => lhs; rw [e, Nat.mod_mul_right_div_self]
  rw [Nat.mod_mul_right_mod]
theorem limb_hi (n m i : Nat) (hn : n < T256) : limb (n + T256 * m) (i + 4) = limb m i := by
  rw [limb_shift4, Nat.add_mul_div_left _ _ (by unfold T256; omega), Nat.div_eq_of_lt hn, Nat.zero_add]
theorem limb_two (n m : Nat) (hn : n < T256) : limb (n + T256 * m) 0 = limb n 0 ∧ limb (n + T256 * m) 1 = limb n 1 ∧ limb (n + T256 * m) 2 = limb n 2 ∧ limb (n + T256 * m) 3 = limb n 3 ∧
    limb (n + T256 * m) 4 = limb m 0 ∧ limb (n + T256 * m) 5 = limb m 1 ∧ limb (n + T256 * m) 6 = limb m 2 ∧ limb (n + T256 * m) 7 = limb m 3 := by
  have a := limb_lo n m 0 (by omega)
  have b := limb_lo n m 1 (by omega)
  have c := limb_lo n m 2 (by omega)
  have d := limb_lo n m 3 (by omega)
  rw [Nat.mod_eq_of_lt hn] at a b c d
  exact ⟨a, b, c, d, limb_hi n m 0 hn, limb_hi n m 1 hn, limb_hi n m 2 hn, limb_hi n m 3 hn⟩
theorem two_lt (n m : Nat) (hn : n < T256) (hm : m < T256) : n + T256 * m < T512 := by
  have : T256 * (m + 1) ≤ T256 * T256 := Nat.mul_le_mul_left _ hm
  unfold T512
  rw [Nat.mul_add] at this
  omega
/-- What was added is taken off, and the other way round. -/
theorem add_sub_back {T a b s c d t : Nat} (ha : a < T) (hb : b < T) (h1 : Hid (s = (a + b) % T ∧ c = (a + b) / T)) (h2 : Hid (d = (s + T - b) % T ∧ t = if s < b then 1 else 0)) : d = a ∧ t = c := by
  have ⟨e1, e2⟩ := h1.out
  have ⟨e3, e4⟩ := h2.out
  clear h1 h2
  have z : 0 < T := by omega
  by_cases h : a + b < T
  · rw [Nat.mod_eq_of_lt h] at e1; rw [Nat.div_eq_of_lt h] at e2
    subst e1 e2
    rw [if_neg (by omega)] at e4
    rw [show a + b + T - b = a + T by omega, Nat.add_mod_right, Nat.mod_eq_of_lt ha] at e3
    exact ⟨e3, e4⟩
  · have k : (a + b) = (a + b - T) + T * 1 := by omega
    rw [k, Nat.add_mul_mod_self_left, Nat.mod_eq_of_lt (by omega)] at e1
    rw [k, Nat.add_mul_div_left _ _ z, Nat.div_eq_of_lt (by omega)] at e2
    subst e1 e2
    rw [if_pos (by omega)] at e4
    rw [show a + b - T + T - b = a by omega, Nat.mod_eq_of_lt ha] at e3
    exact ⟨e3, by omega⟩
theorem sub_add_back {T a b s c d t : Nat} (ha : a < T) (hb : b < T) (h1 : Hid (s = (a + T - b) % T ∧ c = if a < b then 1 else 0)) (h2 : Hid (d = (s + b) % T ∧ t = (s + b) / T)) : d = a ∧ t = c := by
  have ⟨e1, e2⟩ := h1.out
  have ⟨e3, e4⟩ := h2.out
  clear h1 h2
  have z : 0 < T := by omega
  by_cases h : a < b
  · rw [Nat.mod_eq_of_lt (by omega)] at e1; rw [if_pos h] at e2
    subst e1 e2
    rw [show a + T - b + b = a + T * 1 by omega] at e3 e4
    rw [Nat.add_mul_mod_self_left, Nat.mod_eq_of_lt ha] at e3
    rw [Nat.add_mul_div_left _ _ z, Nat.div_eq_of_lt ha] at e4
    exact ⟨e3, by omega⟩
  · rw [show a + T - b = a - b + T by omega, Nat.add_mod_right, Nat.mod_eq_of_lt (by omega)] at e1; rw [if_neg h] at e2
    subst e1 e2
    rw [show a - b + b = a by omega] at e3 e4
    rw [Nat.mod_eq_of_lt ha] at e3
    rw [Nat.div_eq_of_lt ha] at e4
    exact ⟨e3, e4⟩

/-- ADD: the four steps make the sum. -/
theorem add_law (a b : Nat) (ha : a < T256) (hb : b < T256) (c0 c1 c2 : Int) (e0 : c0 = sumHi (limb a 0) (limb b 0) 0) (e1 : c1 = sumHi (limb a 1) (limb b 1) c0) (e2 : c2 = sumHi (limb a 2) (limb b 2) c1) :
    limb ((a + b) % T256) 0 = sumLo (limb a 0) (limb b 0) 0 ∧ limb ((a + b) % T256) 1 = sumLo (limb a 1) (limb b 1) c0 ∧ limb ((a + b) % T256) 2 = sumLo (limb a 2) (limb b 2) c1 ∧
    limb ((a + b) % T256) 3 = sumLo (limb a 3) (limb b 3) c2 ∧ (((a + b) / T256 : Nat) : Int) = sumHi (limb a 3) (limb b 3) c2 := by
  obtain ⟨a0, a1, a2, a3, k0, k1, k2, k3, rfl⟩ := four_of a ha
  obtain ⟨b0, b1, b2, b3, l0, l1, l2, l3, rfl⟩ := four_of b hb
  have k := limb_four a0 a1 a2 a3 k0 k1 k2 k3
  have l := limb_four b0 b1 b2 b3 l0 l1 l2 l3
  rw [k.1, l.1] at e0; rw [k.2.1, l.2.1] at e1; rw [k.2.2.1, l.2.2.1] at e2; rw [k.1, l.1, k.2.1, l.2.1, k.2.2.1, l.2.2.1, k.2.2.2, l.2.2.2]
  clear k l
  obtain ⟨s0, t0, hs0, hs0', ht0⟩ : ∃ s t : Nat, a0 + b0 = s + 18446744073709551616 * t ∧ s < 18446744073709551616 ∧ t ≤ 1 := ⟨(a0 + b0) % 18446744073709551616, (a0 + b0) / 18446744073709551616, by omega, by omega, by omega⟩
  obtain ⟨s1, t1, hs1, hs1', ht1⟩ : ∃ s t : Nat, a1 + b1 + t0 = s + 18446744073709551616 * t ∧ s < 18446744073709551616 ∧ t ≤ 1 := ⟨(a1 + b1 + t0) % 18446744073709551616, (a1 + b1 + t0) / 18446744073709551616, by omega, by omega, by omega⟩
  obtain ⟨s2, t2, hs2, hs2', ht2⟩ : ∃ s t : Nat, a2 + b2 + t1 = s + 18446744073709551616 * t ∧ s < 18446744073709551616 ∧ t ≤ 1 := ⟨(a2 + b2 + t1) % 18446744073709551616, (a2 + b2 + t1) / 18446744073709551616, by omega, by omega, by omega⟩
  obtain ⟨s3, t3, hs3, hs3', ht3⟩ : ∃ s t : Nat, a3 + b3 + t2 = s + 18446744073709551616 * t ∧ s < 18446744073709551616 ∧ t ≤ 1 := ⟨(a3 + b3 + t2) % 18446744073709551616, (a3 + b3 + t2) / 18446744073709551616, by omega, by omega, by omega⟩
  have hsum : four a0 a1 a2 a3 + four b0 b1 b2 b3 = four s0 s1 s2 s3 + T256 * t3 := by unfold four T256; omega
  have hlt := four_lt s0 s1 s2 s3 hs0' hs1' hs2' hs3'
  have hm : (four a0 a1 a2 a3 + four b0 b1 b2 b3) % T256 = four s0 s1 s2 s3 := by rw [hsum, Nat.add_mul_mod_self_left, Nat.mod_eq_of_lt hlt]
  have hd : (four a0 a1 a2 a3 + four b0 b1 b2 b3) / T256 = t3 := by
    rw [hsum, Nat.add_mul_div_left _ _ (by unfold T256; omega), Nat.div_eq_of_lt hlt]; omega
  rw [hm, hd]
  have m := limb_four s0 s1 s2 s3 hs0' hs1' hs2' hs3'
  rw [m.1, m.2.1, m.2.2.1, m.2.2.2]
  unfold sumHi at e0; obtain rfl : c0 = (t0 : Int) := by omega
  unfold sumHi at e1; obtain rfl : c1 = (t1 : Int) := by omega
  unfold sumHi at e2; obtain rfl : c2 = (t2 : Int) := by omega
  unfold sumLo sumHi
  omega

/-- SUB: the four steps make the difference. -/
theorem sub_law (a b : Nat) (ha : a < T256) (hb : b < T256) (c0 c1 c2 : Int) (e0 : c0 = subHi (limb a 0) (limb b 0) 0) (e1 : c1 = subHi (limb a 1) (limb b 1) c0) (e2 : c2 = subHi (limb a 2) (limb b 2) c1) :
    limb ((a + T256 - b) % T256) 0 = subLo (limb a 0) (limb b 0) 0 ∧ limb ((a + T256 - b) % T256) 1 = subLo (limb a 1) (limb b 1) c0 ∧ limb ((a + T256 - b) % T256) 2 = subLo (limb a 2) (limb b 2) c1 ∧
    limb ((a + T256 - b) % T256) 3 = subLo (limb a 3) (limb b 3) c2 ∧ (if a < b then 1 else 0 : Int) = subHi (limb a 3) (limb b 3) c2 := by
  obtain ⟨a0, a1, a2, a3, k0, k1, k2, k3, rfl⟩ := four_of a ha
  obtain ⟨b0, b1, b2, b3, l0, l1, l2, l3, rfl⟩ := four_of b hb
  have k := limb_four a0 a1 a2 a3 k0 k1 k2 k3
  have l := limb_four b0 b1 b2 b3 l0 l1 l2 l3
  rw [k.1, l.1] at e0; rw [k.2.1, l.2.1] at e1; rw [k.2.2.1, l.2.2.1] at e2; rw [k.1, l.1, k.2.1, l.2.1, k.2.2.1, l.2.2.1, k.2.2.2, l.2.2.2]
  clear k l
  have step : ∀ x y c : Nat, x < 18446744073709551616 → y < 18446744073709551616 → c ≤ 1 → ∃ s t : Nat, x + 18446744073709551616 * t = s + y + c ∧ s < 18446744073709551616 ∧ t ≤ 1 ∧ subLo x y c = s ∧ subHi x y c = t := by
    intro x y c hx hy hc
    unfold subLo subHi
    by_cases h : x < y + c
    · exact ⟨x + 18446744073709551616 - y - c, 1, by omega, by omega, by omega, by omega, by rw [if_pos (by omega)]; rfl⟩
    · exact ⟨x - y - c, 0, by omega, by omega, by omega, by omega, by rw [if_neg (by omega)]; rfl⟩
  obtain ⟨s0, t0, hs0, hs0', ht0, m0, n0⟩ := step a0 b0 0 k0 l0 (by omega)
  obtain ⟨s1, t1, hs1, hs1', ht1, m1, n1⟩ := step a1 b1 t0 k1 l1 ht0
  obtain ⟨s2, t2, hs2, hs2', ht2, m2, n2⟩ := step a2 b2 t1 k2 l2 ht1
  obtain ⟨s3, t3, hs3, hs3', ht3, m3, n3⟩ := step a3 b3 t2 k3 l3 ht2
  clear step
  have e0' : c0 = (t0 : Int) := e0.trans n0
  subst e0'
  have e1' : c1 = (t1 : Int) := e1.trans n1
  subst e1'
  have e2' : c2 = (t2 : Int) := e2.trans n2
  subst e2'
  clear e0 e1 e2 n0 n1 n2
  have z : ((0 : Nat) : Int) = 0 := rfl
  rw [z] at m0
  rw [m0, m1, m2, m3, n3]
  have hsum : four a0 a1 a2 a3 + T256 * t3 = four s0 s1 s2 s3 + four b0 b1 b2 b3 := by unfold four T256; omega
  have hlt := four_lt s0 s1 s2 s3 hs0' hs1' hs2' hs3'
  have hm : (four a0 a1 a2 a3 + T256 - four b0 b1 b2 b3) % T256 = four s0 s1 s2 s3 := by
    have : t3 = 0 ∨ t3 = 1 := by omega
    rcases this with rfl | rfl
    · rw [show four a0 a1 a2 a3 + T256 - four b0 b1 b2 b3 = four s0 s1 s2 s3 + T256 * 1 by omega, Nat.add_mul_mod_self_left, Nat.mod_eq_of_lt hlt]
    · rw [show four a0 a1 a2 a3 + T256 - four b0 b1 b2 b3 = four s0 s1 s2 s3 by omega, Nat.mod_eq_of_lt hlt]
  rw [hm]
  have m := limb_four s0 s1 s2 s3 hs0' hs1' hs2' hs3'
  rw [m.1, m.2.1, m.2.2.1, m.2.2.2]
  refine ⟨rfl, rfl, rfl, rfl, ?_⟩
  have : t3 = 0 ∨ t3 = 1 := by omega
  rcases this with rfl | rfl
  · rw [if_neg (by omega)]; rfl
  · rw [if_pos (by omega)]; rfl
end Go.Proofs.YtlpalhagndmpjaaDoor
namespace Go.Proofs.YtlpalhagndmpjaaDoor
open Go.RowKit Go.ChangeShapes Go.WideShapes Go.ChangeAt
section
variable {H : Type} {enc : TypeId × Value → H} {P : Program} {w : World} {base : Nat} {spare : Nat → Bool} {held : Bool}
theorem okWide_array {t e : TypeId} {n : Nat} {r : Reach} {b0 : Nat} {v : Value} (ht : P.underlying t = some (.array n e)) (h : Value.okWide P w r b0 t v) : ∃ cs, v = .agg cs ∧ cs.size = P.cellsOf t := by
  simp only [Value.okWide, ht] at h
  obtain ⟨cs, h1, h2, _⟩ := h
  exact ⟨cs, h1, h2⟩
def intAt (cs : List Value) (i : Nat) : Int := match cs[i]? with | some (.int _ z) => z | _ => 0
/-- The cells of an array of integers. -/
theorem cells_ints {t e : TypeId} {n : Nat} {k : IntKind} {cs : List Value} {fuel : Nat} {x : DataW H × List MemPlace} (ht : P.underlying t = some (.array n e)) (he : P.underlying e = some (.int k)) (hce : P.cellsOf e = 1) (hct : P.cellsOf t = n)
    (h : DataW.trod enc P w base spare held fuel t cs = some x) : ∃ zs : List Int, zs.length = n ∧ cs = zs.map (Value.int k) ∧ ∀ z ∈ zs, (Lit.int k z).wf = true := by
  obtain ⟨xs, m, _, _, hl, hx, hf⟩ := DataW.trod_array ht h
  rw [hct] at hl
  have key : ∀ i, i < n → ∃ z, cs[i]? = some (.int k z) ∧ (Lit.int k z).wf = true := by
    intro i hi
    have := hf i hi
    rw [hce, Nat.mul_one, List.getElem?_eq_getElem (by omega)] at this
    obtain ⟨z, hc, _, hz⟩ := DataW.trod_int he this
    refine ⟨z, ?_, hz⟩
    have := congrArg (·[0]?) hc
    simpa [List.getElem?_take, List.getElem?_drop] using this
  refine ⟨(List.range n).map (intAt cs), by simp, ?_, ?_⟩
  · apply List.ext_getElem?
    intro i
    by_cases hi : i < n
    · obtain ⟨z, hz, _⟩ := key i hi
      simp [hi, intAt, hz]
    · simp only [List.map_map, List.getElem?_map]
      rw [List.getElem?_eq_none (by omega), List.getElem?_eq_none (by simp; omega)]
      rfl
  · intro z hz
    obtain ⟨i, hi, rfl⟩ := List.mem_map.1 hz
    obtain ⟨z, hz, hw⟩ := key i (List.mem_range.1 hi)
    simpa [intAt, hz] using hw
theorem open_array {t e : TypeId} {n : Nat} {k : IntKind} {r : Reach} {b0 : Nat} {v : Value} {d : DataW H} {p : List MemPlace} (ht : P.underlying t = some (.array n e)) (he : P.underlying e = some (.int k)) (hce : P.cellsOf e = 1) (hct : P.cellsOf t = n)
    (hv : Value.okWide P w r b0 t v) (h : DataW.Trod enc P w base spare held t v d p) : ∃ zs : List Int, zs.length = n ∧ v = .agg (zs.map (Value.int k)).toArray ∧ ∀ z ∈ zs, (Lit.int k z).wf = true := by
  obtain ⟨cs, rfl, _⟩ := okWide_array ht hv
  obtain ⟨fuel, hf⟩ := h
  obtain ⟨zs, h1, h2, h3⟩ := cells_ints ht he hce hct (cs := cs.toList) (by simpa [Value.cells] using hf)
  refine ⟨zs, h1, ?_, h3⟩
  rw [← h2]
theorem wf_U {z : Int} (h : (Lit.int .u64 z).wf = true) : U z := by
  simp [Lit.wf, IntKind.min, IntKind.max, IntKind.signed, IntKind.bits] at h
  exact ⟨h.1, by omega⟩
theorem len4 {α : Type} {l : List α} (h : l.length = 4) : ∃ a b c d, l = [a, b, c, d] := by
  match l, h with | [a, b, c, d], _ => exact ⟨a, b, c, d, rfl⟩
theorem len8 {α : Type} {l : List α} (h : l.length = 8) : ∃ a b c d e f g i, l = [a, b, c, d, e, f, g, i] := by
  match l, h with | [a, b, c, d, e, f, g, i], _ => exact ⟨a, b, c, d, e, f, g, i, rfl⟩
theorem num_list {zs : List Int} (hl : zs.length = 4) (hz : ∀ z ∈ zs, (Lit.int .u64 z).wf = true) : ∃ n, n < T256 ∧ Value.agg (zs.map (Value.int .u64)).toArray = num n := by
  obtain ⟨a, b, c, d, rfl⟩ := len4 hl
  obtain ⟨n, hn, h0, h1, h2, h3⟩ := num_of a b c d (wf_U (hz a (by simp))) (wf_U (hz b (by simp))) (wf_U (hz c (by simp))) (wf_U (hz d (by simp)))
  refine ⟨n, hn, ?_⟩
  rw [h0, h1, h2, h3]
  rfl
theorem wide_list {zs : List Int} (hl : zs.length = 8) (hz : ∀ z ∈ zs, (Lit.int .u64 z).wf = true) : ∃ n, n < T512 ∧ Value.agg (zs.map (Value.int .u64)).toArray = wide n := by
  obtain ⟨a, b, c, d, e, f, g, i, rfl⟩ := len8 hl
  obtain ⟨n, hn, h0, h1, h2, h3⟩ := num_of a b c d (wf_U (hz a (by simp))) (wf_U (hz b (by simp))) (wf_U (hz c (by simp))) (wf_U (hz d (by simp)))
  obtain ⟨m, hm, k0, k1, k2, k3⟩ := num_of e f g i (wf_U (hz e (by simp))) (wf_U (hz f (by simp))) (wf_U (hz g (by simp))) (wf_U (hz i (by simp)))
  have s := limb_two n m hn
  refine ⟨n + T256 * m, two_lt n m hn hm, ?_⟩
  rw [h0, h1, h2, h3, k0, k1, k2, k3]
  simp only [wide, s.1, s.2.1, s.2.2.1, s.2.2.2.1, s.2.2.2.2.1, s.2.2.2.2.2.1, s.2.2.2.2.2.2.1, s.2.2.2.2.2.2.2]
  rfl
theorem open_num {t e : TypeId} {r : Reach} {b0 : Nat} {v : Value} {d : DataW H} {p : List MemPlace} (ht : P.underlying t = some (.array 4 e)) (he : P.underlying e = some (.int .u64)) (hce : P.cellsOf e = 1) (hct : P.cellsOf t = 4)
    (hv : Value.okWide P w r b0 t v) (h : DataW.Trod enc P w base spare held t v d p) : ∃ n, n < T256 ∧ v = num n := by
  obtain ⟨zs, hl, rfl, hz⟩ := open_array ht he hce hct hv h
  exact num_list hl hz
theorem open_wide {t e : TypeId} {r : Reach} {b0 : Nat} {v : Value} {d : DataW H} {p : List MemPlace} (ht : P.underlying t = some (.array 8 e)) (he : P.underlying e = some (.int .u64)) (hce : P.cellsOf e = 1) (hct : P.cellsOf t = 8)
    (hv : Value.okWide P w r b0 t v) (h : DataW.Trod enc P w base spare held t v d p) : ∃ n, n < T512 ∧ v = wide n := by
  obtain ⟨zs, hl, rfl, hz⟩ := open_array ht he hce hct hv h
  exact wide_list hl hz
end
end Go.Proofs.YtlpalhagndmpjaaDoor
namespace Go.Proofs.YtlpalhagndmpjaaDoor
open Go.RowKit
set_option linter.unusedVariables false
set_option maxRecDepth 100000
set_option linter.unusedSimpArgs false
instance {p : List Nat} : NBy (dig p) 32 := ⟨dig_len p⟩
instance : HSo newH := ⟨newH_ok⟩
theorem bys_Z (p : List Nat) : bys p = ((p.map fun k : Nat => (k : Int)).map (Value.int .u8)).toArray := by simp [bys, bl]
theorem eql_bys {a b : List Nat} (ha : a.length = 32) (hb : b.length = 32) {r : Bool} (hr : (a == b) = r) (w : World) :
    (Op.equalIn 10000 40 (.agg (bys a)) (.agg (bys b))).run Tryd.prog w = .ok r w := by
  have h := eql_ints (P := Tryd.prog) (t := 40) (e := 5) (k := .u8) (k' := .u8) w 9998 32 (a.map fun k : Nat => (k : Int)) (b.map fun k : Nat => (k : Int)) (by kernel_rfl) (by kernel_rfl) (by kernel_rfl) (by kernel_rfl) (by kernel_rfl) (by simp [ha]) (by simp [hb])
  rw [← bys_Z, ← bys_Z] at h
  rw [← hr]
  have e : ((a.map fun k : Nat => (k : Int)) == (b.map fun k : Nat => (k : Int))) = (a == b) := by
    rw [Bool.eq_iff_iff, beq_iff_eq, beq_iff_eq]
    constructor
    · intro h
      exact (List.map_inj_right (fun x y h => Int.ofNat.inj h)).1 h
    · intro h; rw [h]
  rw [e] at h
  exact h
set_option maxRecDepth 100000 in
set_option maxHeartbeats 4000000 in
theorem dig_c (w : World) (hT : Tab w) {v : Value} {m : Nat} {p : List Nat} (hp : Cb w v m p) : Calls Tryd.prog 24 [v].toArray w (Ret (.agg (bys (dig p))) w) := by
  haveI := hp.old
  have N1 := new_c
  have W1 : ∀ w', Below w.heap.size w w' → Calls Tryd.prog 26 [hv newH, v].toArray w' (Ret (hv (newH.write p)) w') := fun w' hb => write_c w' (hT.below hb) newH_ok (hp.below hb)
  have S1 : ∀ w', Below w.heap.size w w' → Calls Tryd.prog 27 [hv (newH.write p)].toArray w' (Ret (.agg (bys (dig p))) w') := fun w' hb => sum_c w' (hT.below hb) (HS.write_ok hp.ok.by' newH_ok)
  clear hp hT
  refine fn_ret (N := _) Tryd.func24 rfl Tryd.ntmps24 Tryd.results24 (by simp) ?_
  simp only [initS, Nat.reduceAdd, Nat.zero_add]
  repeat' (first | (refine wlS ?_) | (refine wlB ?_) | ((with_reducible refine sel_call ?_); refine wl_rd rfl rfl (rd_call rfl rfl rfl (fun w hm => by with_reducible first | exact N1 w | exact W1 w (hm.below rfl) | exact S1 w (hm.below rfl))) ?_) | (refine wlE ?_) | (refine efSvao ?_; intro v oa ho) | (refine efG ?_) | (refine efGnn ?_; intro n hn) | (refine efZCnn ?_; intro n hn) | (refine efBnn ?_; intro n hn) | (refine efB ?_) | (refine efBS ?_) | (refine wl_skip rfl rfl ?_) | ((with_reducible refine wc_seq ?_); intro K hK) | (refine auC ?_) | (refine wc_cond rfl (fun hc => ?_) (fun hc => ?_)) | (refine wc_draw (by kernel_rfl) (by kernel_rfl) (by decide +kernel) ?_; intro w0 hw0 hm0; (try simp only [List.append_eq, List.cons_append, List.nil_append])) | (refine auP ?_) | ((refine auR ?_); clear hK K) | (refine auR ?_) | ((with_reducible refine hK _ _ ?_); clear hK K) | fail)
  first | refine end_ret (ResP.cell rfl ld_whole ResP.nil) ?_ | refine end_normal (ResP.cell rfl ld_whole ResP.nil) ?_
  first | rfl | (show _ = _; rfl) | (simp only [tupV, *]; done)
theorem cb_nil (w : World) : Cb w (.slice none 0 0) 0 [] := (CsB.nil).cs.out w (by intro p hp; cases hp) |> fun h => ⟨h, BL.nil⟩
theorem dig_nil0 : (dig []).getD 0 0 = 227 := by decide +kernel
theorem dig_nil31 : (dig []).getD 31 0 = 85 := by decide +kernel
end Go.Proofs.YtlpalhagndmpjaaDoor
namespace Go.Proofs.YtlpalhagndmpjaaDoor
open Go.RowKit
set_option linter.unusedVariables false
set_option maxRecDepth 100000
set_option linter.unusedSimpArgs false
/-- Bytes, all of them. -/
class ByL (p : List Nat) : Prop where
  out : ∀ x ∈ p, x < 256
instance : ByL [] := ⟨by simp⟩
instance {p q : List Nat} [h : ByL p] [h' : ByL q] : ByL (p ++ q) := ⟨fun x hx => (List.mem_append.1 hx).elim (h.out x) (h'.out x)⟩
instance {p : List Nat} : ByL (dig p) := ⟨by rw [dig, HS.sum]; exact sumB_byte _⟩
instance {n : Nat} : ByL (padL n) := ⟨padL_byte n⟩
instance {st : HS} : ByL st.sum := ⟨sumB_byte _⟩
instance {st : HS} {p : List Nat} [h : HSo st] [h' : ByL p] : HSo (st.write p) := ⟨HS.write_ok h'.out h.out⟩
theorem sum_len {st : HS} (h : st.ok) : st.sum.length = 32 := by
  have : ∀ (q : List Nat) (s : HS), s.h.length = 8 → (s.write q).h.length = 8 := fun q => by
    induction q with
    | nil => intro s h; exact h
    | cons b r ih =>
      intro s h
      refine ih (s.put b) ?_
      simp only [HS.put]
      split
      · rw [pressI, addsI_len, h]
      · exact h
  rw [HS.sum, sumB_len, this _ _ h.1]
instance {st : HS} [h : HSo st] : NBy st.sum 32 := ⟨sum_len h.out⟩
theorem write_g (w : World) (hT : Tab w) (w' : World) (hb : Below w.heap.size w w') {st : HS} [h : HSo st] {v : Value} {n : Nat} {p : List Nat} (hq : Cb w' v n p) :
    Calls Tryd.prog 26 [hv st, v].toArray w' (Ret (hv (st.write p)) w') := write_c w' (hT.below hb) h.out hq
theorem sum_g (w : World) (hT : Tab w) (w' : World) (hb : Below w.heap.size w w') {st : HS} [h : HSo st] :
    Calls Tryd.prog 27 [hv st].toArray w' (Ret (.agg (bys st.sum)) w') := sum_c w' (hT.below hb) h.out
theorem dig_g (w : World) (hT : Tab w) (w' : World) (hb : Below w.heap.size w w') {v : Value} {n : Nat} {p : List Nat} (hq : Cb w' v n p) :
    Calls Tryd.prog 24 [v].toArray w' (Ret (.agg (bys (dig p))) w') := dig_c w' (hT.below hb) hq
end Go.Proofs.YtlpalhagndmpjaaDoor
namespace Go.Proofs.YtlpalhagndmpjaaDoor
/-- A key of 64 bytes. -/
def keyL (key : List Nat) : List Nat := (if key.length > 64 then dig key else key) ++ List.replicate (64 - (if key.length > 64 then dig key else key).length) 0
def xorL (k : List Nat) (c : Nat) : List Nat := k.map fun b => Nat.xor b c
structure MS where
  inner : HS
  outer : HS
def newM (key : List Nat) : MS := ⟨newH.write (xorL (keyL key) 54), newH.write (xorL (keyL key) 92)⟩
def MS.write (s : MS) (p : List Nat) : MS := ⟨s.inner.write p, s.outer⟩
def MS.sum (s : MS) : List Nat := (s.outer.write s.inner.sum).sum
/-- The mark. -/
def mark (key p : List Nat) : List Nat := ((newM key).write p).sum
theorem keyL_len (key : List Nat) : (keyL key).length = 64 := by
  unfold keyL
  have := dig_len key
  split <;> simp <;> omega
theorem keyL_byte (key : List Nat) (h : ∀ x ∈ key, x < 256) : ∀ x ∈ keyL key, x < 256 := fun x hx => by
  unfold keyL at hx
  rcases List.mem_append.1 hx with hx | hx
  · split at hx
    · rw [dig, HS.sum] at hx
      exact sumB_byte _ x hx
    · exact h x hx
  · rw [(List.mem_replicate.1 hx).2]; decide
theorem xorL_len (k : List Nat) (c : Nat) : (xorL k c).length = k.length := by simp [xorL]
theorem xorL_byte (k : List Nat) {c : Nat} (hc : c < 256) (h : ∀ x ∈ k, x < 256) : ∀ x ∈ xorL k c, x < 256 := fun x hx => by
  obtain ⟨b, hb, rfl⟩ := List.mem_map.1 hx
  exact Nat.xor_lt_two_pow (n := 8) (h b hb) hc
theorem MS.write_app (s : MS) (p q : List Nat) : s.write (p ++ q) = (s.write p).write q := by simp [MS.write, HS.write_app]
/-- Noughts behind a short key are nothing. -/
theorem keyL_pad (key : List Nat) (n : Nat) (h : key.length + n ≤ 64) : keyL (key ++ List.replicate n 0) = keyL key := by
  unfold keyL
  rw [if_neg (by rw [List.length_append, List.length_replicate]; omega), if_neg (by omega), List.length_append, List.length_replicate, List.append_assoc, List.replicate_append_replicate]
  congr 2
  omega
/-- A long key is its digest. -/
theorem keyL_long (key : List Nat) (h : key.length > 64) : keyL (dig key) = keyL key := by
  have := dig_len key
  unfold keyL
  rw [if_neg (by omega), if_pos h]
end Go.Proofs.YtlpalhagndmpjaaDoor
namespace Go.Proofs.YtlpalhagndmpjaaDoor
open Go.RowKit
set_option linter.unusedVariables false
set_option linter.unusedSimpArgs false
theorem At.ex2 {n : Nat} {x : Array Value × TypeId} (y : Array Value × TypeId) {l l' : Blks} (h : At l n x y l') : ∃ pre post, l = pre ++ ((n, x) :: post) ∧ l' = pre ++ ((n, y) :: post) := by
  induction h with
  | here => exact ⟨[], _, rfl, rfl⟩
  | there _ ih =>
    obtain ⟨pre, post, h1, h2⟩ := ih
    exact ⟨_ :: pre, post, by rw [h1]; rfl, by rw [h2]; rfl⟩
theorem At.same {n : Nat} {x : Array Value × TypeId} {l l' : Blks} (h : At l n x x l') : l' = l := by
  obtain ⟨pre, post, h1, h2⟩ := At.ex2 x h
  rw [h1, h2]
theorem made_one (z : Value) (n : Nat) : (madeCells #[z] n).toList = List.replicate n z := by
  apply List.ext_getElem
  · simp [size_madeCells]
  · intro i h1 h2
    simp [madeCells, Nat.mod_one]
theorem zeros_one (z : Value) (n : Nat) : (Builtin.zeroCells #[z] n).toList = List.replicate n z := by
  apply List.ext_getElem
  · simp [Builtin.zeroCells]
  · intro i h1 h2
    simp [Builtin.zeroCells, Nat.mod_one]
theorem bl_rep (n k : Nat) : bl (List.replicate n k) = List.replicate n (.int .u8 (k : Int)) := by simp [bl]
section
variable {X : Cx} {s : Slots} {l : Blks} {o : Oper} {v : Value} {Q : Post} {ops : Array Oper} {r : List Oper}
theorem putR_bys (q p : List Nat) (off : Nat) : ((bys q).toList.take off ++ bl p ++ (bys q).toList.drop (off + (bl p).length)).toArray = bys (q.take off ++ (p ++ q.drop (off + p.length))) := by
  simp [bys, bl]
/-- Bytes are copied into a block that is known. -/
theorem wl_copyB {x y : Operand} {t t' e te n cap b off m : Nat} {u : Value} {p q q' : List Nat} {l' : Blks} {s' : Slots} (hg : gd s ops o = some true) (hd : dOk X.N o.dst = true) (hop : o.op = .call { callee := .builtin .copy, args := #[x, y], argTypes := #[t, t'] })
    (hx : val s x = some (.slice (some ⟨b, off, none⟩) n cap)) (hy : val s y = some u) [ht : UT X.P t (.slice e)] [hs : SZ X.P e 1] [hu : VwB X l u m p] {k : Nat}
    (h : Wl X ops Q r s' l') (hat : At l b (bys q, te) (bys q', te) l' := by repeat (first | exact At.here | apply At.there)) (hk : Nat.min m n = k := by first | (with_reducible assumption) | rfl)
    (hfit : off + k ≤ q.length := by first | (with_reducible assumption) | omega) (hq : q.take off ++ (p.take k ++ q.drop (off + k)) = q' := by first | (with_reducible assumption) | rfl)
    (hs' : sputO s o.dst (.int .i64 (k : Int)) = s' := by (try dsimp only [sputO, sput, Nat.reduceBEq, cond_true, cond_false, beq_self_eq_true]); first | done | exact rfl) : Wl X ops Q (o :: r) s l := fun a w hst => by
  subst hs'
  have hw := gd_wanted hst.env hg
  obtain ⟨hcs, hok⟩ := hu.out w hst.mem
  obtain ⟨pu, cu, rfl, h1, h2, h3⟩ := hcs.ln.out
  have hgb := hst.mem.cls.now b (bys q) te (hat.now hst.mem.nd)
  have hkm : k ≤ m := by rw [← hk]; exact Nat.min_le_left _ _
  have htl : (bl (p.take k)).length = k := by rw [bl_len, List.length_take, hok.len]; omega
  have hrun : ∃ w', (Builtin.copy_ #[t, t'] o.type #[.slice (some ⟨b, off, none⟩) n cap, .slice pu m cu]).run X.P w = .ok (.int .i64 (k : Int)) w' ∧ Mem X l' w' := by
    by_cases h0 : k = 0
    · subst h0
      refine ⟨w, run_copy_none (P := X.P) w t t' o.type e _ pu n cap m cu ht.out hs.out hk, ?_⟩
      have e1 : q' = q := by rw [← hq]; simp
      subst e1
      have e2 : l' = l := hat.same
      rw [e2]; exact hst.mem
    · obtain ⟨b', off', rfl⟩ := h3 (by omega)
      refine ⟨_, run_copy_row (P := X.P) w t t' o.type e b off n cap ⟨b', off', none⟩ m cu (bys q) te (bl (p.take k)) ht.out hs.out hgb (by rw [htl, hk]) (fun j y hj => ?_) (by rw [htl]; simpa [bys, bl_len] using hfit) (bl_one _) |>.trans (by rw [htl]; rfl), ?_⟩
      · have hjl : j < k := by rw [← htl]; exact (List.getElem?_eq_some_iff.1 hj).1
        have hj' : (bl p)[j]? = some y := by
          rw [← bl_take, List.getElem?_take_of_lt hjl] at hj
          exact hj
        obtain ⟨b2, off2, cap2, hv, hc⟩ := hcs.cell j y hj'
        injection hv with hv
        injection hv with hv
        injection hv with hb' ho'
        subst hb'; subst ho'
        rw [Addr.add_mid]; exact hc
      · have e0 : off + k = off + (bl (p.take k)).length := by rw [htl]
        rw [e0, putR_bys]
        have e1 : q.take off ++ (p.take k ++ q.drop (off + (p.take k).length)) = q' := by
          rw [← hq, List.length_take, hok.len, Nat.min_eq_left hkm]
        rw [e1]
        exact hst.mem.upd hat
  obtain ⟨w', hrun, hmem⟩ := hrun
  unfold wpList
  rw [if_pos hw]
  refine .inl ?_
  unfold Oper.wp
  have : (execOp a.eval o).run X.P w = .ok (.value (.int .i64 (k : Int))) w' := by
    simp only [execOp, hop, resolve, invoke, builtin, Sem.run_bind, Sem.run_pure, Result.andThen_ok, List.map_toArray, List.map_cons, List.map_nil, hst.env.eval hx, hst.env.eval hy, hrun]
  rw [this]
  exact h _ _ ⟨hst.env.put hd _, hmem⟩
/-- New noughts. -/
theorem wl_makeB {t e bytes n : Nat} {x y : Operand} {kx ky : IntKind} {s' : Value → Slots} {f : Blks → Blks} (hg : gd s ops o = some true) (hd : dOk X.N o.dst = true) (hop : o.op = .makeSlice t x y) (hx : val s x = some (.int kx (n : Int))) (hy : val s y = some (.int ky (n : Int)))
    [ht : UT X.P t (.slice e)] [hei : EI X.P e 1 bytes #[.int .u8 0]] [hf : Snoc l f] (h : ∀ v' oa', OwnB e v' n (List.replicate n 0) oa' → Wl X ops Q r (s' v') (f oa'))
    (hb : n * bytes ≤ 140737488355328 ∧ n ≤ 1152921504606846976 := by (refine ⟨?_, ?_⟩ <;> omega))
    (hs' : ∀ v', sputO s o.dst v' = s' v' := by intro _; (try dsimp only [sputO, sput, Nat.reduceBEq, cond_true, cond_false, beq_self_eq_true]); first | done | exact rfl) : Wl X ops Q (o :: r) s l := fun ac w hst => by
  obtain rfl : (fun v' => sputO s o.dst v') = s' := funext hs'
  have hw := gd_wanted hst.env hg
  obtain ⟨i, zv, hi, hsz, hby, hz, hzc, hzs⟩ := hei.out
  have hr := run_make (P := X.P) w t e i zv ht.out hi hz kx ky (n : Int) (n : Int) (by omega) (Int.le_refl _) (by rw [hby, ← Int.natCast_mul, Nat.mul_comm]; omega) (by omega)
  rw [hsz, Nat.mul_one, Int.toNat_natCast, hzc] at hr
  unfold wpList
  rw [if_pos hw]
  refine .inl ?_
  unfold Oper.wp
  have : (execOp ac.eval o).run X.P w = .ok (.value (.slice (some ⟨w.heap.size, 0, none⟩) n n)) (w.alloc (.cells (madeCells #[.int .u8 0] n) e)) := by
    simp only [execOp, hop, hst.env.eval hx, hst.env.eval hy, Sem.run_bind, hr, Result.andThen_ok, Sem.run_pure]
  rw [this]
  haveI : Seg l [] f := ⟨l, [], by simp, fun o => by rw [hf.out, List.append_nil]⟩
  refine h _ [(w.heap.size, (madeCells #[.int .u8 0] n, e))] ⟨⟨by rw [bl_len, List.length_replicate, Nat.mul_one], .inr ⟨w.heap.size, n, madeCells #[.int .u8 0] n, rfl, Nat.le_refl _, ?_, by rw [size_madeCells, Nat.mul_one], ?_, rfl⟩⟩, BL.rep n 0 (by decide)⟩ _ _ ⟨hst.env.put hd _, (upd_new (w := w) (w1 := w) rfl rfl rfl rfl [] _ e).mem hst.mem⟩
  · simp only [maxLen]; omega
  · rw [made_one, bl_rep, Nat.mul_one, List.take_of_length_le (by simp)]; rfl
/-- Noughts are appended (gc's append of make). -/
theorem append_zeros {P : Program} {oa : Blks} {w : World} {t tn ty e bytes : Nat} {v : Value} {n m : Nat} {p : List Nat} {kn kv : IntKind}
    (ht : P.underlying t = some (.slice e)) (htn : P.underlying tn = some (.int kn)) (hei : EI P e 1 bytes #[.int .u8 0]) (hown : OwnB e v n p oa) (hd : Hd oa w)
    (h63 : n + m ≤ maxLen) (hb : (n + m) * bytes ≤ 140737488355328) :
    ∃ v' w' oa', (Builtin.append_ #[t, tn] ty #[v, .int kv (m : Int)]).run P w = .ok v' w' ∧ OwnB e v' (n + m) (p ++ List.replicate m 0) oa' ∧ Upd w oa w' oa' := by
  obtain ⟨i, zv, hi, hsz, hby, hz, hzc, hzs⟩ := hei.out
  have hxl := hown.own.len
  rw [Nat.mul_one] at hxl
  have hok : BL (n + m) (p ++ List.replicate m 0) := hown.ok.app (BL.rep m 0 (by decide))
  have hnd : (keys oa).Nodup := by rcases hown.own.out with ⟨_, _, rfl⟩ | ⟨g, cap, cur, _, _, _, _, _, rfl⟩ <;> simp [keys]
  have hl2 : (bl (p ++ List.replicate m 0)).length = (n + m) * 1 := by rw [bl_len, hok.len, Nat.mul_one]
  have h63' : n + m ≤ 9223372036854775807 := by simp only [maxLen] at h63; omega
  have hw : IntKind.i64.wrap (m : Int) = m := by rw [IntKind.wrap_i64]; omega
  have hneg : ¬ ((m : Int) < 0) := by omega
  have hmb : m * bytes ≤ 140737488355328 := Nat.le_trans (Nat.mul_le_mul_right _ (by omega)) hb
  have h48i : ¬ (281474976710656 < (m : Int) * (bytes : Int)) := by rw [← Int.natCast_mul]; omega
  have hw0 : IntKind.i64.wrap 0 = 0 := by decide
  by_cases h0 : m = 0
  · subst h0
    refine ⟨v, w, oa, ?_, ⟨by simpa using hown.own, by simpa using hok⟩, rfl, rfl, rfl, Nat.le_refl _, fun _ _ _ => rfl, hnd, hd, fun n hn => .inl hn⟩
    rcases hown.own.out with ⟨rfl, rfl, rfl⟩ | ⟨g, cap, cur, rfl, hnc, hcm, hcs, htake, rfl⟩
    · simp [Builtin.append_, run_underlying ht, run_underlying htn, sizeOf, typeInfo, hi, asInt, asIntOf, hw0]
    · simp [Builtin.append_, run_underlying ht, run_underlying htn, sizeOf, typeInfo, hi, asInt, asIntOf, hw0, hnc, storeCells]
  have size_new : ∀ k, n + m ≤ k → ((bl p).toArray ++ Builtin.zeroCells zv.cells m ++ Builtin.zeroCells zv.cells (k - (n + m))).size = k * 1 := fun k hk => by
    simp only [Array.size_append, List.size_toArray, size_zeroCells, hzc]
    rw [hxl]
    simp only [List.size_toArray, List.length_cons, List.length_nil]
    omega
  have take_new : ∀ k, ((bl p).toArray ++ Builtin.zeroCells zv.cells m ++ Builtin.zeroCells zv.cells (k - (n + m))).toList.take ((n + m) * 1) = bl (p ++ List.replicate m 0) := fun k => by
    rw [Array.toList_append, Array.toList_append, hzc, zeros_one, bl_app, bl_rep, ← hl2, bl_app, bl_rep]
    exact List.take_left
  rcases hown.own.out with ⟨rfl, rfl, rfl⟩ | ⟨g, cap, cur, rfl, hnc, hcm, hcs, htake, rfl⟩
  · have hx : p = [] := List.eq_nil_of_length_eq_zero (by rw [← hown.ok.len])
    subst hx
    have hr := Lib.run_append_nil_zeros (P := P) w t tn ty e i zv kv kn ht htn hi hz m (by omega) (by omega) (by omega) (by rw [hby]; omega)
    have hge := grownCap_ge w m 0 e
    have hcl := grownCap_le_maxLen w m 0 e (by omega)
    have hs := size_new (grownCap w m 0 e) (by omega)
    have htk := take_new (grownCap w m 0 e)
    simp only [Nat.zero_add, bl, List.map_nil, Array.empty_append, List.nil_append] at hs htk hl2 hok ⊢
    exact ⟨_, _, [(w.heap.size, (_, e))], hr, ⟨⟨hl2, .inr ⟨w.heap.size, _, _, rfl, hge, hcl, hs, htk, rfl⟩⟩, hok⟩, upd_new (w := w) (w1 := w.drew) rfl rfl rfl rfl [] _ e⟩
  · have hg : w.heap[g]? = some (.cells cur e (0, 0)) := hd (g, (cur, e)) (by simp)
    by_cases hroom : n + m ≤ cap
    · have hfit : n + (List.replicate m (Value.int .u8 0)).length ≤ cur.size := by rw [List.length_replicate, hcs]; omega
      have hst := run_storeCells_at P g n e (List.replicate m (Value.int .u8 0)) 0 cur w hg (by simpa using hfit) (fun y hy => by rw [(List.mem_replicate.1 hy).2]; rfl)
      simp only [Nat.add_zero] at hst
      have hms : ¬ (m * i.size = 0) := by rw [hsz]; omega
      have hr : (Builtin.append_ #[t, tn] ty #[.slice (some ⟨g, 0, none⟩) n cap, .int kv (m : Int)]).run P w = .ok (.slice (some ⟨g, 0, none⟩) (n + m) cap) (w.setRow g (cur.toList.take n ++ List.replicate m (Value.int .u8 0) ++ cur.toList.drop (n + (List.replicate m (Value.int .u8 0)).length)).toArray) := by
        simp [Builtin.append_, run_underlying ht, run_underlying htn, sizeOf, typeInfo, zeroValue, hi, hz, hsz, hby, asInt, asIntOf, hw, hneg, h0, h48i, hroom, hzc, zeros_one, Addr.add_lit, hst]
      refine ⟨_, _, [(g, (_, e))], hr, ⟨⟨hl2, .inr ⟨g, cap, _, rfl, hroom, hcm, ?_, ?_, rfl⟩⟩, hok⟩, rfl, rfl, rfl, by simp, fun k hk hne => setRow_other w g k _ (fun e => hne (by simp [keys, e])), by simp [keys], hd_one (setRow_heap w g cur _ e _ hg), fun n hn => .inl (by simpa [keys] using hn)⟩
      · simp only [List.size_toArray, List.length_append, List.length_take, List.length_drop, Array.length_toList, List.length_replicate]
        omega
      · rw [Nat.mul_one] at htake
        simp only [htake]
        rw [← hl2, bl_app, bl_rep]
        exact List.take_left
    · have holds : ∀ j y, (bl p)[j]? = some y → w.cell? ((⟨g, 0, none⟩ : Addr).add j) = some y := (hown.own.row hd).cells (g := g) rfl
      have hfc := run_firstCells_some (P := P) w.drew i.size n ⟨g, 0, none⟩ n cap (bl p) (by rw [hxl, hsz, Nat.mul_one]) holds
      have hr := Lib.run_append_grow_zeros (P := P) w t tn ty e i zv kv kn ht htn hi hz (some ⟨g, 0, none⟩) n cap (bl p) hfc m (by omega) (by omega) (by omega) (by omega) (by rw [hby]; omega) (by rw [hby]; exact growslice_fits (by omega) hb)
      have hge := grownCap_ge w (n + m) cap e
      have hcl := grownCap_le_maxLen w (n + m) cap e h63
      exact ⟨_, _, [(w.heap.size, (_, e))], hr, ⟨⟨hl2, .inr ⟨w.heap.size, _, _, rfl, hge, hcl, size_new _ hge, take_new _, rfl⟩⟩, hok⟩, upd_new (w := w) (w1 := w.drew) rfl rfl rfl rfl _ _ e⟩
theorem wl_append0 {x y : Operand} {t tn e bytes n m : Nat} {kn kv : IntKind} {p : List Nat} {oa : Blks} {f : Blks → Blks} {s' : Value → Slots}
    (hg : gd s ops o = some true) (hd : dOk X.N o.dst = true) (hop : o.op = .call { callee := .builtin .append, args := #[x, y], argTypes := #[t, tn] })
    (hx : val s x = some v) (hy : val s y = some (.int kv (m : Int))) [ht : UT X.P t (.slice e)] [htn : UT X.P tn (.int kn)] [hei : EI X.P e 1 bytes #[.int .u8 0]] [hown : OwnB e v n p oa] [hseg : Seg l oa f]
    (h : ∀ v' oa', OwnB e v' (n + m) (p ++ List.replicate m 0) oa' → Wl X ops Q r (s' v') (f oa'))
    (h63 : (n + m) * bytes ≤ 1152921504606846976 ∧ n + m ≤ 1152921504606846976 ∧ (n + m) * bytes ≤ 140737488355328 := by (refine ⟨?_, ?_, ?_⟩ <;> omega))
    (hs' : ∀ v', sputO s o.dst v' = s' v' := by intro _; (try dsimp only [sputO, sput, Nat.reduceBEq, cond_true, cond_false, beq_self_eq_true]); first | done | exact rfl) : Wl X ops Q (o :: r) s l := fun ac w hst => by
  obtain rfl : (fun v' => sputO s o.dst v') = s' := funext hs'
  have hw := gd_wanted hst.env hg
  have hdd : Hd oa w := by
    obtain ⟨pre, post, rfl, _⟩ := hseg.out
    intro p hp
    exact hst.mem.cls.now p.1 p.2.1 p.2.2 (mu_mem_of (by simp [hp]) hst.mem.nd)
  obtain ⟨v', w', oa', hr, ho', hup⟩ := append_zeros (ty := o.type) (kv := kv) (m := m) ht.out htn.out hei hown hdd (by simp only [maxLen]; omega) h63.2.2
  unfold wpList
  rw [if_pos hw]
  refine .inl ?_
  unfold Oper.wp
  have : (execOp ac.eval o).run X.P w = .ok (.value v') w' := by
    simp only [execOp, hop, resolve, invoke, builtin, Sem.run_bind, Sem.run_pure, Result.andThen_ok, List.map_toArray, List.map_cons, List.map_nil, hst.env.eval hx, hst.env.eval hy, hr]
  rw [this]
  exact h v' oa' ho' _ _ ⟨hst.env.put hd _, hup.mem hst.mem⟩
/-- A byte is put into a slice of the walk's own. -/
theorem wl_putB {x y : Operand} {t e n j k : Nat} {u : Value} {p : List Nat} {oa : Blks} {f : Blks → Blks} (hg : gd s ops o = some true) (hd : dOk X.N o.dst = true) (ho : o.op = .store t x y)
    (hx : val s x = some (.pointer (some ⟨elB u, elO u + j, none⟩))) (hy : val s y = some (.int .u8 (k : Int))) [hs : SZ X.P t 1] [hown : OwnB e u n p oa] [hseg : Seg l oa f]
    (h : ∀ oa', OwnB e u n (p.set j k) oa' → Wl X ops Q r s (f oa')) (hj : j < n := by first | (with_reducible assumption) | omega) (hk : k < 256 := by first | (with_reducible assumption) | omega) (hdn : o.dst = none := by rfl) : Wl X ops Q (o :: r) s l := fun ac w hst => by
  have hw := gd_wanted hst.env hg
  have hdd : Hd oa w := by
    obtain ⟨pre, post, rfl, _⟩ := hseg.out
    intro p hp
    exact hst.mem.cls.now p.1 p.2.1 p.2.2 (mu_mem_of (by simp [hp]) hst.mem.nd)
  have hxl := hown.own.len
  rcases hown.own.out with ⟨rfl, rfl, rfl⟩ | ⟨g, cap, cur, rfl, hnc, hcm, hcs, htake, rfl⟩
  · omega
  have hgb : w.heap[g]? = some (.cells cur e (0, 0)) := hdd (g, (cur, e)) (by simp)
  have hlt : 0 + j < cur.size := by omega
  have h1 : (Value.int .u8 (k : Int)).oneCell' = true := rfl
  have hrun := store_run (P := X.P) (ty := t) (off := 0 + j) (v := .int .u8 (k : Int)) (w := w) (.inr ⟨h1, hs.out, hlt⟩) hgb
  have e1 : splice cur (0 + j) (.int .u8 (k : Int)) = cur.setIfInBounds (0 + j) (.int .u8 (k : Int)) := rfl
  rw [e1] at hrun
  unfold wpList
  rw [if_pos hw]
  refine .inl ?_
  unfold Oper.wp
  have hx' := hst.env.eval hx
  have : (execOp ac.eval o).run X.P w = .ok .skip (w.setRow g (cur.setIfInBounds (0 + j) (.int .u8 (k : Int)))) := by
    simp only [execOp, ho, hx', hst.env.eval hy, Instr.storeAt, Instr.sureAddr, Sem.run_bind, Sem.run_pure, Result.andThen_ok, elB, elO, hrun]
  rw [this]
  have hs0 : sputO s o.dst undef = s := by rw [hdn]; rfl
  have hup : Upd w [(g, (cur, e))] (w.setRow g (cur.setIfInBounds (0 + j) (.int .u8 (k : Int)))) [(g, (cur.setIfInBounds (0 + j) (.int .u8 (k : Int)), e))] :=
    ⟨rfl, rfl, rfl, by simp, fun k' hk' hne => setRow_other w g k' _ (fun e => hne (by simp [keys, e])), by simp [keys], hd_one (setRow_heap w g cur _ e _ hgb), fun n hn => .inl (by simpa [keys] using hn)⟩
  refine (show Wl X ops Q r (sputO s o.dst undef) (f [(g, (cur.setIfInBounds (0 + j) (.int .u8 (k : Int)), e))]) from by
    rw [hs0]
    refine h _ ⟨⟨by rw [bl_len, List.length_set, hown.ok.len, Nat.mul_one], .inr ⟨g, cap, _, rfl, hnc, hcm, by simpa using hcs, ?_, rfl⟩⟩, hown.ok.set hk⟩
    rw [Nat.zero_add, Array.toList_setIfInBounds, List.take_set, htake, bl_set]) _ _ ⟨hst.env.put hd _, hup.mem hst.mem⟩
end
end Go.Proofs.YtlpalhagndmpjaaDoor
namespace Go.Proofs.YtlpalhagndmpjaaDoor
open Go.RowKit
set_option linter.unusedVariables false
set_option linter.unusedSimpArgs false
def putsH (pl : List (Nat × Nat)) : Sg → List (Nat × Value) → Option Sg
  | g, [] => some g
  | g, (i, v) :: r => match pl[i]? with
    | none => none
    | some q => match putG g q.1 q.2 v.cells with
      | some g' => putsH pl g' r
      | none => none
theorem putsH_spec {pl : List (Nat × Nat)} : ∀ {vs : List (Nat × Value)} {g g' : Sg}, SgOk g → (∀ p ∈ vs, p.2.cells.all (·.oneCell') = true) → (∀ p ∈ vs, ∀ q, pl[p.1]? = some q → p.2.cells.size = q.2) → putsH pl g vs = some g' → fillC (fun i => pl[i]?) (rwL g) vs = some (rwL g') ∧ SgOk g'
  | [], g, g', hok, _, _, h => by cases h; exact ⟨rfl, hok⟩
  | (i, v) :: r, g, g', hok, h1, h2, h => by
    unfold putsH at h
    unfold fillC
    cases hp : pl[i]? with
    | none => simp [hp] at h
    | some q =>
      simp only [hp] at h ⊢
      have c : v.cells.size = q.2 := h2 (i, v) (by simp) q hp
      cases hg : putG g q.1 q.2 v.cells with
      | none => rw [hg] at h; cases h
      | some g1 =>
        rw [hg] at h
        simp only at h
        obtain ⟨e1, e2, e3, e4⟩ := putG_spec hok c (h1 (i, v) (by simp)) hg
        have hb : Nat.ble (q.1 + q.2) (rwL g).length = true := Nat.ble_eq_true_of_le (by rw [rwL_len hok]; exact e4)
        have c' : (v.cells.size == q.2) = true := by simp [c]
        rw [c', hb, Bool.and_self, cond_true, e1]
        exact putsH_spec e2 (fun p hp => h1 p (by simp [hp])) (fun p hp => h2 p (by simp [hp])) h
section
variable {X : Cx} {s : Slots} {l : Blks} {o : Oper} {v : Value}
theorem all_one {v : Value} (h : v.oneCell' = true) : v.cells.all (·.oneCell') = true := by rw [one_cells h]; simpa using h
theorem rd_buildH {t : Nat} {ps : Array (Nat × Operand)} {vs : List (Nat × Value)} {pl : List (Nat × Nat)} {g0 g g' : Sg} (ho : o.op = .build t ps) (hx : valsP s ps.toList = some vs) [ht : SP X.P t pl] [hz : ZG X.P t g0]
    (hc : putsH pl g0 vs = some g := by rfl) (hg : g = g' := by (try dsimp only [Value.cells]); first | done | exact rfl) (h1 : ∀ p ∈ vs, p.2.cells.all (·.oneCell') = true := by (simp only [List.forall_mem_cons, List.not_mem_nil, false_imp_iff, implies_true, and_true]; (repeat' apply And.intro) <;> first | (dsimp only [Value.cells]; exact Cells.one) | exact all_one rfl | rfl))
    (h2 : ∀ p ∈ vs, ∀ q, pl[p.1]? = some q → p.2.cells.size = q.2 := by (simp only [List.forall_mem_cons, List.not_mem_nil, false_imp_iff, implies_true, and_true]; (repeat' apply And.intro) <;> (intro q hq; obtain rfl := Option.some.inj hq; first | (dsimp only [Value.cells]; exact Cells.size) | rfl))) : RdV X s l o (.agg (rwA g')) := by
  subst hg
  haveI : ZR X.P t (.agg (rwA g0)) := ⟨hz.out⟩
  exact rd_buildS ho hx (by rw [rwA]; exact (putsH_spec hz.ok h1 h2 hc).1)
/-- A new block of a struct that was built. -/
theorem mk_boxG {t : Nat} {x : Operand} {g : Sg} (ho : o.op = .box t x) (hx : val s x = some (.agg (rwA g))) : Mk X s o (rwA g) t ptr := mk_box ho hx
end
end Go.Proofs.YtlpalhagndmpjaaDoor
namespace Go.Proofs.YtlpalhagndmpjaaDoor
open Go.RowKit
attribute [local irreducible] rwA bys iw
set_option linter.unusedVariables false
set_option maxRecDepth 100000
set_option linter.unusedSimpArgs false
/-- A state as a row. -/
abbrev sgM (s : MS) : Sg := [(73, rwA (sgH s.inner)), (73, rwA (sgH s.outer))]
abbrev mv (s : MS) : Value := .agg (rwA (sgM s))
class MSo (s : MS) : Prop where
  inner : HSo s.inner
  outer : HSo s.outer
instance {s : HS} [h : HSo s] : SegL (rwA (sgH s)) 73 := seg_rw rfl
instance {s : MS} [h : MSo s] : HSo s.inner := h.inner
instance {s : MS} [h : MSo s] : HSo s.outer := h.outer
instance {s : MS} [h : MSo s] : Cells (rwA (sgM s)) 146 := ⟨rw_size inferInstance, rw_one inferInstance⟩
instance {s : MS} {p : List Nat} [h : MSo s] [ByL p] : MSo (s.write p) := ⟨inferInstanceAs (HSo (s.inner.write p)), h.outer⟩
instance : ZC Tryd.prog 55 (bys (List.replicate 64 0)) := ⟨by kernel_rfl⟩
def zeroM : MS := ⟨zeroH, zeroH⟩
instance : MSo zeroM := ⟨inferInstanceAs (HSo zeroH), inferInstanceAs (HSo zeroH)⟩
set_option maxRecDepth 100000 in
instance : ZG Tryd.prog 59 (sgM zeroM) := ⟨by kernel_rfl, inferInstance⟩
theorem msum_len {s : MS} [h : MSo s] : s.sum.length = 32 := by
  unfold MS.sum
  haveI : ByL s.inner.sum := inferInstance
  exact sum_len (HSo.out (s := s.outer.write s.inner.sum))
instance {s : MS} [h : MSo s] : NBy s.sum 32 := ⟨msum_len⟩
instance {s : MS} : ByL s.sum := inferInstanceAs (ByL (s.outer.write s.inner.sum).sum)
/-- The first i bytes are turned. -/
def xorP (k : List Nat) (c i : Nat) : List Nat := xorL (k.take i) c ++ k.drop i
theorem xorP_len (k : List Nat) (c i : Nat) : (xorP k c i).length = k.length := by rw [xorP, List.length_append, xorL_len, ← List.length_append, List.take_append_drop]
theorem xorP_get {k : List Nat} {c i : Nat} (h : i < k.length) : (xorP k c i).getD i 0 = k.getD i 0 := by
  rw [xorP, List.getD_eq_getElem?_getD, List.getElem?_append_right (by rw [xorL_len, List.length_take]; omega), xorL_len, List.length_take, Nat.min_eq_left (by omega), Nat.sub_self, List.getElem?_drop, Nat.add_zero, List.getD_eq_getElem?_getD]
theorem xorP_step {k : List Nat} {c i : Nat} (h : i < k.length) : (xorP k c i).set i (Nat.xor (k.getD i 0) c) = xorP k c (i + 1) := by
  have e1 : k.drop i = k.getD i 0 :: k.drop (i + 1) := by rw [List.drop_eq_getElem_cons h]; simp [List.getD, h]
  rw [xorP, List.set_append_right _ _ (by rw [xorL_len, List.length_take]; omega), xorL_len, List.length_take, Nat.min_eq_left (by omega), Nat.sub_self, e1, List.set_cons_zero, xorP, take_succ' k i h]
  simp [xorL]
set_option maxRecDepth 100000 in
set_option maxHeartbeats 8000000 in
theorem mnew_c (w : World) (hT : Tab w) {v : Value} {m : Nat} {key : List Nat} (hp : Cb w v m key) : Calls Tryd.prog 20 [v].toArray w (Ret (mv (newM key)) w) := by
  have i1 := hp.old
  haveI : ByL key := ⟨hp.ok.by'⟩
  have hpl := hp.ok.len
  have WG := write_g w hT
  have DG := dig_g w hT
  have NG := new_c
  have hkb := keyL_byte key hp.ok.by'
  have hkl := keyL_len key
  have z64 : (List.replicate 64 0).length = 64 := by simp
  haveI : BLc 32 (dig key) := ⟨⟨dig_len key, ByL.out⟩, by decide⟩
  clear hT hp
  have hnew : newM key = ⟨newH.write (xorL (keyL key) 54), newH.write (xorL (keyL key) 92)⟩ := rfl
  by_cases hlong : m > 64
  · have t1 : decide ((m : Int) > 64) = true := decide_eq_true (by omega)
    have hq : (List.replicate 64 0).take 0 ++ ((dig key).take 32 ++ (List.replicate 64 0).drop (0 + 32)) = keyL key := by
      rw [List.take_of_length_le (Nat.le_of_eq (dig_len key)), keyL, if_pos (by omega), dig_len, List.drop_replicate]; rfl
    have hmn : Nat.min 32 64 = 32 := rfl
    generalize keyL key = KY at *
    haveI : NBy KY 64 := ⟨hkl⟩
    rw [hnew]
    clear hnew
    refine fn_ret (N := _) Tryd.func20 rfl Tryd.ntmps20 Tryd.results20 (by simp) ?_
    simp only [initS, Nat.reduceAdd, Nat.zero_add]
    repeat' (first | (refine wlS ?_) | (refine wlG ?_) | (refine wlB ?_) | ((with_reducible refine sel_call ?_); refine wl_rd rfl rfl (rd_call rfl rfl rfl (fun w hm => by with_reducible first | exact NG w | exact DG w (hm.below rfl) (VwB.out w hm))) ?_) | (refine wlE ?_) | (refine efSvvp ?_; intro v hv hp) | (refine efSvao ?_; intro v oa ho) | (refine efM ?_) | (refine efMvao ?_; intro v oa ho) | ((with_reducible refine sel_store ?_); first | (refine wl_putB (e := 5) rfl rfl rfl rfl rfl ?_; intro oa ho)) | (refine efG ?_) | (refine efGnn ?_; intro n hn) | (refine efZCnn ?_; intro n hn) | (refine efBnn ?_; intro n hn) | (refine efB ?_) | (refine efBS ?_) | (refine wl_skip rfl rfl ?_) | (refine wdS ?_) | (refine wdG ?_) | ((with_reducible refine seld_call ?_); refine wd_rd hm0 rfl rfl rfl rfl (rd_call rfl rfl rfl (fun w hm => by with_reducible first | exact NG w | exact DG w (hm.below rfl) (VwB.out w hm))) ?_) | (refine wdE ?_) | (refine wdT ?_) | (refine wdTO ?_) | (refine wd_skip rfl rfl ?_) | ((with_reducible refine seld_nil ?_); refine wd_nil hm0 ?_; clear hm0 hw0) | ((with_reducible refine wc_seq ?_); intro K hK) | (refine auC ?_) | (refine wc_cond rfl (fun hc => ?_) (fun hc => ?_)) | (refine wc_draw (by kernel_rfl) (by kernel_rfl) (by decide +kernel) ?_; intro w0 hw0 hm0; (try simp only [List.append_eq, List.cons_append, List.nil_append])) | (refine auP ?_) | ((refine auR ?_); clear hK K) | (refine auR ?_) | ((with_reducible refine hK _ _ ?_); clear hK K) | fail)
    rename_i n2 hn2 n3 hn3 n4 hn4
    refine wc_loop (σ := Nat) (fun i => [(2, ptr n2), (4, ptr n4), (5, ptr n), (17, .int .i64 (i : Int))])
      (fun i => [(n, (bys (xorP KY 92 i), 55)), (n4, (bys (xorP KY 54 i), 55)), (n2, (rwA (sgM zeroM), 59))])
      (fun i => i ≤ 64) (fun i => 64 - i) 0 (Nat.zero_le _) (Fits.of ⟨rfl, rfl, rfl, rfl, trivial⟩ (by rw [show xorP KY 92 0 = KY from rfl, show xorP KY 54 0 = KY from rfl]; first | exact SubL.refl _ | exact .keep (.keep (.skip (.keep .nil)))) rfl) ?_
    intro i hi
    haveI : NBy (xorP KY 54 i) 64 := ⟨by rw [xorP_len]; exact hkl⟩
    haveI : NBy (xorP KY 92 i) 64 := ⟨by rw [xorP_len]; exact hkl⟩
    by_cases hlt : i < 64
    · have t1 : decide ((i : Int) < 64) = true := decide_eq_true (by omega)
      have k1 : IntKind.i64.wrap ((i : Int) + 1) = ((i + 1 : Nat) : Int) := by rw [wrap_i64 _ (by omega) (by omega)]; omega
      have j1 : (i : Int) < ((64 : Nat) : Int) := by omega
      have g1 := bys_get (l := xorP KY 54 i) (i := i) (by rw [xorP_len]; omega)
      have g2 := bys_get (l := xorP KY 92 i) (i := i) (by rw [xorP_len]; omega)
      rw [xorP_get (by omega)] at g1 g2
      have s1 := xorP_step (k := KY) (c := 54) (i := i) (by omega)
      have s2 := xorP_step (k := KY) (c := 92) (i := i) (by omega)
      have hb : KY.getD i 0 < 256 := hkb _ (by rw [show KY.getD i 0 = KY[i]'(by omega) by simp [List.getD, (by omega : i < KY.length)]]; exact List.getElem_mem _)
      generalize KY.getD i 0 = b at *
      have x1 : bits .xor .u8 (b : Int) 54 = ((Nat.xor b 54 : Nat) : Int) := xor_u8 (b := 54) hb (by decide)
      have x2 : bits .xor .u8 (b : Int) 92 = ((Nat.xor b 92 : Nat) : Int) := xor_u8 (b := 92) hb (by decide)
      clear WG DG NG
      repeat' (first | (refine wlS ?_) | (refine wlB ?_) | (refine wlE ?_) | (refine efSvvp ?_; intro v hv hp) | (refine efSvao ?_; intro v oa ho) | (refine efBnn ?_; intro n hn) | (refine efB ?_) | (refine efBS ?_) | (refine wl_skip rfl rfl ?_) | (refine wdS ?_) | (refine wdE ?_) | (refine wdT ?_) | (refine wdTO ?_) | (refine wd_skip rfl rfl ?_) | ((with_reducible refine seld_nil ?_); refine wd_nil hm0 ?_; clear hm0 hw0) | ((with_reducible refine wc_seq ?_); intro K hK) | (refine auC ?_) | (refine wc_cond rfl (fun hc => ?_) (fun hc => ?_)) | (refine wc_draw (by kernel_rfl) (by kernel_rfl) (by decide +kernel) ?_; intro w0 hw0 hm0; (try simp only [List.append_eq, List.cons_append, List.nil_append])) | (refine auP ?_) | ((refine auR ?_); clear hK K) | (refine auR ?_) | ((with_reducible refine hK _ _ ?_); clear hK K) | fail)
      exact ⟨i + 1, hlt, by omega, Fits.of ⟨rfl, rfl, rfl, rfl, trivial⟩ (by rw [← s1, ← s2]; exact SubL.refl _) rfl⟩
    · obtain rfl : i = 64 := by omega
      have t1 : decide (((64 : Nat) : Int) < 64) = false := by decide
      have e1 : ∀ c, xorP KY c 64 = xorL KY c := fun c => by rw [xorP, List.take_of_length_le (by omega), List.drop_of_length_le (by omega), List.append_nil]
      rw [e1, e1]
      haveI : ByL (xorL KY 54) := ⟨xorL_byte KY (by decide) hkb⟩
      haveI : ByL (xorL KY 92) := ⟨xorL_byte KY (by decide) hkb⟩
      haveI : BLc 64 (xorL KY 54) := ⟨⟨by rw [xorL_len]; exact hkl, ByL.out⟩, by decide⟩
      haveI : BLc 64 (xorL KY 92) := ⟨⟨by rw [xorL_len]; exact hkl, ByL.out⟩, by decide⟩
      clear hkb hkl e1 hi hlt
      repeat' (first | (refine wlS ?_) | (refine wlG ?_) | (refine wlB ?_) | ((with_reducible refine sel_call ?_); refine wl_rd rfl rfl (rd_call rfl rfl rfl (fun w hm => by with_reducible first | exact NG w | exact WG w (hm.below rfl) (VwB.out w hm))) ?_) | (refine wlE ?_) | (refine efSvvp ?_; intro v hv hp) | (refine efSvao ?_; intro v oa ho) | (refine efG ?_) | (refine efGnn ?_; intro n hn) | (refine efBnn ?_; intro n hn) | (refine efB ?_) | (refine efBS ?_) | (refine wl_skip rfl rfl ?_) | ((with_reducible refine wc_seq ?_); intro K hK) | (refine auC ?_) | (refine wc_cond rfl (fun hc => ?_) (fun hc => ?_)) | ((with_reducible refine wc_drawT (by kernel_rfl) ?_); (try simp only [List.append_eq, List.cons_append, List.nil_append, List.length_cons, List.length_nil, Nat.reduceAdd])) | ((with_reducible refine sel_wh ?_); (refine wh_if (by decide +kernel) ?_); first | (refine wh_take (lq := []) rfl rfl rfl rfl (by first | exact rvS | exact rvG | exact rvE) (Or.inl rfl) ?_) | (refine wh_takeL rfl rfl rfl rfl (by first | exact rvS | exact rvG | exact rvE) (by decide +kernel) ?_)) | (refine whS ?_; intro v hv hp) | ((with_reducible refine sel_wh ?_); first | (refine wh_pass rfl rfl rfl rfl ?_) | (refine wh_done rfl ?_) | (refine wh_all rfl ?_)) | ((with_reducible refine sel_rest ?_); first | exact rest_nil rfl | refine rest_cons rfl rfl ?_ ?_) | ((with_reducible refine sel_nx ?_); first | refine next_of ?_ | refine next_late (by decide +kernel) ?_) | (refine auP ?_) | ((refine auR ?_); clear hK K) | (refine auR ?_) | ((with_reducible refine hK _ _ ?_); clear hK K) | fail)
      first | refine end_ret (ResP.cell rfl ld_wholeG ResP.nil) ?_ | refine end_normal (ResP.cell rfl ld_wholeG ResP.nil) ?_
      first | rfl | (show _ = _; rfl) | (simp only [tupV, *]; done)
  · have t1 : decide ((m : Int) > 64) = false := decide_eq_false (by omega)
    have hq : (List.replicate 64 0).take 0 ++ (key.take m ++ (List.replicate 64 0).drop (0 + m)) = keyL key := by
      rw [List.take_of_length_le (Nat.le_of_eq hpl), keyL, if_neg (by omega), List.drop_replicate, Nat.zero_add, hpl]; rfl
    have hmn : Nat.min m 64 = m := Nat.min_eq_left (by omega)
    have hf : 0 + m ≤ (List.replicate 64 0).length := by simp; omega
    generalize keyL key = KY at *
    haveI : NBy KY 64 := ⟨hkl⟩
    rw [hnew]
    clear hnew
    refine fn_ret (N := _) Tryd.func20 rfl Tryd.ntmps20 Tryd.results20 (by simp) ?_
    simp only [initS, Nat.reduceAdd, Nat.zero_add]
    repeat' (first | (refine wlS ?_) | (refine wlG ?_) | (refine wlB ?_) | ((with_reducible refine sel_call ?_); refine wl_rd rfl rfl (rd_call rfl rfl rfl (fun w hm => by with_reducible exact NG w)) ?_) | (refine wlE ?_) | (refine efSvvp ?_; intro v hv hp) | (refine efSvao ?_; intro v oa ho) | (refine efM ?_) | (refine efMvao ?_; intro v oa ho) | ((with_reducible refine sel_store ?_); first | (refine wl_putB (e := 5) rfl rfl rfl rfl rfl ?_; intro oa ho)) | (refine efG ?_) | (refine efGnn ?_; intro n hn) | (refine efZCnn ?_; intro n hn) | (refine efBnn ?_; intro n hn) | (refine efB ?_) | (refine efBS ?_) | (refine wl_skip rfl rfl ?_) | (refine wdS ?_) | (refine wdG ?_) | ((with_reducible refine seld_call ?_); refine wd_rd hm0 rfl rfl rfl rfl (rd_call rfl rfl rfl (fun w hm => by with_reducible exact NG w)) ?_) | (refine wdE ?_) | (refine wdT ?_) | (refine wdTO ?_) | (refine wd_skip rfl rfl ?_) | ((with_reducible refine seld_nil ?_); refine wd_nil hm0 ?_; clear hm0 hw0) | ((with_reducible refine wc_seq ?_); intro K hK) | (refine auC ?_) | (refine wc_cond rfl (fun hc => ?_) (fun hc => ?_)) | (refine wc_draw (by kernel_rfl) (by kernel_rfl) (by decide +kernel) ?_; intro w0 hw0 hm0; (try simp only [List.append_eq, List.cons_append, List.nil_append])) | (refine auP ?_) | ((refine auR ?_); clear hK K) | (refine auR ?_) | ((with_reducible refine hK _ _ ?_); clear hK K) | fail)
    rename_i n2 hn2 n4 hn4
    refine wc_loop (σ := Nat) (fun i => [(2, ptr n2), (4, ptr n4), (5, ptr n), (17, .int .i64 (i : Int))])
      (fun i => [(n, (bys (xorP KY 92 i), 55)), (n4, (bys (xorP KY 54 i), 55)), (n2, (rwA (sgM zeroM), 59))])
      (fun i => i ≤ 64) (fun i => 64 - i) 0 (Nat.zero_le _) (Fits.of ⟨rfl, rfl, rfl, rfl, trivial⟩ (by rw [show xorP KY 92 0 = KY from rfl, show xorP KY 54 0 = KY from rfl]; first | exact SubL.refl _ | exact .keep (.keep (.skip (.keep .nil)))) rfl) ?_
    intro i hi
    haveI : NBy (xorP KY 54 i) 64 := ⟨by rw [xorP_len]; exact hkl⟩
    haveI : NBy (xorP KY 92 i) 64 := ⟨by rw [xorP_len]; exact hkl⟩
    by_cases hlt : i < 64
    · have t1 : decide ((i : Int) < 64) = true := decide_eq_true (by omega)
      have k1 : IntKind.i64.wrap ((i : Int) + 1) = ((i + 1 : Nat) : Int) := by rw [wrap_i64 _ (by omega) (by omega)]; omega
      have j1 : (i : Int) < ((64 : Nat) : Int) := by omega
      have g1 := bys_get (l := xorP KY 54 i) (i := i) (by rw [xorP_len]; omega)
      have g2 := bys_get (l := xorP KY 92 i) (i := i) (by rw [xorP_len]; omega)
      rw [xorP_get (by omega)] at g1 g2
      have s1 := xorP_step (k := KY) (c := 54) (i := i) (by omega)
      have s2 := xorP_step (k := KY) (c := 92) (i := i) (by omega)
      have hb : KY.getD i 0 < 256 := hkb _ (by rw [show KY.getD i 0 = KY[i]'(by omega) by simp [List.getD, (by omega : i < KY.length)]]; exact List.getElem_mem _)
      generalize KY.getD i 0 = b at *
      have x1 : bits .xor .u8 (b : Int) 54 = ((Nat.xor b 54 : Nat) : Int) := xor_u8 (b := 54) hb (by decide)
      have x2 : bits .xor .u8 (b : Int) 92 = ((Nat.xor b 92 : Nat) : Int) := xor_u8 (b := 92) hb (by decide)
      clear WG DG NG
      repeat' (first | (refine wlS ?_) | (refine wlB ?_) | (refine wlE ?_) | (refine efSvvp ?_; intro v hv hp) | (refine efSvao ?_; intro v oa ho) | (refine efBnn ?_; intro n hn) | (refine efB ?_) | (refine efBS ?_) | (refine wl_skip rfl rfl ?_) | (refine wdS ?_) | (refine wdE ?_) | (refine wdT ?_) | (refine wdTO ?_) | (refine wd_skip rfl rfl ?_) | ((with_reducible refine seld_nil ?_); refine wd_nil hm0 ?_; clear hm0 hw0) | ((with_reducible refine wc_seq ?_); intro K hK) | (refine auC ?_) | (refine wc_cond rfl (fun hc => ?_) (fun hc => ?_)) | (refine wc_draw (by kernel_rfl) (by kernel_rfl) (by decide +kernel) ?_; intro w0 hw0 hm0; (try simp only [List.append_eq, List.cons_append, List.nil_append])) | (refine auP ?_) | ((refine auR ?_); clear hK K) | (refine auR ?_) | ((with_reducible refine hK _ _ ?_); clear hK K) | fail)
      exact ⟨i + 1, hlt, by omega, Fits.of ⟨rfl, rfl, rfl, rfl, trivial⟩ (by rw [← s1, ← s2]; exact SubL.refl _) rfl⟩
    · obtain rfl : i = 64 := by omega
      have t1 : decide (((64 : Nat) : Int) < 64) = false := by decide
      have e1 : ∀ c, xorP KY c 64 = xorL KY c := fun c => by rw [xorP, List.take_of_length_le (by omega), List.drop_of_length_le (by omega), List.append_nil]
      rw [e1, e1]
      haveI : ByL (xorL KY 54) := ⟨xorL_byte KY (by decide) hkb⟩
      haveI : ByL (xorL KY 92) := ⟨xorL_byte KY (by decide) hkb⟩
      haveI : BLc 64 (xorL KY 54) := ⟨⟨by rw [xorL_len]; exact hkl, ByL.out⟩, by decide⟩
      haveI : BLc 64 (xorL KY 92) := ⟨⟨by rw [xorL_len]; exact hkl, ByL.out⟩, by decide⟩
      clear hkb hkl e1 hi hlt
      repeat' (first | (refine wlS ?_) | (refine wlG ?_) | (refine wlB ?_) | ((with_reducible refine sel_call ?_); refine wl_rd rfl rfl (rd_call rfl rfl rfl (fun w hm => by with_reducible first | exact NG w | exact WG w (hm.below rfl) (VwB.out w hm))) ?_) | (refine wlE ?_) | (refine efSvvp ?_; intro v hv hp) | (refine efSvao ?_; intro v oa ho) | (refine efG ?_) | (refine efGnn ?_; intro n hn) | (refine efBnn ?_; intro n hn) | (refine efB ?_) | (refine efBS ?_) | (refine wl_skip rfl rfl ?_) | ((with_reducible refine wc_seq ?_); intro K hK) | (refine auC ?_) | (refine wc_cond rfl (fun hc => ?_) (fun hc => ?_)) | ((with_reducible refine wc_drawT (by kernel_rfl) ?_); (try simp only [List.append_eq, List.cons_append, List.nil_append, List.length_cons, List.length_nil, Nat.reduceAdd])) | ((with_reducible refine sel_wh ?_); (refine wh_if (by decide +kernel) ?_); first | (refine wh_take (lq := []) rfl rfl rfl rfl (by first | exact rvS | exact rvG | exact rvE) (Or.inl rfl) ?_) | (refine wh_takeL rfl rfl rfl rfl (by first | exact rvS | exact rvG | exact rvE) (by decide +kernel) ?_)) | (refine whS ?_; intro v hv hp) | ((with_reducible refine sel_wh ?_); first | (refine wh_pass rfl rfl rfl rfl ?_) | (refine wh_done rfl ?_) | (refine wh_all rfl ?_)) | ((with_reducible refine sel_rest ?_); first | exact rest_nil rfl | refine rest_cons rfl rfl ?_ ?_) | ((with_reducible refine sel_nx ?_); first | refine next_of ?_ | refine next_late (by decide +kernel) ?_) | (refine auP ?_) | ((refine auR ?_); clear hK K) | (refine auR ?_) | ((with_reducible refine hK _ _ ?_); clear hK K) | fail)
      first | refine end_ret (ResP.cell rfl ld_wholeG ResP.nil) ?_ | refine end_normal (ResP.cell rfl ld_wholeG ResP.nil) ?_
      first | rfl | (show _ = _; rfl) | (simp only [tupV, *]; done)
end Go.Proofs.YtlpalhagndmpjaaDoor
namespace Go.Proofs.YtlpalhagndmpjaaDoor
open Go.RowKit
attribute [local irreducible] rwA bys iw
set_option linter.unusedVariables false
set_option maxRecDepth 100000
set_option linter.unusedSimpArgs false
set_option maxRecDepth 100000 in
set_option maxHeartbeats 4000000 in
theorem mwrite_g (w : World) (hT : Tab w) (w' : World) (hb : Below w.heap.size w w') {st : MS} [h : MSo st] {v : Value} {n : Nat} {p : List Nat} (hq : Cb w' v n p) :
    Calls Tryd.prog 21 [mv st, v].toArray w' (Ret (mv (st.write p)) w') := by
  have WG := write_g w' (hT.below hb)
  have i1 := hq.old
  haveI : ByL p := ⟨hq.ok.by'⟩
  have hw : st.write p = ⟨st.inner.write p, st.outer⟩ := rfl
  rw [hw]
  clear hw hb hT hq
  refine fn_ret (N := _) Tryd.func21 rfl Tryd.ntmps21 Tryd.results21 (by simp) ?_
  simp only [initS, Nat.reduceAdd, Nat.zero_add]
  repeat' (first | (refine wlS ?_) | (refine wlG ?_) | (refine wlB ?_) | ((with_reducible refine sel_call ?_); refine wl_rd rfl rfl (rd_call rfl rfl rfl (fun w hm => by with_reducible exact WG w (hm.below rfl) (VwB.out w hm))) ?_) | (refine wlE ?_) | (refine efSvao ?_; intro v oa ho) | (refine efG ?_) | (refine efGnn ?_; intro n hn) | (refine efBnn ?_; intro n hn) | (refine efB ?_) | (refine efBS ?_) | (refine wl_skip rfl rfl ?_) | ((with_reducible refine wc_seq ?_); intro K hK) | (refine auC ?_) | (refine wc_cond rfl (fun hc => ?_) (fun hc => ?_)) | (refine wc_draw (by kernel_rfl) (by kernel_rfl) (by decide +kernel) ?_; intro w0 hw0 hm0; (try simp only [List.append_eq, List.cons_append, List.nil_append])) | (refine auP ?_) | ((refine auR ?_); clear hK K) | (refine auR ?_) | ((with_reducible refine hK _ _ ?_); clear hK K) | fail)
  first | refine end_ret (ResP.cell rfl ld_wholeG ResP.nil) ?_ | refine end_normal (ResP.cell rfl ld_wholeG ResP.nil) ?_
  first | rfl | (show _ = _; rfl) | (simp only [tupV, *]; done)
end Go.Proofs.YtlpalhagndmpjaaDoor
namespace Go.Proofs.YtlpalhagndmpjaaDoor
open Go.RowKit
attribute [local irreducible] rwA bys iw
set_option linter.unusedVariables false
set_option maxRecDepth 100000
set_option linter.unusedSimpArgs false
set_option maxRecDepth 100000 in
set_option maxHeartbeats 4000000 in
theorem msum_g (w : World) (hT : Tab w) (w' : World) (hb : Below w.heap.size w w') {st : MS} [h : MSo st] :
    Calls Tryd.prog 22 [mv st].toArray w' (Ret (.agg (bys st.sum)) w') := by
  have WG := write_g w' (hT.below hb)
  have SG := sum_g w' (hT.below hb)
  haveI : ByL st.inner.sum := inferInstance
  haveI : BLc 32 st.inner.sum := ⟨⟨sum_len h.inner.out, ByL.out⟩, by decide⟩
  have hw : st.sum = (st.outer.write st.inner.sum).sum := rfl
  rw [hw]
  clear hw hb hT
  refine fn_ret (N := _) Tryd.func22 rfl Tryd.ntmps22 Tryd.results22 (by simp) ?_
  simp only [initS, Nat.reduceAdd, Nat.zero_add]
  repeat' (first | (refine wlS ?_) | (refine wlG ?_) | (refine wlB ?_) | ((with_reducible refine sel_call ?_); refine wl_rd rfl rfl (rd_call rfl rfl rfl (fun w hm => by with_reducible first | exact WG w (hm.below rfl) (VwB.out w hm) | exact SG w (hm.below rfl))) ?_) | (refine wlE ?_) | (refine efSvvp ?_; intro v hv hp) | (refine efSvao ?_; intro v oa ho) | (refine efG ?_) | (refine efGnn ?_; intro n hn) | (refine efZCnn ?_; intro n hn) | (refine efBnn ?_; intro n hn) | (refine efB ?_) | (refine efBS ?_) | (refine wl_skip rfl rfl ?_) | ((with_reducible refine wc_seq ?_); intro K hK) | (refine auC ?_) | (refine wc_cond rfl (fun hc => ?_) (fun hc => ?_)) | ((with_reducible refine wc_drawT (by kernel_rfl) ?_); (try simp only [List.append_eq, List.cons_append, List.nil_append, List.length_cons, List.length_nil, Nat.reduceAdd])) | ((with_reducible refine sel_wh ?_); (refine wh_if (by decide +kernel) ?_); first | (refine wh_take (lq := []) rfl rfl rfl rfl (by first | exact rvS | exact rvG | exact rvB | exact rvE) (Or.inl rfl) ?_) | (refine wh_takeL rfl rfl rfl rfl (by first | exact rvS | exact rvG | exact rvB | exact rvE) (by decide +kernel) ?_)) | (refine whS ?_; intro v hv hp) | ((with_reducible refine sel_wh ?_); first | (refine wh_pass rfl rfl rfl rfl ?_) | (refine wh_done rfl ?_) | (refine wh_all rfl ?_)) | ((with_reducible refine sel_rest ?_); first | exact rest_nil rfl | refine rest_cons rfl rfl ?_ ?_) | ((with_reducible refine sel_nx ?_); first | refine next_of ?_ | refine next_late (by decide +kernel) ?_) | (refine auP ?_) | ((refine auR ?_); clear hK K) | (refine auR ?_) | ((with_reducible refine hK _ _ ?_); clear hK K) | fail)
  first | refine end_ret (ResP.cell rfl ld_whole ResP.nil) ?_ | refine end_normal (ResP.cell rfl ld_whole ResP.nil) ?_
  first | rfl | (show _ = _; rfl) | (simp only [tupV, *]; done)
end Go.Proofs.YtlpalhagndmpjaaDoor
namespace Go.Proofs.YtlpalhagndmpjaaDoor
open Go.RowKit
attribute [local irreducible] rwA bys iw
set_option linter.unusedVariables false
set_option maxRecDepth 100000
set_option linter.unusedSimpArgs false
theorem mnew_g (w : World) (hT : Tab w) (w' : World) (hb : Below w.heap.size w w') {v : Value} {n : Nat} {p : List Nat} (hq : Cb w' v n p) :
    Calls Tryd.prog 20 [v].toArray w' (Ret (mv (newM p)) w') := mnew_c w' (hT.below hb) hq
theorem newM_ok {key : List Nat} (h : ∀ x ∈ key, x < 256) : MSo (newM key) := by
  have hkb := keyL_byte key h
  haveI : ByL (xorL (keyL key) 54) := ⟨xorL_byte _ (by decide) hkb⟩
  haveI : ByL (xorL (keyL key) 92) := ⟨xorL_byte _ (by decide) hkb⟩
  exact ⟨inferInstanceAs (HSo (newH.write (xorL (keyL key) 54))), inferInstanceAs (HSo (newH.write (xorL (keyL key) 92)))⟩
instance {key : List Nat} [h : ByL key] : MSo (newM key) := newM_ok h.out
instance {key p : List Nat} [ByL key] [ByL p] : NBy (mark key p) 32 := inferInstanceAs (NBy ((newM key).write p).sum 32)
instance {key p : List Nat} : ByL (mark key p) := inferInstanceAs (ByL ((newM key).write p).sum)
end Go.Proofs.YtlpalhagndmpjaaDoor
namespace Go.Proofs.YtlpalhagndmpjaaDoor
/-- What stands ahead of a body of n bytes. -/
def headL (tag n : Nat) : List Nat := if n < 128 then [tag, n] else if n < 256 then [tag, 129, n] else [tag, 130, n / 256 % 256, n % 256]
def wr1 (x : Nat × List Nat) : List Nat := headL x.1 x.2.length ++ x.2
def wrL (l : List (Nat × List Nat)) : List Nat := (l.map wr1).flatten
/-- May that be written? -/
def fitsL (l : List (Nat × List Nat)) : Prop := l.length ≤ 200 ∧ ∀ x ∈ l, x.2.length ≤ 4096
theorem wrL_app (a b : List (Nat × List Nat)) : wrL (a ++ b) = wrL a ++ wrL b := by simp [wrL]
theorem wrL_nil : wrL [] = [] := rfl
theorem wrL_one (x : Nat × List Nat) : wrL [x] = wr1 x := by simp [wrL]
theorem wrL_snoc {l : List (Nat × List Nat)} {i : Nat} {x : Nat × List Nat} (h : l[i]? = some x) : wrL (l.take (i + 1)) = wrL (l.take i) ++ wr1 x := by
  rw [List.take_add_one, h, wrL_app]
  simp [wrL_one]
theorem headL_len (t n : Nat) : (headL t n).length ≤ 4 ∧ 2 ≤ (headL t n).length := by
  unfold headL; split <;> (try split) <;> simp
theorem wr1_len (x : Nat × List Nat) : (wr1 x).length ≤ x.2.length + 4 := by
  have := (headL_len x.1 x.2.length).1
  simp only [wr1, List.length_append]; omega
theorem wrL_len : ∀ {l : List (Nat × List Nat)}, (∀ x ∈ l, x.2.length ≤ 4096) → (wrL l).length ≤ 4100 * l.length
  | [], _ => by simp [wrL]
  | x :: r, h => by
    have h1 := wr1_len x
    have h2 := h x (by simp)
    have h3 := wrL_len (l := r) fun y hy => h y (by simp [hy])
    rw [show x :: r = [x] ++ r from rfl, wrL_app, List.length_append, wrL_one]
    simp only [List.length_append, List.length_cons, List.length_nil]
    omega
/-- Of two items' texts none is the beginning of the other, unless they are one. -/
theorem wr1_front {x y : Nat × List Nat} (hx : x.2.length ≤ 4096) (hy : y.2.length ≤ 4096) {s t : List Nat} (h : wr1 x ++ s = wr1 y ++ t) : x = y ∧ s = t := by
  obtain ⟨a, p⟩ := x
  obtain ⟨b, q⟩ := y
  simp only [wr1] at h hx hy
  have key : a = b ∧ p.length = q.length ∧ p ++ s = q ++ t := by
    generalize hn : p.length = n at *
    generalize hm : q.length = m at *
    by_cases n1 : n < 128 <;> by_cases n2 : n < 256 <;> by_cases m1 : m < 128 <;> by_cases m2 : m < 256 <;> simp [headL, n1, n2, m1, m2] at h <;>
      first | exact ⟨h.1, h.2.1, h.2.2⟩ | exact ⟨h.1, by omega, h.2.2.2⟩ | (exfalso; omega)
  obtain ⟨rfl, hl, h3⟩ := key
  obtain ⟨rfl, h4⟩ := List.append_inj h3 hl
  exact ⟨rfl, h4⟩
end Go.Proofs.YtlpalhagndmpjaaDoor
namespace Go.Proofs.YtlpalhagndmpjaaDoor
set_option linter.unusedVariables false
set_option linter.unusedSimpArgs false
/-- An error's number, how long, and of how many bytes that is. -/
def lenD : List Nat → Nat × Nat × Nat
  | [] => (3, 0, 0)
  | k :: r => if k < 128 then (0, k, 1) else if k = 128 ∨ k > 130 then (4, 0, 0) else if r.length + 1 < k - 127 then (3, 0, 0)
    else if k = 129 then (if r.getD 0 0 < 128 then (4, 0, 0) else (0, r.getD 0 0, 2))
    else (if r.getD 0 0 * 256 + r.getD 1 0 < 256 then (4, 0, 0) else (0, r.getD 0 0 * 256 + r.getD 1 0, 3))
/-- An error's number, the first item, and of how many bytes it is. -/
def firstD : List Nat → Nat × (Nat × List Nat) × Nat
  | [] => (3, (0, []), 0)
  | t :: r => if (lenD r).1 ≠ 0 then ((lenD r).1, (0, []), 0) else if (lenD r).2.1 > 4096 then (2, (0, []), 0) else if (lenD r).2.1 > r.length - (lenD r).2.2 then (3, (0, []), 0)
    else (0, (t, (r.drop (lenD r).2.2).take (lenD r).2.1), 1 + (lenD r).2.2 + (lenD r).2.1)
theorem lenD_a {k : Nat} (h : k < 128) (r : List Nat) : lenD (k :: r) = (0, k, 1) := by rw [lenD, if_pos h]
theorem lenD_b {k : Nat} (h : k = 128 ∨ k > 130) (r : List Nat) : lenD (k :: r) = (4, 0, 0) := by rw [lenD, if_neg (by omega), if_pos h]
theorem lenD_129s : lenD [129] = (3, 0, 0) := rfl
theorem lenD_129 (b : Nat) (r : List Nat) : lenD (129 :: b :: r) = if b < 128 then (4, 0, 0) else (0, b, 2) := by
  rw [lenD, if_neg (by omega), if_neg (by omega), if_neg (by simp only [List.length_cons]; omega), if_pos rfl]; rfl
theorem lenD_130s : lenD [130] = (3, 0, 0) := rfl
theorem lenD_130t (b : Nat) : lenD [130, b] = (3, 0, 0) := rfl
theorem lenD_130 (b c : Nat) (r : List Nat) : lenD (130 :: b :: c :: r) = if b * 256 + c < 256 then (4, 0, 0) else (0, b * 256 + c, 3) := by
  rw [lenD, if_neg (by omega), if_neg (by omega), if_neg (by simp only [List.length_cons]; omega), if_neg (by omega)]; rfl
theorem firstD_cons (t : Nat) (r : List Nat) : firstD (t :: r) = if (lenD r).1 ≠ 0 then ((lenD r).1, (0, []), 0) else if (lenD r).2.1 > 4096 then (2, (0, []), 0) else if (lenD r).2.1 > r.length - (lenD r).2.2 then (3, (0, []), 0)
    else (0, (t, (r.drop (lenD r).2.2).take (lenD r).2.1), 1 + (lenD r).2.2 + (lenD r).2.1) := rfl
/-- What stands ahead: the ways. -/
theorem lenD_ways {M : List Nat → Prop} (h0 : M []) (h1 : ∀ k r, k < 128 → M (k :: r)) (h2 : ∀ k r, k = 128 ∨ k > 130 → M (k :: r)) (h3 : M [129]) (h4 : ∀ b r, M (129 :: b :: r)) (h5 : M [130]) (h6 : ∀ b, M [130, b]) (h7 : ∀ b c r, M (130 :: b :: c :: r)) : ∀ r, M r
  | [] => h0
  | k :: r => by
    by_cases c1 : k < 128
    · exact h1 k r c1
    · by_cases c2 : k = 128 ∨ k > 130
      · exact h2 k r c2
      · by_cases c3 : k = 129
        · subst c3
          cases r with
          | nil => exact h3
          | cons b r => exact h4 b r
        · obtain rfl : k = 130 := by omega
          match r with
          | [] => exact h5
          | [b] => exact h6 b
          | b :: c :: r => exact h7 b c r
theorem lenD_at : ∀ {r : List Nat}, (lenD r).1 = 0 → 1 ≤ (lenD r).2.2 ∧ (lenD r).2.2 ≤ 3 ∧ (lenD r).2.2 ≤ r.length := fun {r} => by
  refine lenD_ways (M := fun r => (lenD r).1 = 0 → 1 ≤ (lenD r).2.2 ∧ (lenD r).2.2 ≤ 3 ∧ (lenD r).2.2 ≤ r.length) ?_ ?_ ?_ ?_ ?_ ?_ ?_ ?_ r
  · intro h; simp [lenD] at h
  · intro k r hk _; rw [lenD_a hk]; simp
  · intro k r hk h; rw [lenD_b hk] at h; simp at h
  · intro h; simp [lenD_129s] at h
  · intro b r h
    rw [lenD_129] at h ⊢
    by_cases c : b < 128
    · rw [if_pos c] at h; simp at h
    · rw [if_neg c]; simp
  · intro h; simp [lenD_130s] at h
  · intro b h; simp [lenD_130t] at h
  · intro b c r h
    rw [lenD_130] at h ⊢
    by_cases c5 : b * 256 + c < 256
    · rw [if_pos c5] at h; simp at h
    · rw [if_neg c5]; simp
/-- What was written is read as it was, whatever stands behind it. -/
theorem lenD_head {t n : Nat} (hn : n ≤ 4096) (s : List Nat) : ∃ r a, headL t n = t :: r ∧ lenD (r ++ s) = (0, n, a) ∧ r.length = a := by
  unfold headL
  by_cases c1 : n < 128
  · exact ⟨[n], 1, by simp [c1], lenD_a c1 _, rfl⟩
  · by_cases c2 : n < 256
    · refine ⟨[129, n], 2, by simp [c1, c2], ?_, rfl⟩
      show lenD (129 :: n :: s) = _
      rw [lenD_129, if_neg c1]
    · refine ⟨[130, n / 256 % 256, n % 256], 3, by simp [c1, c2], ?_, rfl⟩
      have e : n / 256 % 256 * 256 + n % 256 = n := by omega
      show lenD (130 :: (n / 256 % 256) :: (n % 256) :: s) = _
      rw [lenD_130, e, if_neg c2]
theorem firstD_wr1 {x : Nat × List Nat} (hx : x.2.length ≤ 4096) (s : List Nat) : firstD (wr1 x ++ s) = (0, x, (wr1 x).length) := by
  obtain ⟨t, q⟩ := x
  dsimp only at hx
  obtain ⟨r, a, h1, h2, h3⟩ := lenD_head (t := t) hx (q ++ s)
  have h4 : wr1 (t, q) ++ s = t :: (r ++ (q ++ s)) := by rw [wr1, h1]; simp
  have h5 : (r ++ (q ++ s)).length - a = q.length + s.length := by simp only [List.length_append]; omega
  have h6 : ((r ++ (q ++ s)).drop a).take q.length = q := by rw [List.drop_left' h3, List.take_left]
  have h7 : (wr1 (t, q)).length = 1 + a + q.length := by rw [wr1, h1]; simp only [List.length_append, List.length_cons]; omega
  rw [h4, firstD_cons, h2]
  dsimp only
  rw [h5, h6, h7, if_neg (by simp), if_neg (by omega), if_neg (by omega)]
/-- What is read is written so. -/
theorem lenD_back : ∀ {r : List Nat}, (∀ y ∈ r, y < 256) → (lenD r).1 = 0 → ∀ t : Nat, headL t (lenD r).2.1 = t :: r.take (lenD r).2.2 := fun {r} => by
  refine lenD_ways (M := fun r => (∀ y ∈ r, y < 256) → (lenD r).1 = 0 → ∀ t : Nat, headL t (lenD r).2.1 = t :: r.take (lenD r).2.2) ?_ ?_ ?_ ?_ ?_ ?_ ?_ ?_ r
  · intro _ h; simp [lenD] at h
  · intro k r hk _ _ t; rw [lenD_a hk]; simp [headL, hk]
  · intro k r hk _ h; rw [lenD_b hk] at h; simp at h
  · intro _ h; simp [lenD_129s] at h
  · intro b r hb h t
    rw [lenD_129] at h ⊢
    by_cases c : b < 128
    · rw [if_pos c] at h; simp at h
    · rw [if_neg c]
      have h1 : b < 256 := hb b (by simp)
      simp [headL, c, h1]
  · intro _ h; simp [lenD_130s] at h
  · intro b _ h; simp [lenD_130t] at h
  · intro b c r hb h t
    rw [lenD_130] at h ⊢
    by_cases c5 : b * 256 + c < 256
    · rw [if_pos c5] at h; simp at h
    · rw [if_neg c5]
      have h1 : b < 256 := hb b (by simp)
      have h2 : c < 256 := hb c (by simp)
      have e1 : (b * 256 + c) / 256 % 256 = b := by omega
      have e2 : (b * 256 + c) % 256 = c := by omega
      dsimp only
      rw [headL, if_neg (by omega), if_neg c5, e1, e2]
      rfl
theorem firstD_back {p : List Nat} (hb : ∀ y ∈ p, y < 256) {x : Nat × List Nat} {n : Nat} (h : firstD p = (0, x, n)) : p = wr1 x ++ p.drop n ∧ n = (wr1 x).length ∧ x.2.length ≤ 4096 ∧ x.1 < 256 := by
  cases p with
  | nil => simp [firstD] at h
  | cons t r =>
    rw [firstD_cons] at h
    by_cases c1 : (lenD r).1 ≠ 0
    · rw [if_pos c1] at h; exact absurd (congrArg (·.1) h) c1
    · rw [if_neg c1] at h
      by_cases c2 : (lenD r).2.1 > 4096
      · rw [if_pos c2] at h; simp at h
      · rw [if_neg c2] at h
        by_cases c3 : (lenD r).2.1 > r.length - (lenD r).2.2
        · rw [if_pos c3] at h; simp at h
        · rw [if_neg c3] at h
          have c1' : (lenD r).1 = 0 := Decidable.of_not_not c1
          obtain ⟨a1, a2, a3⟩ := lenD_at c1'
          have hbk := lenD_back (fun y hy => hb y (by simp [hy])) c1' t
          simp only [Prod.mk.injEq, true_and] at h
          obtain ⟨rfl, rfl⟩ := h
          have hl : ((r.drop (lenD r).2.2).take (lenD r).2.1).length = (lenD r).2.1 := by rw [List.length_take, List.length_drop]; omega
          have hw : wr1 (t, (r.drop (lenD r).2.2).take (lenD r).2.1) = t :: (r.take (lenD r).2.2 ++ (r.drop (lenD r).2.2).take (lenD r).2.1) := by
            rw [wr1]; dsimp only; rw [hl, hbk]; rfl
          have hd : r = r.take (lenD r).2.2 ++ ((r.drop (lenD r).2.2).take (lenD r).2.1 ++ r.drop ((lenD r).2.2 + (lenD r).2.1)) := by
            rw [← List.drop_drop, List.take_append_drop, List.take_append_drop]
          refine ⟨?_, ?_, by dsimp only; omega, hb t (by simp)⟩
          · rw [hw, show 1 + (lenD r).2.2 + (lenD r).2.1 = (lenD r).2.2 + (lenD r).2.1 + 1 by omega, List.drop_succ_cons]
            rw [List.cons_append, List.append_assoc, ← hd]
          · rw [hw]; simp only [List.length_cons, List.length_append, List.length_take, List.length_drop]; omega
/-- What is cut is too short. -/
theorem firstD_short {t : Nat} {r : List Nat} (h : (lenD r).1 = 3 ∨ ((lenD r).1 = 0 ∧ (lenD r).2.1 ≤ 4096 ∧ (lenD r).2.1 > r.length - (lenD r).2.2)) : firstD (t :: r) = (3, (0, []), 0) := by
  rw [firstD_cons]
  rcases h with h | ⟨h1, h2, h3⟩
  · rw [if_pos (by omega), h]
  · rw [if_neg (by omega), if_neg (by omega), if_pos h3]
theorem firstD_cut {x : Nat × List Nat} (hx : x.2.length ≤ 4096) {k : Nat} (hk : k < (wr1 x).length) : firstD ((wr1 x).take k) = (3, (0, []), 0) := by
  obtain ⟨t, q⟩ := x
  dsimp only at hx
  cases k with
  | zero => rfl
  | succ k =>
    unfold wr1 headL at hk ⊢
    dsimp only at hk ⊢
    by_cases c1 : q.length < 128
    · rw [if_pos c1] at hk ⊢
      cases k with
      | zero => exact firstD_short (.inl rfl)
      | succ k =>
        simp only [List.cons_append, List.nil_append, List.length_cons] at hk
        simp only [List.cons_append, List.nil_append, List.take_succ_cons]
        refine firstD_short (.inr ?_)
        rw [lenD_a c1]
        refine ⟨rfl, by dsimp only; omega, ?_⟩
        dsimp only
        rw [List.length_cons, List.length_take]
        omega
    · rw [if_neg c1] at hk ⊢
      by_cases c2 : q.length < 256
      · rw [if_pos c2] at hk ⊢
        match k with
        | 0 => exact firstD_short (.inl rfl)
        | 1 => exact firstD_short (.inl rfl)
        | k + 2 =>
          simp only [List.cons_append, List.nil_append, List.length_cons] at hk
          simp only [List.cons_append, List.nil_append, List.take_succ_cons]
          refine firstD_short (.inr ?_)
          rw [lenD_129, if_neg c1]
          refine ⟨rfl, by dsimp only; omega, ?_⟩
          dsimp only
          rw [List.length_cons, List.length_cons, List.length_take]
          omega
      · rw [if_neg c2] at hk ⊢
        have e : q.length / 256 % 256 * 256 + q.length % 256 = q.length := by omega
        match k with
        | 0 => exact firstD_short (.inl rfl)
        | 1 => exact firstD_short (.inl rfl)
        | 2 => exact firstD_short (.inl rfl)
        | k + 3 =>
          simp only [List.cons_append, List.nil_append, List.length_cons] at hk
          simp only [List.cons_append, List.nil_append, List.take_succ_cons]
          refine firstD_short (.inr ?_)
          rw [lenD_130, e, if_neg c2]
          refine ⟨rfl, by dsimp only; omega, ?_⟩
          dsimp only
          rw [List.length_cons, List.length_cons, List.length_cons, List.length_take]
          omega
/-! ### All -/
/-- An error's number, and the items: of at most 200 with those that are there. -/
def rdL : Nat → Nat → List Nat → Nat × List (Nat × List Nat)
  | 0, _, _ => (0, [])
  | _ + 1, _, [] => (0, [])
  | f + 1, c, y :: r => if c = 200 then (2, []) else if (firstD (y :: r)).1 ≠ 0 then ((firstD (y :: r)).1, [])
    else if (rdL f (c + 1) ((y :: r).drop (firstD (y :: r)).2.2)).1 ≠ 0 then ((rdL f (c + 1) ((y :: r).drop (firstD (y :: r)).2.2)).1, [])
    else (0, (firstD (y :: r)).2.1 :: (rdL f (c + 1) ((y :: r).drop (firstD (y :: r)).2.2)).2)
def rdD (p : List Nat) : Nat × List (Nat × List Nat) := if p.length > 65536 then (2, []) else rdL p.length 0 p
theorem wr1_pos (x : Nat × List Nat) : 2 ≤ (wr1 x).length := by
  have := (headL_len x.1 x.2.length).2
  rw [wr1, List.length_append]; omega
theorem wr1_ne (x : Nat × List Nat) (s : List Nat) : wr1 x ++ s ≠ [] := fun h => by
  have h1 := congrArg List.length h
  have h2 := wr1_pos x
  rw [List.length_append, List.length_nil] at h1
  omega
theorem rdL_step {f c : Nat} {p : List Nat} (hp : p ≠ []) (hc : c ≠ 200) {x : Nat × List Nat} {n : Nat} (h : firstD p = (0, x, n)) :
    rdL (f + 1) c p = if (rdL f (c + 1) (p.drop n)).1 ≠ 0 then ((rdL f (c + 1) (p.drop n)).1, []) else (0, x :: (rdL f (c + 1) (p.drop n)).2) := by
  cases p with
  | nil => exact absurd rfl hp
  | cons y r => rw [rdL, h, if_neg hc, if_neg (by simp)]
theorem rdL_wrL : ∀ (l : List (Nat × List Nat)) (f c : Nat), (∀ x ∈ l, x.2.length ≤ 4096) → c + l.length ≤ 200 → (wrL l).length ≤ f → rdL f c (wrL l) = (0, l)
  | [], f, c, _, _, _ => by cases f <;> rfl
  | x :: r, f, c, h, hc, hf => by
    have hx := h x (by simp)
    have e : wrL (x :: r) = wr1 x ++ wrL r := by rw [show x :: r = [x] ++ r from rfl, wrL_app, wrL_one]
    have hp := wr1_pos x
    rw [e, List.length_append] at hf
    simp only [List.length_cons] at hc
    obtain ⟨f, rfl⟩ : ∃ g, f = g + 1 := ⟨f - 1, by omega⟩
    rw [e, rdL_step (wr1_ne _ _) (by omega) (firstD_wr1 hx (wrL r)), List.drop_left, rdL_wrL r f (c + 1) (fun y hy => h y (by simp [hy])) (by omega) (by omega)]
    simp
theorem rdL_back : ∀ (f c : Nat) (p : List Nat), (∀ y ∈ p, y < 256) → p.length ≤ f → (rdL f c p).1 = 0 → c ≤ 200 → p = wrL (rdL f c p).2 ∧ (∀ x ∈ (rdL f c p).2, x.2.length ≤ 4096 ∧ x.1 < 256) ∧ c + (rdL f c p).2.length ≤ 200
  | 0, c, p, _, hf, _, hc => by
    obtain rfl : p = [] := List.eq_nil_of_length_eq_zero (by omega)
    exact ⟨rfl, by simp [rdL], by simp [rdL]; exact hc⟩
  | f + 1, c, [], _, _, _, hc => ⟨rfl, by simp [rdL], by simp [rdL]; exact hc⟩
  | f + 1, c, y :: r, hb, hf, h, hc => by
    by_cases c1 : c = 200
    · rw [rdL, if_pos c1] at h; simp at h
    by_cases c2 : (firstD (y :: r)).1 ≠ 0
    · rw [rdL, if_neg c1, if_pos c2] at h; exact absurd h c2
    have c2' : (firstD (y :: r)).1 = 0 := Decidable.of_not_not c2
    obtain ⟨x, n, hx⟩ : ∃ x n, firstD (y :: r) = (0, x, n) := ⟨_, _, Prod.ext c2' rfl⟩
    obtain ⟨b1, b2, b3, b4⟩ := firstD_back hb hx
    have hs := rdL_step (f := f) (c := c) (p := y :: r) (by simp) c1 hx
    rw [hs] at h ⊢
    have hn := wr1_pos x
    by_cases c3 : (rdL f (c + 1) ((y :: r).drop n)).1 ≠ 0
    · rw [if_pos c3] at h; exact absurd h c3
    rw [if_neg c3]
    have c3' : (rdL f (c + 1) ((y :: r).drop n)).1 = 0 := Decidable.of_not_not c3
    obtain ⟨i1, i2, i3⟩ := rdL_back f (c + 1) ((y :: r).drop n) (fun z hz => hb z (List.mem_of_mem_drop hz)) (by rw [List.length_drop]; generalize (y :: r).length = L at *; omega) c3' (by omega)
    refine ⟨?_, ?_, by simp only [List.length_cons]; omega⟩
    · dsimp only
      rw [show x :: (rdL f (c + 1) ((y :: r).drop n)).2 = [x] ++ (rdL f (c + 1) ((y :: r).drop n)).2 from rfl, wrL_app, wrL_one, ← i1]
      exact b1
    · intro z hz
      rcases List.mem_cons.1 hz with rfl | hz
      · exact ⟨b3, b4⟩
      · exact i2 z hz
theorem rdL_cut : ∀ (l : List (Nat × List Nat)) (f c : Nat) (x : Nat × List Nat) (k : Nat), (∀ y ∈ l, y.2.length ≤ 4096) → x.2.length ≤ 4096 → 0 < k → k < (wr1 x).length → c + l.length < 200 → (wrL l).length + k ≤ f → rdL f c (wrL l ++ (wr1 x).take k) = (3, [])
  | [], f, c, x, k, _, hx, hk, hkl, hc, hf => by
    have e : wrL [] ++ (wr1 x).take k = (wr1 x).take k := rfl
    rw [e]
    have hlen : ((wr1 x).take k).length = k := by rw [List.length_take]; omega
    have hf' : 0 < f := by simp [wrL] at hf; omega
    obtain ⟨f, rfl⟩ : ∃ g, f = g + 1 := ⟨f - 1, by omega⟩
    have hc1 := firstD_cut hx hkl
    cases hq : (wr1 x).take k with
    | nil => rw [hq] at hlen; simp at hlen; omega
    | cons y r =>
      rw [hq] at hc1
      rw [rdL, hc1, if_neg (by simp at hc; omega), if_pos (by simp)]
  | z :: r, f, c, x, k, h, hx, hk, hkl, hc, hf => by
    have hz := h z (by simp)
    have e : wrL (z :: r) = wr1 z ++ wrL r := by rw [show z :: r = [z] ++ r from rfl, wrL_app, wrL_one]
    have hp := wr1_pos z
    rw [e, List.length_append] at hf
    simp only [List.length_cons] at hc
    obtain ⟨f, rfl⟩ : ∃ g, f = g + 1 := ⟨f - 1, by omega⟩
    rw [e, List.append_assoc, rdL_step (wr1_ne _ _) (by omega) (firstD_wr1 hz _), List.drop_left, rdL_cut r f (c + 1) x k (fun y hy => h y (by simp [hy])) hx hk hkl (by omega) (by omega)]
    simp
end Go.Proofs.YtlpalhagndmpjaaDoor
namespace Go.Proofs.YtlpalhagndmpjaaDoor
set_option linter.unusedVariables false
/-- The mark of a record to come. -/
def mkT (key last rec : List Nat) : List Nat := (((newM key).write last).write rec).sum
theorem mkT_eq (key last rec : List Nat) : mkT key last rec = mark key (last ++ rec) := by rw [mkT, mark, MS.write_app]
theorem mkT_len (key last rec : List Nat) : (mkT key last rec).length = 32 := by
  show ((newH.write (xorL (keyL key) 92)).write _).sum.length = 32
  rw [← HS.write_app]; exact dig_len _
/-- A record's bytes. -/
def recT (key last rec : List Nat) : List Nat := wr1 (1, mkT key last rec ++ rec)
theorem mkT_def (key last rec : List Nat) : mkT key last rec = (((newM key).write last).write rec).sum := rfl
theorem mkT_byte (key last rec : List Nat) : ∀ x ∈ mkT key last rec, x < 256 := by
  rw [mkT_def, MS.sum, HS.sum]; exact sumB_byte _
theorem recT_def (key last rec : List Nat) : recT key last rec = wr1 (1, mkT key last rec ++ rec) := rfl
attribute [irreducible] mkT recT
/-- What was read: an error's number, the mark, the records, how many bytes. -/
structure RdTp where
  e : Nat
  last : List Nat
  recs : List (List Nat)
  n : Nat
/-- What a step reads: an error's number, the mark, the record, how many bytes. -/
def oneT (key p last : List Nat) : Nat × List Nat × List Nat × Nat :=
  if (firstD p).1 ≠ 0 then ((firstD p).1, last, [], 0)
  else if (firstD p).2.1.1 ≠ 1 ∨ (firstD p).2.1.2.length < 32 then (4, last, [], 0)
  else if mkT key last ((firstD p).2.1.2.drop 32) ≠ (firstD p).2.1.2.take 32 then (5, last, [], 0)
  else (0, mkT key last ((firstD p).2.1.2.drop 32), (firstD p).2.1.2.drop 32, (firstD p).2.2)
def allTp (key : List Nat) : Nat → List Nat → List Nat → RdTp
  | 0, _, last => ⟨0, last, [], 0⟩
  | f + 1, p, last => if p = [] then ⟨0, last, [], 0⟩ else if (oneT key p last).1 ≠ 0 then ⟨(oneT key p last).1, last, [], 0⟩
    else ⟨(allTp key f (p.drop (oneT key p last).2.2.2) (oneT key p last).2.1).e, (allTp key f (p.drop (oneT key p last).2.2.2) (oneT key p last).2.1).last,
      (oneT key p last).2.2.1 :: (allTp key f (p.drop (oneT key p last).2.2.2) (oneT key p last).2.1).recs, (oneT key p last).2.2.2 + (allTp key f (p.drop (oneT key p last).2.2.2) (oneT key p last).2.1).n⟩
def z32L : List Nat := List.replicate 32 0
/-- A tape, read. -/
def rdT (key t : List Nat) : RdTp := allTp key t.length t z32L
/-- A tape with one record more; an error's number. -/
def appT (key t rec : List Nat) : Nat × List Nat :=
  if rec.length > 4064 then (2, []) else if (rdT key t).n + (recT key (rdT key t).last rec).length > 65536 then (2, []) else (0, t.take (rdT key t).n ++ recT key (rdT key t).last rec)
/-- The tape of records. -/
def encT (key : List Nat) : List Nat → List (List Nat) → List Nat
  | _, [] => []
  | last, r :: rs => recT key last r ++ encT key (mkT key last r) rs
def lastT (key : List Nat) : List Nat → List (List Nat) → List Nat
  | last, [] => last
  | last, r :: rs => lastT key (mkT key last r) rs
theorem encT_app (key : List Nat) : ∀ (a b : List (List Nat)) (last : List Nat), encT key last (a ++ b) = encT key last a ++ encT key (lastT key last a) b
  | [], b, last => rfl
  | r :: a, b, last => by rw [List.cons_append, encT, encT_app key a b, encT, lastT, List.append_assoc]
theorem lastT_app (key : List Nat) : ∀ (a b : List (List Nat)) (last : List Nat), lastT key last (a ++ b) = lastT key (lastT key last a) b
  | [], b, last => rfl
  | r :: a, b, last => by rw [List.cons_append, lastT, lastT_app key a b, lastT]
theorem recT_len (key last rec : List Nat) : (recT key last rec).length ≤ rec.length + 36 ∧ 34 ≤ (recT key last rec).length := by
  have h := headL_len 1 (mkT key last rec ++ rec).length
  have h2 := mkT_len key last rec
  rw [recT_def, wr1, List.length_append, List.length_append]
  dsimp only at h ⊢
  rw [List.length_append] at h
  omega
theorem one_rec (key last : List Nat) {r : List Nat} (hr : r.length ≤ 4064) (s : List Nat) : oneT key (recT key last r ++ s) last = (0, mkT key last r, r, (recT key last r).length) := by
  have h2 := mkT_len key last r
  have hf := firstD_wr1 (x := (1, mkT key last r ++ r)) (by rw [List.length_append]; omega) s
  have hd : (mkT key last r ++ r).drop 32 = r := by rw [List.drop_append_of_le_length (by omega), List.drop_of_length_le (by omega)]; rfl
  have ht : (mkT key last r ++ r).take 32 = mkT key last r := by rw [List.take_append_of_le_length (by omega), List.take_of_length_le (by omega)]
  unfold oneT
  rw [recT_def, hf]
  dsimp only
  rw [hd, ht, if_neg (by simp), if_neg (by rw [List.length_append]; omega), if_neg (by simp)]
theorem recT_ne (key last r s : List Nat) : recT key last r ++ s ≠ [] := by rw [recT_def]; exact wr1_ne _ _
theorem all_nil (key : List Nat) (f : Nat) (last : List Nat) : allTp key f [] last = ⟨0, last, [], 0⟩ := by cases f <;> rfl
theorem all_enc (key : List Nat) : ∀ (rs : List (List Nat)) (f : Nat) (last s : List Nat), (∀ r ∈ rs, r.length ≤ 4064) → rs.length ≤ f →
    allTp key f (encT key last rs ++ s) last = ⟨(allTp key (f - rs.length) s (lastT key last rs)).e, (allTp key (f - rs.length) s (lastT key last rs)).last, rs ++ (allTp key (f - rs.length) s (lastT key last rs)).recs, (encT key last rs).length + (allTp key (f - rs.length) s (lastT key last rs)).n⟩
  | [], f, last, s, _, _ => by simp [encT, lastT]
  | r :: rs, f, last, s, h, hf => by
    obtain ⟨f, rfl⟩ : ∃ g, f = g + 1 := ⟨f - 1, by simp only [List.length_cons] at hf; omega⟩
    have ih := all_enc key rs f (mkT key last r) s (fun x hx => h x (by simp [hx])) (by simpa using hf)
    rw [encT, List.append_assoc, allTp, if_neg (recT_ne _ _ _ _), one_rec key last (h r (by simp)), if_neg (by simp)]
    dsimp only
    rw [List.drop_left, ih, List.length_cons, Nat.add_sub_add_right, lastT, List.length_append, Nat.add_assoc]
    rfl
theorem encT_len (key : List Nat) : ∀ (rs : List (List Nat)) (last : List Nat), rs.length ≤ (encT key last rs).length
  | [], _ => Nat.zero_le _
  | r :: rs, last => by
    have := encT_len key rs (mkT key last r)
    have := (recT_len key last r).2
    rw [encT, List.length_append, List.length_cons]; omega
/-- What was written is read. -/
theorem rd_enc (key : List Nat) {rs : List (List Nat)} (h : ∀ r ∈ rs, r.length ≤ 4064) : rdT key (encT key z32L rs) = ⟨0, lastT key z32L rs, rs, (encT key z32L rs).length⟩ := by
  have := all_enc key rs (encT key z32L rs).length z32L [] h (encT_len _ _ _)
  rw [List.append_nil, all_nil] at this
  rw [rdT, this]
  simp
theorem app_enc (key : List Nat) {rs : List (List Nat)} (h : ∀ r ∈ rs, r.length ≤ 4064) {r : List Nat} (hr : r.length ≤ 4064) (hl : (encT key z32L (rs ++ [r])).length ≤ 65536) : appT key (encT key z32L rs) r = (0, encT key z32L (rs ++ [r])) := by
  rw [encT_app, encT, encT, List.append_nil] at hl ⊢
  rw [List.length_append] at hl
  rw [appT, rd_enc key h, if_neg (by omega), if_neg (by dsimp only; omega)]
  dsimp only
  rw [List.take_length]
theorem app_big (key : List Nat) {rs : List (List Nat)} (h : ∀ r ∈ rs, r.length ≤ 4064) {r : List Nat} (hr : ¬ (r.length ≤ 4064 ∧ (encT key z32L (rs ++ [r])).length ≤ 65536)) : appT key (encT key z32L rs) r = (2, []) := by
  rw [encT_app, encT, encT, List.append_nil, List.length_append] at hr
  rw [appT, rd_enc key h]
  by_cases h1 : r.length > 4064
  · rw [if_pos h1]
  · rw [if_neg h1, if_pos (by dsimp only; omega)]
/-! ### A tape that is cut -/
theorem one_cut (key last : List Nat) {r : List Nat} (hr : r.length ≤ 4064) {k : Nat} (hk : k < (recT key last r).length) : oneT key ((recT key last r).take k) last = (3, last, [], 0) := by
  have h2 := mkT_len key last r
  have hf := firstD_cut (x := (1, mkT key last r ++ r)) (by rw [List.length_append]; omega) (by rw [← recT_def]; exact hk)
  unfold oneT
  rw [recT_def, hf]
  rfl
/-- How many are whole. -/
def whole (key : List Nat) : List Nat → List (List Nat) → Nat → Nat
  | _, [], _ => 0
  | last, r :: rs, k => if (recT key last r).length ≤ k then whole key (mkT key last r) rs (k - (recT key last r).length) + 1 else 0
theorem whole_le (key : List Nat) : ∀ (rs : List (List Nat)) (last : List Nat) (k : Nat), whole key last rs k ≤ rs.length
  | [], _, _ => Nat.zero_le _
  | r :: rs, last, k => by
    rw [whole]; split
    · have := whole_le key rs (mkT key last r) (k - (recT key last r).length); simp; omega
    · simp
theorem whole_at (key : List Nat) : ∀ (rs : List (List Nat)) (last : List Nat) (k j : Nat), j ≤ rs.length → ((encT key last (rs.take j)).length ≤ k ↔ j ≤ whole key last rs k)
  | rs, last, k, 0, _ => by simp [encT]
  | [], _, _, j + 1, h => by simp at h
  | r :: rs, last, k, j + 1, h => by
    rw [List.take_succ_cons, encT, List.length_append, whole]
    have ih := whole_at key rs (mkT key last r) (k - (recT key last r).length) j (by simpa using h)
    split <;> omega
theorem all_cut (key : List Nat) : ∀ (rs : List (List Nat)) (f : Nat) (last : List Nat) (k : Nat), (∀ r ∈ rs, r.length ≤ 4064) → k ≤ (encT key last rs).length → k ≤ f →
    allTp key f ((encT key last rs).take k) last = ⟨if (encT key last (rs.take (whole key last rs k))).length < k then 3 else 0, lastT key last (rs.take (whole key last rs k)), rs.take (whole key last rs k), (encT key last (rs.take (whole key last rs k))).length⟩
  | [], f, last, k, _, hk, _ => by
    have hk0 : k = 0 := by simpa [encT] using hk
    subst hk0
    rw [List.take_zero, all_nil]; rfl
  | r :: rs, f, last, k, h, hk, hf => by
    have hr := h r (by simp)
    have hp := (recT_len key last r).2
    rw [whole]
    by_cases hw : (recT key last r).length ≤ k
    · obtain ⟨f, rfl⟩ : ∃ g, f = g + 1 := ⟨f - 1, by omega⟩
      rw [encT, List.length_append] at hk
      have ih := all_cut key rs f (mkT key last r) (k - (recT key last r).length) (fun x hx => h x (by simp [hx])) (by omega) (by omega)
      rw [if_pos hw, encT, List.take_append, List.take_of_length_le hw, List.take_succ_cons, allTp, if_neg (recT_ne _ _ _ _), one_rec key last hr, if_neg (by simp)]
      dsimp only
      rw [List.drop_left, ih, lastT, encT, List.length_append]
      dsimp only
      congr 1
      split <;> split <;> omega
    · have e0 : encT key last (r :: rs) = recT key last r ++ encT key (mkT key last r) rs := rfl
      rw [if_neg hw, List.take_zero, e0, List.take_append_of_le_length (by omega)]
      by_cases hk0 : k = 0
      · subst hk0
        rw [List.take_zero, all_nil]; rfl
      · obtain ⟨f, rfl⟩ : ∃ g, f = g + 1 := ⟨f - 1, by omega⟩
        rw [allTp, one_cut key last hr (by omega), if_neg (by intro e; have := congrArg List.length e; rw [List.length_take, List.length_nil] at this; omega), if_pos (by simp), if_pos (show (encT key last []).length < k by show 0 < k; omega)]
        rfl
theorem rd_cut (key : List Nat) {rs : List (List Nat)} (h : ∀ r ∈ rs, r.length ≤ 4064) {k : Nat} (hk : k ≤ (encT key z32L rs).length) :
    rdT key ((encT key z32L rs).take k) = ⟨if (encT key z32L (rs.take (whole key z32L rs k))).length < k then 3 else 0, lastT key z32L (rs.take (whole key z32L rs k)), rs.take (whole key z32L rs k), (encT key z32L (rs.take (whole key z32L rs k))).length⟩ :=
  all_cut key rs _ z32L k h hk (by rw [List.length_take]; omega)
/-! ### What is read was written -/
theorem one_back {key p last : List Nat} (hb : ∀ y ∈ p, y < 256) (h : (oneT key p last).1 = 0) : p = recT key last (oneT key p last).2.2.1 ++ p.drop (oneT key p last).2.2.2 ∧ (oneT key p last).2.2.2 = (recT key last (oneT key p last).2.2.1).length ∧ (oneT key p last).2.2.1.length ≤ 4064 ∧ (oneT key p last).2.1 = mkT key last (oneT key p last).2.2.1 := by
  unfold oneT at h ⊢
  by_cases c1 : (firstD p).1 ≠ 0
  · rw [if_pos c1] at h; exact absurd h c1
  rw [if_neg c1] at h ⊢
  by_cases c2 : (firstD p).2.1.1 ≠ 1 ∨ (firstD p).2.1.2.length < 32
  · rw [if_pos c2] at h; simp at h
  rw [if_neg c2] at h ⊢
  by_cases c3 : mkT key last ((firstD p).2.1.2.drop 32) ≠ (firstD p).2.1.2.take 32
  · rw [if_pos c3] at h; simp at h
  rw [if_neg c3]
  dsimp only
  have c1' : (firstD p).1 = 0 := Decidable.of_not_not c1
  obtain ⟨⟨t, b⟩, n, hx⟩ : ∃ x n, firstD p = (0, x, n) := ⟨_, _, Prod.ext c1' rfl⟩
  obtain ⟨b1, b2, b3, b4⟩ := firstD_back hb hx
  rw [hx] at c2 c3 ⊢
  dsimp only at *
  have ht : t = 1 := by omega
  have hc := Decidable.of_not_not c3
  have e : recT key last (b.drop 32) = wr1 (t, b) := by rw [recT_def, hc, List.take_append_drop, ht]
  rw [e]
  exact ⟨b1, b2, by rw [List.length_drop]; omega, rfl⟩
theorem all_back (key : List Nat) : ∀ (f : Nat) (p last : List Nat), (∀ y ∈ p, y < 256) → p.length ≤ f →
    p.take (allTp key f p last).n = encT key last (allTp key f p last).recs ∧ (allTp key f p last).n ≤ p.length ∧ (∀ r ∈ (allTp key f p last).recs, r.length ≤ 4064) ∧ ((allTp key f p last).e = 0 → (allTp key f p last).n = p.length) ∧ (allTp key f p last).last = lastT key last (allTp key f p last).recs ∧ (encT key last (allTp key f p last).recs).length = (allTp key f p last).n
  | 0, p, last, _, hf => by
    have : p = [] := List.eq_nil_of_length_eq_zero (by omega)
    subst this
    simp [allTp, encT, lastT]
  | f + 1, p, last, hb, hf => by
    by_cases hp : p = []
    · subst hp
      rw [all_nil]; simp [encT, lastT]
    by_cases he : (oneT key p last).1 ≠ 0
    · rw [allTp, if_neg hp, if_pos he]
      exact ⟨rfl, Nat.zero_le _, by simp, fun h => absurd h he, rfl, rfl⟩
    · have he' : (oneT key p last).1 = 0 := Decidable.of_not_not he
      obtain ⟨b1, b2, b3, b4⟩ := one_back hb he'
      have hr := (recT_len key last (oneT key p last).2.2.1).2
      have hlen := congrArg List.length b1
      rw [List.length_append, List.length_drop] at hlen
      rw [allTp, if_neg hp, if_neg he]
      dsimp only
      generalize (oneT key p last).2.2.2 = n at *
      generalize (oneT key p last).2.2.1 = r at *
      rw [b4]
      obtain ⟨i1, i2, i3, i4, i5, i6⟩ := all_back key f (p.drop n) (mkT key last r) (fun y hy => hb y (List.mem_of_mem_drop hy)) (by rw [List.length_drop]; omega)
      rw [List.length_drop] at i2 i4
      refine ⟨?_, by omega, fun x hx => ?_, fun h => by have := i4 h; omega, by rw [lastT]; exact i5, by rw [encT, List.length_append, i6, b2]⟩
      · rw [encT, ← i1, List.take_add, b2]
        congr 1
        rw [b1, List.take_left']
        rfl
      · rcases List.mem_cons.1 hx with rfl | hx
        · exact b3
        · exact i3 x hx
theorem rd_back (key : List Nat) {p : List Nat} (hb : ∀ y ∈ p, y < 256) : p.take (rdT key p).n = encT key z32L (rdT key p).recs ∧ (rdT key p).n ≤ p.length ∧ (∀ r ∈ (rdT key p).recs, r.length ≤ 4064) ∧ ((rdT key p).e = 0 → (rdT key p).n = p.length) ∧ (rdT key p).last = lastT key z32L (rdT key p).recs ∧ (encT key z32L (rdT key p).recs).length = (rdT key p).n := all_back key _ p z32L hb (Nat.le_refl _)
/-- As many bytes as its records, and no more than fit, are a length. -/
theorem encT_small (key : List Nat) : ∀ (rs : List (List Nat)) (last : List Nat) (m : Nat), (∀ r ∈ rs, r.length ≤ m) → (encT key last rs).length ≤ rs.length * (m + 36)
  | [], _, m, _ => by simp [encT]
  | r :: rs, last, m, h => by
    have h1 := encT_small key rs (mkT key last r) m fun x hx => h x (by simp [hx])
    have h2 := (recT_len key last r).1
    have h3 := h r (by simp)
    rw [encT, List.length_append, List.length_cons, Nat.add_mul]; omega
end Go.Proofs.YtlpalhagndmpjaaDoor
namespace Go.Proofs.YtlpalhagndmpjaaDoor
open Go.RowKit
set_option linter.unusedVariables false
/-- An item: its tag, its body's slice, the bytes. -/
abbrev It := Nat × Value × List Nat
def It.p (x : It) : Nat × List Nat := (x.1, x.2.2)
def itC (x : It) : List Value := [.int .u8 ((x.1 : Nat) : Int), x.2.1]
def itsC (l : List It) : List Value := (l.map itC).flatten
theorem itsC_len : ∀ l : List It, (itsC l).length = l.length * 2
  | [] => rfl
  | x :: r => by
    have := itsC_len r
    unfold itsC at this ⊢
    simp only [List.map_cons, List.flatten_cons, List.length_append, this, List.length_cons, itC, List.length_nil]; omega
theorem itsC_app (a b : List It) : itsC (a ++ b) = itsC a ++ itsC b := by simp [itsC]
theorem itsC_get : ∀ {l : List It} {i : Nat} {x : It}, l[i]? = some x → ((itsC l).drop (i * 2)).take 2 = [.int .u8 ((x.1 : Nat) : Int), x.2.1]
  | [], _, _, h => by simp at h
  | y :: r, 0, x, h => by
    simp only [List.getElem?_cons_zero, Option.some.injEq] at h
    subst h
    simp [itsC, itC]
  | y :: r, i + 1, x, h => by
    rw [List.getElem?_cons_succ] at h
    have ih := itsC_get h
    rw [show (i + 1) * 2 = 2 + i * 2 by omega, ← List.drop_drop]
    have : (itsC (y :: r)).drop 2 = itsC r := by simp [itsC, itC]
    rw [this]
    exact ih
/-- A slice of items in a world. -/
structure Its (w : World) (v : Value) (l : List It) : Prop where
  cs : Cs w v l.length (itsC l)
  tag : ∀ x ∈ l, x.1 < 256
  body : ∀ x ∈ l, Cb w x.2.1 x.2.2.length x.2.2
theorem Its.below {w w' : World} {v : Value} {l : List It} (h : Its w v l) (hb : Below w.heap.size w w') : Its w' v l := ⟨h.cs.below hb, h.tag, fun x hx => (h.body x hx).below hb⟩
end Go.Proofs.YtlpalhagndmpjaaDoor
namespace Go.Proofs.YtlpalhagndmpjaaDoor
open Go.RowKit
set_option linter.unusedVariables false
set_option maxRecDepth 100000
/-- Items, the same in all worlds of which Φ is told. -/
class IsF (Φ : outParam (World → Prop)) (v : Value) (l : outParam (List It)) : Prop where
  cs : CsF Φ v l.length (itsC l)
  out : ∀ w, Φ w → Its w v l
theorem Its.old {W : World} {v : Value} {l : List It} (h : Its W v l) : IsF (Old W []) v l := ⟨h.cs.old, fun w ho =>
  ⟨h.cs.old.out w ho, h.tag, fun x hx => ⟨(h.body x hx).cs.old.out w ho, (h.body x hx).ok⟩⟩⟩
theorem IsF.csf {Φ : World → Prop} {v : Value} {l : List It} (h : IsF Φ v l) : CsF Φ v l.length (itsC l) := h.cs
class VwI (X : Cx) (l : Blks) (v : Value) (its : outParam (List It)) : Prop where
  out : ∀ w, Mem X l w → Its w v its
instance {X : Cx} {l : Blks} {Φ : World → Prop} {v : Value} {its : List It} [h : IsF Φ v its] [h' : Hold X l Φ] : VwI X l v its := ⟨fun w hm => h.out w (h'.out w hm)⟩
/-- The bodies of items, in blocks of the walk's own. -/
def BodI (its : List It) (ob : Blks) : Prop := ∀ x ∈ its, x.1 < 256 ∧ BL x.2.2.length x.2.2 ∧ ∀ w, Hd ob w → Cs w x.2.1 x.2.2.length (bl x.2.2)
theorem BodI.nil : BodI [] [] := fun x hx => by cases hx
theorem Hd.left {a b : Blks} {w : World} (h : Hd (a ++ b) w) : Hd a w := fun p hp => h p (List.mem_append_left _ hp)
theorem Hd.right {a b : Blks} {w : World} (h : Hd (a ++ b) w) : Hd b w := fun p hp => h p (List.mem_append_right _ hp)
theorem BodI.app {l m : List It} {a b : Blks} (h : BodI l a) (h' : BodI m b) : BodI (l ++ m) (a ++ b) := fun x hx => by
  rcases List.mem_append.1 hx with hx | hx
  · obtain ⟨h1, h2, h3⟩ := h x hx; exact ⟨h1, h2, fun w hw => h3 w hw.left⟩
  · obtain ⟨h1, h2, h3⟩ := h' x hx; exact ⟨h1, h2, fun w hw => h3 w hw.right⟩
theorem BodI.one {t : Nat} {v : Value} {e : Nat} {q : List Nat} {oa : Blks} (h : OwnB e v q.length q oa) (ht : t < 256) : BodI [(t, v, q)] oa := fun x hx => by
  simp only [List.mem_singleton] at hx
  subst hx
  exact ⟨ht, h.ok, fun w hw => h.own.cs.out w hw⟩
/-- A slice of such items. -/
structure OwnI (e : Nat) (v : Value) (its : List It) (oa : Blks) : Prop where
  out : ∃ oo ob, oa = oo ++ ob ∧ OwnL e 2 v its.length (itsC its) oo ∧ BodI its ob
theorem OwnI.isf {e : Nat} {v : Value} {its : List It} {oa : Blks} (h : OwnI e v its oa) : IsF (Hd oa) v its := by
  obtain ⟨oo, ob, rfl, h1, h2⟩ := h.out
  refine ⟨⟨h1.ln, fun w hw => h1.cs.out w hw.left⟩, fun w hw => ⟨h1.cs.out w hw.left, fun x hx => (h2 x hx).1, fun x hx => ⟨(h2 x hx).2.2 w hw.right, (h2 x hx).2.1⟩⟩⟩
end Go.Proofs.YtlpalhagndmpjaaDoor
