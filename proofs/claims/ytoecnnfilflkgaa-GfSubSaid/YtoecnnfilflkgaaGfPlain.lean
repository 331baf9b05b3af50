/- Bytes as a field, plainly: products of polynomials over bits. -/
import Derived.Test.YtoecnnfilflkgaaLwDraw
namespace Go.Proofs.Ytoecnnfilflkgaa
open Go.RowKit
set_option linter.unusedVariables false
def xt (a : Nat) : Nat := (a * 2 % 256) ^^^ (a / 128 * 27)
def gm : Nat → Nat → Nat → Nat → Nat
  | 0, _, _, o => o
  | k + 1, a, b, o => gm k (xt a) (b / 2) (if b % 2 = 1 then o ^^^ a else o)
def gmul (a b : Nat) : Nat := gm 8 a b 0
theorem xor_lt {a b : Nat} (ha : a < 256) (hb : b < 256) : a ^^^ b < 256 := Nat.xor_lt_two_pow (n := 8) ha hb
theorem xt_lt {a : Nat} (ha : a < 256) : xt a < 256 := by
  unfold xt
  refine xor_lt (Nat.mod_lt _ (by omega)) ?_
  have : a / 128 ≤ 1 := by omega
  omega
theorem gm_lt : ∀ (k a b o : Nat), a < 256 → o < 256 → gm k a b o < 256
  | 0, _, _, _, _, ho => ho
  | k + 1, a, b, o, ha, ho => by
    unfold gm
    refine gm_lt k _ _ _ (xt_lt ha) ?_
    split
    · exact xor_lt ho ha
    · exact ho
theorem gmul_lt {a : Nat} (b : Nat) (ha : a < 256) : gmul a b < 256 := gm_lt 8 a b 0 ha (by omega)
theorem gm_zero : ∀ (k a o : Nat), gm k a 0 o = o
  | 0, _, _ => rfl
  | k + 1, a, o => by unfold gm; rw [if_neg (by omega)]; exact gm_zero k _ o
theorem gm_out : ∀ (k a b o : Nat), gm k a b o = o ^^^ gm k a b 0
  | 0, _, _, o => by simp [gm]
  | k + 1, a, b, o => by
    unfold gm
    rw [gm_out k _ _ (if b % 2 = 1 then o ^^^ a else o), gm_out k _ _ (if b % 2 = 1 then 0 ^^^ a else 0)]
    split
    · rw [Nat.zero_xor, Nat.xor_assoc]
    · rw [Nat.zero_xor]
theorem xor_mod2 (b c : Nat) : (b ^^^ c) % 2 = (b % 2 + c % 2) % 2 := by
  have h := Nat.testBit_xor b c 0
  simp only [Nat.testBit_zero] at h
  have h1 : b % 2 = 0 ∨ b % 2 = 1 := by omega
  have h2 : c % 2 = 0 ∨ c % 2 = 1 := by omega
  have h3 : (b ^^^ c) % 2 = 0 ∨ (b ^^^ c) % 2 = 1 := by omega
  rcases h1 with h1 | h1 <;> rcases h2 with h2 | h2 <;> rcases h3 with h3 | h3 <;> simp [h1, h2, h3] at h ⊢
theorem xor_div2 (b c : Nat) : (b ^^^ c) / 2 = (b / 2) ^^^ (c / 2) := by
  have := Nat.xor_div_two_pow (a := b) (b := c) (n := 1)
  simpa using this
theorem gm_xor_right : ∀ (k a b c : Nat), gm k a (b ^^^ c) 0 = gm k a b 0 ^^^ gm k a c 0
  | 0, _, _, _ => by simp [gm]
  | k + 1, a, b, c => by
    unfold gm
    rw [gm_out k _ ((b ^^^ c) / 2) _, gm_out k _ (b / 2) _, gm_out k _ (c / 2) _, xor_div2, gm_xor_right k (xt a) (b / 2) (c / 2), xor_mod2, Nat.zero_xor]
    have h1 : b % 2 = 0 ∨ b % 2 = 1 := by omega
    have h2 : c % 2 = 0 ∨ c % 2 = 1 := by omega
    generalize gm k (xt a) (b / 2) 0 = p
    generalize gm k (xt a) (c / 2) 0 = q
    rcases h1 with h1 | h1 <;> rcases h2 with h2 | h2 <;> simp only [h1, h2, Nat.add_zero, Nat.zero_add, Nat.reduceAdd, Nat.reduceMod, Nat.zero_xor, if_true, Nat.zero_ne_one, if_false, Nat.xor_assoc]
    · rw [← Nat.xor_assoc p a q, Nat.xor_comm p a, Nat.xor_assoc]
    · rw [← Nat.xor_assoc p a q, Nat.xor_comm p a, Nat.xor_assoc, ← Nat.xor_assoc a a, Nat.xor_self, Nat.zero_xor]
theorem gmul_xor_right (a b c : Nat) : gmul a (b ^^^ c) = gmul a b ^^^ gmul a c := gm_xor_right 8 a b c
/-- Two that go with xor are one if they are so at the powers of 2. -/
theorem two_pow_xor (n r : Nat) (h : r < 2 ^ n) : 2 ^ n + r = 2 ^ n ^^^ r := by
  have h1 := Nat.two_pow_add_eq_or_of_lt (i := n) (b := r) h 1
  rw [Nat.mul_one] at h1
  rw [h1]
  apply Nat.eq_of_testBit_eq
  intro i
  rw [Nat.testBit_or, Nat.testBit_xor, Nat.testBit_two_pow]
  by_cases hi : n = i
  · subst hi
    have : r.testBit n = false := Nat.testBit_lt_two_pow h
    simp [this]
  · simp [hi]
theorem lin_ext {f g : Nat → Nat} (hf : ∀ a b, a < 256 → b < 256 → f (a ^^^ b) = f a ^^^ f b) (hg : ∀ a b, a < 256 → b < 256 → g (a ^^^ b) = g a ^^^ g b) (h : ∀ i, i < 8 → f (2 ^ i) = g (2 ^ i)) : ∀ a, a < 256 → f a = g a := by
  have key : ∀ n, n ≤ 8 → ∀ a, a < 2 ^ n → f a = g a := by
    intro n
    induction n with
    | zero =>
      intro _ a ha
      have : a = 0 := by omega
      subst this
      have h1 := hf 0 0 (by omega) (by omega)
      have h2 := hg 0 0 (by omega) (by omega)
      rw [Nat.xor_self] at h1 h2
      rw [h1, h2, Nat.xor_self, Nat.xor_self]
    | succ n ih =>
      intro hn a ha
      by_cases hlt : a < 2 ^ n
      · exact ih (by omega) a hlt
      · have h2 : a - 2 ^ n < 2 ^ n := by rw [Nat.pow_succ] at ha; omega
        have e : a = 2 ^ n ^^^ (a - 2 ^ n) := by rw [← two_pow_xor n _ h2]; omega
        have hp : 2 ^ n < 256 := Nat.pow_lt_pow_right (a := 2) (by omega) (show n < 8 by omega)
        rw [e, hf _ _ hp (by omega), hg _ _ hp (by omega), h n (by omega), ih (by omega) _ h2]
  intro a ha
  exact key 8 (Nat.le_refl _) a ha
theorem xt_xor {a b : Nat} (ha : a < 256) (hb : b < 256) : xt (a ^^^ b) = xt a ^^^ xt b := by
  unfold xt
  have h1 : (a ^^^ b) * 2 % 256 = (a * 2 % 256) ^^^ (b * 2 % 256) := by
    have e : (a ^^^ b) * 2 = (a * 2) ^^^ (b * 2) := by
      apply Nat.eq_of_testBit_eq
      intro i
      rw [Nat.testBit_xor, Nat.mul_comm, Nat.mul_comm a, Nat.mul_comm b]
      have k := fun x => Nat.testBit_two_pow_mul (i := 1) (a := x) (j := i)
      simp only [Nat.pow_one] at k
      rw [k, k, k, Nat.testBit_xor]
      by_cases h : 1 ≤ i <;> simp [h]
    rw [e]
    exact Nat.xor_mod_two_pow (n := 8)
  have h2 : (a ^^^ b) / 128 = (a / 128) ^^^ (b / 128) := Nat.xor_div_two_pow (n := 7)
  have h3 : ((a / 128) ^^^ (b / 128)) * 27 = (a / 128 * 27) ^^^ (b / 128 * 27) := by
    have k1 : a / 128 = 0 ∨ a / 128 = 1 := by omega
    have k2 : b / 128 = 0 ∨ b / 128 = 1 := by omega
    rcases k1 with k1 | k1 <;> rcases k2 with k2 | k2 <;> rw [k1, k2] <;> decide
  rw [h1, h2, h3]
  generalize a * 2 % 256 = p
  generalize b * 2 % 256 = q
  generalize a / 128 * 27 = r
  generalize b / 128 * 27 = s
  rw [Nat.xor_assoc, Nat.xor_assoc, ← Nat.xor_assoc q r s, Nat.xor_comm q r, Nat.xor_assoc r q s]
theorem gm_xor_left : ∀ (k a c b : Nat), a < 256 → c < 256 → gm k (a ^^^ c) b 0 = gm k a b 0 ^^^ gm k c b 0
  | 0, _, _, _, _, _ => by simp [gm]
  | k + 1, a, c, b, ha, hc => by
    unfold gm
    rw [gm_out k (xt (a ^^^ c)) (b / 2), gm_out k (xt a) (b / 2), gm_out k (xt c) (b / 2), xt_xor ha hc, gm_xor_left k (xt a) (xt c) (b / 2) (xt_lt ha) (xt_lt hc)]
    generalize gm k (xt a) (b / 2) 0 = p
    generalize gm k (xt c) (b / 2) 0 = q
    split
    · rw [Nat.zero_xor, Nat.zero_xor, Nat.zero_xor, Nat.xor_assoc, Nat.xor_assoc, ← Nat.xor_assoc c p q, Nat.xor_comm c p, Nat.xor_assoc p c q]
    · rw [Nat.zero_xor, Nat.zero_xor, Nat.zero_xor]
theorem gmul_xor_left {a c : Nat} (b : Nat) (ha : a < 256) (hc : c < 256) : gmul (a ^^^ c) b = gmul a b ^^^ gmul c b := gm_xor_left 8 a c b ha hc
theorem pow8 {i : Nat} (h : i < 8) : 2 ^ i < 256 := Nat.pow_lt_pow_right (a := 2) (by omega) (show i < 8 from h)
theorem basis2 : ∀ i, i < 8 → ∀ j, j < 8 → gmul (2 ^ i) (2 ^ j) = gmul (2 ^ j) (2 ^ i) := by decide +kernel
theorem basis3 : ∀ i, i < 8 → ∀ j, j < 8 → ∀ k, k < 8 → gmul (gmul (2 ^ i) (2 ^ j)) (2 ^ k) = gmul (2 ^ i) (gmul (2 ^ j) (2 ^ k)) := by decide +kernel
theorem gmul_comm {a b : Nat} (ha : a < 256) (hb : b < 256) : gmul a b = gmul b a := by
  refine lin_ext (f := fun x => gmul x b) (g := fun x => gmul b x) (fun x y hx hy => gmul_xor_left b hx hy) (fun x y _ _ => gmul_xor_right b x y) (fun i hi => ?_) a ha
  refine lin_ext (f := fun y => gmul (2 ^ i) y) (g := fun y => gmul y (2 ^ i)) (fun x y _ _ => gmul_xor_right _ x y) (fun x y hx hy => gmul_xor_left _ hx hy) (fun j hj => basis2 i hi j hj) b hb
theorem gmul_assoc {a b c : Nat} (ha : a < 256) (hb : b < 256) (hc : c < 256) : gmul (gmul a b) c = gmul a (gmul b c) := by
  refine lin_ext (f := fun x => gmul (gmul x b) c) (g := fun x => gmul x (gmul b c)) (fun x y hx hy => ?_) (fun x y hx hy => gmul_xor_left _ hx hy) (fun i hi => ?_) a ha
  · show gmul (gmul (x ^^^ y) b) c = _
    rw [gmul_xor_left b hx hy, gmul_xor_left c (gmul_lt b hx) (gmul_lt b hy)]
  refine lin_ext (f := fun y => gmul (gmul (2 ^ i) y) c) (g := fun y => gmul (2 ^ i) (gmul y c)) (fun x y hx hy => ?_) (fun x y hx hy => ?_) (fun j hj => ?_) b hb
  · show gmul (gmul (2 ^ i) (x ^^^ y)) c = _
    rw [gmul_xor_right, gmul_xor_left c (gmul_lt x (pow8 hi)) (gmul_lt y (pow8 hi))]
  · show gmul (2 ^ i) (gmul (x ^^^ y) c) = _
    rw [gmul_xor_left c hx hy, gmul_xor_right]
  refine lin_ext (f := fun z => gmul (gmul (2 ^ i) (2 ^ j)) z) (g := fun z => gmul (2 ^ i) (gmul (2 ^ j) z)) (fun x y _ _ => gmul_xor_right _ x y) (fun x y hx hy => ?_) (fun k hk => basis3 i hi j hj k hk) c hc
  show gmul (2 ^ i) (gmul (2 ^ j) (x ^^^ y)) = _
  rw [gmul_xor_right, gmul_xor_right]
theorem gmul_one (a : Nat) : gmul a 1 = a := by
  unfold gmul gm
  rw [if_pos (by omega), Nat.zero_xor]
  exact gm_zero 7 _ a
theorem gmul_zero (a : Nat) : gmul a 0 = 0 := gm_zero 8 a 0
/-! powers -/
def npow (a : Nat) : Nat → Nat
  | 0 => 1
  | n + 1 => gmul (npow a n) a
theorem npow_lt {a : Nat} (n : Nat) (ha : a < 256) : npow a n < 256 := by
  induction n with
  | zero => exact show 1 < 256 by omega
  | succ n ih => exact gmul_lt a ih
theorem one_gmul {a : Nat} (ha : a < 256) : gmul 1 a = a := by rw [gmul_comm (by omega) ha, gmul_one]
theorem npow_add {a : Nat} (ha : a < 256) (m n : Nat) : npow a (m + n) = gmul (npow a m) (npow a n) := by
  induction n with
  | zero => rw [Nat.add_zero, npow, gmul_one]
  | succ n ih => rw [← Nat.add_assoc, npow, ih, npow, gmul_assoc (npow_lt m ha) (npow_lt n ha) ha]
theorem npow_mul {a : Nat} (ha : a < 256) (m n : Nat) : npow (npow a m) n = npow a (m * n) := by
  induction n with
  | zero => rfl
  | succ n ih => rw [npow, ih, Nat.mul_succ, npow_add ha]
theorem npow_one {a : Nat} (ha : a < 256) : npow a 1 = a := one_gmul ha
theorem npow_two {a : Nat} (ha : a < 256) : npow a 2 = gmul a a := by rw [show (2 : Nat) = 1 + 1 from rfl, npow, npow_one ha]
theorem npow_sq {a : Nat} (ha : a < 256) (n : Nat) : npow (gmul a a) n = npow a (2 * n) := by rw [← npow_two ha, npow_mul ha]
/-- One step of squaring. -/
theorem pow_step {a n o : Nat} (ha : a < 256) (ho : o < 256) : gmul o (npow a n) = gmul (if n % 2 = 1 then gmul o a else o) (npow (gmul a a) (n / 2)) := by
  rw [npow_sq ha]
  by_cases h : n % 2 = 1
  · rw [if_pos h, gmul_assoc ho ha (npow_lt _ ha)]
    have e : n = 1 + 2 * (n / 2) := by omega
    conv => lhs; rw [e]
    rw [npow_add ha, npow_one ha]
  · rw [if_neg h]
    have e : n = 2 * (n / 2) := by omega
    conv => lhs; rw [e]
/-- Squarings, to reckon with. -/
def qpow (a : Nat) : Nat → Nat → Nat → Nat
  | 0, _, o => o
  | k + 1, n, o => qpow (gmul a a) k (n / 2) (if n % 2 = 1 then gmul o a else o)
theorem qpow_npow : ∀ (k a n o : Nat), a < 256 → o < 256 → n < 2 ^ k → qpow a k n o = gmul o (npow a n)
  | 0, a, n, o, ha, ho, hn => by
    have : n = 0 := by omega
    subst this
    rw [qpow, npow, gmul_one]
  | k + 1, a, n, o, ha, ho, hn => by
    rw [qpow, qpow_npow k (gmul a a) (n / 2) _ (gmul_lt a ha) (by split <;> first | exact gmul_lt a ho | exact ho) (by rw [Nat.pow_succ] at hn; omega), pow_step ha ho]
theorem npow_reckon {a n : Nat} (k : Nat) (ha : a < 256) (hn : n < 2 ^ k) : npow a n = qpow a k n 1 := by
  rw [qpow_npow k a n 1 ha (by omega) hn, one_gmul (npow_lt n ha)]
theorem fermat_all : ∀ a, a < 256 → a ≠ 0 → qpow a 8 255 1 = 1 := by decide +kernel
theorem npow_255 {a : Nat} (ha : a < 256) (h0 : a ≠ 0) : npow a 255 = 1 := by rw [npow_reckon 8 ha (by decide), fermat_all a ha h0]
theorem zero_gmul (a : Nat) : gmul 0 a = 0 := by
  have h := gmul_xor_left (a := 0) (c := 0) a (by omega) (by omega)
  rw [Nat.xor_self, Nat.xor_self] at h
  exact h
theorem npow_zero {n : Nat} (h : n ≠ 0) : npow 0 n = 0 := by
  obtain ⟨k, rfl⟩ := Nat.exists_eq_succ_of_ne_zero h
  rw [npow, gmul_zero]
theorem npow_256 {a : Nat} (ha : a < 256) : npow a 256 = a := by
  by_cases h0 : a = 0
  · subst h0; exact npow_zero (by omega)
  · rw [show (256 : Nat) = 255 + 1 from rfl, npow, npow_255 ha h0, one_gmul ha]
def ginv (a : Nat) : Nat := npow a 254
theorem ginv_lt {a : Nat} (ha : a < 256) : ginv a < 256 := npow_lt 254 ha
theorem gmul_ginv {a : Nat} (ha : a < 256) (h0 : a ≠ 0) : gmul a (ginv a) = 1 := by
  rw [gmul_comm ha (ginv_lt ha)]
  exact npow_255 ha h0
theorem ginv_ginv {a : Nat} (ha : a < 256) : ginv (ginv a) = a := by
  by_cases h0 : a = 0
  · subst h0; decide +kernel
  · unfold ginv
    rw [npow_mul ha, show (254 * 254 : Nat) = 255 * 253 + 1 from rfl, npow_add ha, npow_one ha, ← npow_mul ha, npow_255 ha h0]
    have : ∀ n, npow 1 n = 1 := fun n => by
      induction n with
      | zero => rfl
      | succ n ih => rw [npow, ih, gmul_one]
    rw [this, one_gmul ha]
theorem gmul_eq_zero {a b : Nat} (ha : a < 256) (hb : b < 256) (h : gmul a b = 0) : a = 0 ∨ b = 0 := by
  by_cases h0 : a = 0
  · exact .inl h0
  · right
    have h1 := gmul_assoc (ginv_lt ha) ha hb
    rw [h, gmul_zero, gmul_comm (ginv_lt ha) ha, gmul_ginv ha h0, one_gmul hb] at h1
    exact h1
/-! bytes as the program's numbers -/
theorem bits_u8 (a b : Nat) (ha : a < 256) (hb : b < 256) : bits .xor .u8 (a : Int) (b : Int) = ((a ^^^ b : Nat) : Int) := by
  have hx : a ^^^ b < 256 := xor_lt ha hb
  have h1 : (BitVec.ofInt 8 (a : Int)).toNat = a := by
    rw [BitVec.ofInt_natCast, BitVec.toNat_ofNat]; exact Nat.mod_eq_of_lt (by omega)
  have h2 : (BitVec.ofInt 8 (b : Int)).toNat = b := by
    rw [BitVec.ofInt_natCast, BitVec.toNat_ofNat]; exact Nat.mod_eq_of_lt (by omega)
  show IntKind.u8.wrap ((BitVec.ofInt 8 (a : Int) ^^^ BitVec.ofInt 8 (b : Int)).toNat : Int) = _
  rw [BitVec.toNat_xor, h1, h2]
  exact wrap_u8 _ (by omega) (by omega)
theorem and1_u8 (b : Nat) (hb : b < 256) : bits .and .u8 (b : Int) 1 = ((b % 2 : Nat) : Int) := by
  have h2 : (BitVec.ofInt 8 (b : Int)).toNat = b := by
    rw [BitVec.ofInt_natCast, BitVec.toNat_ofNat]; exact Nat.mod_eq_of_lt (by omega)
  show IntKind.u8.wrap ((BitVec.ofInt 8 (b : Int) &&& BitVec.ofInt 8 1).toNat : Int) = _
  rw [BitVec.toNat_and, h2, show (BitVec.ofInt 8 1).toNat = 1 from rfl, Nat.and_one_is_mod]
  exact wrap_u8 _ (by omega) (by omega)
theorem and1_u64 (b : Nat) (hb : b < 18446744073709551616) : bits .and .u64 (b : Int) 1 = ((b % 2 : Nat) : Int) := by
  have h := bits_and_u64_nat b 1 hb (by omega)
  rw [Nat.and_one_is_mod] at h
  exact h
end Go.Proofs.Ytoecnnfilflkgaa
