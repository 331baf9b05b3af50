/- Primes by what has as high an order as it can: plain laws, no program in sight. Certificates: 2^255 - 19 and the order of the base are primes. Printed by pratt.py. The associative law of the curve: two identities, printed by genedw.py; over whatever modulus (a named one makes grind slow). The curve a*x^2 + y^2 = 1 + d*x^2*y^2, a a square, d none: its points are a group (EDWARDS; BERNSTEIN, LANGE). Plain laws, over whatever field of p elements. LAGRANGE: a polynomial of a degree less than how many points there are is told by these. Plain laws, over whatever field of n elements. The numbers modulo L as a field. Shares of a secret: what share.At computes, and that it is the one polynomial's value. Plain laws. Slices of bytes that come in as arguments; the builtin min; and, or, xor of int. A block of one's own, seen in a world. Slices of records of one shape: each a row of k cells. -/
import Derived.Test.YtkbgkobbadjpnaaDoorJnAB
import Derived.Test.YtkbgkobbadjpnaaDoorLwDraw
import Derived.ChangeSlices
import Derived.Below
import Derived.WideShapes
import Derived.Test.YtkbgkobbadjpnaaDoorLwH
namespace Go.Proofs.YtkbgkobbadjpnaaDoor
set_option linter.unusedVariables false
/-- Powers by squaring, from the highest bit on: for computing. -/
def qpowF (p a : Nat) : Nat → Nat → Nat
  | 0, _ => 1 % p
  | f + 1, n => if n = 0 then 1 % p else let h := qpowF p a f (n / 2); if n % 2 = 1 then h * h % p * a % p else h * h % p
def qpow (p a n : Nat) : Nat := qpowF p a (n.log2 + 1) n
theorem qpowF_is (p a : Nat) : ∀ f n, n < 2 ^ f → qpowF p a f n = a ^ n % p
  | 0, n, h => by
    have : n = 0 := by simpa using h
    subst this; rfl
  | f + 1, n, h => by
    unfold qpowF
    by_cases h0 : n = 0
    · subst h0; rfl
    · rw [if_neg h0]
      have ih := qpowF_is p a f (n / 2) (by rw [Nat.pow_succ] at h; omega)
      dsimp only
      rw [ih]
      by_cases h1 : n % 2 = 1
      · rw [if_pos h1, ← Nat.mul_mod, ← Nat.pow_add, Nat.mod_mul_mod, ← Nat.pow_succ, show (n / 2 + n / 2).succ = n by omega]
      · rw [if_neg h1, Nat.mod_mul_mod, Nat.mul_mod_mod, ← Nat.pow_add, show n / 2 + n / 2 = n by omega]
theorem qpow_is (p a n : Nat) : qpow p a n = a ^ n % p := qpowF_is p a _ n Nat.lt_log2_self
/-- A prime. -/
def Prime (p : Nat) : Prop := 2 ≤ p ∧ ∀ d, d ∣ p → d = 1 ∨ d = p
theorem Prime.pos {p : Nat} (h : Prime p) : 0 < p := by have := h.1; omega
theorem Prime.coprime {p a : Nat} (h : Prime p) (ha : ¬ p ∣ a) : Nat.gcd a p = 1 := by
  rcases h.2 _ (Nat.gcd_dvd_right a p) with h1 | h1
  · exact h1
  · exact absurd (h1 ▸ Nat.gcd_dvd_left a p) ha
theorem Prime.dvd_mul {p a b : Nat} (h : Prime p) (hd : p ∣ a * b) : p ∣ a ∨ p ∣ b := by
  by_cases ha : p ∣ a
  · exact .inl ha
  · refine .inr ?_
    have hc : Nat.Coprime p a := by rw [Nat.coprime_comm]; exact h.coprime ha
    exact hc.dvd_of_dvd_mul_left hd
theorem Prime.dvd_pow {p a : Nat} (h : Prime p) : ∀ {n : Nat}, p ∣ a ^ n → p ∣ a
  | 0, hd => by
    rw [Nat.pow_zero] at hd
    have := Nat.le_of_dvd (by decide) hd
    have := h.1
    omega
  | n + 1, hd => by
    rw [Nat.pow_succ] at hd
    rcases h.dvd_mul hd with h1 | h1
    · exact h.dvd_pow h1
    · exact h1
/-! ### The order of a number -/
/-- The least power, not none, that is 1. -/
def IsOrd (p g k : Nat) : Prop := 0 < k ∧ g ^ k % p = 1 ∧ ∀ j, 0 < j → g ^ j % p = 1 → k ≤ j
theorem exists_ord {p g n : Nat} (hn : 0 < n) (h : g ^ n % p = 1) : ∃ k, IsOrd p g k := by
  have key : ∀ m, (∃ j, 0 < j ∧ j ≤ m ∧ g ^ j % p = 1) → ∃ k, IsOrd p g k := by
    intro m
    induction m with
    | zero => rintro ⟨j, h1, h2, -⟩; omega
    | succ m ih =>
      rintro ⟨j, h1, h2, h3⟩
      by_cases hm : ∃ j, 0 < j ∧ j ≤ m ∧ g ^ j % p = 1
      · exact ih hm
      · refine ⟨j, h1, h3, fun i hi hp => ?_⟩
        have : ¬ i ≤ m := fun hle => hm ⟨i, hi, hle, hp⟩
        omega
  exact key n ⟨n, hn, Nat.le_refl _, h⟩
theorem one_mod {p : Nat} (hp : 2 ≤ p) : 1 % p = 1 := Nat.mod_eq_of_lt hp
theorem pow_mod_mul {p g m n : Nat} : g ^ (m * n) % p = (g ^ m % p) ^ n % p := by rw [Nat.pow_mul, Nat.pow_mod]
theorem ord_dvd {p g k n : Nat} (hp : 2 ≤ p) (ho : IsOrd p g k) (h : g ^ n % p = 1) : k ∣ n := by
  obtain ⟨h0, h1, h2⟩ := ho
  have e : g ^ n % p = g ^ (n % k) % p := by
    have hd := Nat.mod_add_div n k
    conv => lhs; rw [← hd]
    rw [Nat.pow_add, Nat.mul_mod, pow_mod_mul, h1, Nat.one_pow, one_mod hp, Nat.mul_one, Nat.mod_mod]
  rw [e] at h
  rcases Nat.eq_zero_or_pos (n % k) with h3 | h3
  · exact Nat.dvd_of_mod_eq_zero h3
  · have := h2 _ h3 h
    have := Nat.mod_lt n h0
    omega
/-- Every number above 1 has a prime in it. -/
theorem exists_prime {n : Nat} (h : 2 ≤ n) : ∃ q, Prime q ∧ q ∣ n := by
  induction n using Nat.strongRecOn with
  | _ n ih =>
    by_cases hp : Prime n
    · exact ⟨n, hp, Nat.dvd_refl n⟩
    · have : ∃ d, d ∣ n ∧ d ≠ 1 ∧ d ≠ n := by
        apply Classical.byContradiction
        intro hno
        refine hp ⟨h, fun d hd => ?_⟩
        apply Classical.byContradiction
        intro hn
        exact hno ⟨d, hd, fun e => hn (.inl e), fun e => hn (.inr e)⟩
      obtain ⟨d, hd, h1, h2⟩ := this
      have hle := Nat.le_of_dvd (by omega) hd
      have h0 : d ≠ 0 := fun e => by subst e; rw [Nat.zero_dvd] at hd; omega
      obtain ⟨q, hq, hqd⟩ := ih d (by omega) (by omega)
      exact ⟨q, hq, Nat.dvd_trans hqd hd⟩
/-- All prime divisors of a product are among those listed. -/
theorem prime_of_prod {q : Nat} (hq : Prime q) : ∀ (l : List Nat), (∀ x ∈ l, Prime x) → q ∣ l.foldr (· * ·) 1 → q ∈ l
  | [], _, h => by
    have := Nat.le_of_dvd (by decide) h
    have := hq.1
    simp only [List.foldr_nil] at *
    omega
  | x :: l, hl, h => by
    rw [List.foldr_cons] at h
    rcases hq.dvd_mul h with h1 | h1
    · rcases (hl x List.mem_cons_self).2 q h1 with h2 | h2
      · have := hq.1; omega
      · exact h2 ▸ List.mem_cons_self
    · exact List.mem_cons_of_mem _ (prime_of_prod hq l (fun y hy => hl y (List.mem_cons_of_mem _ hy)) h1)
/-- The order is as high as it is said, if none of its parts does. -/
theorem ord_full {p g n : Nat} {l : List Nat} (hp : 2 ≤ p) (hl : ∀ x ∈ l, Prime x) (hn : n = l.foldr (· * ·) 1) (h1 : g ^ n % p = 1) (hq : ∀ q ∈ l, g ^ (n / q) % p ≠ 1) (h0 : 0 < n) : IsOrd p g n := by
  obtain ⟨k, ho⟩ := exists_ord h0 h1
  obtain ⟨c, hc⟩ := ord_dvd hp ho h1
  by_cases h2 : 2 ≤ c
  · obtain ⟨q, hqp, d, hd⟩ := exists_prime h2
    have hqn : q ∣ n := ⟨k * d, by rw [hc, hd, Nat.mul_left_comm]⟩
    have hm := prime_of_prod hqp l hl (hn ▸ hqn)
    refine absurd ?_ (hq q hm)
    have : n / q = k * d := by
      rw [hc, hd, Nat.mul_left_comm, Nat.mul_div_cancel_left _ hqp.pos]
    rw [this, pow_mod_mul, ho.2.1, Nat.one_pow, one_mod hp]
  · have : c = 1 := by
      rcases Nat.eq_zero_or_pos c with hz | hz
      · subst hz; omega
      · omega
    subst this
    rw [Nat.mul_one] at hc
    rw [hc]; exact ho
/-- No two of the first powers are alike. -/
theorem ord_inj {p g n i j : Nat} (hp : 2 ≤ p) (ho : IsOrd p g n) (hi : i < n) (hj : j < n) (h : g ^ i % p = g ^ j % p) : i = j := by
  have key : ∀ i j, i < j → j < n → g ^ i % p = g ^ j % p → False := by
    intro i j hij hj h
    have e : g ^ (j + (n - j)) % p = g ^ (i + (n - j)) % p := by rw [Nat.pow_add, Nat.pow_add, Nat.mul_mod, ← h, ← Nat.mul_mod]
    rw [show j + (n - j) = n by omega, ho.2.1] at e
    have := ho.2.2 (i + (n - j)) (by omega) e.symm
    omega
  rcases Nat.lt_trichotomy i j with h1 | h1 | h1
  · exact (key i j h1 hj h).elim
  · exact h1
  · exact (key j i h1 hi h.symm).elim
/-- As many different ones below n as n, and all are there (pigeons and holes). -/
theorem surj_of_inj : ∀ (n : Nat) (f : Nat → Nat), (∀ i, i < n → f i < n) → (∀ i j, i < n → j < n → f i = f j → i = j) → ∀ y, y < n → ∃ i, i < n ∧ f i = y
  | 0, _, _, _, y, hy => by omega
  | n + 1, f, hf, hi, y, hy => by
    -- f with the place n taken out
    let g : Nat → Nat := fun i => if f i = n then f n else f i
    have hg : ∀ i, i < n → g i < n := fun i hin => by
      show (if f i = n then f n else f i) < n
      have h1 := hf i (by omega)
      have h2 := hf n (by omega)
      split
      · rename_i e
        rcases Nat.lt_or_ge (f n) n with h | h
        · exact h
        · have : f n = f i := by omega
          have := hi n i (by omega) (by omega) this
          omega
      · omega
    have hgi : ∀ i j, i < n → j < n → g i = g j → i = j := fun i j hin hjn h => by
      replace h : (if f i = n then f n else f i) = (if f j = n then f n else f j) := h
      split at h <;> split at h
      · rename_i a b; exact hi i j (by omega) (by omega) (a.trans b.symm)
      · have := hi n j (by omega) (by omega) h; omega
      · have := hi i n (by omega) (by omega) h; omega
      · exact hi i j (by omega) (by omega) h
    have ih := surj_of_inj n g hg hgi
    by_cases hyn : y < n
    · obtain ⟨i, h1, h2⟩ := ih y hyn
      replace h2 : (if f i = n then f n else f i) = y := h2
      split at h2
      · exact ⟨n, by omega, h2⟩
      · exact ⟨i, by omega, h2⟩
    · have hy' : y = n := by omega
      subst hy'
      apply Classical.byContradiction
      intro hno
      have hne : ∀ i, i < y + 1 → f i ≠ y := fun i h1 h2 => hno ⟨i, h1, h2⟩
      have hfn : f y < y := by have := hf y (by omega); have := hne y (by omega); omega
      obtain ⟨i, h1, h2⟩ := ih (f y) hfn
      replace h2 : (if f i = y then f y else f i) = f y := h2
      rw [if_neg (hne i (by omega))] at h2
      have := hi i y (by omega) (by omega) h2
      omega
/-- LUCAS, PRATT: whose order is p - 1 makes p prime, and all but 0 are its powers. -/
theorem gen_all {p g : Nat} (hp : 2 ≤ p) (ho : IsOrd p g (p - 1)) : ∀ a, 0 < a → a < p → ∃ i, i < p - 1 ∧ g ^ i % p = a := by
  have hne : ∀ i, i < p - 1 → 0 < g ^ i % p := fun i hi => by
    rcases Nat.eq_zero_or_pos (g ^ i % p) with h | h
    · exfalso
      have : g ^ (i + (p - 1 - i)) % p = 0 := by rw [Nat.pow_add, Nat.mul_mod, h, Nat.zero_mul, Nat.zero_mod]
      rw [show i + (p - 1 - i) = p - 1 by omega, ho.2.1] at this
      omega
    · exact h
  intro a h0 ha
  obtain ⟨i, h1, h2⟩ := surj_of_inj (p - 1) (fun i => g ^ i % p - 1) (fun i hi => by have := hne i hi; have := Nat.mod_lt (g ^ i) (show 0 < p by omega); omega)
    (fun i j hi hj h => ord_inj hp ho hi hj (by have := hne i hi; have := hne j hj; omega)) (a - 1) (by omega)
  refine ⟨i, h1, ?_⟩
  have := hne i h1
  omega
theorem prime_of_ord {p g : Nat} (hp : 2 ≤ p) (ho : IsOrd p g (p - 1)) : Prime p := by
  refine ⟨hp, fun d hd => ?_⟩
  have hle := Nat.le_of_dvd (by omega) hd
  have h0 : 0 < d := by
    rcases Nat.eq_zero_or_pos d with h | h
    · subst h; rw [Nat.zero_dvd] at hd; omega
    · exact h
  rcases Nat.lt_or_ge d p with hlt | hge
  · left
    obtain ⟨i, hi, he⟩ := gen_all hp ho d h0 hlt
    -- d times g^(p-1-i) is 1, and d divides p
    have h1 : d * g ^ (p - 1 - i) % p = 1 := by
      rw [← he, Nat.mod_mul_mod, ← Nat.pow_add, show i + (p - 1 - i) = p - 1 by omega]; exact ho.2.1
    have h2 : d ∣ 1 := by
      rw [← h1]
      exact (Nat.dvd_mod_iff hd).2 (Nat.dvd_mul_right d _)
    exact Nat.le_antisymm (Nat.le_of_dvd (by decide) h2) h0
  · right; omega
/-- A certificate: the base, and the primes that make p - 1. -/
def certB (p g : Nat) (l : List Nat) : Bool := decide (2 ≤ p) && decide (p - 1 = l.foldr (· * ·) 1) && decide (qpow p g (p - 1) = 1) && l.all fun q => decide (qpow p g ((p - 1) / q) ≠ 1)
theorem cert_ord {p g : Nat} {l : List Nat} (h : certB p g l = true) (hl : ∀ x ∈ l, Prime x) : IsOrd p g (p - 1) := by
  simp only [certB, Bool.and_eq_true, decide_eq_true_eq, List.all_eq_true] at h
  obtain ⟨⟨⟨h1, h2⟩, h3⟩, h4⟩ := h
  rw [qpow_is] at h3
  exact ord_full h1 hl h2 h3 (fun q hq => by have := h4 q hq; rwa [qpow_is] at this) (by omega)
theorem cert_prime {p g : Nat} {l : List Nat} (h : certB p g l = true) (hl : ∀ x ∈ l, Prime x) : Prime p := by
  have h1 : 2 ≤ p := by
    simp only [certB, Bool.and_eq_true, decide_eq_true_eq] at h
    exact h.1.1.1
  exact prime_of_ord h1 (cert_ord h hl)
/-- Small ones by trial. -/
def smallB (p : Nat) : Bool := decide (2 ≤ p) && (List.range p).all fun d => decide (d * d > p) || decide (d ≤ 1) || decide (p % d ≠ 0)
theorem small_prime {p : Nat} (h : smallB p = true) : Prime p := by
  simp only [smallB, Bool.and_eq_true, decide_eq_true_eq, List.all_eq_true, List.mem_range, Bool.or_eq_true] at h
  obtain ⟨h1, h2⟩ := h
  refine ⟨h1, fun d hd => ?_⟩
  obtain ⟨c, hc⟩ := hd
  have h0 : 0 < d := Nat.pos_of_ne_zero fun e => by subst e; omega
  have c0 : 0 < c := Nat.pos_of_ne_zero fun e => by subst e; omega
  have key : ∀ x y, 0 < x → 0 < y → p = x * y → x ≤ y → x = 1 := fun x y hx hy he hle => by
    by_cases hx1 : x ≤ 1
    · omega
    · exfalso
      have hxp : x < p := by
        have : x * 2 ≤ x * y := Nat.mul_le_mul_left x (by omega)
        omega
      rcases h2 x hxp with (h3 | h3) | h3
      · have : x * x ≤ x * y := Nat.mul_le_mul_left x hle
        omega
      · omega
      · exact h3 (by rw [he]; exact Nat.mul_mod_right x y)
  rcases Nat.le_total d c with h3 | h3
  · exact .inl (key d c h0 c0 hc h3)
  · have := key c d c0 h0 (by rw [hc, Nat.mul_comm]) h3
    subst this
    right; omega
end Go.Proofs.YtkbgkobbadjpnaaDoor
namespace Go.Proofs.YtkbgkobbadjpnaaDoor
theorem prime_2 : Prime 2 := small_prime (by decide +kernel)
theorem prime_3 : Prime 3 := small_prime (by decide +kernel)
theorem prime_5 : Prime 5 := small_prime (by decide +kernel)
theorem prime_7 : Prime 7 := small_prime (by decide +kernel)
theorem prime_11 : Prime 11 := small_prime (by decide +kernel)
theorem prime_13 : Prime 13 := small_prime (by decide +kernel)
theorem prime_17 : Prime 17 := small_prime (by decide +kernel)
theorem prime_19 : Prime 19 := small_prime (by decide +kernel)
theorem prime_23 : Prime 23 := small_prime (by decide +kernel)
theorem prime_29 : Prime 29 := small_prime (by decide +kernel)
theorem prime_31 : Prime 31 := small_prime (by decide +kernel)
theorem prime_37 : Prime 37 := small_prime (by decide +kernel)
theorem prime_41 : Prime 41 := small_prime (by decide +kernel)
theorem prime_43 : Prime 43 := small_prime (by decide +kernel)
theorem prime_47 : Prime 47 := small_prime (by decide +kernel)
theorem prime_53 : Prime 53 := small_prime (by decide +kernel)
theorem prime_59 : Prime 59 := small_prime (by decide +kernel)
theorem prime_67 : Prime 67 := small_prime (by decide +kernel)
theorem prime_73 : Prime 73 := small_prime (by decide +kernel)
theorem prime_79 : Prime 79 := small_prime (by decide +kernel)
theorem prime_83 : Prime 83 := small_prime (by decide +kernel)
theorem prime_97 : Prime 97 := small_prime (by decide +kernel)
theorem cert_239 : certB 239 7 [2, 7, 17] = true := by decide +kernel
theorem parts_239 : ∀ x ∈ ([2, 7, 17] : List Nat), Prime x := by
  intro x hx
  simp only [List.mem_cons, List.not_mem_nil, or_false] at hx
  rcases hx with rfl | rfl | rfl
  · exact prime_2
  · exact prime_7
  · exact prime_17
theorem prime_239 : Prime 239 := cert_prime cert_239 parts_239
theorem cert_479 : certB 479 13 [2, 239] = true := by decide +kernel
theorem parts_479 : ∀ x ∈ ([2, 239] : List Nat), Prime x := by
  intro x hx
  simp only [List.mem_cons, List.not_mem_nil, or_false] at hx
  rcases hx with rfl | rfl
  · exact prime_2
  · exact prime_239
theorem prime_479 : Prime 479 := cert_prime cert_479 parts_479
theorem cert_32573 : certB 32573 2 [2, 2, 17, 479] = true := by decide +kernel
theorem parts_32573 : ∀ x ∈ ([2, 2, 17, 479] : List Nat), Prime x := by
  intro x hx
  simp only [List.mem_cons, List.not_mem_nil, or_false] at hx
  rcases hx with rfl | rfl | rfl | rfl
  · exact prime_2
  · exact prime_2
  · exact prime_17
  · exact prime_479
theorem prime_32573 : Prime 32573 := cert_prime cert_32573 parts_32573
theorem cert_65147 : certB 65147 2 [2, 32573] = true := by decide +kernel
theorem parts_65147 : ∀ x ∈ ([2, 32573] : List Nat), Prime x := by
  intro x hx
  simp only [List.mem_cons, List.not_mem_nil, or_false] at hx
  rcases hx with rfl | rfl
  · exact prime_2
  · exact prime_32573
theorem prime_65147 : Prime 65147 := cert_prime cert_65147 parts_65147
theorem cert_353 : certB 353 3 [2, 2, 2, 2, 2, 11] = true := by decide +kernel
theorem parts_353 : ∀ x ∈ ([2, 2, 2, 2, 2, 11] : List Nat), Prime x := by
  intro x hx
  simp only [List.mem_cons, List.not_mem_nil, or_false] at hx
  rcases hx with rfl | rfl | rfl | rfl | rfl | rfl
  · exact prime_2
  · exact prime_2
  · exact prime_2
  · exact prime_2
  · exact prime_2
  · exact prime_11
theorem prime_353 : Prime 353 := cert_prime cert_353 parts_353
theorem cert_487 : certB 487 3 [2, 3, 3, 3, 3, 3] = true := by decide +kernel
theorem parts_487 : ∀ x ∈ ([2, 3, 3, 3, 3, 3] : List Nat), Prime x := by
  intro x hx
  simp only [List.mem_cons, List.not_mem_nil, or_false] at hx
  rcases hx with rfl | rfl | rfl | rfl | rfl | rfl
  · exact prime_2
  · exact prime_3
  · exact prime_3
  · exact prime_3
  · exact prime_3
  · exact prime_3
theorem prime_487 : Prime 487 := cert_prime cert_487 parts_487
theorem cert_57467 : certB 57467 2 [2, 59, 487] = true := by decide +kernel
theorem parts_57467 : ∀ x ∈ ([2, 59, 487] : List Nat), Prime x := by
  intro x hx
  simp only [List.mem_cons, List.not_mem_nil, or_false] at hx
  rcases hx with rfl | rfl | rfl
  · exact prime_2
  · exact prime_59
  · exact prime_487
theorem prime_57467 : Prime 57467 := cert_prime cert_57467 parts_57467
theorem cert_131 : certB 131 2 [2, 5, 13] = true := by decide +kernel
theorem parts_131 : ∀ x ∈ ([2, 5, 13] : List Nat), Prime x := by
  intro x hx
  simp only [List.mem_cons, List.not_mem_nil, or_false] at hx
  rcases hx with rfl | rfl | rfl
  · exact prime_2
  · exact prime_5
  · exact prime_13
theorem prime_131 : Prime 131 := cert_prime cert_131 parts_131
theorem cert_132049 : certB 132049 26 [2, 2, 2, 2, 3, 3, 7, 131] = true := by decide +kernel
theorem parts_132049 : ∀ x ∈ ([2, 2, 2, 2, 3, 3, 7, 131] : List Nat), Prime x := by
  intro x hx
  simp only [List.mem_cons, List.not_mem_nil, or_false] at hx
  rcases hx with rfl | rfl | rfl | rfl | rfl | rfl | rfl | rfl
  · exact prime_2
  · exact prime_2
  · exact prime_2
  · exact prime_2
  · exact prime_3
  · exact prime_3
  · exact prime_7
  · exact prime_131
theorem prime_132049 : Prime 132049 := cert_prime cert_132049 parts_132049
theorem cert_3727 : certB 3727 3 [2, 3, 3, 3, 3, 23] = true := by decide +kernel
theorem parts_3727 : ∀ x ∈ ([2, 3, 3, 3, 3, 23] : List Nat), Prime x := by
  intro x hx
  simp only [List.mem_cons, List.not_mem_nil, or_false] at hx
  rcases hx with rfl | rfl | rfl | rfl | rfl | rfl
  · exact prime_2
  · exact prime_3
  · exact prime_3
  · exact prime_3
  · exact prime_3
  · exact prime_23
theorem prime_3727 : Prime 3727 := cert_prime cert_3727 parts_3727
theorem cert_1923133 : certB 1923133 2 [2, 2, 3, 43, 3727] = true := by decide +kernel
theorem parts_1923133 : ∀ x ∈ ([2, 2, 3, 43, 3727] : List Nat), Prime x := by
  intro x hx
  simp only [List.mem_cons, List.not_mem_nil, or_false] at hx
  rcases hx with rfl | rfl | rfl | rfl | rfl
  · exact prime_2
  · exact prime_2
  · exact prime_3
  · exact prime_43
  · exact prime_3727
theorem prime_1923133 : Prime 1923133 := cert_prime cert_1923133 parts_1923133
theorem cert_107 : certB 107 2 [2, 53] = true := by decide +kernel
theorem parts_107 : ∀ x ∈ ([2, 53] : List Nat), Prime x := by
  intro x hx
  simp only [List.mem_cons, List.not_mem_nil, or_false] at hx
  rcases hx with rfl | rfl
  · exact prime_2
  · exact prime_53
theorem prime_107 : Prime 107 := cert_prime cert_107 parts_107
theorem cert_223 : certB 223 3 [2, 3, 37] = true := by decide +kernel
theorem parts_223 : ∀ x ∈ ([2, 3, 37] : List Nat), Prime x := by
  intro x hx
  simp only [List.mem_cons, List.not_mem_nil, or_false] at hx
  rcases hx with rfl | rfl | rfl
  · exact prime_2
  · exact prime_3
  · exact prime_37
theorem prime_223 : Prime 223 := cert_prime cert_223 parts_223
theorem cert_173 : certB 173 2 [2, 2, 43] = true := by decide +kernel
theorem parts_173 : ∀ x ∈ ([2, 2, 43] : List Nat), Prime x := by
  intro x hx
  simp only [List.mem_cons, List.not_mem_nil, or_false] at hx
  rcases hx with rfl | rfl | rfl
  · exact prime_2
  · exact prime_2
  · exact prime_43
theorem prime_173 : Prime 173 := cert_prime cert_173 parts_173
theorem cert_4153 : certB 4153 5 [2, 2, 2, 3, 173] = true := by decide +kernel
theorem parts_4153 : ∀ x ∈ ([2, 2, 2, 3, 173] : List Nat), Prime x := by
  intro x hx
  simp only [List.mem_cons, List.not_mem_nil, or_false] at hx
  rcases hx with rfl | rfl | rfl | rfl | rfl
  · exact prime_2
  · exact prime_2
  · exact prime_2
  · exact prime_3
  · exact prime_173
theorem prime_4153 : Prime 4153 := cert_prime cert_4153 parts_4153
theorem cert_1723 : certB 1723 3 [2, 3, 7, 41] = true := by decide +kernel
theorem parts_1723 : ∀ x ∈ ([2, 3, 7, 41] : List Nat), Prime x := by
  intro x hx
  simp only [List.mem_cons, List.not_mem_nil, or_false] at hx
  rcases hx with rfl | rfl | rfl | rfl
  · exact prime_2
  · exact prime_3
  · exact prime_7
  · exact prime_41
theorem prime_1723 : Prime 1723 := cert_prime cert_1723 parts_1723
theorem cert_430751 : certB 430751 17 [2, 5, 5, 5, 1723] = true := by decide +kernel
theorem parts_430751 : ∀ x ∈ ([2, 5, 5, 5, 1723] : List Nat), Prime x := by
  intro x hx
  simp only [List.mem_cons, List.not_mem_nil, or_false] at hx
  rcases hx with rfl | rfl | rfl | rfl | rfl
  · exact prime_2
  · exact prime_5
  · exact prime_5
  · exact prime_5
  · exact prime_1723
theorem prime_430751 : Prime 430751 := cert_prime cert_430751 parts_430751
theorem cert_31757755568855353 : certB 31757755568855353 10 [2, 2, 2, 3, 31, 107, 223, 4153, 430751] = true := by decide +kernel
theorem parts_31757755568855353 : ∀ x ∈ ([2, 2, 2, 3, 31, 107, 223, 4153, 430751] : List Nat), Prime x := by
  intro x hx
  simp only [List.mem_cons, List.not_mem_nil, or_false] at hx
  rcases hx with rfl | rfl | rfl | rfl | rfl | rfl | rfl | rfl | rfl
  · exact prime_2
  · exact prime_2
  · exact prime_2
  · exact prime_3
  · exact prime_31
  · exact prime_107
  · exact prime_223
  · exact prime_4153
  · exact prime_430751
theorem prime_31757755568855353 : Prime 31757755568855353 := cert_prime cert_31757755568855353 parts_31757755568855353
theorem cert_9463 : certB 9463 3 [2, 3, 19, 83] = true := by decide +kernel
theorem parts_9463 : ∀ x ∈ ([2, 3, 19, 83] : List Nat), Prime x := by
  intro x hx
  simp only [List.mem_cons, List.not_mem_nil, or_false] at hx
  rcases hx with rfl | rfl | rfl | rfl
  · exact prime_2
  · exact prime_3
  · exact prime_19
  · exact prime_83
theorem prime_9463 : Prime 9463 := cert_prime cert_9463 parts_9463
theorem cert_37853 : certB 37853 2 [2, 2, 9463] = true := by decide +kernel
theorem parts_37853 : ∀ x ∈ ([2, 2, 9463] : List Nat), Prime x := by
  intro x hx
  simp only [List.mem_cons, List.not_mem_nil, or_false] at hx
  rcases hx with rfl | rfl | rfl
  · exact prime_2
  · exact prime_2
  · exact prime_9463
theorem prime_37853 : Prime 37853 := cert_prime cert_37853 parts_37853
theorem cert_75707 : certB 75707 2 [2, 37853] = true := by decide +kernel
theorem parts_75707 : ∀ x ∈ ([2, 37853] : List Nat), Prime x := by
  intro x hx
  simp only [List.mem_cons, List.not_mem_nil, or_false] at hx
  rcases hx with rfl | rfl
  · exact prime_2
  · exact prime_37853
theorem prime_75707 : Prime 75707 := cert_prime cert_75707 parts_75707
theorem cert_2437 : certB 2437 2 [2, 2, 3, 7, 29] = true := by decide +kernel
theorem parts_2437 : ∀ x ∈ ([2, 2, 3, 7, 29] : List Nat), Prime x := by
  intro x hx
  simp only [List.mem_cons, List.not_mem_nil, or_false] at hx
  rcases hx with rfl | rfl | rfl | rfl | rfl
  · exact prime_2
  · exact prime_2
  · exact prime_3
  · exact prime_7
  · exact prime_29
theorem prime_2437 : Prime 2437 := cert_prime cert_2437 parts_2437
theorem cert_419 : certB 419 2 [2, 11, 19] = true := by decide +kernel
theorem parts_419 : ∀ x ∈ ([2, 11, 19] : List Nat), Prime x := by
  intro x hx
  simp only [List.mem_cons, List.not_mem_nil, or_false] at hx
  rcases hx with rfl | rfl | rfl
  · exact prime_2
  · exact prime_11
  · exact prime_19
theorem prime_419 : Prime 419 := cert_prime cert_419 parts_419
theorem cert_569003 : certB 569003 2 [2, 7, 97, 419] = true := by decide +kernel
theorem parts_569003 : ∀ x ∈ ([2, 7, 97, 419] : List Nat), Prime x := by
  intro x hx
  simp only [List.mem_cons, List.not_mem_nil, or_false] at hx
  rcases hx with rfl | rfl | rfl | rfl
  · exact prime_2
  · exact prime_7
  · exact prime_97
  · exact prime_419
theorem prime_569003 : Prime 569003 := cert_prime cert_569003 parts_569003
theorem cert_2773320623 : certB 2773320623 5 [2, 2437, 569003] = true := by decide +kernel
theorem parts_2773320623 : ∀ x ∈ ([2, 2437, 569003] : List Nat), Prime x := by
  intro x hx
  simp only [List.mem_cons, List.not_mem_nil, or_false] at hx
  rcases hx with rfl | rfl | rfl
  · exact prime_2
  · exact prime_2437
  · exact prime_569003
theorem prime_2773320623 : Prime 2773320623 := cert_prime cert_2773320623 parts_2773320623
theorem cert_72106336199 : certB 72106336199 7 [2, 13, 2773320623] = true := by decide +kernel
theorem parts_72106336199 : ∀ x ∈ ([2, 13, 2773320623] : List Nat), Prime x := by
  intro x hx
  simp only [List.mem_cons, List.not_mem_nil, or_false] at hx
  rcases hx with rfl | rfl | rfl
  · exact prime_2
  · exact prime_13
  · exact prime_2773320623
theorem prime_72106336199 : Prime 72106336199 := cert_prime cert_72106336199 parts_72106336199
theorem cert_127 : certB 127 3 [2, 3, 3, 7] = true := by decide +kernel
theorem parts_127 : ∀ x ∈ ([2, 3, 3, 7] : List Nat), Prime x := by
  intro x hx
  simp only [List.mem_cons, List.not_mem_nil, or_false] at hx
  rcases hx with rfl | rfl | rfl | rfl
  · exact prime_2
  · exact prime_3
  · exact prime_3
  · exact prime_7
theorem prime_127 : Prime 127 := cert_prime cert_127 parts_127
theorem cert_103 : certB 103 5 [2, 3, 17] = true := by decide +kernel
theorem parts_103 : ∀ x ∈ ([2, 3, 17] : List Nat), Prime x := by
  intro x hx
  simp only [List.mem_cons, List.not_mem_nil, or_false] at hx
  rcases hx with rfl | rfl | rfl
  · exact prime_2
  · exact prime_3
  · exact prime_17
theorem prime_103 : Prime 103 := cert_prime cert_103 parts_103
theorem cert_991 : certB 991 6 [2, 3, 3, 5, 11] = true := by decide +kernel
theorem parts_991 : ∀ x ∈ ([2, 3, 3, 5, 11] : List Nat), Prime x := by
  intro x hx
  simp only [List.mem_cons, List.not_mem_nil, or_false] at hx
  rcases hx with rfl | rfl | rfl | rfl | rfl
  · exact prime_2
  · exact prime_3
  · exact prime_3
  · exact prime_5
  · exact prime_11
theorem prime_991 : Prime 991 := cert_prime cert_991 parts_991
theorem cert_8574133 : certB 8574133 2 [2, 2, 3, 7, 103, 991] = true := by decide +kernel
theorem parts_8574133 : ∀ x ∈ ([2, 2, 3, 7, 103, 991] : List Nat), Prime x := by
  intro x hx
  simp only [List.mem_cons, List.not_mem_nil, or_false] at hx
  rcases hx with rfl | rfl | rfl | rfl | rfl | rfl
  · exact prime_2
  · exact prime_2
  · exact prime_3
  · exact prime_7
  · exact prime_103
  · exact prime_991
theorem prime_8574133 : Prime 8574133 := cert_prime cert_8574133 parts_8574133
theorem cert_1919519569386763 : certB 1919519569386763 2 [2, 3, 7, 19, 47, 47, 127, 8574133] = true := by decide +kernel
theorem parts_1919519569386763 : ∀ x ∈ ([2, 3, 7, 19, 47, 47, 127, 8574133] : List Nat), Prime x := by
  intro x hx
  simp only [List.mem_cons, List.not_mem_nil, or_false] at hx
  rcases hx with rfl | rfl | rfl | rfl | rfl | rfl | rfl | rfl
  · exact prime_2
  · exact prime_3
  · exact prime_7
  · exact prime_19
  · exact prime_47
  · exact prime_47
  · exact prime_127
  · exact prime_8574133
theorem prime_1919519569386763 : Prime 1919519569386763 := cert_prime cert_1919519569386763 parts_1919519569386763
theorem cert_75445702479781427272750846543864801 : certB 75445702479781427272750846543864801 7 [2, 2, 2, 2, 2, 3, 3, 5, 5, 75707, 72106336199, 1919519569386763] = true := by decide +kernel
theorem parts_75445702479781427272750846543864801 : ∀ x ∈ ([2, 2, 2, 2, 2, 3, 3, 5, 5, 75707, 72106336199, 1919519569386763] : List Nat), Prime x := by
  intro x hx
  simp only [List.mem_cons, List.not_mem_nil, or_false] at hx
  rcases hx with rfl | rfl | rfl | rfl | rfl | rfl | rfl | rfl | rfl | rfl | rfl | rfl
  · exact prime_2
  · exact prime_2
  · exact prime_2
  · exact prime_2
  · exact prime_2
  · exact prime_3
  · exact prime_3
  · exact prime_5
  · exact prime_5
  · exact prime_75707
  · exact prime_72106336199
  · exact prime_1919519569386763
theorem prime_75445702479781427272750846543864801 : Prime 75445702479781427272750846543864801 := cert_prime cert_75445702479781427272750846543864801 parts_75445702479781427272750846543864801
theorem cert_74058212732561358302231226437062788676166966415465897661863160754340907 : certB 74058212732561358302231226437062788676166966415465897661863160754340907 2 [2, 3, 353, 57467, 132049, 1923133, 31757755568855353, 75445702479781427272750846543864801] = true := by decide +kernel
theorem parts_74058212732561358302231226437062788676166966415465897661863160754340907 : ∀ x ∈ ([2, 3, 353, 57467, 132049, 1923133, 31757755568855353, 75445702479781427272750846543864801] : List Nat), Prime x := by
  intro x hx
  simp only [List.mem_cons, List.not_mem_nil, or_false] at hx
  rcases hx with rfl | rfl | rfl | rfl | rfl | rfl | rfl | rfl
  · exact prime_2
  · exact prime_3
  · exact prime_353
  · exact prime_57467
  · exact prime_132049
  · exact prime_1923133
  · exact prime_31757755568855353
  · exact prime_75445702479781427272750846543864801
theorem prime_74058212732561358302231226437062788676166966415465897661863160754340907 : Prime 74058212732561358302231226437062788676166966415465897661863160754340907 := cert_prime cert_74058212732561358302231226437062788676166966415465897661863160754340907 parts_74058212732561358302231226437062788676166966415465897661863160754340907
theorem cert_57896044618658097711785492504343953926634992332820282019728792003956564819949 : certB 57896044618658097711785492504343953926634992332820282019728792003956564819949 2 [2, 2, 3, 65147, 74058212732561358302231226437062788676166966415465897661863160754340907] = true := by decide +kernel
theorem parts_57896044618658097711785492504343953926634992332820282019728792003956564819949 : ∀ x ∈ ([2, 2, 3, 65147, 74058212732561358302231226437062788676166966415465897661863160754340907] : List Nat), Prime x := by
  intro x hx
  simp only [List.mem_cons, List.not_mem_nil, or_false] at hx
  rcases hx with rfl | rfl | rfl | rfl | rfl
  · exact prime_2
  · exact prime_2
  · exact prime_3
  · exact prime_65147
  · exact prime_74058212732561358302231226437062788676166966415465897661863160754340907
theorem prime_57896044618658097711785492504343953926634992332820282019728792003956564819949 : Prime 57896044618658097711785492504343953926634992332820282019728792003956564819949 := cert_prime cert_57896044618658097711785492504343953926634992332820282019728792003956564819949 parts_57896044618658097711785492504343953926634992332820282019728792003956564819949
theorem cert_34123 : certB 34123 2 [2, 3, 11, 11, 47] = true := by decide +kernel
theorem parts_34123 : ∀ x ∈ ([2, 3, 11, 11, 47] : List Nat), Prime x := by
  intro x hx
  simp only [List.mem_cons, List.not_mem_nil, or_false] at hx
  rcases hx with rfl | rfl | rfl | rfl | rfl
  · exact prime_2
  · exact prime_3
  · exact prime_11
  · exact prime_11
  · exact prime_47
theorem prime_34123 : Prime 34123 := cert_prime cert_34123 parts_34123
theorem cert_409477 : certB 409477 2 [2, 2, 3, 34123] = true := by decide +kernel
theorem parts_409477 : ∀ x ∈ ([2, 2, 3, 34123] : List Nat), Prime x := by
  intro x hx
  simp only [List.mem_cons, List.not_mem_nil, or_false] at hx
  rcases hx with rfl | rfl | rfl | rfl
  · exact prime_2
  · exact prime_2
  · exact prime_3
  · exact prime_34123
theorem prime_409477 : Prime 409477 := cert_prime cert_409477 parts_409477
theorem cert_14741173 : certB 14741173 2 [2, 2, 3, 3, 409477] = true := by decide +kernel
theorem parts_14741173 : ∀ x ∈ ([2, 2, 3, 3, 409477] : List Nat), Prime x := by
  intro x hx
  simp only [List.mem_cons, List.not_mem_nil, or_false] at hx
  rcases hx with rfl | rfl | rfl | rfl | rfl
  · exact prime_2
  · exact prime_2
  · exact prime_3
  · exact prime_3
  · exact prime_409477
theorem prime_14741173 : Prime 14741173 := cert_prime cert_14741173 parts_14741173
theorem cert_58964693 : certB 58964693 2 [2, 2, 14741173] = true := by decide +kernel
theorem parts_58964693 : ∀ x ∈ ([2, 2, 14741173] : List Nat), Prime x := by
  intro x hx
  simp only [List.mem_cons, List.not_mem_nil, or_false] at hx
  rcases hx with rfl | rfl | rfl
  · exact prime_2
  · exact prime_2
  · exact prime_14741173
theorem prime_58964693 : Prime 58964693 := cert_prime cert_58964693 parts_58964693
theorem cert_30703 : certB 30703 3 [2, 3, 7, 17, 43] = true := by decide +kernel
theorem parts_30703 : ∀ x ∈ ([2, 3, 7, 17, 43] : List Nat), Prime x := by
  intro x hx
  simp only [List.mem_cons, List.not_mem_nil, or_false] at hx
  rcases hx with rfl | rfl | rfl | rfl | rfl
  · exact prime_2
  · exact prime_3
  · exact prime_7
  · exact prime_17
  · exact prime_43
theorem prime_30703 : Prime 30703 := cert_prime cert_30703 parts_30703
theorem cert_41081 : certB 41081 3 [2, 2, 2, 5, 13, 79] = true := by decide +kernel
theorem parts_41081 : ∀ x ∈ ([2, 2, 2, 5, 13, 79] : List Nat), Prime x := by
  intro x hx
  simp only [List.mem_cons, List.not_mem_nil, or_false] at hx
  rcases hx with rfl | rfl | rfl | rfl | rfl | rfl
  · exact prime_2
  · exact prime_2
  · exact prime_2
  · exact prime_5
  · exact prime_13
  · exact prime_79
theorem prime_41081 : Prime 41081 := cert_prime cert_41081 parts_41081
theorem cert_82163 : certB 82163 2 [2, 41081] = true := by decide +kernel
theorem parts_82163 : ∀ x ∈ ([2, 41081] : List Nat), Prime x := by
  intro x hx
  simp only [List.mem_cons, List.not_mem_nil, or_false] at hx
  rcases hx with rfl | rfl
  · exact prime_2
  · exact prime_41081
theorem prime_82163 : Prime 82163 := cert_prime cert_82163 parts_82163
theorem cert_22111 : certB 22111 6 [2, 3, 5, 11, 67] = true := by decide +kernel
theorem parts_22111 : ∀ x ∈ ([2, 3, 5, 11, 67] : List Nat), Prime x := by
  intro x hx
  simp only [List.mem_cons, List.not_mem_nil, or_false] at hx
  rcases hx with rfl | rfl | rfl | rfl | rfl
  · exact prime_2
  · exact prime_3
  · exact prime_5
  · exact prime_11
  · exact prime_67
theorem prime_22111 : Prime 22111 := cert_prime cert_22111 parts_22111
theorem cert_132667 : certB 132667 5 [2, 3, 22111] = true := by decide +kernel
theorem parts_132667 : ∀ x ∈ ([2, 3, 22111] : List Nat), Prime x := by
  intro x hx
  simp only [List.mem_cons, List.not_mem_nil, or_false] at hx
  rcases hx with rfl | rfl | rfl
  · exact prime_2
  · exact prime_3
  · exact prime_22111
theorem prime_132667 : Prime 132667 := cert_prime cert_132667 parts_132667
theorem cert_17231 : certB 17231 13 [2, 5, 1723] = true := by decide +kernel
theorem parts_17231 : ∀ x ∈ ([2, 5, 1723] : List Nat), Prime x := by
  intro x hx
  simp only [List.mem_cons, List.not_mem_nil, or_false] at hx
  rcases hx with rfl | rfl | rfl
  · exact prime_2
  · exact prime_5
  · exact prime_1723
theorem prime_17231 : Prime 17231 := cert_prime cert_17231 parts_17231
theorem cert_137849 : certB 137849 3 [2, 2, 2, 17231] = true := by decide +kernel
theorem parts_137849 : ∀ x ∈ ([2, 2, 2, 17231] : List Nat), Prime x := by
  intro x hx
  simp only [List.mem_cons, List.not_mem_nil, or_false] at hx
  rcases hx with rfl | rfl | rfl | rfl
  · exact prime_2
  · exact prime_2
  · exact prime_2
  · exact prime_17231
theorem prime_137849 : Prime 137849 := cert_prime cert_137849 parts_137849
theorem cert_3044861653679985063343 : certB 3044861653679985063343 5 [2, 3, 11, 30703, 82163, 132667, 137849] = true := by decide +kernel
theorem parts_3044861653679985063343 : ∀ x ∈ ([2, 3, 11, 30703, 82163, 132667, 137849] : List Nat), Prime x := by
  intro x hx
  simp only [List.mem_cons, List.not_mem_nil, or_false] at hx
  rcases hx with rfl | rfl | rfl | rfl | rfl | rfl | rfl
  · exact prime_2
  · exact prime_3
  · exact prime_11
  · exact prime_30703
  · exact prime_82163
  · exact prime_132667
  · exact prime_137849
theorem prime_3044861653679985063343 : Prime 3044861653679985063343 := cert_prime cert_3044861653679985063343 parts_3044861653679985063343
theorem cert_198211423230930754013084525763697 : certB 198211423230930754013084525763697 5 [2, 2, 2, 2, 3, 23, 58964693, 3044861653679985063343] = true := by decide +kernel
theorem parts_198211423230930754013084525763697 : ∀ x ∈ ([2, 2, 2, 2, 3, 23, 58964693, 3044861653679985063343] : List Nat), Prime x := by
  intro x hx
  simp only [List.mem_cons, List.not_mem_nil, or_false] at hx
  rcases hx with rfl | rfl | rfl | rfl | rfl | rfl | rfl | rfl
  · exact prime_2
  · exact prime_2
  · exact prime_2
  · exact prime_2
  · exact prime_3
  · exact prime_23
  · exact prime_58964693
  · exact prime_3044861653679985063343
theorem prime_198211423230930754013084525763697 : Prime 198211423230930754013084525763697 := cert_prime cert_198211423230930754013084525763697 parts_198211423230930754013084525763697
theorem cert_269 : certB 269 2 [2, 2, 67] = true := by decide +kernel
theorem parts_269 : ∀ x ∈ ([2, 2, 67] : List Nat), Prime x := by
  intro x hx
  simp only [List.mem_cons, List.not_mem_nil, or_false] at hx
  rcases hx with rfl | rfl | rfl
  · exact prime_2
  · exact prime_2
  · exact prime_67
theorem prime_269 : Prime 269 := cert_prime cert_269 parts_269
theorem cert_307 : certB 307 5 [2, 3, 3, 17] = true := by decide +kernel
theorem parts_307 : ∀ x ∈ ([2, 3, 3, 17] : List Nat), Prime x := by
  intro x hx
  simp only [List.mem_cons, List.not_mem_nil, or_false] at hx
  rcases hx with rfl | rfl | rfl | rfl
  · exact prime_2
  · exact prime_3
  · exact prime_3
  · exact prime_17
theorem prime_307 : Prime 307 := cert_prime cert_307 parts_307
theorem cert_113 : certB 113 3 [2, 2, 2, 2, 7] = true := by decide +kernel
theorem parts_113 : ∀ x ∈ ([2, 2, 2, 2, 7] : List Nat), Prime x := by
  intro x hx
  simp only [List.mem_cons, List.not_mem_nil, or_false] at hx
  rcases hx with rfl | rfl | rfl | rfl | rfl
  · exact prime_2
  · exact prime_2
  · exact prime_2
  · exact prime_2
  · exact prime_7
theorem prime_113 : Prime 113 := cert_prime cert_113 parts_113
theorem cert_2939 : certB 2939 2 [2, 13, 113] = true := by decide +kernel
theorem parts_2939 : ∀ x ∈ ([2, 13, 113] : List Nat), Prime x := by
  intro x hx
  simp only [List.mem_cons, List.not_mem_nil, or_false] at hx
  rcases hx with rfl | rfl | rfl
  · exact prime_2
  · exact prime_13
  · exact prime_113
theorem prime_2939 : Prime 2939 := cert_prime cert_2939 parts_2939
theorem cert_5879 : certB 5879 11 [2, 2939] = true := by decide +kernel
theorem parts_5879 : ∀ x ∈ ([2, 2939] : List Nat), Prime x := by
  intro x hx
  simp only [List.mem_cons, List.not_mem_nil, or_false] at hx
  rcases hx with rfl | rfl
  · exact prime_2
  · exact prime_2939
theorem prime_5879 : Prime 5879 := cert_prime cert_5879 parts_5879
theorem cert_292386187 : certB 292386187 2 [2, 3, 3, 3, 3, 307, 5879] = true := by decide +kernel
theorem parts_292386187 : ∀ x ∈ ([2, 3, 3, 3, 3, 307, 5879] : List Nat), Prime x := by
  intro x hx
  simp only [List.mem_cons, List.not_mem_nil, or_false] at hx
  rcases hx with rfl | rfl | rfl | rfl | rfl | rfl | rfl
  · exact prime_2
  · exact prime_3
  · exact prime_3
  · exact prime_3
  · exact prime_3
  · exact prime_307
  · exact prime_5879
theorem prime_292386187 : Prime 292386187 := cert_prime cert_292386187 parts_292386187
theorem cert_213441916511 : certB 213441916511 13 [2, 5, 73, 292386187] = true := by decide +kernel
theorem parts_213441916511 : ∀ x ∈ ([2, 5, 73, 292386187] : List Nat), Prime x := by
  intro x hx
  simp only [List.mem_cons, List.not_mem_nil, or_false] at hx
  rcases hx with rfl | rfl | rfl | rfl
  · exact prime_2
  · exact prime_5
  · exact prime_73
  · exact prime_292386187
theorem prime_213441916511 : Prime 213441916511 := cert_prime cert_213441916511 parts_213441916511
theorem cert_1361 : certB 1361 3 [2, 2, 2, 2, 5, 17] = true := by decide +kernel
theorem parts_1361 : ∀ x ∈ ([2, 2, 2, 2, 5, 17] : List Nat), Prime x := by
  intro x hx
  simp only [List.mem_cons, List.not_mem_nil, or_false] at hx
  rcases hx with rfl | rfl | rfl | rfl | rfl | rfl
  · exact prime_2
  · exact prime_2
  · exact prime_2
  · exact prime_2
  · exact prime_5
  · exact prime_17
theorem prime_1361 : Prime 1361 := cert_prime cert_1361 parts_1361
theorem cert_2851 : certB 2851 2 [2, 3, 5, 5, 19] = true := by decide +kernel
theorem parts_2851 : ∀ x ∈ ([2, 3, 5, 5, 19] : List Nat), Prime x := by
  intro x hx
  simp only [List.mem_cons, List.not_mem_nil, or_false] at hx
  rcases hx with rfl | rfl | rfl | rfl | rfl
  · exact prime_2
  · exact prime_3
  · exact prime_5
  · exact prime_5
  · exact prime_19
theorem prime_2851 : Prime 2851 := cert_prime cert_2851 parts_2851
theorem cert_3797 : certB 3797 2 [2, 2, 13, 73] = true := by decide +kernel
theorem parts_3797 : ∀ x ∈ ([2, 2, 13, 73] : List Nat), Prime x := by
  intro x hx
  simp only [List.mem_cons, List.not_mem_nil, or_false] at hx
  rcases hx with rfl | rfl | rfl | rfl
  · exact prime_2
  · exact prime_2
  · exact prime_13
  · exact prime_73
theorem prime_3797 : Prime 3797 := cert_prime cert_3797 parts_3797
theorem cert_531581 : certB 531581 2 [2, 2, 5, 7, 3797] = true := by decide +kernel
theorem parts_531581 : ∀ x ∈ ([2, 2, 5, 7, 3797] : List Nat), Prime x := by
  intro x hx
  simp only [List.mem_cons, List.not_mem_nil, or_false] at hx
  rcases hx with rfl | rfl | rfl | rfl | rfl
  · exact prime_2
  · exact prime_2
  · exact prime_5
  · exact prime_7
  · exact prime_3797
theorem prime_531581 : Prime 531581 := cert_prime cert_531581 parts_531581
theorem cert_2551 : certB 2551 6 [2, 3, 5, 5, 17] = true := by decide +kernel
theorem parts_2551 : ∀ x ∈ ([2, 3, 5, 5, 17] : List Nat), Prime x := by
  intro x hx
  simp only [List.mem_cons, List.not_mem_nil, or_false] at hx
  rcases hx with rfl | rfl | rfl | rfl | rfl
  · exact prime_2
  · exact prime_3
  · exact prime_5
  · exact prime_5
  · exact prime_17
theorem prime_2551 : Prime 2551 := cert_prime cert_2551 parts_2551
theorem cert_1224481 : certB 1224481 13 [2, 2, 2, 2, 2, 3, 5, 2551] = true := by decide +kernel
theorem parts_1224481 : ∀ x ∈ ([2, 2, 2, 2, 2, 3, 5, 2551] : List Nat), Prime x := by
  intro x hx
  simp only [List.mem_cons, List.not_mem_nil, or_false] at hx
  rcases hx with rfl | rfl | rfl | rfl | rfl | rfl | rfl | rfl
  · exact prime_2
  · exact prime_2
  · exact prime_2
  · exact prime_2
  · exact prime_2
  · exact prime_3
  · exact prime_5
  · exact prime_2551
theorem prime_1224481 : Prime 1224481 := cert_prime cert_1224481 parts_1224481
theorem cert_1257559732178653 : certB 1257559732178653 2 [2, 2, 3, 7, 23, 531581, 1224481] = true := by decide +kernel
theorem parts_1257559732178653 : ∀ x ∈ ([2, 2, 3, 7, 23, 531581, 1224481] : List Nat), Prime x := by
  intro x hx
  simp only [List.mem_cons, List.not_mem_nil, or_false] at hx
  rcases hx with rfl | rfl | rfl | rfl | rfl | rfl | rfl
  · exact prime_2
  · exact prime_2
  · exact prime_3
  · exact prime_7
  · exact prime_23
  · exact prime_531581
  · exact prime_1224481
theorem prime_1257559732178653 : Prime 1257559732178653 := cert_prime cert_1257559732178653 parts_1257559732178653
theorem cert_4434155615661930479 : certB 4434155615661930479 17 [2, 41, 43, 1257559732178653] = true := by decide +kernel
theorem parts_4434155615661930479 : ∀ x ∈ ([2, 41, 43, 1257559732178653] : List Nat), Prime x := by
  intro x hx
  simp only [List.mem_cons, List.not_mem_nil, or_false] at hx
  rcases hx with rfl | rfl | rfl | rfl
  · exact prime_2
  · exact prime_41
  · exact prime_43
  · exact prime_1257559732178653
theorem prime_4434155615661930479 : Prime 4434155615661930479 := cert_prime cert_4434155615661930479 parts_4434155615661930479
theorem cert_172054593956031949258510691 : certB 172054593956031949258510691 2 [2, 5, 1361, 2851, 4434155615661930479] = true := by decide +kernel
theorem parts_172054593956031949258510691 : ∀ x ∈ ([2, 5, 1361, 2851, 4434155615661930479] : List Nat), Prime x := by
  intro x hx
  simp only [List.mem_cons, List.not_mem_nil, or_false] at hx
  rcases hx with rfl | rfl | rfl | rfl | rfl
  · exact prime_2
  · exact prime_5
  · exact prime_1361
  · exact prime_2851
  · exact prime_4434155615661930479
theorem prime_172054593956031949258510691 : Prime 172054593956031949258510691 := cert_prime cert_172054593956031949258510691 parts_172054593956031949258510691
theorem cert_19757330305831588566944191468367130476339 : certB 19757330305831588566944191468367130476339 2 [2, 269, 213441916511, 172054593956031949258510691] = true := by decide +kernel
theorem parts_19757330305831588566944191468367130476339 : ∀ x ∈ ([2, 269, 213441916511, 172054593956031949258510691] : List Nat), Prime x := by
  intro x hx
  simp only [List.mem_cons, List.not_mem_nil, or_false] at hx
  rcases hx with rfl | rfl | rfl | rfl
  · exact prime_2
  · exact prime_269
  · exact prime_213441916511
  · exact prime_172054593956031949258510691
theorem prime_19757330305831588566944191468367130476339 : Prime 19757330305831588566944191468367130476339 := cert_prime cert_19757330305831588566944191468367130476339 parts_19757330305831588566944191468367130476339
theorem cert_276602624281642239937218680557139826668747 : certB 276602624281642239937218680557139826668747 2 [2, 7, 19757330305831588566944191468367130476339] = true := by decide +kernel
theorem parts_276602624281642239937218680557139826668747 : ∀ x ∈ ([2, 7, 19757330305831588566944191468367130476339] : List Nat), Prime x := by
  intro x hx
  simp only [List.mem_cons, List.not_mem_nil, or_false] at hx
  rcases hx with rfl | rfl | rfl
  · exact prime_2
  · exact prime_7
  · exact prime_19757330305831588566944191468367130476339
theorem prime_276602624281642239937218680557139826668747 : Prime 276602624281642239937218680557139826668747 := cert_prime cert_276602624281642239937218680557139826668747 parts_276602624281642239937218680557139826668747
theorem cert_7237005577332262213973186563042994240857116359379907606001950938285454250989 : certB 7237005577332262213973186563042994240857116359379907606001950938285454250989 2 [2, 2, 3, 11, 198211423230930754013084525763697, 276602624281642239937218680557139826668747] = true := by decide +kernel
theorem parts_7237005577332262213973186563042994240857116359379907606001950938285454250989 : ∀ x ∈ ([2, 2, 3, 11, 198211423230930754013084525763697, 276602624281642239937218680557139826668747] : List Nat), Prime x := by
  intro x hx
  simp only [List.mem_cons, List.not_mem_nil, or_false] at hx
  rcases hx with rfl | rfl | rfl | rfl | rfl | rfl
  · exact prime_2
  · exact prime_2
  · exact prime_3
  · exact prime_11
  · exact prime_198211423230930754013084525763697
  · exact prime_276602624281642239937218680557139826668747
theorem prime_7237005577332262213973186563042994240857116359379907606001950938285454250989 : Prime 7237005577332262213973186563042994240857116359379907606001950938285454250989 := cert_prime cert_7237005577332262213973186563042994240857116359379907606001950938285454250989 parts_7237005577332262213973186563042994240857116359379907606001950938285454250989
theorem ord_P : IsOrd 57896044618658097711785492504343953926634992332820282019728792003956564819949 2 (57896044618658097711785492504343953926634992332820282019728792003956564819949 - 1) := cert_ord cert_57896044618658097711785492504343953926634992332820282019728792003956564819949 parts_57896044618658097711785492504343953926634992332820282019728792003956564819949
theorem prime_P : Prime 57896044618658097711785492504343953926634992332820282019728792003956564819949 := prime_57896044618658097711785492504343953926634992332820282019728792003956564819949
theorem prime_L : Prime 7237005577332262213973186563042994240857116359379907606001950938285454250989 := prime_7237005577332262213973186563042994240857116359379907606001950938285454250989
end Go.Proofs.YtkbgkobbadjpnaaDoor
namespace Go.Proofs.YtkbgkobbadjpnaaDoor
variable {p : Nat} [NeZero p]
theorem assocIdX (x1 y1 x2 y2 x3 y3 d a : Fin p) : ((x1*y2 + y1*x2)*(1 - d*x1*x2*y1*y2)*y3 + (y1*y2 - a*x1*x2)*(1 + d*x1*x2*y1*y2)*x3) * ((1 + d*x2*x3*y2*y3)*(1 - d*x2*x3*y2*y3) + d*(x2*y3 + y2*x3)*(y2*y3 - a*x2*x3)*x1*y1) - ((x2*y3 + y2*x3)*(1 - d*x2*x3*y2*y3)*y1 + (y2*y3 - a*x2*x3)*(1 + d*x2*x3*y2*y3)*x1) * ((1 + d*x1*x2*y1*y2)*(1 - d*x1*x2*y1*y2) + d*(x1*y2 + y1*x2)*(y1*y2 - a*x1*x2)*x3*y3) =
    (y1*x2*y2*y2*y2*y2*x3*x3*y3*d + y1*x2*x2*y2*y2*y2*x3*d - y1*x2*x2*y2*y2*y2*x3*x3*x3*d*a + y1*x2*x2*x2*y2*y2*y3*d - y1*x2*x2*x2*y2*y2*y3*y3*y3*d - y1*x2*x2*x2*y2*y2*y2*y2*x3*x3*y3*d*d + y1*x2*x2*x2*x2*y2*x3*y3*y3*d*a - y1*x2*x2*x2*x2*y2*y2*y2*x3*y3*y3*d*d - x1*x2*y2*y2*y2*y2*x3*y3*y3*d + x1*x2*x2*y2*y2*y2*y3*d - x1*x2*x2*y2*y2*y2*y3*y3*y3*d - x1*x2*x2*x2*y2*y2*x3*d*a + x1*x2*x2*x2*y2*y2*x3*x3*x3*d*a*a + x1*x2*x2*x2*y2*y2*y2*y2*x3*y3*y3*d*d + x1*x2*x2*x2*x2*y2*x3*x3*y3*d*a*a - x1*x2*x2*x2*x2*y2*y2*y2*x3*x3*y3*d*d*a) * (d*x1*x1*y1*y1 - y1*y1 - a*x1*x1 + 1) +
    (0 - y1*y2*x3 + y1*y2*x3*y3*y3 + y1*y2*x3*x3*x3*a - y1*y2*x3*x3*x3*y3*y3*d - y1*x2*y3 + y1*x2*y3*y3*y3 + y1*x2*x3*x3*y3*a - y1*x2*x3*x3*y3*y3*y3*d + y1*x2*y2*y2*x3*x3*y3*d + y1*x2*x2*y2*x3*y3*y3*d + y1*y1*y1*y2*x3 - y1*y1*y1*y2*x3*y3*y3 - y1*y1*y1*y2*x3*x3*x3*a + y1*y1*y1*y2*x3*x3*x3*y3*y3*d + y1*y1*y1*x2*y3 - y1*y1*y1*x2*y3*y3*y3 - y1*y1*y1*x2*x3*x3*y3*a + y1*y1*y1*x2*x3*x3*y3*y3*y3*d - y1*y1*y1*x2*y2*y2*x3*x3*y3*d - y1*y1*y1*x2*x2*y2*x3*y3*y3*d - x1*y2*y3 + x1*y2*y3*y3*y3 + x1*y2*x3*x3*y3*a - x1*y2*x3*x3*y3*y3*y3*d + x1*x2*x3*a - x1*x2*x3*y3*y3*a - x1*x2*x3*x3*x3*a*a + x1*x2*x3*x3*x3*y3*y3*d*a - x1*x2*y2*y2*x3*y3*y3*d + x1*x2*x2*y2*x3*x3*y3*d*a + x1*y1*y1*y2*y3 - x1*y1*y1*y2*y3*y3*y3 - x1*y1*y1*y2*x3*x3*y3*a + x1*y1*y1*y2*x3*x3*y3*y3*y3*d - x1*y1*y1*x2*x3*a + x1*y1*y1*x2*x3*y3*y3*a + x1*y1*y1*x2*x3*x3*x3*a*a - x1*y1*y1*x2*x3*x3*x3*y3*y3*d*a + x1*y1*y1*x2*y2*y2*x3*y3*y3*d - x1*y1*y1*x2*y2*y2*x3*x3*x3*y3*y3*d*d - x1*y1*y1*x2*x2*y2*x3*x3*y3*d*a + x1*y1*y1*x2*x2*y2*x3*x3*y3*y3*y3*d*d + x1*x1*y1*y2*x3*a - x1*x1*y1*y2*x3*y3*y3*a - x1*x1*y1*y2*x3*x3*x3*a*a + x1*x1*y1*y2*x3*x3*x3*y3*y3*d*a + x1*x1*y1*x2*y3*a - x1*x1*y1*x2*y3*y3*y3*a - x1*x1*y1*x2*x3*x3*y3*a*a + x1*x1*y1*x2*x3*x3*y3*y3*y3*d*a - x1*x1*y1*x2*y2*y2*x3*x3*y3*d*a + x1*x1*y1*x2*y2*y2*x3*x3*y3*y3*y3*d*d - x1*x1*y1*x2*x2*y2*x3*y3*y3*d*a + x1*x1*y1*x2*x2*y2*x3*x3*x3*y3*y3*d*d*a + x1*x1*x1*y2*y3*a - x1*x1*x1*y2*y3*y3*y3*a - x1*x1*x1*y2*x3*x3*y3*a*a + x1*x1*x1*y2*x3*x3*y3*y3*y3*d*a - x1*x1*x1*x2*x3*a*a + x1*x1*x1*x2*x3*y3*y3*a*a + x1*x1*x1*x2*x3*x3*x3*a*a*a - x1*x1*x1*x2*x3*x3*x3*y3*y3*d*a*a + x1*x1*x1*x2*y2*y2*x3*y3*y3*d*a - x1*x1*x1*x2*x2*y2*x3*x3*y3*d*a*a) * (d*x2*x2*y2*y2 - y2*y2 - a*x2*x2 + 1) +
    (y1*y2*x3 - y1*y2*y2*y2*x3 + y1*x2*y3 - y1*x2*y2*y2*y3 - y1*x2*x2*y2*x3*a - y1*x2*x2*x2*y3*a - y1*y1*y1*y2*x3 + y1*y1*y1*y2*y2*y2*x3 - y1*y1*y1*x2*y3 + y1*y1*y1*x2*y2*y2*y3 + y1*y1*y1*x2*x2*y2*x3*a + y1*y1*y1*x2*x2*x2*y3*a + x1*y2*y3 - x1*y2*y2*y2*y3 - x1*x2*x3*a + x1*x2*y2*y2*x3*a - x1*x2*x2*y2*y3*a + x1*x2*x2*x2*x3*a*a - x1*y1*y1*y2*y3 + x1*y1*y1*y2*y2*y2*y3 + x1*y1*y1*x2*x3*a - x1*y1*y1*x2*y2*y2*x3*a + x1*y1*y1*x2*y2*y2*x3*d + x1*y1*y1*x2*x2*y2*y3*a - x1*y1*y1*x2*x2*y2*y3*d - x1*y1*y1*x2*x2*x2*x3*a*a - x1*x1*y1*y2*x3*a + x1*x1*y1*y2*y2*y2*x3*a - x1*x1*y1*x2*y3*a + x1*x1*y1*x2*y2*y2*y3*a - x1*x1*y1*x2*y2*y2*y3*d + x1*x1*y1*x2*x2*y2*x3*a*a - x1*x1*y1*x2*x2*y2*x3*d*a + x1*x1*y1*x2*x2*x2*y3*a*a - x1*x1*x1*y2*y3*a + x1*x1*x1*y2*y2*y2*y3*a + x1*x1*x1*x2*x3*a*a - x1*x1*x1*x2*y2*y2*x3*a*a + x1*x1*x1*x2*x2*y2*y3*a*a - x1*x1*x1*x2*x2*x2*x3*a*a*a) * (d*x3*x3*y3*y3 - y3*y3 - a*x3*x3 + 1) := by grind
theorem assocIdY (x1 y1 x2 y2 x3 y3 d a : Fin p) : ((y1*y2 - a*x1*x2)*(1 + d*x1*x2*y1*y2)*y3 - a*(x1*y2 + y1*x2)*(1 - d*x1*x2*y1*y2)*x3) * ((1 + d*x2*x3*y2*y3)*(1 - d*x2*x3*y2*y3) - d*(x2*y3 + y2*x3)*(y2*y3 - a*x2*x3)*x1*y1) - ((y2*y3 - a*x2*x3)*(1 + d*x2*x3*y2*y3)*y1 - a*(x2*y3 + y2*x3)*(1 - d*x2*x3*y2*y3)*x1) * ((1 + d*x1*x2*y1*y2)*(1 - d*x1*x2*y1*y2) - d*(x1*y2 + y1*x2)*(y1*y2 - a*x1*x2)*x3*y3) =
    (0 - y1*x2*y2*y2*y2*y2*x3*y3*y3*d + y1*x2*x2*y2*y2*y2*y3*d - y1*x2*x2*y2*y2*y2*y3*y3*y3*d - y1*x2*x2*x2*y2*y2*x3*d*a + y1*x2*x2*x2*y2*y2*x3*x3*x3*d*a*a + y1*x2*x2*x2*y2*y2*y2*y2*x3*y3*y3*d*d + y1*x2*x2*x2*x2*y2*x3*x3*y3*d*a*a - y1*x2*x2*x2*x2*y2*y2*y2*x3*x3*y3*d*d*a - x1*x2*y2*y2*y2*y2*x3*x3*y3*d*a - x1*x2*x2*y2*y2*y2*x3*d*a + x1*x2*x2*y2*y2*y2*x3*x3*x3*d*a*a - x1*x2*x2*x2*y2*y2*y3*d*a + x1*x2*x2*x2*y2*y2*y3*y3*y3*d*a + x1*x2*x2*x2*y2*y2*y2*y2*x3*x3*y3*d*d*a - x1*x2*x2*x2*x2*y2*x3*y3*y3*d*a*a + x1*x2*x2*x2*x2*y2*y2*y2*x3*y3*y3*d*d*a) * (d*x1*x1*y1*y1 - y1*y1 - a*x1*x1 + 1) +
    (0 - y1*y2*y3 + y1*y2*y3*y3*y3 + y1*y2*x3*x3*y3*a - y1*y2*x3*x3*y3*y3*y3*d + y1*x2*x3*a - y1*x2*x3*y3*y3*a - y1*x2*x3*x3*x3*a*a + y1*x2*x3*x3*x3*y3*y3*d*a - y1*x2*y2*y2*x3*y3*y3*d + y1*x2*x2*y2*x3*x3*y3*d*a + y1*y1*y1*y2*y3 - y1*y1*y1*y2*y3*y3*y3 - y1*y1*y1*y2*x3*x3*y3*a + y1*y1*y1*y2*x3*x3*y3*y3*y3*d - y1*y1*y1*x2*x3*a + y1*y1*y1*x2*x3*y3*y3*a + y1*y1*y1*x2*x3*x3*x3*a*a - y1*y1*y1*x2*x3*x3*x3*y3*y3*d*a + y1*y1*y1*x2*y2*y2*x3*y3*y3*d - y1*y1*y1*x2*x2*y2*x3*x3*y3*d*a + x1*y2*x3*a - x1*y2*x3*y3*y3*a - x1*y2*x3*x3*x3*a*a + x1*y2*x3*x3*x3*y3*y3*d*a + x1*x2*y3*a - x1*x2*y3*y3*y3*a - x1*x2*x3*x3*y3*a*a + x1*x2*x3*x3*y3*y3*y3*d*a - x1*x2*y2*y2*x3*x3*y3*d*a - x1*x2*x2*y2*x3*y3*y3*d*a - x1*y1*y1*y2*x3*a + x1*y1*y1*y2*x3*y3*y3*a + x1*y1*y1*y2*x3*x3*x3*a*a - x1*y1*y1*y2*x3*x3*x3*y3*y3*d*a - x1*y1*y1*x2*y3*a + x1*y1*y1*x2*y3*y3*y3*a + x1*y1*y1*x2*x3*x3*y3*a*a - x1*y1*y1*x2*x3*x3*y3*y3*y3*d*a + x1*y1*y1*x2*y2*y2*x3*x3*y3*d*a - x1*y1*y1*x2*y2*y2*x3*x3*y3*y3*y3*d*d + x1*y1*y1*x2*x2*y2*x3*y3*y3*d*a - x1*y1*y1*x2*x2*y2*x3*x3*x3*y3*y3*d*d*a + x1*x1*y1*y2*y3*a - x1*x1*y1*y2*y3*y3*y3*a - x1*x1*y1*y2*x3*x3*y3*a*a + x1*x1*y1*y2*x3*x3*y3*y3*y3*d*a - x1*x1*y1*x2*x3*a*a + x1*x1*y1*x2*x3*y3*y3*a*a + x1*x1*y1*x2*x3*x3*x3*a*a*a - x1*x1*y1*x2*x3*x3*x3*y3*y3*d*a*a + x1*x1*y1*x2*y2*y2*x3*y3*y3*d*a - x1*x1*y1*x2*y2*y2*x3*x3*x3*y3*y3*d*d*a - x1*x1*y1*x2*x2*y2*x3*x3*y3*d*a*a + x1*x1*y1*x2*x2*y2*x3*x3*y3*y3*y3*d*d*a - x1*x1*x1*y2*x3*a*a + x1*x1*x1*y2*x3*y3*y3*a*a + x1*x1*x1*y2*x3*x3*x3*a*a*a - x1*x1*x1*y2*x3*x3*x3*y3*y3*d*a*a - x1*x1*x1*x2*y3*a*a + x1*x1*x1*x2*y3*y3*y3*a*a + x1*x1*x1*x2*x3*x3*y3*a*a*a - x1*x1*x1*x2*x3*x3*y3*y3*y3*d*a*a + x1*x1*x1*x2*y2*y2*x3*x3*y3*d*a*a + x1*x1*x1*x2*x2*y2*x3*y3*y3*d*a*a) * (d*x2*x2*y2*y2 - y2*y2 - a*x2*x2 + 1) +
    (y1*y2*y3 - y1*y2*y2*y2*y3 - y1*x2*x3*a + y1*x2*y2*y2*x3*a - y1*x2*x2*y2*y3*a + y1*x2*x2*x2*x3*a*a - y1*y1*y1*y2*y3 + y1*y1*y1*y2*y2*y2*y3 + y1*y1*y1*x2*x3*a - y1*y1*y1*x2*y2*y2*x3*a + y1*y1*y1*x2*x2*y2*y3*a - y1*y1*y1*x2*x2*x2*x3*a*a - x1*y2*x3*a + x1*y2*y2*y2*x3*a - x1*x2*y3*a + x1*x2*y2*y2*y3*a + x1*x2*x2*y2*x3*a*a + x1*x2*x2*x2*y3*a*a + x1*y1*y1*y2*x3*a - x1*y1*y1*y2*y2*y2*x3*a + x1*y1*y1*x2*y3*a - x1*y1*y1*x2*y2*y2*y3*a + x1*y1*y1*x2*y2*y2*y3*d - x1*y1*y1*x2*x2*y2*x3*a*a + x1*y1*y1*x2*x2*y2*x3*d*a - x1*y1*y1*x2*x2*x2*y3*a*a - x1*x1*y1*y2*y3*a + x1*x1*y1*y2*y2*y2*y3*a + x1*x1*y1*x2*x3*a*a - x1*x1*y1*x2*y2*y2*x3*a*a + x1*x1*y1*x2*y2*y2*x3*d*a + x1*x1*y1*x2*x2*y2*y3*a*a - x1*x1*y1*x2*x2*y2*y3*d*a - x1*x1*y1*x2*x2*x2*x3*a*a*a + x1*x1*x1*y2*x3*a*a - x1*x1*x1*y2*y2*y2*x3*a*a + x1*x1*x1*x2*y3*a*a - x1*x1*x1*x2*y2*y2*y3*a*a - x1*x1*x1*x2*x2*y2*x3*a*a*a - x1*x1*x1*x2*x2*x2*y3*a*a*a) * (d*x3*x3*y3*y3 - y3*y3 - a*x3*x3 + 1) := by grind
theorem closedId (x1 y1 x2 y2 d a : Fin p) (h1 : d*x1*x1*y1*y1 - y1*y1 - a*x1*x1 + 1 = 0) (h2 : d*x2*x2*y2*y2 - y2*y2 - a*x2*x2 + 1 = 0) : a*(x1*y2 + y1*x2)*(x1*y2 + y1*x2)*(1 - d*x1*x2*y1*y2)*(1 - d*x1*x2*y1*y2) + (y1*y2 - a*x1*x2)*(y1*y2 - a*x1*x2)*(1 + d*x1*x2*y1*y2)*(1 + d*x1*x2*y1*y2) = (1 + d*x1*x2*y1*y2)*(1 + d*x1*x2*y1*y2)*(1 - d*x1*x2*y1*y2)*(1 - d*x1*x2*y1*y2) + d*(x1*y2 + y1*x2)*(x1*y2 + y1*x2)*(y1*y2 - a*x1*x2)*(y1*y2 - a*x1*x2) := by grind
end Go.Proofs.YtkbgkobbadjpnaaDoor
namespace Go.Proofs.YtkbgkobbadjpnaaDoor
set_option linter.unusedVariables false
/-- The numbers modulo p are a field. -/
structure Fl (n : Nat) [NeZero n] where
  inv : Fin n → Fin n
  mul_inv : ∀ a : Fin n, a ≠ 0 → a * inv a = 1
  mul_zero : ∀ a b : Fin n, a * b = 0 → a = 0 ∨ b = 0
  one_ne : (1 : Fin n) ≠ 0
  two_ne : (2 : Fin n) ≠ 0
variable {n : Nat} [NeZero n] {K : Fl n}
theorem sub_zero_eq {a b : Fin n} (h : a - b = 0) : a = b := by grind
theorem mul_sub_zero {a b c : Fin n} (h : a * b = a * c) : a * (b - c) = 0 := by grind
theorem Fl.cancel (K : Fl n) {a b c : Fin n} (ha : a ≠ 0) (h : a * b = a * c) : b = c := by
  rcases K.mul_zero _ _ (mul_sub_zero h) with h1 | h1
  · exact absurd h1 ha
  · exact sub_zero_eq h1
structure Ed (K : Fl n) where
  a : Fin n
  d : Fin n
  s : Fin n
  hs : s * s = a
  s0 : s ≠ 0
  nd : ∀ w : Fin n, w * w ≠ d
structure P2 (n : Nat) where
  x : Fin n
  y : Fin n
set_option linter.unusedSectionVars false
theorem P2.ext' {p q : P2 n} (h : p.x = q.x) (k : p.y = q.y) : p = q := by cases p; cases q; cases h; cases k; rfl
def Ed.on (E : Ed K) (p : P2 n) : Prop := E.a * p.x * p.x + p.y * p.y = 1 + E.d * p.x * p.x * p.y * p.y
def Ed.dl (E : Ed K) (p q : P2 n) : Fin n := E.d * p.x * q.x * p.y * q.y
def Ed.add (E : Ed K) (p q : P2 n) : P2 n := ⟨(p.x * q.y + p.y * q.x) * K.inv (1 + E.dl p q), (p.y * q.y - E.a * p.x * q.x) * K.inv (1 - E.dl p q)⟩
def P2.zero : P2 n := ⟨0, 1⟩
def P2.neg (p : P2 n) : P2 n := ⟨0 - p.x, p.y⟩
theorem on_poly {a d x y : Fin n} (h : a * x * x + y * y = 1 + d * x * x * y * y) : d * x * x * y * y - y * y - a * x * x + 1 = 0 := by grind
theorem two_zero {s x y : Fin n} (h1 : s * x + 1 * y = 0) (h2 : s * x + (0 - 1) * y = 0) : 2 * (s * x) = 0 := by grind
theorem neg_one_sq : (0 - 1 : Fin n) * (0 - 1) = 1 := by grind
theorem one_sq : (1 : Fin n) * 1 = 1 := by grind
theorem Ed.d0 (E : Ed K) : E.d ≠ 0 := fun h => E.nd 0 (by rw [h]; grind)
/-- What is to be divided by is never 0. -/
theorem Ed.complete (E : Ed K) {p q : P2 n} (hp : E.on p) (hq : E.on q) (h : E.dl p q * E.dl p q = 1) : False := by
  obtain ⟨x1, y1⟩ := p
  obtain ⟨x2, y2⟩ := q
  obtain ⟨a, d, s, hs, s0, nd⟩ := E
  simp only [Ed.on, Ed.dl] at *
  have hd0 : d ≠ 0 := fun h0 => nd 0 (by rw [h0]; grind)
  have hx1 : x1 ≠ 0 := fun h0 => by
    rw [h0] at h
    exact K.one_ne (by grind)
  have hy1 : y1 ≠ 0 := fun h0 => by
    rw [h0] at h
    exact K.one_ne (by grind)
  have hx2 : x2 ≠ 0 := fun h0 => by
    rw [h0] at h
    exact K.one_ne (by grind)
  -- (s x1 + D y1)^2 = d x1^2 y1^2 (s x2 + y2)^2, and with the other sign
  have e0 : a * x1 * x1 + y1 * y1 = d * x1 * x1 * y1 * y1 * (a * x2 * x2 + y2 * y2) := by
    rw [hq, hp]
    have : d * x1 * x1 * y1 * y1 * (1 + d * x2 * x2 * y2 * y2) = d * x1 * x1 * y1 * y1 + d * x1 * x2 * y1 * y2 * (d * x1 * x2 * y1 * y2) := by grind
    rw [this, h]
    grind
  have key : ∀ t : Fin n, t * t = 1 → (s * x1 + t * (d * x1 * x2 * y1 * y2) * y1) * (s * x1 + t * (d * x1 * x2 * y1 * y2) * y1) = d * (x1 * y1) * (x1 * y1) * ((s * x2 + t * y2) * (s * x2 + t * y2)) := by
    intro t ht
    have : (s * x1 + t * (d * x1 * x2 * y1 * y2) * y1) * (s * x1 + t * (d * x1 * x2 * y1 * y2) * y1) = s * s * x1 * x1 + t * t * (d * x1 * x2 * y1 * y2 * (d * x1 * x2 * y1 * y2)) * (y1 * y1) + 2 * s * t * x1 * y1 * (d * x1 * x2 * y1 * y2) := by grind
    rw [this, h, hs, ht]
    have e1 : a * x1 * x1 + 1 * 1 * (y1 * y1) = d * x1 * x1 * y1 * y1 * (a * x2 * x2 + y2 * y2) := by rw [← e0]; grind
    rw [e1, ← hs]
    have e2 : d * (x1 * y1) * (x1 * y1) * ((s * x2 + t * y2) * (s * x2 + t * y2)) = d * (x1 * y1) * (x1 * y1) * (s * s * x2 * x2 + t * t * (y2 * y2) + 2 * s * t * x2 * y2) := by grind
    rw [e2, ht]
    grind
  have fin : ∀ t : Fin n, t * t = 1 → s * x2 + t * y2 ≠ 0 → False := fun t ht hne => by
    have hz : x1 * y1 * (s * x2 + t * y2) ≠ 0 := fun h0 => by
      rcases K.mul_zero _ _ h0 with h1 | h1
      · rcases K.mul_zero _ _ h1 with h2 | h2
        · exact hx1 h2
        · exact hy1 h2
      · exact hne h1
    have hi := K.mul_inv _ hz
    refine nd ((s * x1 + t * (d * x1 * x2 * y1 * y2) * y1) * K.inv (x1 * y1 * (s * x2 + t * y2))) ?_
    have k := key t ht
    generalize K.inv (x1 * y1 * (s * x2 + t * y2)) = i at *
    generalize s * x1 + t * (d * x1 * x2 * y1 * y2) * y1 = u at *
    generalize s * x2 + t * y2 = v at *
    have : u * i * (u * i) = u * u * (i * i) := by grind
    rw [this, k]
    have : d * (x1 * y1) * (x1 * y1) * (v * v) * (i * i) = d * ((x1 * y1 * v * i) * (x1 * y1 * v * i)) := by grind
    rw [this, hi]
    grind
  by_cases h1 : s * x2 + 1 * y2 = 0
  · by_cases h2 : s * x2 + (0 - 1) * y2 = 0
    · have := two_zero h1 h2
      rcases K.mul_zero _ _ this with h3 | h3
      · exact K.two_ne h3
      · rcases K.mul_zero _ _ h3 with h4 | h4
        · exact s0 h4
        · exact hx2 h4
    · exact fin (0 - 1) neg_one_sq h2
  · exact fin 1 one_sq h1
theorem Ed.plus_ne (E : Ed K) {p q : P2 n} (hp : E.on p) (hq : E.on q) : 1 + E.dl p q ≠ 0 := fun h => E.complete hp hq (by grind)
theorem Ed.minus_ne (E : Ed K) {p q : P2 n} (hp : E.on p) (hq : E.on q) : 1 - E.dl p q ≠ 0 := fun h => E.complete hp hq (by grind)
/-- The sum is what makes both equations. -/
theorem Ed.add_spec (E : Ed K) {p q : P2 n} (hp : E.on p) (hq : E.on q) : (E.add p q).x * (1 + E.dl p q) = p.x * q.y + p.y * q.x ∧ (E.add p q).y * (1 - E.dl p q) = p.y * q.y - E.a * p.x * q.x := by
  have h1 := K.mul_inv _ (E.plus_ne hp hq)
  have h2 := K.mul_inv _ (E.minus_ne hp hq)
  unfold Ed.add
  dsimp only
  generalize K.inv (1 + E.dl p q) = u at *
  generalize K.inv (1 - E.dl p q) = v at *
  generalize E.dl p q = t at *
  constructor
  · have : (p.x * q.y + p.y * q.x) * u * (1 + t) = (p.x * q.y + p.y * q.x) * ((1 + t) * u) := by grind
    rw [this, h1]; grind
  · have : (p.y * q.y - E.a * p.x * q.x) * v * (1 - t) = (p.y * q.y - E.a * p.x * q.x) * ((1 - t) * v) := by grind
    rw [this, h2]; grind
theorem Ed.add_of (E : Ed K) {p q r : P2 n} (hp : E.on p) (hq : E.on q) (hx : r.x * (1 + E.dl p q) = p.x * q.y + p.y * q.x) (hy : r.y * (1 - E.dl p q) = p.y * q.y - E.a * p.x * q.x) : E.add p q = r := by
  obtain ⟨kx, ky⟩ := E.add_spec hp hq
  apply P2.ext'
  · exact K.cancel (E.plus_ne hp hq) (by rw [← hx] at kx; grind)
  · exact K.cancel (E.minus_ne hp hq) (by rw [← hy] at ky; grind)
theorem Ed.zero_on (E : Ed K) : E.on P2.zero := by unfold Ed.on P2.zero; dsimp only; grind
theorem Ed.neg_on (E : Ed K) {p : P2 n} (h : E.on p) : E.on p.neg := by unfold Ed.on P2.neg at *; dsimp only at *; grind
theorem Ed.add_comm (E : Ed K) (p q : P2 n) : E.add p q = E.add q p := by
  have h : E.dl p q = E.dl q p := by unfold Ed.dl; grind
  unfold Ed.add
  rw [h]
  apply P2.ext'
  · dsimp only; grind
  · dsimp only; grind
theorem Ed.add_zero (E : Ed K) {p : P2 n} (h : E.on p) : E.add p P2.zero = p := by
  refine E.add_of h E.zero_on ?_ ?_
  · unfold Ed.dl P2.zero; dsimp only; grind
  · unfold Ed.dl P2.zero; dsimp only; grind
theorem Ed.add_neg (E : Ed K) {p : P2 n} (h : E.on p) : E.add p p.neg = P2.zero := by
  refine E.add_of h (E.neg_on h) ?_ ?_
  · unfold Ed.dl P2.neg P2.zero; dsimp only; grind
  · unfold Ed.on at h; unfold Ed.dl P2.neg P2.zero; dsimp only; grind
theorem Ed.add_on (E : Ed K) {p q : P2 n} (hp : E.on p) (hq : E.on q) : E.on (E.add p q) := by
  obtain ⟨kx, ky⟩ := E.add_spec hp hq
  have n1 := E.plus_ne hp hq
  have n2 := E.minus_ne hp hq
  generalize E.add p q = r at *
  obtain ⟨x1, y1⟩ := p
  obtain ⟨x2, y2⟩ := q
  obtain ⟨x, y⟩ := r
  unfold Ed.on Ed.dl at *
  dsimp only at *
  have hD : (1 + E.d * x1 * x2 * y1 * y2) * (1 - E.d * x1 * x2 * y1 * y2) ≠ 0 := fun h0 => (K.mul_zero _ _ h0).elim n1 n2
  have e1 : E.d * x1 * x1 * y1 * y1 - y1 * y1 - E.a * x1 * x1 + 1 = 0 := on_poly hp
  have e2 : E.d * x2 * x2 * y2 * y2 - y2 * y2 - E.a * x2 * x2 + 1 = 0 := on_poly hq
  have id := closedId x1 y1 x2 y2 E.d E.a e1 e2
  rw [← kx, ← ky] at id
  generalize 1 + E.d * x1 * x2 * y1 * y2 = m at *
  generalize 1 - E.d * x1 * x2 * y1 * y2 = n at *
  refine K.cancel hD (K.cancel hD ?_)
  clear n1 n2 hD kx ky hp hq e1 e2
  grind
theorem Ed.add_assoc (E : Ed K) {p q r : P2 n} (hp : E.on p) (hq : E.on q) (hr : E.on r) : E.add (E.add p q) r = E.add p (E.add q r) := by
  have h12 := E.add_on hp hq
  have h23 := E.add_on hq hr
  obtain ⟨kx, ky⟩ := E.add_spec hp hq
  obtain ⟨lx, ly⟩ := E.add_spec hq hr
  have n1 := E.plus_ne hp hq
  have n2 := E.minus_ne hp hq
  have m1 := E.plus_ne hq hr
  have m2 := E.minus_ne hq hr
  have w1 := E.plus_ne hp h23
  have w2 := E.minus_ne hp h23
  obtain ⟨ux, uy⟩ := E.add_spec hp h23
  generalize E.add p (E.add q r) = t at *
  generalize E.add p q = v at *
  generalize E.add q r = z at *
  refine E.add_of h12 hr ?_ ?_
  · have id := assocIdX p.x p.y q.x q.y r.x r.y E.d E.a
    have e1 : E.d * p.x * p.x * p.y * p.y - p.y * p.y - E.a * p.x * p.x + 1 = 0 := on_poly hp
    have e2 : E.d * q.x * q.x * q.y * q.y - q.y * q.y - E.a * q.x * q.x + 1 = 0 := on_poly hq
    have e3 : E.d * r.x * r.x * r.y * r.y - r.y * r.y - E.a * r.x * r.x + 1 = 0 := on_poly hr
    rw [e1, e2, e3] at id
    clear e1 e2 e3 hp hq hr h12 h23
    unfold Ed.dl at *
    rw [← kx, ← ky, ← lx, ← ly] at id
    clear kx ky lx ly uy w2
    generalize 1 + E.d * p.x * q.x * p.y * q.y = P at *
    generalize 1 - E.d * p.x * q.x * p.y * q.y = M at *
    generalize 1 + E.d * q.x * r.x * q.y * r.y = P' at *
    generalize 1 - E.d * q.x * r.x * q.y * r.y = M' at *
    have hK : P * M * (P' * M') ≠ 0 := fun h0 => (K.mul_zero _ _ h0).elim (fun h => (K.mul_zero _ _ h).elim n1 n2) (fun h => (K.mul_zero _ _ h).elim m1 m2)
    have key : P * M * (P' * M') * ((v.x * r.y + v.y * r.x) * (1 + E.d * p.x * z.x * p.y * z.y)) = P * M * (P' * M') * ((p.x * z.y + p.y * z.x) * (1 + E.d * v.x * r.x * v.y * r.y)) := by
      clear ux w1 n1 n2 m1 m2 hK
      grind
    have k2 := K.cancel hK key
    clear key hK id n1 n2 m1 m2
    rw [← ux] at k2
    refine K.cancel w1 ?_
    clear ux w1
    grind
  · have id := assocIdY p.x p.y q.x q.y r.x r.y E.d E.a
    have e1 : E.d * p.x * p.x * p.y * p.y - p.y * p.y - E.a * p.x * p.x + 1 = 0 := on_poly hp
    have e2 : E.d * q.x * q.x * q.y * q.y - q.y * q.y - E.a * q.x * q.x + 1 = 0 := on_poly hq
    have e3 : E.d * r.x * r.x * r.y * r.y - r.y * r.y - E.a * r.x * r.x + 1 = 0 := on_poly hr
    rw [e1, e2, e3] at id
    clear e1 e2 e3 hp hq hr h12 h23
    unfold Ed.dl at *
    rw [← kx, ← ky, ← lx, ← ly] at id
    clear kx ky lx ly ux w1
    generalize 1 + E.d * p.x * q.x * p.y * q.y = P at *
    generalize 1 - E.d * p.x * q.x * p.y * q.y = M at *
    generalize 1 + E.d * q.x * r.x * q.y * r.y = P' at *
    generalize 1 - E.d * q.x * r.x * q.y * r.y = M' at *
    have hK : P * M * (P' * M') ≠ 0 := fun h0 => (K.mul_zero _ _ h0).elim (fun h => (K.mul_zero _ _ h).elim n1 n2) (fun h => (K.mul_zero _ _ h).elim m1 m2)
    have key : P * M * (P' * M') * ((v.y * r.y - E.a * v.x * r.x) * (1 - E.d * p.x * z.x * p.y * z.y)) = P * M * (P' * M') * ((p.y * z.y - E.a * p.x * z.x) * (1 - E.d * v.x * r.x * v.y * r.y)) := by
      clear uy w2 n1 n2 m1 m2 hK
      grind
    have k2 := K.cancel hK key
    clear key hK id n1 n2 m1 m2
    rw [← uy] at k2
    refine K.cancel w2 ?_
    clear uy w2
    grind
end Go.Proofs.YtkbgkobbadjpnaaDoor
namespace Go.Proofs.YtkbgkobbadjpnaaDoor
set_option linter.unusedVariables false
set_option linter.unusedSectionVars false
section
variable {n : Nat} [NeZero n] {K : Fl n}
/-- A polynomial's value: its numbers from the least power on. -/
def pev : List (Fin n) → Fin n → Fin n
  | [], _ => 0
  | a :: r, x => a + x * pev r x
def pquo (a : Fin n) : List (Fin n) → List (Fin n)
  | [] => []
  | [_] => []
  | _ :: d :: r => pev (d :: r) a :: pquo a (d :: r)
theorem pquo_len (a : Fin n) : ∀ p : List (Fin n), (pquo a p).length = p.length - 1
  | [] => rfl
  | [_] => rfl
  | _ :: d :: r => by
    show (pquo a (d :: r)).length + 1 = _
    rw [pquo_len a (d :: r)]
    simp
theorem pquo_step (c x a u v q : Fin n) (h : u - v = (x - a) * q) : c + x * u - (c + a * v) = (x - a) * (v + x * q) := by grind
theorem pquo_base (c x a : Fin n) : c + x * 0 - (c + a * 0) = (x - a) * 0 := by grind
theorem pquo_none (x a : Fin n) : (0 : Fin n) - 0 = (x - a) * 0 := by grind
theorem pquo_eq (a x : Fin n) : ∀ p : List (Fin n), pev p x - pev p a = (x - a) * pev (pquo a p) x
  | [] => pquo_none x a
  | [c] => pquo_base c x a
  | c :: d :: r => pquo_step c x a _ _ _ (pquo_eq a x (d :: r))
theorem sub_zero' (a : Fin n) : a - 0 = a := by grind
theorem mul_z (a : Fin n) : a * 0 = 0 := by grind
theorem z_mul (a : Fin n) : 0 * a = 0 := by grind
theorem eq_of_sub {a b : Fin n} (h : a - b = 0) : a = b := by grind
/-- As many roots as it has numbers: it is nothing. -/
theorem proots (K : Fl n) : ∀ (xs p : List (Fin n)), p.length ≤ xs.length → xs.Nodup → (∀ x ∈ xs, pev p x = 0) → ∀ x, pev p x = 0
  | [], p, hl, _, _, x => by
    have : p = [] := List.eq_nil_of_length_eq_zero (by simpa using hl)
    subst this; rfl
  | a :: xs, p, hl, nd, h0, x => by
    have ha := h0 a (by simp)
    have e : ∀ x, pev p x = (x - a) * pev (pquo a p) x := fun x => by
      have := pquo_eq a x p
      rw [ha, sub_zero'] at this
      exact this
    rw [List.nodup_cons] at nd
    have := proots K xs (pquo a p) (by rw [pquo_len]; simp at hl; omega) nd.2 (fun y hy => by
      have h1 := h0 y (by simp [hy])
      rw [e y] at h1
      rcases K.mul_zero _ _ h1 with h2 | h2
      · exact absurd (eq_of_sub h2 ▸ hy) nd.1
      · exact h2) x
    rw [e x, this, mul_z]
def padd : List (Fin n) → List (Fin n) → List (Fin n)
  | [], q => q
  | p, [] => p
  | a :: p, b :: q => (a + b) :: padd p q
theorem padd_ev_nil (x u : Fin n) : u = 0 + u := by grind
theorem padd_ev_nil' (x u : Fin n) : u = u + 0 := by grind
theorem padd_ev_step (a b x u v : Fin n) : a + b + x * (u + v) = a + x * u + (b + x * v) := by grind
theorem padd_ev (x : Fin n) : ∀ p q : List (Fin n), pev (padd p q) x = pev p x + pev q x
  | [], q => by rw [padd]; exact padd_ev_nil x _
  | a :: p, [] => by rw [padd]; exact padd_ev_nil' x _; simp
  | a :: p, b :: q => by
    show (a + b) + x * pev (padd p q) x = _
    rw [padd_ev x p q]
    exact padd_ev_step a b x _ _
theorem padd_len : ∀ p q : List (Fin n), (padd p q).length = max p.length q.length
  | [], q => by rw [padd]; simp
  | a :: p, [] => by rw [padd]; simp; simp
  | a :: p, b :: q => by
    show (padd p q).length + 1 = _
    rw [padd_len p q]; simp only [List.length_cons]; omega
def psc (c : Fin n) (p : List (Fin n)) : List (Fin n) := p.map (c * ·)
theorem psc_step (c a x u : Fin n) : c * a + x * (c * u) = c * (a + x * u) := by grind
theorem psc_ev (c x : Fin n) : ∀ p : List (Fin n), pev (psc c p) x = c * pev p x
  | [] => (mul_z c).symm
  | a :: p => by
    show c * a + x * pev (psc c p) x = _
    rw [psc_ev c x p]
    exact psc_step c a x _
theorem psc_len (c : Fin n) (p : List (Fin n)) : (psc c p).length = p.length := by simp [psc]
/-- Times x - a. -/
def pmx (a : Fin n) (p : List (Fin n)) : List (Fin n) := padd (0 :: p) (psc (0 - a) p)
theorem pmx_step (a x u : Fin n) : 0 + x * u + (0 - a) * u = u * (x - a) := by grind
theorem pmx_ev (a x : Fin n) (p : List (Fin n)) : pev (pmx a p) x = pev p x * (x - a) := by
  unfold pmx
  rw [padd_ev, psc_ev]
  exact pmx_step a x _
theorem pmx_len (a : Fin n) (p : List (Fin n)) : (pmx a p).length = p.length + 1 := by
  unfold pmx
  rw [padd_len, psc_len]; simp only [List.length_cons]; omega
/-- The product of all x - t. -/
def prd (xs : List (Fin n)) (x : Fin n) : Fin n := xs.foldl (fun u t => u * (x - t)) 1
theorem prd_snoc (xs : List (Fin n)) (t x : Fin n) : prd (xs ++ [t]) x = prd xs x * (x - t) := by simp [prd]
theorem prd_nil (x : Fin n) : prd [] x = 1 := rfl
def prdP (xs : List (Fin n)) : List (Fin n) := xs.foldl (fun u t => pmx t u) [1]
theorem prd_go (x : Fin n) : ∀ (xs : List (Fin n)) (p : List (Fin n)) (u : Fin n), pev p x = u → pev (xs.foldl (fun u t => pmx t u) p) x = xs.foldl (fun u t => u * (x - t)) u
  | [], _, _, h => h
  | t :: xs, p, u, h => by
    rw [List.foldl_cons, List.foldl_cons]
    exact prd_go x xs _ _ (by rw [pmx_ev, h])
theorem one_ev (x : Fin n) : (1 : Fin n) + x * 0 = 1 := by grind
theorem prdP_ev (xs : List (Fin n)) (x : Fin n) : pev (prdP xs) x = prd xs x := prd_go x xs [1] 1 (one_ev x)
theorem prdP_len (xs : List (Fin n)) : (prdP xs).length = xs.length + 1 := by
  have : ∀ (xs : List (Fin n)) (p : List (Fin n)), (xs.foldl (fun u t => pmx t u) p).length = xs.length + p.length := by
    intro xs
    induction xs with
    | nil => intro p; simp
    | cons t xs ih => intro p; rw [List.foldl_cons, ih, pmx_len, List.length_cons]; omega
  exact this xs [1]
theorem sub_self' (x : Fin n) : x - x = 0 := by grind
theorem prd_zero {x : Fin n} : ∀ {xs : List (Fin n)} (u : Fin n), x ∈ xs → xs.foldl (fun u t => u * (x - t)) u = 0 := by
  intro xs
  have hz : ∀ xs : List (Fin n), xs.foldl (fun u t => u * (x - t)) 0 = 0 := by
    intro xs
    induction xs with
    | nil => rfl
    | cons t xs ih => rw [List.foldl_cons, z_mul]; exact ih
  induction xs with
  | nil => intro u h; simp at h
  | cons t xs ih =>
    intro u h
    rw [List.foldl_cons]
    rcases List.mem_cons.1 h with rfl | h
    · rw [sub_self', mul_z]; exact hz xs
    · exact ih _ h
theorem prd_ne (K : Fl n) {x : Fin n} : ∀ {xs : List (Fin n)} (u : Fin n), u ≠ 0 → x ∉ xs → xs.foldl (fun u t => u * (x - t)) u ≠ 0
  | [], u, hu, _ => hu
  | t :: xs, u, hu, h => by
    rw [List.foldl_cons]
    simp only [List.mem_cons, not_or] at h
    refine prd_ne K _ (fun h0 => ?_) h.2
    rcases K.mul_zero _ _ h0 with h1 | h1
    · exact hu h1
    · exact h.1 (eq_of_sub h1)
/-! ### The one polynomial through points -/
/-- The i-th part, at x. -/
def ltm (K : Fl n) (l : List (Fin n × Fin n)) (x : Fin n) (i : Nat) : Fin n :=
  match l[i]? with
  | none => 0
  | some (a, y) => y * (prd ((l.map (·.1)).eraseIdx i) x * K.inv (prd ((l.map (·.1)).eraseIdx i) a))
def lsm (K : Fl n) (l : List (Fin n × Fin n)) (x : Fin n) : Nat → Fin n
  | 0 => 0
  | k + 1 => lsm K l x k + ltm K l x k
def lag (K : Fl n) (l : List (Fin n × Fin n)) (x : Fin n) : Fin n := lsm K l x l.length
def ltmP (K : Fl n) (l : List (Fin n × Fin n)) (i : Nat) : List (Fin n) :=
  match l[i]? with
  | none => []
  | some (a, y) => psc (y * K.inv (prd ((l.map (·.1)).eraseIdx i) a)) (prdP ((l.map (·.1)).eraseIdx i))
theorem ltm_sw (a b c : Fin n) : a * c * b = a * (b * c) := by grind
theorem ltmP_ev (K : Fl n) (l : List (Fin n × Fin n)) (x : Fin n) (i : Nat) : pev (ltmP K l i) x = ltm K l x i := by
  unfold ltmP ltm
  cases l[i]? with
  | none => rfl
  | some p =>
    obtain ⟨a, y⟩ := p
    dsimp only
    rw [psc_ev, prdP_ev]
    exact ltm_sw _ _ _
theorem ltmP_len (K : Fl n) (l : List (Fin n × Fin n)) (i : Nat) : (ltmP K l i).length ≤ l.length := by
  unfold ltmP
  cases h : l[i]? with
  | none => simp
  | some p =>
    obtain ⟨a, y⟩ := p
    dsimp only
    have hi := (List.getElem?_eq_some_iff.1 h).1
    rw [psc_len, prdP_len, List.length_eraseIdx, List.length_map, if_pos hi]
    omega
def lsmP (K : Fl n) (l : List (Fin n × Fin n)) : Nat → List (Fin n)
  | 0 => []
  | k + 1 => padd (lsmP K l k) (ltmP K l k)
theorem lsmP_ev (K : Fl n) (l : List (Fin n × Fin n)) (x : Fin n) : ∀ k, pev (lsmP K l k) x = lsm K l x k
  | 0 => rfl
  | k + 1 => by
    show pev (padd _ _) x = lsm K l x k + ltm K l x k
    rw [padd_ev, lsmP_ev K l x k, ltmP_ev]
theorem lsmP_len (K : Fl n) (l : List (Fin n × Fin n)) : ∀ k, (lsmP K l k).length ≤ l.length
  | 0 => by simp [lsmP]
  | k + 1 => by
    show (padd _ _).length ≤ _
    rw [padd_len]
    have := lsmP_len K l k
    have := ltmP_len K l k
    omega
/-- As a polynomial. -/
def lagP (K : Fl n) (l : List (Fin n × Fin n)) : List (Fin n) := lsmP K l l.length
theorem lagP_ev (K : Fl n) (l : List (Fin n × Fin n)) (x : Fin n) : pev (lagP K l) x = lag K l x := lsmP_ev K l x _
theorem lagP_len (K : Fl n) (l : List (Fin n × Fin n)) : (lagP K l).length ≤ l.length := lsmP_len K l _
theorem mem_erase {xs : List (Fin n)} {i j : Nat} {a : Fin n} (h : xs[j]? = some a) (hij : j ≠ i) : a ∈ xs.eraseIdx i := by
  rw [List.mem_eraseIdx_iff_getElem?]
  exact ⟨j, hij, h⟩
theorem not_mem_erase {xs : List (Fin n)} {i : Nat} {a : Fin n} (nd : xs.Nodup) (h : xs[i]? = some a) : a ∉ xs.eraseIdx i := by
  rw [List.mem_eraseIdx_iff_getElem?]
  rintro ⟨j, hij, hj⟩
  have hj' := (List.getElem?_eq_some_iff.1 hj).1
  have hi' := (List.getElem?_eq_some_iff.1 h).1
  exact hij ((List.getElem?_inj hj' nd).1 (hj.trans h.symm))
theorem z_add_z {u v : Fin n} (h1 : u = 0) (h2 : v = 0) : u + v = 0 := by rw [h1, h2]; grind
theorem lag_at1 {y p q : Fin n} (h : p * q = 1) : y * (p * q) = y := by rw [h]; grind
/-- At its own places it is what it is. -/
theorem lag_at (K : Fl n) {l : List (Fin n × Fin n)} (nd : (l.map (·.1)).Nodup) {i : Nat} {a y : Fin n} (h : l[i]? = some (a, y)) : lag K l a = y := by
  have hi := (List.getElem?_eq_some_iff.1 h).1
  have hm : (l.map (·.1))[i]? = some a := by rw [List.getElem?_map, h]; rfl
  have own : ltm K l a i = y := by
    unfold ltm
    rw [h]
    dsimp only
    exact lag_at1 (K.mul_inv _ (prd_ne K 1 K.one_ne (not_mem_erase nd hm)))
  have other : ∀ j, j ≠ i → ltm K l a j = 0 := fun j hj => by
    unfold ltm
    cases hj' : l[j]? with
    | none => rfl
    | some p =>
      obtain ⟨b, z⟩ := p
      dsimp only
      have : prd ((l.map (·.1)).eraseIdx j) a = 0 := prd_zero 1 (mem_erase hm (fun e => hj e.symm))
      rw [this, z_mul, mul_z]
  have before : ∀ k, k ≤ i → lsm K l a k = 0 := by
    intro k
    induction k with
    | zero => intro _; rfl
    | succ k ih => intro hk; exact z_add_z (ih (by omega)) (other k (by omega))
  have zadd : ∀ u : Fin n, 0 + u = u := fun u => by grind
  have addz : ∀ u : Fin n, u + 0 = u := fun u => by grind
  have after : ∀ k, i < k → lsm K l a k = y := by
    intro k
    induction k with
    | zero => intro hk; omega
    | succ k ih =>
      intro hk
      show lsm K l a k + ltm K l a k = y
      by_cases hki : k = i
      · subst hki
        rw [before k (Nat.le_refl _), own, zadd]
      · rw [ih (by omega), other k hki, addz]
  exact after _ hi
theorem psub_ev (x : Fin n) (p q : List (Fin n)) : pev (padd p (psc (0 - 1) q)) x = pev p x - pev q x := by
  rw [padd_ev, psc_ev]
  generalize pev p x = u
  generalize pev q x = v
  grind
/-- LAGRANGE: there is but one such polynomial. -/
theorem lag_only (K : Fl n) {l : List (Fin n × Fin n)} (nd : (l.map (·.1)).Nodup) {p : List (Fin n)} (hp : p.length ≤ l.length) (h : ∀ q ∈ l, pev p q.1 = q.2) (x : Fin n) : lag K l x = pev p x := by
  have := proots K (l.map (·.1)) (padd (lagP K l) (psc (0 - 1) p)) (by
      rw [padd_len, psc_len, List.length_map]
      have := lagP_len K l
      omega) nd (fun a ha => by
      rw [psub_ev, lagP_ev]
      obtain ⟨q, hq, rfl⟩ := List.mem_map.1 ha
      obtain ⟨i, hi⟩ := List.getElem?_of_mem hq
      rw [lag_at K nd (i := i) (a := q.1) (y := q.2) hi, h q hq]
      exact sub_self' _) x
  rw [psub_ev, lagP_ev] at this
  exact eq_of_sub this
/-- The order is no matter. -/
theorem lag_perm (K : Fl n) {l m : List (Fin n × Fin n)} (hp : m.Perm l) (nd : (l.map (·.1)).Nodup) (x : Fin n) : lag K m x = lag K l x := by
  have nd' : (m.map (·.1)).Nodup := (hp.map (·.1)).nodup_iff.2 nd
  rw [← lagP_ev K l x]
  refine lag_only K nd' (by rw [hp.length_eq]; exact lagP_len K l) (fun q hq => ?_) x
  obtain ⟨i, hi⟩ := List.getElem?_of_mem (hp.mem_iff.1 hq)
  rw [lagP_ev]
  exact lag_at K nd (a := q.1) (y := q.2) hi
/-- One more that lies on it changes nothing. -/
theorem lag_more (K : Fl n) {l : List (Fin n × Fin n)} {a : Fin n} (nd : (l.map (·.1)).Nodup) (ha : a ∉ l.map (·.1)) (x : Fin n) : lag K (l ++ [(a, lag K l a)]) x = lag K l x := by
  rw [← lagP_ev K l x]
  refine lag_only K ?_ (by have := lagP_len K l; simp; omega) (fun q hq => ?_) x
  · rw [List.map_append, List.nodup_append]
    refine ⟨nd, by simp, ?_⟩
    intro b hb c hc
    simp at hc
    subst hc
    intro e
    subst e
    exact ha hb
  · rw [lagP_ev]
    rcases List.mem_append.1 hq with h | h
    · obtain ⟨i, hi⟩ := List.getElem?_of_mem h
      exact lag_at K nd (a := q.1) (y := q.2) hi
    · simp at h
      subst h
      rfl
end
end Go.Proofs.YtkbgkobbadjpnaaDoor
namespace Go.Proofs.YtkbgkobbadjpnaaDoor
set_option linter.unusedVariables false
instance ne_SLn : NeZero SLn := ⟨by decide +kernel⟩
abbrev FS : Type := Fin SLn
def toS (n : Nat) : FS := Fin.ofNat SLn n
theorem toS_val (n : Nat) : (toS n).val = slow n := by rw [slow_def]; rfl
theorem slow_of {a : Nat} (h : a < SLn) : slow a = a := by rw [slow_def, Nat.mod_eq_of_lt h]
theorem toS_of (a : FS) : toS a.val = a := by apply Fin.ext; rw [toS_val, slow_of a.isLt]
theorem toS_eq {m n : Nat} : toS m = toS n ↔ slow m = slow n := by
  rw [← toS_val, ← toS_val]; exact ⟨fun h => by rw [h], fun h => Fin.ext h⟩
theorem toS_inj {m n : Nat} (hm : m < SLn) (hn : n < SLn) (h : toS m = toS n) : m = n := by
  rw [toS_eq, slow_of hm, slow_of hn] at h; exact h
theorem toS_slow (a : Nat) : toS (slow a) = toS a := by rw [toS_eq, slow_of (slow_L a)]
theorem toS_add (a b : Nat) : toS (sadd a b) = toS a + toS b := by
  apply Fin.ext
  rw [toS_val, slow_of (sadd_L _ _), Fin.val_add, toS_val, toS_val]
  simp only [sadd_def, slow_def]
  rw [← Nat.add_mod]
theorem toS_mul (a b : Nat) : toS (smul a b) = toS a * toS b := by
  apply Fin.ext
  rw [toS_val, slow_of (smul_L _ _), Fin.val_mul, toS_val, toS_val]
  simp only [smul_def, slow_def]
  rw [← Nat.mul_mod]
theorem toS_zero : toS 0 = 0 := rfl
theorem toS_one : toS 1 = 1 := by
  apply Fin.ext
  rw [toS_val, slow_of SL_one]
  show 1 = 1 % SLn
  rw [Nat.mod_eq_of_lt SL_one]
theorem neg_of {n : Nat} [NeZero n] {a b : Fin n} (h : a + b = 0) : b = 0 - a := by grind
theorem toS_neg (a : Nat) : toS (sneg a) = 0 - toS a := by
  refine neg_of ?_
  rw [← toS_add]
  have : sadd a (sneg a) = 0 := by
    rw [sadd_def, sneg_def, Nat.add_mod_mod]
    have h := Nat.mod_lt a SL_pos
    have e : a + (SLn - a % SLn) = SLn * (1 + a / SLn) := by
      have := Nat.div_add_mod a SLn
      rw [Nat.mul_add, Nat.mul_one]
      omega
    rw [e, Nat.mul_mod_right]
  rw [this]; rfl
theorem sinv_mod (a : Nat) : sinv (slow a) = sinv a := by unfold sinv; rw [slow_def, Nat.mod_mod]
theorem sinv_oneS {a : Nat} (h : ¬ slow a = 0) : smul a (sinv a) = 1 := by
  rw [slow_def] at h
  obtain ⟨e, -, e2⟩ := invF_start (m := SLn) (a := a) SL_one
  have hg : Nat.gcd a SLn = 1 := prime_L.coprime fun hd => h (Nat.mod_eq_zero_of_dvd hd)
  rw [hg] at e e2
  unfold sinv
  rw [if_pos e, smul_def, Nat.mul_comm, e2]
  exact Nat.mod_eq_of_lt SL_one
theorem toS_zero_iff {a : Nat} : toS a = 0 ↔ slow a = 0 := by
  rw [← toS_zero, toS_eq, slow_of (show 0 < SLn from SL_pos)]
def Ks : Fl SLn where
  inv a := toS (sinv a.val)
  mul_inv a ha := by
    have h : ¬ slow a.val = 0 := fun h => ha (by rw [← toS_of a, toS_zero_iff]; exact h)
    have := congrArg toS (sinv_oneS h)
    rw [toS_mul, toS_of, toS_one] at this
    exact this
  mul_zero a b h := by
    rw [← toS_of a, ← toS_of b, ← toS_mul, toS_zero_iff, slow_of (smul_L _ _), smul_def] at h
    rcases prime_L.dvd_mul (Nat.dvd_of_mod_eq_zero h) with h1 | h1
    · left; rw [← toS_of a, toS_zero_iff, slow_def]; exact Nat.mod_eq_zero_of_dvd h1
    · right; rw [← toS_of b, toS_zero_iff, slow_def]; exact Nat.mod_eq_zero_of_dvd h1
  one_ne h := by
    rw [← toS_one, toS_zero_iff, slow_of SL_one] at h
    exact absurd h (by decide)
  two_ne h := by
    have h2 : (2 : FS) = toS 2 := by
      rw [show (2 : FS) = 1 + 1 by decide +kernel, ← toS_one, ← toS_add]
      refine congrArg toS ?_
      rw [sadd_def]
      exact Nat.mod_eq_of_lt (by decide +kernel)
    rw [h2, toS_zero_iff, slow_of (by decide +kernel)] at h
    exact absurd h (by decide)
theorem toS_inv (a : Nat) : toS (sinv a) = Ks.inv (toS a) := by
  show _ = toS (sinv (toS a).val)
  rw [toS_val, sinv_mod]
end Go.Proofs.YtkbgkobbadjpnaaDoor
namespace Go.Proofs.YtkbgkobbadjpnaaDoor
set_option linter.unusedVariables false
/-- x - t modulo L. -/
def sdif (x t : Nat) : Nat := sadd x (sneg t)
def prN (xs : List Nat) (x : Nat) : Nat := xs.foldl (fun u t => smul u (sdif x t)) 1
theorem prN_nil (x : Nat) : prN [] x = 1 := rfl
theorem prN_snoc (xs : List Nat) (t x : Nat) : prN (xs ++ [t]) x = smul (prN xs x) (sdif x t) := by simp [prN]
/-- What there is of it in the i-th part. -/
def oth (l : List (Nat × Nat)) (i : Nat) : List Nat := (l.map (·.1)).eraseIdx i
def tmN (l : List (Nat × Nat)) (x i : Nat) : Nat :=
  match l[i]? with
  | none => 0
  | some (a, y) => smul y (smul (prN (oth l i) x) (sinv (prN (oth l i) a)))
def smN (l : List (Nat × Nat)) (x : Nat) : Nat → Nat
  | 0 => 0
  | k + 1 => sadd (smN l x k) (tmN l x k)
/-- The polynomial's value at x. -/
def shAt (l : List (Nat × Nat)) (x : Nat) : Nat := smN l x l.length
theorem oth_step {l : List (Nat × Nat)} {i k : Nat} {q : Nat × Nat} (h : l[k]? = some q) : oth (l.take (k + 1)) i = if i = k then oth (l.take k) i else oth (l.take k) i ++ [q.1] := by
  have hk := (List.getElem?_eq_some_iff.1 h).1
  unfold oth
  rw [List.take_add_one, h, List.map_append]
  simp only [Option.toList, List.map_cons, List.map_nil]
  have hl : ((l.take k).map (·.1)).length = k := by rw [List.length_map, List.length_take]; omega
  split
  · rename_i e
    subst e
    rw [List.eraseIdx_append_of_length_le (by rw [hl]; exact Nat.le_refl _), hl, Nat.sub_self, List.eraseIdx_of_length_le (l := List.map (fun x => x.1) (List.take i l)) (by rw [hl]; exact Nat.le_refl _)]
    simp
  · rename_i e
    rcases Nat.lt_or_ge i k with h1 | h1
    · rw [List.eraseIdx_append_of_lt_length (by rw [hl]; exact h1)]
    · rw [List.eraseIdx_of_length_le (by rw [List.length_append, hl]; simp; omega), List.eraseIdx_of_length_le (by rw [hl]; omega)]
theorem oth_all (l : List (Nat × Nat)) (i : Nat) : oth (l.take l.length) i = oth l i := by rw [List.take_length]
theorem oth_none (l : List (Nat × Nat)) (i : Nat) : oth (l.take 0) i = [] := by simp [oth]
theorem prN_lt : ∀ (xs : List Nat) (x : Nat), prN xs x < T256 := by
  have h : ∀ (xs : List Nat) (x u : Nat), u < T256 → xs.foldl (fun u t => smul u (sdif x t)) u < T256 := by
    intro xs
    induction xs with
    | nil => intro x u hu; exact hu
    | cons t xs ih => intro x u hu; rw [List.foldl_cons]; exact ih x _ (smul_lt _ _)
  exact fun xs x => h xs x 1 (by decide)
instance {xs : List Nat} {x : Nat} : SmT (prN xs x) := ⟨prN_lt _ _⟩
theorem smN_L (l : List (Nat × Nat)) (x : Nat) : ∀ k, smN l x k < SLn
  | 0 => SL_pos
  | k + 1 => sadd_L _ _
theorem smN_lt (l : List (Nat × Nat)) (x k : Nat) : smN l x k < T256 := Nat.lt_trans (smN_L l x k) SL_T
instance {l : List (Nat × Nat)} {x k : Nat} : SmT (smN l x k) := ⟨smN_lt _ _ _⟩
theorem shAt_L (l : List (Nat × Nat)) (x : Nat) : shAt l x < SLn := smN_L l x _
/-! ### In the field -/
def sF (l : List (Nat × Nat)) : List (FS × FS) := l.map fun q => (toS q.1, toS q.2)
theorem sF_fst (l : List (Nat × Nat)) : (sF l).map (·.1) = (l.map (·.1)).map toS := by simp [sF, Function.comp_def]
theorem sub_as_add {n : Nat} [NeZero n] (a b : Fin n) : a + (0 - b) = a - b := by grind
theorem toS_dif (x t : Nat) : toS (sdif x t) = toS x - toS t := by
  unfold sdif
  rw [toS_add, toS_neg]
  exact sub_as_add _ _
theorem toS_pr (x : Nat) : ∀ (xs : List Nat) (u : Nat), toS (xs.foldl (fun u t => smul u (sdif x t)) u) = (xs.map toS).foldl (fun u t => u * (toS x - t)) (toS u)
  | [], _ => rfl
  | t :: xs, u => by
    rw [List.map_cons, List.foldl_cons, List.foldl_cons, toS_pr x xs, toS_mul, toS_dif]
theorem toS_prN (xs : List Nat) (x : Nat) : toS (prN xs x) = prd (xs.map toS) (toS x) := by
  unfold prN prd
  rw [toS_pr, toS_one]
theorem map_eraseIdx' {α β : Type} (f : α → β) : ∀ (l : List α) (i : Nat), (l.eraseIdx i).map f = (l.map f).eraseIdx i
  | [], _ => rfl
  | _ :: _, 0 => rfl
  | a :: l, i + 1 => by simp [map_eraseIdx' f l i]
theorem oth_map (l : List (Nat × Nat)) (i : Nat) : (oth l i).map toS = ((sF l).map (·.1)).eraseIdx i := by
  rw [sF_fst]; unfold oth; rw [map_eraseIdx']
theorem toS_tm (l : List (Nat × Nat)) (x i : Nat) : toS (tmN l x i) = ltm Ks (sF l) (toS x) i := by
  unfold tmN ltm
  have e : (sF l)[i]? = (l[i]?).map fun q => (toS q.1, toS q.2) := by simp [sF]
  rw [e]
  cases l[i]? with
  | none => rfl
  | some q =>
    obtain ⟨a, y⟩ := q
    dsimp only [Option.map_some]
    rw [toS_mul, toS_mul, toS_inv, toS_prN, toS_prN, oth_map]
theorem toS_sm (l : List (Nat × Nat)) (x : Nat) : ∀ k, toS (smN l x k) = lsm Ks (sF l) (toS x) k
  | 0 => rfl
  | k + 1 => by
    show toS (sadd _ _) = lsm Ks _ _ k + ltm Ks _ _ k
    rw [toS_add, toS_sm l x k, toS_tm]
theorem toS_shAt (l : List (Nat × Nat)) (x : Nat) : toS (shAt l x) = lag Ks (sF l) (toS x) := by
  unfold shAt lag
  rw [toS_sm]
  congr 1
  simp [sF]
/-- Shares that are told well. -/
structure ShOk (l : List (Nat × Nat)) : Prop where
  small : ∀ q ∈ l, q.1 < SLn ∧ q.2 < SLn
  nd : (l.map (·.1)).Nodup
theorem ShOk.ndF {l : List (Nat × Nat)} (h : ShOk l) : ((sF l).map (·.1)).Nodup := by
  rw [sF_fst]
  refine List.Pairwise.map _ (R := fun a b => a ≠ b ∧ a < SLn ∧ b < SLn) (fun a b hab e => hab.1 (toS_inj hab.2.1 hab.2.2 e)) ?_
  have h1 : ∀ a ∈ l.map (·.1), a < SLn := fun a ha => by
    obtain ⟨q, hq, rfl⟩ := List.mem_map.1 ha
    exact (h.small q hq).1
  have := h.nd
  rw [List.nodup_iff_pairwise_ne] at this
  exact this.imp_of_mem fun ha hb hne => ⟨hne, h1 _ ha, h1 _ hb⟩
theorem shAt_perm {l m : List (Nat × Nat)} (h : ShOk l) (hp : m.Perm l) (x : Nat) : shAt m x = shAt l x := by
  refine toS_inj (shAt_L _ _) (shAt_L _ _) ?_
  rw [toS_shAt, toS_shAt]
  exact lag_perm Ks (hp.map _) h.ndF _
theorem shAt_own {l : List (Nat × Nat)} (h : ShOk l) {i : Nat} {q : Nat × Nat} (hi : l[i]? = some q) : shAt l q.1 = q.2 := by
  refine toS_inj (shAt_L _ _) (h.small q (List.mem_of_getElem? hi)).2 ?_
  rw [toS_shAt]
  refine lag_at Ks h.ndF (i := i) ?_
  simp [sF, hi]
theorem shAt_more {l : List (Nat × Nat)} (h : ShOk l) {a : Nat} (ha : a < SLn) (hn : a ∉ l.map (·.1)) (x : Nat) : shAt (l ++ [(a, shAt l a)]) x = shAt l x := by
  refine toS_inj (shAt_L _ _) (shAt_L _ _) ?_
  rw [toS_shAt, toS_shAt]
  have e : sF (l ++ [(a, shAt l a)]) = sF l ++ [(toS a, lag Ks (sF l) (toS a))] := by simp [sF, toS_shAt]
  rw [e]
  refine lag_more Ks h.ndF (fun hm => hn ?_) _
  rw [sF_fst, List.mem_map] at hm
  obtain ⟨b, hb, he⟩ := hm
  have hb' : b < SLn := by
    obtain ⟨q, hq, rfl⟩ := List.mem_map.1 hb
    exact (h.small q hq).1
  rw [← toS_inj hb' ha he]; exact hb
end Go.Proofs.YtkbgkobbadjpnaaDoor
namespace Go.Proofs.YtkbgkobbadjpnaaDoor
open Go.RowKit Go.ChangeShapes
set_option linter.unusedVariables false
set_option linter.unusedSimpArgs false
/-- A slice of n bytes in the memory w: byte i is f i. -/
structure Sl (W : World) (p : Option Addr) (n : Nat) (f : Nat → Nat) : Prop where
  small : n < 9223372036854775808
  byte : ∀ i, f i < 256
  cell : ∀ i, i < n → ∃ b off, p = some ⟨b, off, none⟩ ∧ W.cell? ⟨b, off + i, none⟩ = some (.int .u8 ((f i : Nat) : Int))
theorem Sl.below {W w : World} {p : Option Addr} {n : Nat} {f : Nat → Nat} (h : Sl W p n f) (hb : Below W.heap.size W w) : Sl w p n f := ⟨h.small, h.byte, fun i hi => by
  obtain ⟨b, off, hp, hc⟩ := h.cell i hi
  exact ⟨b, off, hp, by rw [hb.cell (World.block_lt_of_cell? _ _ hc)]; exact hc⟩⟩
section
variable {X : Cx} {s : Slots} {l : Blks} {o : Oper} {v : Value}
/-- A cell that was there when the function began. -/
theorem ld_old {t b off : Nat} [hu : KD X.P t false] (hc : X.W.cell? ⟨b, off, none⟩ = some v) (ho : X.own = [] := by rfl) : Ld X l t b off v := fun w hm => by
  have hc' : w.cell? ⟨b, off, none⟩ = some v := by rw [(hm.below ho).cell (World.block_lt_of_cell? _ _ hc)]; exact hc
  simp [loadVar, Sem.run_bind, hu.agg, run_load, hc']
theorem rd_min {c : Call} {x y : Operand} {k k' : IntKind} {a b r : Int} (ho : o.op = .call c) (hc : c.callee = .builtin .min) (ha : c.args = #[x, y]) (hx : val s x = some (.int k a)) (hy : val s y = some (.int k' b)) (hr : (if b < a then b else a) = r := by with_reducible assumption) : RdV X s l o (.int k r) :=
  rd_val fun e w he hm => by
    subst hr
    simp only [execOp, ho, resolve, hc, ha, List.map_toArray, List.map_cons, List.map_nil, he.eval hx, he.eval hy]
    simp [invoke, builtin, Sem.run_bind, run_min_int2]
theorem rd_neqB {t yt : Nat} {x y : Operand} {a b r : Bool} (ho : o.op = .binOp .neq t x y yt) (hx : val s x = some (.bool a)) (hy : val s y = some (.bool b)) [h : UT X.P t .bool] (hr : (a != b) = r) : RdV X s l o (.bool r) :=
  rd_val fun e w he hm => by
    subst hr
    have q : (Op.equalIn 10000 t (.bool a) (.bool b)).run X.P w = .ok (a == b) w := by
      rw [show (10000 : Nat) = 9999 + 1 from rfl, Op.equalIn, Sem.run_bind, run_underlying h.out]; rfl
    simp only [execOp, ho, he.eval hx, he.eval hy, eqGuard]
    simp [run_neq w rfl q]
    cases a <;> cases b <;> rfl
/-- A call through a value. -/
theorem rd_callv {c : Call} {f : Nat} {y : Operand} {vs : List Value} (ho : o.op = .call c) (hc : c.callee = .value y) (hy : val s y = some (.func (.func f) #[] #[])) (ha : vals s c.args.toList = some vs)
    (h : ∀ w, Mem X l w → Calls X.P f vs.toArray w (Ret v w)) (hk : callOk X.P f = true := by kernel_rfl) : Rd X s l o v := fun a w he hm => by
  have h1 := he.vals ha
  have h2 : c.args.map a.eval = vs.toArray := by rw [← h1]; simp [← Array.toList_map]
  have e : (execOp a.eval o).run X.P w = (callFunc f vs.toArray).run X.P w := by
    simp only [execOp, ho, resolve, hc, h2, he.eval hy, Deferred.ofValue]
    simp [invoke]
  rw [e, run_enter hk]
  exact ⟨rfl, h w hm⟩
end
section
variable {H : Type} {enc : TypeId × Value → H} {P : Program} {w : World} {base : Nat}
theorem wf_byte {z : Int} (h : (Lit.int .u8 z).wf = true) : 0 ≤ z ∧ z < 256 := by
  simp [Lit.wf, IntKind.min, IntKind.max, IntKind.signed, IntKind.bits] at h
  exact ⟨h.1, by omega⟩
theorem open_bytes {t e : TypeId} {r : Reach} {b0 : Nat} {v : Value} {d : DataW H} {p : List MemPlace} (ht : P.underlying t = some (.slice e)) (he : P.underlying e = some (.int .u8)) (hce : P.cellsOf e = 1)
    (hv : Value.okWide P w r b0 t v) (h : DataW.Trod enc P w base (fun _ => true) true t v d p) : ∃ (q : Option Addr) (n cap : Nat) (f : Nat → Nat), v = .slice q n cap ∧ n ≤ cap ∧ Sl w q n f := by
  obtain ⟨a0, len0, cap0, rfl⟩ := Go.WideShapes.okWide_slice ht hv
  obtain ⟨fuel, hf⟩ := h
  rcases open_ints ht he hce hf with ⟨hcs, hx⟩ | ⟨a, len, cap, zs, hcs, _, hl, hm, hz, hx, hcell, hwz⟩
  · simp [Value.cells] at hcs
    obtain ⟨rfl, rfl, rfl⟩ := hcs
    exact ⟨none, 0, 0, fun _ => 0, rfl, Nat.le_refl _, by decide, fun _ => by decide, fun i hi => by omega⟩
  · simp [Value.cells] at hcs
    obtain ⟨rfl, rfl, rfl⟩ := hcs
    simp only [if_true] at hz
    refine ⟨some a, _, _, fun i => (zs.getD i 0).toNat, rfl, hl, by simp [maxLen] at hm; omega, fun i => ?_, fun i hi => ?_⟩
    · by_cases hi : i < zs.length
      · have := wf_byte (hwz zs[i] (List.getElem_mem hi))
        simp [List.getD, hi]; omega
      · simp [List.getD, hi]
    · have h0 := hcell 0 (by omega)
      have hi' := hcell i (by omega)
      obtain ⟨b, off, spot⟩ := a
      have hs : spot = none := by
        simp only [Addr.add, if_true, World.cell?] at h0
        split at h0
        · cases spot with
          | none => rfl
          | some x => simp at h0
        · cases h0
      subst hs
      refine ⟨b, off, rfl, ?_⟩
      rw [Addr.add_mid] at hi'
      rw [hi']
      have := wf_byte (hwz zs[i] (List.getElem_mem (by omega)))
      have h2 : zs.getD i 0 = zs[i] := by simp [List.getD, show i < zs.length by omega]
      rw [h2, Int.toNat_of_nonneg this.1]
end
/-! ### bits -/
theorem b63 {a : Nat} (ha : a < 9223372036854775808) : (BitVec.ofInt 64 (a : Int)).toNat = a := by
  rw [BitVec.ofInt_natCast, BitVec.toNat_ofNat]; exact Nat.mod_eq_of_lt (by omega)
theorem xor63 {a b : Nat} (ha : a < 9223372036854775808) (hb : b < 9223372036854775808) : a ^^^ b < 9223372036854775808 := Nat.xor_lt_two_pow (n := 63) ha hb
theorem or63 {a b : Nat} (ha : a < 9223372036854775808) (hb : b < 9223372036854775808) : a ||| b < 9223372036854775808 := Nat.or_lt_two_pow (n := 63) ha hb
theorem xor_int {a b : Nat} (ha : a < 9223372036854775808) (hb : b < 9223372036854775808) : bits .xor .i64 (a : Int) (b : Int) = ((a ^^^ b : Nat) : Int) := by
  have hx := xor63 ha hb
  show IntKind.i64.wrap ((BitVec.ofInt 64 (a : Int) ^^^ BitVec.ofInt 64 (b : Int)).toNat : Int) = _
  rw [BitVec.toNat_xor, b63 ha, b63 hb]
  exact wrap_i64 _ (by omega) (by omega)
theorem or_int {a b : Nat} (ha : a < 9223372036854775808) (hb : b < 9223372036854775808) : bits .or .i64 (a : Int) (b : Int) = ((a ||| b : Nat) : Int) := by
  have hx := or63 ha hb
  show IntKind.i64.wrap ((BitVec.ofInt 64 (a : Int) ||| BitVec.ofInt 64 (b : Int)).toNat : Int) = _
  rw [BitVec.toNat_or, b63 ha, b63 hb]
  exact wrap_i64 _ (by omega) (by omega)
theorem xor_nought {a b : Nat} : a ^^^ b = 0 ↔ a = b := by
  constructor
  · intro h
    have : a ^^^ (b ^^^ b) = b := by rw [← Nat.xor_assoc, h, Nat.zero_xor]
    rwa [Nat.xor_self, Nat.xor_zero] at this
  · rintro rfl; exact Nat.xor_self a
theorem xor_u8 {a b : Nat} (ha : a < 256) (hb : b < 256) : bits .xor .u8 (a : Int) (b : Int) = ((a ^^^ b : Nat) : Int) := by
  have hx : a ^^^ b < 256 := Nat.xor_lt_two_pow (n := 8) ha hb
  have h1 : (BitVec.ofInt 8 (a : Int)).toNat = a := by
    rw [BitVec.ofInt_natCast, BitVec.toNat_ofNat]; exact Nat.mod_eq_of_lt (by omega)
  have h2 : (BitVec.ofInt 8 (b : Int)).toNat = b := by
    rw [BitVec.ofInt_natCast, BitVec.toNat_ofNat]; exact Nat.mod_eq_of_lt (by omega)
  show IntKind.u8.wrap ((BitVec.ofInt 8 (a : Int) ^^^ BitVec.ofInt 8 (b : Int)).toNat : Int) = _
  rw [BitVec.toNat_xor, h1, h2]
  exact wrap_u8 _ (by omega) (by omega)
end Go.Proofs.YtkbgkobbadjpnaaDoor
namespace Go.Proofs.YtkbgkobbadjpnaaDoor
open Go.RowKit
set_option linter.unusedVariables false
set_option linter.unusedSimpArgs false
theorem At.skipA {n : Nat} {x y : Array Value × TypeId} {r r' : Blks} (h : At r n x y r') : ∀ ob : Blks, At (ob ++ r) n x y (ob ++ r')
  | [] => h
  | _ :: o => .there (At.skipA h o)
theorem Inn.skipA {n : Nat} {x : Array Value × TypeId} {r : Blks} (h : Inn r n x) : ∀ ob : Blks, Inn (ob ++ r) n x
  | [] => h
  | _ :: o => .there (Inn.skipA h o)
theorem Has.sees {X : Cx} {l : Blks} {n : Nat} {c : Array Value} {e : Nat} {w : World} (hm : Mem X l w) (h : Inn l n (c, e) := by repeat (first | exact Inn.here | apply Inn.there | apply Inn.skipA)) : w.heap[n]? = some (.cells c e) := Has.inn h w hm
end Go.Proofs.YtkbgkobbadjpnaaDoor
namespace Go.Proofs.YtkbgkobbadjpnaaDoor
open Go.RowKit
set_option linter.unusedVariables false
set_option linter.unusedSimpArgs false
/-- How a record lies in memory. -/
structure Enc (α : Type) (k : Nat) where
  enc : α → List Value
  len : ∀ a, (enc a).length = k
  one : ∀ a, ∀ y ∈ enc a, y.oneCell' = true
section
variable {α : Type} {k : Nat}
def recs (E : Enc α k) (l : List α) : List Value := (l.map E.enc).flatten
theorem recs_nil (E : Enc α k) : recs E [] = [] := rfl
theorem recs_cons (E : Enc α k) (a : α) (l : List α) : recs E (a :: l) = E.enc a ++ recs E l := rfl
theorem recs_len (E : Enc α k) : ∀ l : List α, (recs E l).length = l.length * k
  | [] => by simp [recs]
  | a :: l => by rw [recs_cons, List.length_append, E.len, recs_len E l, List.length_cons, Nat.succ_mul, Nat.add_comm]
theorem recs_app (E : Enc α k) (a b : List α) : recs E a ++ recs E b = recs E (a ++ b) := by simp [recs]
theorem recs_snoc (E : Enc α k) (a : List α) (x : α) : recs E a ++ E.enc x = recs E (a ++ [x]) := by simp [recs]
theorem recs_one (E : Enc α k) (l : List α) : ∀ y ∈ recs E l, y.oneCell' = true := fun y hy => by
  obtain ⟨c, hc, hy⟩ := List.mem_flatten.1 hy
  obtain ⟨a, _, rfl⟩ := List.mem_map.1 hc
  exact E.one a y hy
theorem recs_drop (E : Enc α k) : ∀ (l : List α) (i : Nat), (recs E l).drop (i * k) = recs E (l.drop i)
  | [], i => by simp [recs]
  | a :: l, 0 => by simp
  | a :: l, i + 1 => by
    have h := E.len a
    rw [List.drop_succ_cons, ← recs_drop E l i, recs_cons, List.drop_append, h, List.drop_of_length_le (by rw [h, Nat.succ_mul]; omega), List.nil_append, Nat.succ_mul, Nat.add_sub_cancel]
theorem recs_take (E : Enc α k) : ∀ (l : List α) (i : Nat), (recs E l).take (i * k) = recs E (l.take i)
  | [], i => by simp [recs]
  | a :: l, 0 => by simp [recs]
  | a :: l, i + 1 => by
    have h := E.len a
    rw [List.take_succ_cons, recs_cons, recs_cons, ← recs_take E l i, List.take_append, h, List.take_of_length_le (by rw [h, Nat.succ_mul]; omega), Nat.succ_mul, Nat.add_sub_cancel]
theorem recs_get (E : Enc α k) {l : List α} {i : Nat} {x : α} (h : l[i]? = some x) : ((recs E l).drop (i * k)).take k = E.enc x := by
  have hi := (List.getElem?_eq_some_iff.1 h).1
  have h1 := recs_take E (l.drop i) 1
  rw [Nat.one_mul] at h1
  rw [recs_drop, h1, List.drop_eq_getElem_cons hi, List.take_succ_cons, List.take_zero]
  have := (List.getElem?_eq_some_iff.1 h).2
  simp [recs, this]
/-- One cell of it. -/
theorem recs_cell (E : Enc α k) {l : List α} {i j : Nat} {x : α} (h : l[i]? = some x) (hj : j < k) : (recs E l)[i * k + j]? = (E.enc x)[j]? := by
  have := congrArg (·[j]?) (recs_get E h)
  simpa [hj] using this
theorem recs_part (E : Enc α k) (l : List α) (a b : Nat) : ((recs E l).drop (a * k)).take ((b - a) * k) = recs E ((l.drop a).take (b - a)) := by
  rw [recs_drop, recs_take]
end
end Go.Proofs.YtkbgkobbadjpnaaDoor
