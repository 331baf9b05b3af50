/- Primes by what has as high an order as it can: plain laws, no program in sight. -/
namespace Go.Proofs.Ytglbnbdeoenilaa
set_option linter.unusedVariables false
/-- Powers by squaring, from the highest bit on: for computing. -/
def qpowF (p a : Nat) : Nat → Nat → Nat
  | 0, _ => 1 % p
  | f + 1, n => if n = 0 then 1 % p else let h := qpowF p a f (n / 2); if n % 2 = 1 then h * h % p * a % p else h * h % p
def qpow (p a n : Nat) : Nat := qpowF p a (n.log2 + 1) n
theorem qpowF_is (p a : Nat) : ∀ f n, n < 2 ^ f → qpowF p a f n = a ^ n % p
  | 0, n, h => by
    have : n = 0 := by simpa using h
    subst this; rfl
  | f + 1, n, h => by
    unfold qpowF
    by_cases h0 : n = 0
    · subst h0; rfl
    · rw [if_neg h0]
      have ih := qpowF_is p a f (n / 2) (by rw [Nat.pow_succ] at h; omega)
      dsimp only
      rw [ih]
      by_cases h1 : n % 2 = 1
      · rw [if_pos h1, ← Nat.mul_mod, ← Nat.pow_add, Nat.mod_mul_mod, ← Nat.pow_succ, show (n / 2 + n / 2).succ = n by omega]
      · rw [if_neg h1, Nat.mod_mul_mod, Nat.mul_mod_mod, ← Nat.pow_add, show n / 2 + n / 2 = n by omega]
theorem qpow_is (p a n : Nat) : qpow p a n = a ^ n % p := qpowF_is p a _ n Nat.lt_log2_self
/-- A prime. -/
def Prime (p : Nat) : Prop := 2 ≤ p ∧ ∀ d, d ∣ p → d = 1 ∨ d = p
theorem Prime.pos {p : Nat} (h : Prime p) : 0 < p := by have := h.1; omega
theorem Prime.coprime {p a : Nat} (h : Prime p) (ha : ¬ p ∣ a) : Nat.gcd a p = 1 := by
  rcases h.2 _ (Nat.gcd_dvd_right a p) with h1 | h1
  · exact h1
  · exact absurd (h1 ▸ Nat.gcd_dvd_left a p) ha
theorem Prime.dvd_mul {p a b : Nat} (h : Prime p) (hd : p ∣ a * b) : p ∣ a ∨ p ∣ b := by
  by_cases ha : p ∣ a
  · exact .inl ha
  · refine .inr ?_
    have hc : Nat.Coprime p a := by rw [Nat.coprime_comm]; exact h.coprime ha
    exact hc.dvd_of_dvd_mul_left hd
theorem Prime.dvd_pow {p a : Nat} (h : Prime p) : ∀ {n : Nat}, p ∣ a ^ n → p ∣ a
  | 0, hd => by
    rw [Nat.pow_zero] at hd
    have := Nat.le_of_dvd (by decide) hd
    have := h.1
    omega
  | n + 1, hd => by
    rw [Nat.pow_succ] at hd
    rcases h.dvd_mul hd with h1 | h1
    · exact h.dvd_pow h1
    · exact h1
/-! ### The order of a number -/
/-- The least power, not none, that is 1. -/
def IsOrd (p g k : Nat) : Prop := 0 < k ∧ g ^ k % p = 1 ∧ ∀ j, 0 < j → g ^ j % p = 1 → k ≤ j
theorem exists_ord {p g n : Nat} (hn : 0 < n) (h : g ^ n % p = 1) : ∃ k, IsOrd p g k := by
  have key : ∀ m, (∃ j, 0 < j ∧ j ≤ m ∧ g ^ j % p = 1) → ∃ k, IsOrd p g k := by
    intro m
    induction m with
    | zero => rintro ⟨j, h1, h2, -⟩; omega
    | succ m ih =>
      rintro ⟨j, h1, h2, h3⟩
      by_cases hm : ∃ j, 0 < j ∧ j ≤ m ∧ g ^ j % p = 1
      · exact ih hm
      · refine ⟨j, h1, h3, fun i hi hp => ?_⟩
        have : ¬ i ≤ m := fun hle => hm ⟨i, hi, hle, hp⟩
        omega
  exact key n ⟨n, hn, Nat.le_refl _, h⟩
theorem one_mod {p : Nat} (hp : 2 ≤ p) : 1 % p = 1 := Nat.mod_eq_of_lt hp
theorem pow_mod_mul {p g m n : Nat} : g ^ (m * n) % p = (g ^ m % p) ^ n % p := by rw [Nat.pow_mul, Nat.pow_mod]
theorem ord_dvd {p g k n : Nat} (hp : 2 ≤ p) (ho : IsOrd p g k) (h : g ^ n % p = 1) : k ∣ n := by
  obtain ⟨h0, h1, h2⟩ := ho
  have e : g ^ n % p = g ^ (n % k) % p := by
    have hd := Nat.mod_add_div n k
    conv => lhs; rw [← hd]
    rw [Nat.pow_add, Nat.mul_mod, pow_mod_mul, h1, Nat.one_pow, one_mod hp, Nat.mul_one, Nat.mod_mod]
  rw [e] at h
  rcases Nat.eq_zero_or_pos (n % k) with h3 | h3
  · exact Nat.dvd_of_mod_eq_zero h3
  · have := h2 _ h3 h
    have := Nat.mod_lt n h0
    omega
/-- Every number above 1 has a prime in it. -/
theorem exists_prime {n : Nat} (h : 2 ≤ n) : ∃ q, Prime q ∧ q ∣ n := by
  induction n using Nat.strongRecOn with
  | _ n ih =>
    by_cases hp : Prime n
    · exact ⟨n, hp, Nat.dvd_refl n⟩
    · have : ∃ d, d ∣ n ∧ d ≠ 1 ∧ d ≠ n := by
        apply Classical.byContradiction
        intro hno
        refine hp ⟨h, fun d hd => ?_⟩
        apply Classical.byContradiction
        intro hn
        exact hno ⟨d, hd, fun e => hn (.inl e), fun e => hn (.inr e)⟩
      obtain ⟨d, hd, h1, h2⟩ := this
      have hle := Nat.le_of_dvd (by omega) hd
      have h0 : d ≠ 0 := fun e => by subst e; rw [Nat.zero_dvd] at hd; omega
      obtain ⟨q, hq, hqd⟩ := ih d (by omega) (by omega)
      exact ⟨q, hq, Nat.dvd_trans hqd hd⟩
/-- All prime divisors of a product are among those listed. -/
theorem prime_of_prod {q : Nat} (hq : Prime q) : ∀ (l : List Nat), (∀ x ∈ l, Prime x) → q ∣ l.foldr (· * ·) 1 → q ∈ l
  | [], _, h => by
    have := Nat.le_of_dvd (by decide) h
    have := hq.1
    simp only [List.foldr_nil] at *
    omega
  | x :: l, hl, h => by
    rw [List.foldr_cons] at h
    rcases hq.dvd_mul h with h1 | h1
    · rcases (hl x List.mem_cons_self).2 q h1 with h2 | h2
      · have := hq.1; omega
      · exact h2 ▸ List.mem_cons_self
    · exact List.mem_cons_of_mem _ (prime_of_prod hq l (fun y hy => hl y (List.mem_cons_of_mem _ hy)) h1)
/-- The order is as high as it is said, if none of its parts does. -/
theorem ord_full {p g n : Nat} {l : List Nat} (hp : 2 ≤ p) (hl : ∀ x ∈ l, Prime x) (hn : n = l.foldr (· * ·) 1) (h1 : g ^ n % p = 1) (hq : ∀ q ∈ l, g ^ (n / q) % p ≠ 1) (h0 : 0 < n) : IsOrd p g n := by
  obtain ⟨k, ho⟩ := exists_ord h0 h1
  obtain ⟨c, hc⟩ := ord_dvd hp ho h1
  by_cases h2 : 2 ≤ c
  · obtain ⟨q, hqp, d, hd⟩ := exists_prime h2
    have hqn : q ∣ n := ⟨k * d, by rw [hc, hd, Nat.mul_left_comm]⟩
    have hm := prime_of_prod hqp l hl (hn ▸ hqn)
    refine absurd ?_ (hq q hm)
    have : n / q = k * d := by
      rw [hc, hd, Nat.mul_left_comm, Nat.mul_div_cancel_left _ hqp.pos]
    rw [this, pow_mod_mul, ho.2.1, Nat.one_pow, one_mod hp]
  · have : c = 1 := by
      rcases Nat.eq_zero_or_pos c with hz | hz
      · subst hz; omega
      · omega
    subst this
    rw [Nat.mul_one] at hc
    rw [hc]; exact ho
/-- No two of the first powers are alike. -/
theorem ord_inj {p g n i j : Nat} (hp : 2 ≤ p) (ho : IsOrd p g n) (hi : i < n) (hj : j < n) (h : g ^ i % p = g ^ j % p) : i = j := by
  have key : ∀ i j, i < j → j < n → g ^ i % p = g ^ j % p → False := by
    intro i j hij hj h
    have e : g ^ (j + (n - j)) % p = g ^ (i + (n - j)) % p := by rw [Nat.pow_add, Nat.pow_add, Nat.mul_mod, ← h, ← Nat.mul_mod]
    rw [show j + (n - j) = n by omega, ho.2.1] at e
    have := ho.2.2 (i + (n - j)) (by omega) e.symm
    omega
  rcases Nat.lt_trichotomy i j with h1 | h1 | h1
  · exact (key i j h1 hj h).elim
  · exact h1
  · exact (key j i h1 hi h.symm).elim
/-- As many different ones below n as n, and all are there (pigeons and holes). -/
theorem surj_of_inj : ∀ (n : Nat) (f : Nat → Nat), (∀ i, i < n → f i < n) → (∀ i j, i < n → j < n → f i = f j → i = j) → ∀ y, y < n → ∃ i, i < n ∧ f i = y
  | 0, _, _, _, y, hy => by omega
  | n + 1, f, hf, hi, y, hy => by
    -- f with the place n taken out
    let g : Nat → Nat := fun i => if f i = n then f n else f i
    have hg : ∀ i, i < n → g i < n := fun i hin => by
      show (if f i = n then f n else f i) < n
      have h1 := hf i (by omega)
      have h2 := hf n (by omega)
      split
      · rename_i e
        rcases Nat.lt_or_ge (f n) n with h | h
        · exact h
        · have : f n = f i := by omega
          have := hi n i (by omega) (by omega) this
          omega
      · omega
    have hgi : ∀ i j, i < n → j < n → g i = g j → i = j := fun i j hin hjn h => by
      replace h : (if f i = n then f n else f i) = (if f j = n then f n else f j) := h
      split at h <;> split at h
      · rename_i a b; exact hi i j (by omega) (by omega) (a.trans b.symm)
      · have := hi n j (by omega) (by omega) h; omega
      · have := hi i n (by omega) (by omega) h; omega
      · exact hi i j (by omega) (by omega) h
    have ih := surj_of_inj n g hg hgi
    by_cases hyn : y < n
    · obtain ⟨i, h1, h2⟩ := ih y hyn
      replace h2 : (if f i = n then f n else f i) = y := h2
      split at h2
      · exact ⟨n, by omega, h2⟩
      · exact ⟨i, by omega, h2⟩
    · have hy' : y = n := by omega
      subst hy'
      apply Classical.byContradiction
      intro hno
      have hne : ∀ i, i < y + 1 → f i ≠ y := fun i h1 h2 => hno ⟨i, h1, h2⟩
      have hfn : f y < y := by have := hf y (by omega); have := hne y (by omega); omega
      obtain ⟨i, h1, h2⟩ := ih (f y) hfn
      replace h2 : (if f i = y then f y else f i) = f y := h2
      rw [if_neg (hne i (by omega))] at h2
      have := hi i y (by omega) (by omega) h2
      omega
/-- LUCAS, PRATT: whose order is p - 1 makes p prime, and all but 0 are its powers. -/
theorem gen_all {p g : Nat} (hp : 2 ≤ p) (ho : IsOrd p g (p - 1)) : ∀ a, 0 < a → a < p → ∃ i, i < p - 1 ∧ g ^ i % p = a := by
  have hne : ∀ i, i < p - 1 → 0 < g ^ i % p := fun i hi => by
    rcases Nat.eq_zero_or_pos (g ^ i % p) with h | h
    · exfalso
      have : g ^ (i + (p - 1 - i)) % p = 0 := by rw [Nat.pow_add, Nat.mul_mod, h, Nat.zero_mul, Nat.zero_mod]
      rw [show i + (p - 1 - i) = p - 1 by omega, ho.2.1] at this
      omega
    · exact h
  intro a h0 ha
  obtain ⟨i, h1, h2⟩ := surj_of_inj (p - 1) (fun i => g ^ i % p - 1) (fun i hi => by have := hne i hi; have := Nat.mod_lt (g ^ i) (show 0 < p by omega); omega)
    (fun i j hi hj h => ord_inj hp ho hi hj (by have := hne i hi; have := hne j hj; omega)) (a - 1) (by omega)
  refine ⟨i, h1, ?_⟩
  have := hne i h1
  omega
theorem prime_of_ord {p g : Nat} (hp : 2 ≤ p) (ho : IsOrd p g (p - 1)) : Prime p := by
  refine ⟨hp, fun d hd => ?_⟩
  have hle := Nat.le_of_dvd (by omega) hd
  have h0 : 0 < d := by
    rcases Nat.eq_zero_or_pos d with h | h
    · subst h; rw [Nat.zero_dvd] at hd; omega
    · exact h
  rcases Nat.lt_or_ge d p with hlt | hge
  · left
    obtain ⟨i, hi, he⟩ := gen_all hp ho d h0 hlt
    -- d times g^(p-1-i) is 1, and d divides p
    have h1 : d * g ^ (p - 1 - i) % p = 1 := by
      rw [← he, Nat.mod_mul_mod, ← Nat.pow_add, show i + (p - 1 - i) = p - 1 by omega]; exact ho.2.1
    have h2 : d ∣ 1 := by
      rw [← h1]
      exact (Nat.dvd_mod_iff hd).2 (Nat.dvd_mul_right d _)
    exact Nat.le_antisymm (Nat.le_of_dvd (by decide) h2) h0
  · right; omega
/-- A certificate: the base, and the primes that make p - 1. -/
def certB (p g : Nat) (l : List Nat) : Bool := decide (2 ≤ p) && decide (p - 1 = l.foldr (· * ·) 1) && decide (qpow p g (p - 1) = 1) && l.all fun q => decide (qpow p g ((p - 1) / q) ≠ 1)
theorem cert_ord {p g : Nat} {l : List Nat} (h : certB p g l = true) (hl : ∀ x ∈ l, Prime x) : IsOrd p g (p - 1) := by
  simp only [certB, Bool.and_eq_true, decide_eq_true_eq, List.all_eq_true] at h
  obtain ⟨⟨⟨h1, h2⟩, h3⟩, h4⟩ := h
  rw [qpow_is] at h3
  exact ord_full h1 hl h2 h3 (fun q hq => by have := h4 q hq; rwa [qpow_is] at this) (by omega)
theorem cert_prime {p g : Nat} {l : List Nat} (h : certB p g l = true) (hl : ∀ x ∈ l, Prime x) : Prime p := by
  have h1 : 2 ≤ p := by
    simp only [certB, Bool.and_eq_true, decide_eq_true_eq] at h
    exact h.1.1.1
  exact prime_of_ord h1 (cert_ord h hl)
/-- Small ones by trial. -/
def smallB (p : Nat) : Bool := decide (2 ≤ p) && (List.range p).all fun d => decide (d * d > p) || decide (d ≤ 1) || decide (p % d ≠ 0)
theorem small_prime {p : Nat} (h : smallB p = true) : Prime p := by
  simp only [smallB, Bool.and_eq_true, decide_eq_true_eq, List.all_eq_true, List.mem_range, Bool.or_eq_true] at h
  obtain ⟨h1, h2⟩ := h
  refine ⟨h1, fun d hd => ?_⟩
  obtain ⟨c, hc⟩ := hd
  have h0 : 0 < d := Nat.pos_of_ne_zero fun e => by subst e; omega
  have c0 : 0 < c := Nat.pos_of_ne_zero fun e => by subst e; omega
  have key : ∀ x y, 0 < x → 0 < y → p = x * y → x ≤ y → x = 1 := fun x y hx hy he hle => by
    by_cases hx1 : x ≤ 1
    · omega
    · exfalso
      have hxp : x < p := by
        have : x * 2 ≤ x * y := Nat.mul_le_mul_left x (by omega)
        omega
      rcases h2 x hxp with (h3 | h3) | h3
      · have : x * x ≤ x * y := Nat.mul_le_mul_left x hle
        omega
      · omega
      · exact h3 (by rw [he]; exact Nat.mul_mod_right x y)
  rcases Nat.le_total d c with h3 | h3
  · exact .inl (key d c h0 c0 hc h3)
  · have := key c d c0 h0 (by rw [hc, Nat.mul_comm]) h3
    subst this
    right; omega
end Go.Proofs.Ytglbnbdeoenilaa
