/- LAGRANGE: a polynomial of a degree less than how many points there are is told by these. Plain laws, over whatever field of n elements. The numbers modulo L as a field. Shares of a secret: what share.At computes, and that it is the one polynomial's value. Plain laws. -/
import Derived.Test.YtglbnbdeoenilaaEdw
import Derived.Test.YtglbnbdeoenilaaInvS
import Derived.Test.YtglbnbdeoenilaaPrimeCert
namespace Go.Proofs.Ytglbnbdeoenilaa
set_option linter.unusedVariables false
set_option linter.unusedSectionVars false
section
variable {n : Nat} [NeZero n] {K : Fl n}
/-- A polynomial's value: its numbers from the least power on. -/
def pev : List (Fin n) → Fin n → Fin n
  | [], _ => 0
  | a :: r, x => a + x * pev r x
def pquo (a : Fin n) : List (Fin n) → List (Fin n)
  | [] => []
  | [_] => []
  | _ :: d :: r => pev (d :: r) a :: pquo a (d :: r)
theorem pquo_len (a : Fin n) : ∀ p : List (Fin n), (pquo a p).length = p.length - 1
  | [] => rfl
  | [_] => rfl
  | _ :: d :: r => by
    show (pquo a (d :: r)).length + 1 = _
    rw [pquo_len a (d :: r)]
    simp
theorem pquo_step (c x a u v q : Fin n) (h : u - v = (x - a) * q) : c + x * u - (c + a * v) = (x - a) * (v + x * q) := by grind
theorem pquo_base (c x a : Fin n) : c + x * 0 - (c + a * 0) = (x - a) * 0 := by grind
theorem pquo_none (x a : Fin n) : (0 : Fin n) - 0 = (x - a) * 0 := by grind
theorem pquo_eq (a x : Fin n) : ∀ p : List (Fin n), pev p x - pev p a = (x - a) * pev (pquo a p) x
  | [] => pquo_none x a
  | [c] => pquo_base c x a
  | c :: d :: r => pquo_step c x a _ _ _ (pquo_eq a x (d :: r))
theorem sub_zero' (a : Fin n) : a - 0 = a := by grind
theorem mul_z (a : Fin n) : a * 0 = 0 := by grind
theorem z_mul (a : Fin n) : 0 * a = 0 := by grind
theorem eq_of_sub {a b : Fin n} (h : a - b = 0) : a = b := by grind
/-- As many roots as it has numbers: it is nothing. -/
theorem proots (K : Fl n) : ∀ (xs p : List (Fin n)), p.length ≤ xs.length → xs.Nodup → (∀ x ∈ xs, pev p x = 0) → ∀ x, pev p x = 0
  | [], p, hl, _, _, x => by
    have : p = [] := List.eq_nil_of_length_eq_zero (by simpa using hl)
    subst this; rfl
  | a :: xs, p, hl, nd, h0, x => by
    have ha := h0 a (by simp)
    have e : ∀ x, pev p x = (x - a) * pev (pquo a p) x := fun x => by
      have := pquo_eq a x p
      rw [ha, sub_zero'] at this
      exact this
    rw [List.nodup_cons] at nd
    have := proots K xs (pquo a p) (by rw [pquo_len]; simp at hl; omega) nd.2 (fun y hy => by
      have h1 := h0 y (by simp [hy])
      rw [e y] at h1
      rcases K.mul_zero _ _ h1 with h2 | h2
      · exact absurd (eq_of_sub h2 ▸ hy) nd.1
      · exact h2) x
    rw [e x, this, mul_z]
def padd : List (Fin n) → List (Fin n) → List (Fin n)
  | [], q => q
  | p, [] => p
  | a :: p, b :: q => (a + b) :: padd p q
theorem padd_ev_nil (x u : Fin n) : u = 0 + u := by grind
theorem padd_ev_nil' (x u : Fin n) : u = u + 0 := by grind
theorem padd_ev_step (a b x u v : Fin n) : a + b + x * (u + v) = a + x * u + (b + x * v) := by grind
theorem padd_ev (x : Fin n) : ∀ p q : List (Fin n), pev (padd p q) x = pev p x + pev q x
  | [], q => by rw [padd]; exact padd_ev_nil x _
  | a :: p, [] => by rw [padd]; exact padd_ev_nil' x _; simp
  | a :: p, b :: q => by
    show (a + b) + x * pev (padd p q) x = _
    rw [padd_ev x p q]
    exact padd_ev_step a b x _ _
theorem padd_len : ∀ p q : List (Fin n), (padd p q).length = max p.length q.length
  | [], q => by rw [padd]; simp
  | a :: p, [] => by rw [padd]; simp; simp
  | a :: p, b :: q => by
    show (padd p q).length + 1 = _
    rw [padd_len p q]; simp only [List.length_cons]; omega
def psc (c : Fin n) (p : List (Fin n)) : List (Fin n) := p.map (c * ·)
theorem psc_step (c a x u : Fin n) : c * a + x * (c * u) = c * (a + x * u) := by grind
theorem psc_ev (c x : Fin n) : ∀ p : List (Fin n), pev (psc c p) x = c * pev p x
  | [] => (mul_z c).symm
  | a :: p => by
    show c * a + x * pev (psc c p) x = _
    rw [psc_ev c x p]
    exact psc_step c a x _
theorem psc_len (c : Fin n) (p : List (Fin n)) : (psc c p).length = p.length := by simp [psc]
/-- Times x - a. -/
def pmx (a : Fin n) (p : List (Fin n)) : List (Fin n) := padd (0 :: p) (psc (0 - a) p)
theorem pmx_step (a x u : Fin n) : 0 + x * u + (0 - a) * u = u * (x - a) := by grind
theorem pmx_ev (a x : Fin n) (p : List (Fin n)) : pev (pmx a p) x = pev p x * (x - a) := by
  unfold pmx
  rw [padd_ev, psc_ev]
  exact pmx_step a x _
theorem pmx_len (a : Fin n) (p : List (Fin n)) : (pmx a p).length = p.length + 1 := by
  unfold pmx
  rw [padd_len, psc_len]; simp only [List.length_cons]; omega
/-- The product of all x - t. -/
def prd (xs : List (Fin n)) (x : Fin n) : Fin n := xs.foldl (fun u t => u * (x - t)) 1
theorem prd_snoc (xs : List (Fin n)) (t x : Fin n) : prd (xs ++ [t]) x = prd xs x * (x - t) := by simp [prd]
theorem prd_nil (x : Fin n) : prd [] x = 1 := rfl
def prdP (xs : List (Fin n)) : List (Fin n) := xs.foldl (fun u t => pmx t u) [1]
theorem prd_go (x : Fin n) : ∀ (xs : List (Fin n)) (p : List (Fin n)) (u : Fin n), pev p x = u → pev (xs.foldl (fun u t => pmx t u) p) x = xs.foldl (fun u t => u * (x - t)) u
  | [], _, _, h => h
  | t :: xs, p, u, h => by
    rw [List.foldl_cons, List.foldl_cons]
    exact prd_go x xs _ _ (by rw [pmx_ev, h])
theorem one_ev (x : Fin n) : (1 : Fin n) + x * 0 = 1 := by grind
theorem prdP_ev (xs : List (Fin n)) (x : Fin n) : pev (prdP xs) x = prd xs x := prd_go x xs [1] 1 (one_ev x)
theorem prdP_len (xs : List (Fin n)) : (prdP xs).length = xs.length + 1 := by
  have : ∀ (xs : List (Fin n)) (p : List (Fin n)), (xs.foldl (fun u t => pmx t u) p).length = xs.length + p.length := by
    intro xs
    induction xs with
    | nil => intro p; simp
    | cons t xs ih => intro p; rw [List.foldl_cons, ih, pmx_len, List.length_cons]; omega
  exact this xs [1]
theorem sub_self' (x : Fin n) : x - x = 0 := by grind
theorem prd_zero {x : Fin n} : ∀ {xs : List (Fin n)} (u : Fin n), x ∈ xs → xs.foldl (fun u t => u * (x - t)) u = 0 := by
  intro xs
  have hz : ∀ xs : List (Fin n), xs.foldl (fun u t => u * (x - t)) 0 = 0 := by
    intro xs
    induction xs with
    | nil => rfl
    | cons t xs ih => rw [List.foldl_cons, z_mul]; exact ih
  induction xs with
  | nil => intro u h; simp at h
  | cons t xs ih =>
    intro u h
    rw [List.foldl_cons]
    rcases List.mem_cons.1 h with rfl | h
    · rw [sub_self', mul_z]; exact hz xs
    · exact ih _ h
theorem prd_ne (K : Fl n) {x : Fin n} : ∀ {xs : List (Fin n)} (u : Fin n), u ≠ 0 → x ∉ xs → xs.foldl (fun u t => u * (x - t)) u ≠ 0
  | [], u, hu, _ => hu
  | t :: xs, u, hu, h => by
    rw [List.foldl_cons]
    simp only [List.mem_cons, not_or] at h
    refine prd_ne K _ (fun h0 => ?_) h.2
    rcases K.mul_zero _ _ h0 with h1 | h1
    · exact hu h1
    · exact h.1 (eq_of_sub h1)
/-! ### The one polynomial through points -/
/-- The i-th part, at x. -/
def ltm (K : Fl n) (l : List (Fin n × Fin n)) (x : Fin n) (i : Nat) : Fin n :=
  match l[i]? with
  | none => 0
  | some (a, y) => y * (prd ((l.map (·.1)).eraseIdx i) x * K.inv (prd ((l.map (·.1)).eraseIdx i) a))
def lsm (K : Fl n) (l : List (Fin n × Fin n)) (x : Fin n) : Nat → Fin n
  | 0 => 0
  | k + 1 => lsm K l x k + ltm K l x k
def lag (K : Fl n) (l : List (Fin n × Fin n)) (x : Fin n) : Fin n := lsm K l x l.length
def ltmP (K : Fl n) (l : List (Fin n × Fin n)) (i : Nat) : List (Fin n) :=
  match l[i]? with
  | none => []
  | some (a, y) => psc (y * K.inv (prd ((l.map (·.1)).eraseIdx i) a)) (prdP ((l.map (·.1)).eraseIdx i))
theorem ltm_sw (a b c : Fin n) : a * c * b = a * (b * c) := by grind
theorem ltmP_ev (K : Fl n) (l : List (Fin n × Fin n)) (x : Fin n) (i : Nat) : pev (ltmP K l i) x = ltm K l x i := by
  unfold ltmP ltm
  cases l[i]? with
  | none => rfl
  | some p =>
    obtain ⟨a, y⟩ := p
    dsimp only
    rw [psc_ev, prdP_ev]
    exact ltm_sw _ _ _
theorem ltmP_len (K : Fl n) (l : List (Fin n × Fin n)) (i : Nat) : (ltmP K l i).length ≤ l.length := by
  unfold ltmP
  cases h : l[i]? with
  | none => simp
  | some p =>
    obtain ⟨a, y⟩ := p
    dsimp only
    have hi := (List.getElem?_eq_some_iff.1 h).1
    rw [psc_len, prdP_len, List.length_eraseIdx, List.length_map, if_pos hi]
    omega
def lsmP (K : Fl n) (l : List (Fin n × Fin n)) : Nat → List (Fin n)
  | 0 => []
  | k + 1 => padd (lsmP K l k) (ltmP K l k)
theorem lsmP_ev (K : Fl n) (l : List (Fin n × Fin n)) (x : Fin n) : ∀ k, pev (lsmP K l k) x = lsm K l x k
  | 0 => rfl
  | k + 1 => by
    show pev (padd _ _) x = lsm K l x k + ltm K l x k
    rw [padd_ev, lsmP_ev K l x k, ltmP_ev]
theorem lsmP_len (K : Fl n) (l : List (Fin n × Fin n)) : ∀ k, (lsmP K l k).length ≤ l.length
  | 0 => by simp [lsmP]
  | k + 1 => by
    show (padd _ _).length ≤ _
    rw [padd_len]
    have := lsmP_len K l k
    have := ltmP_len K l k
    omega
/-- As a polynomial. -/
def lagP (K : Fl n) (l : List (Fin n × Fin n)) : List (Fin n) := lsmP K l l.length
theorem lagP_ev (K : Fl n) (l : List (Fin n × Fin n)) (x : Fin n) : pev (lagP K l) x = lag K l x := lsmP_ev K l x _
theorem lagP_len (K : Fl n) (l : List (Fin n × Fin n)) : (lagP K l).length ≤ l.length := lsmP_len K l _
theorem mem_erase {xs : List (Fin n)} {i j : Nat} {a : Fin n} (h : xs[j]? = some a) (hij : j ≠ i) : a ∈ xs.eraseIdx i := by
  rw [List.mem_eraseIdx_iff_getElem?]
  exact ⟨j, hij, h⟩
theorem not_mem_erase {xs : List (Fin n)} {i : Nat} {a : Fin n} (nd : xs.Nodup) (h : xs[i]? = some a) : a ∉ xs.eraseIdx i := by
  rw [List.mem_eraseIdx_iff_getElem?]
  rintro ⟨j, hij, hj⟩
  have hj' := (List.getElem?_eq_some_iff.1 hj).1
  have hi' := (List.getElem?_eq_some_iff.1 h).1
  exact hij ((List.getElem?_inj hj' nd).1 (hj.trans h.symm))
theorem z_add_z {u v : Fin n} (h1 : u = 0) (h2 : v = 0) : u + v = 0 := by rw [h1, h2]; grind
theorem lag_at1 {y p q : Fin n} (h : p * q = 1) : y * (p * q) = y := by rw [h]; grind
/-- At its own places it is what it is. -/
theorem lag_at (K : Fl n) {l : List (Fin n × Fin n)} (nd : (l.map (·.1)).Nodup) {i : Nat} {a y : Fin n} (h : l[i]? = some (a, y)) : lag K l a = y := by
  have hi := (List.getElem?_eq_some_iff.1 h).1
  have hm : (l.map (·.1))[i]? = some a := by rw [List.getElem?_map, h]; rfl
  have own : ltm K l a i = y := by
    unfold ltm
    rw [h]
    dsimp only
    exact lag_at1 (K.mul_inv _ (prd_ne K 1 K.one_ne (not_mem_erase nd hm)))
  have other : ∀ j, j ≠ i → ltm K l a j = 0 := fun j hj => by
    unfold ltm
    cases hj' : l[j]? with
    | none => rfl
    | some p =>
      obtain ⟨b, z⟩ := p
      dsimp only
      have : prd ((l.map (·.1)).eraseIdx j) a = 0 := prd_zero 1 (mem_erase hm (fun e => hj e.symm))
      rw [this, z_mul, mul_z]
  have before : ∀ k, k ≤ i → lsm K l a k = 0 := by
    intro k
    induction k with
    | zero => intro _; rfl
    | succ k ih => intro hk; exact z_add_z (ih (by omega)) (other k (by omega))
  have zadd : ∀ u : Fin n, 0 + u = u := fun u => by grind
  have addz : ∀ u : Fin n, u + 0 = u := fun u => by grind
  have after : ∀ k, i < k → lsm K l a k = y := by
    intro k
    induction k with
    | zero => intro hk; omega
    | succ k ih =>
      intro hk
      show lsm K l a k + ltm K l a k = y
      by_cases hki : k = i
      · subst hki
        rw [before k (Nat.le_refl _), own, zadd]
      · rw [ih (by omega), other k hki, addz]
  exact after _ hi
theorem psub_ev (x : Fin n) (p q : List (Fin n)) : pev (padd p (psc (0 - 1) q)) x = pev p x - pev q x := by
  rw [padd_ev, psc_ev]
  generalize pev p x = u
  generalize pev q x = v
  grind
/-- LAGRANGE: there is but one such polynomial. -/
theorem lag_only (K : Fl n) {l : List (Fin n × Fin n)} (nd : (l.map (·.1)).Nodup) {p : List (Fin n)} (hp : p.length ≤ l.length) (h : ∀ q ∈ l, pev p q.1 = q.2) (x : Fin n) : lag K l x = pev p x := by
  have := proots K (l.map (·.1)) (padd (lagP K l) (psc (0 - 1) p)) (by
      rw [padd_len, psc_len, List.length_map]
      have := lagP_len K l
      omega) nd (fun a ha => by
      rw [psub_ev, lagP_ev]
      obtain ⟨q, hq, rfl⟩ := List.mem_map.1 ha
      obtain ⟨i, hi⟩ := List.getElem?_of_mem hq
      rw [lag_at K nd (i := i) (a := q.1) (y := q.2) hi, h q hq]
      exact sub_self' _) x
  rw [psub_ev, lagP_ev] at this
  exact eq_of_sub this
/-- The order is no matter. -/
theorem lag_perm (K : Fl n) {l m : List (Fin n × Fin n)} (hp : m.Perm l) (nd : (l.map (·.1)).Nodup) (x : Fin n) : lag K m x = lag K l x := by
  have nd' : (m.map (·.1)).Nodup := (hp.map (·.1)).nodup_iff.2 nd
  rw [← lagP_ev K l x]
  refine lag_only K nd' (by rw [hp.length_eq]; exact lagP_len K l) (fun q hq => ?_) x
  obtain ⟨i, hi⟩ := List.getElem?_of_mem (hp.mem_iff.1 hq)
  rw [lagP_ev]
  exact lag_at K nd (a := q.1) (y := q.2) hi
/-- One more that lies on it changes nothing. -/
theorem lag_more (K : Fl n) {l : List (Fin n × Fin n)} {a : Fin n} (nd : (l.map (·.1)).Nodup) (ha : a ∉ l.map (·.1)) (x : Fin n) : lag K (l ++ [(a, lag K l a)]) x = lag K l x := by
  rw [← lagP_ev K l x]
  refine lag_only K ?_ (by have := lagP_len K l; simp; omega) (fun q hq => ?_) x
  · rw [List.map_append, List.nodup_append]
    refine ⟨nd, by simp, ?_⟩
    intro b hb c hc
    simp at hc
    subst hc
    intro e
    subst e
    exact ha hb
  · rw [lagP_ev]
    rcases List.mem_append.1 hq with h | h
    · obtain ⟨i, hi⟩ := List.getElem?_of_mem h
      exact lag_at K nd (a := q.1) (y := q.2) hi
    · simp at h
      subst h
      rfl
end
end Go.Proofs.Ytglbnbdeoenilaa
namespace Go.Proofs.Ytglbnbdeoenilaa
set_option linter.unusedVariables false
instance ne_SLn : NeZero SLn := ⟨by decide +kernel⟩
abbrev FS : Type := Fin SLn
def toS (n : Nat) : FS := Fin.ofNat SLn n
theorem toS_val (n : Nat) : (toS n).val = slow n := by rw [slow_def]; rfl
theorem slow_of {a : Nat} (h : a < SLn) : slow a = a := by rw [slow_def, Nat.mod_eq_of_lt h]
theorem toS_of (a : FS) : toS a.val = a := by apply Fin.ext; rw [toS_val, slow_of a.isLt]
theorem toS_eq {m n : Nat} : toS m = toS n ↔ slow m = slow n := by
  rw [← toS_val, ← toS_val]; exact ⟨fun h => by rw [h], fun h => Fin.ext h⟩
theorem toS_inj {m n : Nat} (hm : m < SLn) (hn : n < SLn) (h : toS m = toS n) : m = n := by
  rw [toS_eq, slow_of hm, slow_of hn] at h; exact h
theorem toS_slow (a : Nat) : toS (slow a) = toS a := by rw [toS_eq, slow_of (slow_L a)]
theorem toS_add (a b : Nat) : toS (sadd a b) = toS a + toS b := by
  apply Fin.ext
  rw [toS_val, slow_of (sadd_L _ _), Fin.val_add, toS_val, toS_val]
  simp only [sadd_def, slow_def]
  rw [← Nat.add_mod]
theorem toS_mul (a b : Nat) : toS (smul a b) = toS a * toS b := by
  apply Fin.ext
  rw [toS_val, slow_of (smul_L _ _), Fin.val_mul, toS_val, toS_val]
  simp only [smul_def, slow_def]
  rw [← Nat.mul_mod]
theorem toS_zero : toS 0 = 0 := rfl
theorem toS_one : toS 1 = 1 := by
  apply Fin.ext
  rw [toS_val, slow_of SL_one]
  show 1 = 1 % SLn
  rw [Nat.mod_eq_of_lt SL_one]
theorem neg_of {n : Nat} [NeZero n] {a b : Fin n} (h : a + b = 0) : b = 0 - a := by grind
theorem toS_neg (a : Nat) : toS (sneg a) = 0 - toS a := by
  refine neg_of ?_
  rw [← toS_add]
  have : sadd a (sneg a) = 0 := by
    rw [sadd_def, sneg_def, Nat.add_mod_mod]
    have h := Nat.mod_lt a SL_pos
    have e : a + (SLn - a % SLn) = SLn * (1 + a / SLn) := by
      have := Nat.div_add_mod a SLn
      rw [Nat.mul_add, Nat.mul_one]
      omega
    rw [e, Nat.mul_mod_right]
  rw [this]; rfl
theorem sinv_mod (a : Nat) : sinv (slow a) = sinv a := by unfold sinv; rw [slow_def, Nat.mod_mod]
theorem sinv_oneS {a : Nat} (h : ¬ slow a = 0) : smul a (sinv a) = 1 := by
  rw [slow_def] at h
  obtain ⟨e, -, e2⟩ := invF_start (m := SLn) (a := a) SL_one
  have hg : Nat.gcd a SLn = 1 := prime_L.coprime fun hd => h (Nat.mod_eq_zero_of_dvd hd)
  rw [hg] at e e2
  unfold sinv
  rw [if_pos e, smul_def, Nat.mul_comm, e2]
  exact Nat.mod_eq_of_lt SL_one
theorem toS_zero_iff {a : Nat} : toS a = 0 ↔ slow a = 0 := by
  rw [← toS_zero, toS_eq, slow_of (show 0 < SLn from SL_pos)]
def Ks : Fl SLn where
  inv a := toS (sinv a.val)
  mul_inv a ha := by
    have h : ¬ slow a.val = 0 := fun h => ha (by rw [← toS_of a, toS_zero_iff]; exact h)
    have := congrArg toS (sinv_oneS h)
    rw [toS_mul, toS_of, toS_one] at this
    exact this
  mul_zero a b h := by
    rw [← toS_of a, ← toS_of b, ← toS_mul, toS_zero_iff, slow_of (smul_L _ _), smul_def] at h
    rcases prime_L.dvd_mul (Nat.dvd_of_mod_eq_zero h) with h1 | h1
    · left; rw [← toS_of a, toS_zero_iff, slow_def]; exact Nat.mod_eq_zero_of_dvd h1
    · right; rw [← toS_of b, toS_zero_iff, slow_def]; exact Nat.mod_eq_zero_of_dvd h1
  one_ne h := by
    rw [← toS_one, toS_zero_iff, slow_of SL_one] at h
    exact absurd h (by decide)
  two_ne h := by
    have h2 : (2 : FS) = toS 2 := by
      rw [show (2 : FS) = 1 + 1 by decide +kernel, ← toS_one, ← toS_add]
      refine congrArg toS ?_
      rw [sadd_def]
      exact Nat.mod_eq_of_lt (by decide +kernel)
    rw [h2, toS_zero_iff, slow_of (by decide +kernel)] at h
    exact absurd h (by decide)
theorem toS_inv (a : Nat) : toS (sinv a) = Ks.inv (toS a) := by
  show _ = toS (sinv (toS a).val)
  rw [toS_val, sinv_mod]
end Go.Proofs.Ytglbnbdeoenilaa
namespace Go.Proofs.Ytglbnbdeoenilaa
set_option linter.unusedVariables false
/-- x - t modulo L. -/
def sdif (x t : Nat) : Nat := sadd x (sneg t)
def prN (xs : List Nat) (x : Nat) : Nat := xs.foldl (fun u t => smul u (sdif x t)) 1
theorem prN_nil (x : Nat) : prN [] x = 1 := rfl
theorem prN_snoc (xs : List Nat) (t x : Nat) : prN (xs ++ [t]) x = smul (prN xs x) (sdif x t) := by simp [prN]
/-- What there is of it in the i-th part. -/
def oth (l : List (Nat × Nat)) (i : Nat) : List Nat := (l.map (·.1)).eraseIdx i
def tmN (l : List (Nat × Nat)) (x i : Nat) : Nat :=
  match l[i]? with
  | none => 0
  | some (a, y) => smul y (smul (prN (oth l i) x) (sinv (prN (oth l i) a)))
def smN (l : List (Nat × Nat)) (x : Nat) : Nat → Nat
  | 0 => 0
  | k + 1 => sadd (smN l x k) (tmN l x k)
/-- The polynomial's value at x. -/
def shAt (l : List (Nat × Nat)) (x : Nat) : Nat := smN l x l.length
theorem oth_step {l : List (Nat × Nat)} {i k : Nat} {q : Nat × Nat} (h : l[k]? = some q) : oth (l.take (k + 1)) i = if i = k then oth (l.take k) i else oth (l.take k) i ++ [q.1] := by
  have hk := (List.getElem?_eq_some_iff.1 h).1
  unfold oth
  rw [List.take_add_one, h, List.map_append]
  simp only [Option.toList, List.map_cons, List.map_nil]
  have hl : ((l.take k).map (·.1)).length = k := by rw [List.length_map, List.length_take]; omega
  split
  · rename_i e
    subst e
    rw [List.eraseIdx_append_of_length_le (by rw [hl]; exact Nat.le_refl _), hl, Nat.sub_self, List.eraseIdx_of_length_le (l := List.map (fun x => x.1) (List.take i l)) (by rw [hl]; exact Nat.le_refl _)]
    simp
  · rename_i e
    rcases Nat.lt_or_ge i k with h1 | h1
    · rw [List.eraseIdx_append_of_lt_length (by rw [hl]; exact h1)]
    · rw [List.eraseIdx_of_length_le (by rw [List.length_append, hl]; simp; omega), List.eraseIdx_of_length_le (by rw [hl]; omega)]
theorem oth_all (l : List (Nat × Nat)) (i : Nat) : oth (l.take l.length) i = oth l i := by rw [List.take_length]
theorem oth_none (l : List (Nat × Nat)) (i : Nat) : oth (l.take 0) i = [] := by simp [oth]
theorem prN_lt : ∀ (xs : List Nat) (x : Nat), prN xs x < T256 := by
  have h : ∀ (xs : List Nat) (x u : Nat), u < T256 → xs.foldl (fun u t => smul u (sdif x t)) u < T256 := by
    intro xs
    induction xs with
    | nil => intro x u hu; exact hu
    | cons t xs ih => intro x u hu; rw [List.foldl_cons]; exact ih x _ (smul_lt _ _)
  exact fun xs x => h xs x 1 (by decide)
theorem smN_L (l : List (Nat × Nat)) (x : Nat) : ∀ k, smN l x k < SLn
  | 0 => SL_pos
  | k + 1 => sadd_L _ _
theorem smN_lt (l : List (Nat × Nat)) (x k : Nat) : smN l x k < T256 := Nat.lt_trans (smN_L l x k) SL_T
theorem shAt_L (l : List (Nat × Nat)) (x : Nat) : shAt l x < SLn := smN_L l x _
/-! ### In the field -/
def sF (l : List (Nat × Nat)) : List (FS × FS) := l.map fun q => (toS q.1, toS q.2)
theorem sF_fst (l : List (Nat × Nat)) : (sF l).map (·.1) = (l.map (·.1)).map toS := by simp [sF, Function.comp_def]
theorem sub_as_add {n : Nat} [NeZero n] (a b : Fin n) : a + (0 - b) = a - b := by grind
theorem toS_dif (x t : Nat) : toS (sdif x t) = toS x - toS t := by
  unfold sdif
  rw [toS_add, toS_neg]
  exact sub_as_add _ _
theorem toS_pr (x : Nat) : ∀ (xs : List Nat) (u : Nat), toS (xs.foldl (fun u t => smul u (sdif x t)) u) = (xs.map toS).foldl (fun u t => u * (toS x - t)) (toS u)
  | [], _ => rfl
  | t :: xs, u => by
    rw [List.map_cons, List.foldl_cons, List.foldl_cons, toS_pr x xs, toS_mul, toS_dif]
theorem toS_prN (xs : List Nat) (x : Nat) : toS (prN xs x) = prd (xs.map toS) (toS x) := by
  unfold prN prd
  rw [toS_pr, toS_one]
theorem map_eraseIdx' {α β : Type} (f : α → β) : ∀ (l : List α) (i : Nat), (l.eraseIdx i).map f = (l.map f).eraseIdx i
  | [], _ => rfl
  | _ :: _, 0 => rfl
  | a :: l, i + 1 => by simp [map_eraseIdx' f l i]
theorem oth_map (l : List (Nat × Nat)) (i : Nat) : (oth l i).map toS = ((sF l).map (·.1)).eraseIdx i := by
  rw [sF_fst]; unfold oth; rw [map_eraseIdx']
theorem toS_tm (l : List (Nat × Nat)) (x i : Nat) : toS (tmN l x i) = ltm Ks (sF l) (toS x) i := by
  unfold tmN ltm
  have e : (sF l)[i]? = (l[i]?).map fun q => (toS q.1, toS q.2) := by simp [sF]
  rw [e]
  cases l[i]? with
  | none => rfl
  | some q =>
    obtain ⟨a, y⟩ := q
    dsimp only [Option.map_some]
    rw [toS_mul, toS_mul, toS_inv, toS_prN, toS_prN, oth_map]
theorem toS_sm (l : List (Nat × Nat)) (x : Nat) : ∀ k, toS (smN l x k) = lsm Ks (sF l) (toS x) k
  | 0 => rfl
  | k + 1 => by
    show toS (sadd _ _) = lsm Ks _ _ k + ltm Ks _ _ k
    rw [toS_add, toS_sm l x k, toS_tm]
theorem toS_shAt (l : List (Nat × Nat)) (x : Nat) : toS (shAt l x) = lag Ks (sF l) (toS x) := by
  unfold shAt lag
  rw [toS_sm]
  congr 1
  simp [sF]
/-- Shares that are told well. -/
structure ShOk (l : List (Nat × Nat)) : Prop where
  small : ∀ q ∈ l, q.1 < SLn ∧ q.2 < SLn
  nd : (l.map (·.1)).Nodup
theorem ShOk.ndF {l : List (Nat × Nat)} (h : ShOk l) : ((sF l).map (·.1)).Nodup := by
  rw [sF_fst]
  refine List.Pairwise.map _ (R := fun a b => a ≠ b ∧ a < SLn ∧ b < SLn) (fun a b hab e => hab.1 (toS_inj hab.2.1 hab.2.2 e)) ?_
  have h1 : ∀ a ∈ l.map (·.1), a < SLn := fun a ha => by
    obtain ⟨q, hq, rfl⟩ := List.mem_map.1 ha
    exact (h.small q hq).1
  have := h.nd
  rw [List.nodup_iff_pairwise_ne] at this
  exact this.imp_of_mem fun ha hb hne => ⟨hne, h1 _ ha, h1 _ hb⟩
theorem shAt_perm {l m : List (Nat × Nat)} (h : ShOk l) (hp : m.Perm l) (x : Nat) : shAt m x = shAt l x := by
  refine toS_inj (shAt_L _ _) (shAt_L _ _) ?_
  rw [toS_shAt, toS_shAt]
  exact lag_perm Ks (hp.map _) h.ndF _
theorem shAt_own {l : List (Nat × Nat)} (h : ShOk l) {i : Nat} {q : Nat × Nat} (hi : l[i]? = some q) : shAt l q.1 = q.2 := by
  refine toS_inj (shAt_L _ _) (h.small q (List.mem_of_getElem? hi)).2 ?_
  rw [toS_shAt]
  refine lag_at Ks h.ndF (i := i) ?_
  simp [sF, hi]
theorem shAt_more {l : List (Nat × Nat)} (h : ShOk l) {a : Nat} (ha : a < SLn) (hn : a ∉ l.map (·.1)) (x : Nat) : shAt (l ++ [(a, shAt l a)]) x = shAt l x := by
  refine toS_inj (shAt_L _ _) (shAt_L _ _) ?_
  rw [toS_shAt, toS_shAt]
  have e : sF (l ++ [(a, shAt l a)]) = sF l ++ [(toS a, lag Ks (sF l) (toS a))] := by simp [sF, toS_shAt]
  rw [e]
  refine lag_more Ks h.ndF (fun hm => hn ?_) _
  rw [sF_fst, List.mem_map] at hm
  obtain ⟨b, hb, he⟩ := hm
  have hb' : b < SLn := by
    obtain ⟨q, hq, rfl⟩ := List.mem_map.1 hb
    exact (h.small q hq).1
  rw [← toS_inj hb' ha he]; exact hb
end Go.Proofs.Ytglbnbdeoenilaa
