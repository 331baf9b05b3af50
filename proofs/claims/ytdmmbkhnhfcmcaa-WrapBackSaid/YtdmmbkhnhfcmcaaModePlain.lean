/- Many blocks, in plain Lean: the stream, and blocks that hang on the one ahead. -/
import Derived.Test.YtdmmbkhnhfcmcaaAesPlain
namespace Go.Proofs.Ytdmmbkhnhfcmcaa
open Go.RowKit
set_option linter.unusedVariables false
set_option linter.unusedSimpArgs false
/-- Encrypt and Decrypt, as far as it matters. -/
structure EDok (E D : List Nat → List Nat) : Prop where
  eok : ∀ b, B16 b → B16 (E b)
  dok : ∀ b, B16 b → B16 (D b)
  de : ∀ b, B16 b → D (E b) = b
  ed : ∀ b, B16 b → E (D b) = b
theorem edok {W : List Nat} (hW : KOk W) (R : Nat) : EDok (encL W R) (decL W R) := ⟨fun _ h => encL_ok hW h, fun _ h => decL_ok hW h, fun _ h => dec_enc hW h, fun _ h => enc_dec hW h⟩
/-! ### The stream -/
/-- A number is added, k bytes from behind. -/
def ivS (iv : List Nat) (n : Nat) : Nat → List Nat × Nat × Nat
  | 0 => (iv, 0, n)
  | k + 1 => ((ivS iv n k).1.set (15 - k) (((ivS iv n k).2.1 + ((ivS iv n k).1.getD (15 - k) 0 + (ivS iv n k).2.2 % 256)) % 256),
      ((ivS iv n k).2.1 + ((ivS iv n k).1.getD (15 - k) 0 + (ivS iv n k).2.2 % 256)) / 256, (ivS iv n k).2.2 / 256)
def plusL (iv : List Nat) (n : Nat) : List Nat := (ivS iv n 16).1
theorem B16.set {b : List Nat} (h : B16 b) {i x : Nat} (hx : x < 256) : B16 (b.set i x) := B16.of (by rw [List.length_set, h.len]) fun y hy => by
  rcases List.mem_or_eq_of_mem_set hy with h1 | h1
  · exact h.byl y h1
  · rw [h1]; exact hx
theorem ivS_ok {iv : List Nat} (h : B16 iv) (n : Nat) : ∀ k, B16 (ivS iv n k).1 ∧ (ivS iv n k).2.1 ≤ 2 ∧ (ivS iv n k).2.2 ≤ n
  | 0 => ⟨h, by simp [ivS], by simp [ivS]⟩
  | k + 1 => by
    obtain ⟨h1, h2, h3⟩ := ivS_ok h n k
    have h4 := h1.lt (15 - k)
    have h5 : (ivS iv n k).2.2 % 256 < 256 := Nat.mod_lt _ (by decide)
    refine ⟨h1.set (Nat.mod_lt _ (by decide)), ?_, ?_⟩
    · show ((ivS iv n k).2.1 + ((ivS iv n k).1.getD (15 - k) 0 + (ivS iv n k).2.2 % 256)) / 256 ≤ 2
      omega
    · show (ivS iv n k).2.2 / 256 ≤ n
      omega
theorem plusL_ok {iv : List Nat} (h : B16 iv) (n : Nat) : B16 (plusL iv n) := (ivS_ok h n 16).1
/-- Behind the first one nothing is added to a number whose last byte was 0. -/
theorem ivS_small {iv : List Nat} (h : B16 iv) {n : Nat} (hn : n < 256) (h0 : iv.getD 15 0 = 0) : ∀ k, ivS iv n (k + 1) = (iv.set 15 n, 0, 0)
  | 0 => by
    simp only [ivS, Nat.sub_zero, h0, Nat.zero_add]
    rw [Nat.mod_eq_of_lt hn, Nat.mod_eq_of_lt hn, Nat.div_eq_of_lt hn]
  | k + 1 => by
    rw [ivS, ivS_small h hn h0 k]
    simp only [Nat.zero_mod, Nat.add_zero, Nat.zero_add, Nat.zero_div]
    have hlt : (iv.set 15 n).getD (15 - (k + 1)) 0 < 256 := (h.set hn).lt _
    rw [Nat.mod_eq_of_lt hlt, Nat.div_eq_of_lt hlt]
    refine Prod.ext ?_ rfl
    have hl : (15 - (k + 1)) < (iv.set 15 n).length := by rw [List.length_set, h.len]; omega
    rw [List.getD_eq_getElem?_getD, List.getElem?_eq_getElem hl, Option.getD_some, List.set_getElem_self]
theorem plusL_small {iv : List Nat} (h : B16 iv) {n : Nat} (hn : n < 256) (h0 : iv.getD 15 0 = 0) : plusL iv n = iv.set 15 n := by rw [plusL, ivS_small h hn h0 15]
/-- A byte of the stream. -/
def skB (E : List Nat → List Nat) (iv : List Nat) (q : Nat) : Nat := (E (plusL iv (q / 16))).getD (q % 16) 0
def plc (a i : Nat) : Nat := (a + i) % 18446744073709551616
def strL (E : List Nat → List Nat) (iv : List Nat) (a : Nat) : List Nat → List Nat
  | [] => []
  | b :: r => (b ^^^ skB E iv (a % 18446744073709551616)) :: strL E iv (a + 1) r
section
variable {E D : List Nat → List Nat} {iv : List Nat}
theorem strL_len (a : Nat) (p : List Nat) : (strL E iv a p).length = p.length := by
  induction p generalizing a with
  | nil => rfl
  | cons b r ih => simp [strL, ih]
theorem strL_get (a : Nat) (p : List Nat) (i : Nat) (h : i < p.length) : (strL E iv a p)[i]? = some (p.getD i 0 ^^^ skB E iv (plc a i)) := by
  induction p generalizing a i with
  | nil => simp at h
  | cons b r ih =>
    cases i with
    | zero => simp [strL, plc]
    | succ i =>
      have := ih (a + 1) i (by simpa using h)
      simp only [strL, List.getElem?_cons_succ, this, List.getD_cons_succ]
      rw [plc, plc, show a + 1 + i = a + (i + 1) by omega]
theorem strL_getD (a : Nat) (p : List Nat) (i : Nat) (h : i < p.length) : (strL E iv a p).getD i 0 = p.getD i 0 ^^^ skB E iv (plc a i) := by rw [List.getD_eq_getElem?_getD, strL_get a p i h]; rfl
theorem strL_app (a : Nat) (p q : List Nat) : strL E iv a (p ++ q) = strL E iv a p ++ strL E iv (a + p.length) q := by
  induction p generalizing a with
  | nil => simp [strL]
  | cons b r ih => simp only [List.cons_append, strL, ih, List.length_cons]; rw [show a + 1 + r.length = a + (r.length + 1) by omega]
theorem strL_mod (a : Nat) (p : List Nat) : strL E iv (a % 18446744073709551616) p = strL E iv a p := by
  have : ∀ (p : List Nat) (a b : Nat), a % 18446744073709551616 = b % 18446744073709551616 → strL E iv a p = strL E iv b p := fun p => by
    induction p with
    | nil => intro _ _ _; rfl
    | cons x r ih => intro a b h; simp only [strL]; rw [h, ih (a + 1) (b + 1) (by omega)]
  exact this p _ _ (Nat.mod_mod _ _)
theorem strL_twice (a : Nat) (p : List Nat) : strL E iv a (strL E iv a p) = p := by
  induction p generalizing a with
  | nil => rfl
  | cons b r ih => simp only [strL, ih]; rw [Nat.xor_assoc, Nat.xor_self, Nat.xor_zero]
theorem skB_lt (h : EDok E D) (hi : B16 iv) (q : Nat) : skB E iv q < 256 := (h.eok _ (plusL_ok hi _)).lt _
theorem strL_byl (h : EDok E D) (hi : B16 iv) (a : Nat) (p : List Nat) (hp : ∀ x ∈ p, x < 256) : ∀ x ∈ strL E iv a p, x < 256 := by
  induction p generalizing a with
  | nil => intro x hx; cases hx
  | cons b r ih =>
    intro x hx
    rcases List.mem_cons.1 hx with rfl | hx
    · exact xor_lt (hp b (by simp)) (skB_lt h hi _)
    · exact ih (a + 1) (fun y hy => hp y (by simp [hy])) x hx
/-- The first i bytes are done. -/
def strP (E : List Nat → List Nat) (iv : List Nat) (a : Nat) (p : List Nat) (i : Nat) : List Nat := strL E iv a (p.take i) ++ List.replicate (p.length - i) 0
theorem strP_zero (a : Nat) (p : List Nat) : strP E iv a p 0 = List.replicate p.length 0 := by simp [strP, strL]
theorem strP_all (a : Nat) (p : List Nat) : strP E iv a p p.length = strL E iv a p := by simp [strP]
theorem strP_step {a i : Nat} {p : List Nat} (hi : i < p.length) : (strP E iv a p i).set i (p.getD i 0 ^^^ skB E iv (plc a i)) = strP E iv a p (i + 1) := by
  have hl : (strL E iv a (p.take i)).length = i := by rw [strL_len, List.length_take]; omega
  have e1 : p.take (i + 1) = p.take i ++ [p.getD i 0] := by
    rw [List.take_add_one, List.getD_eq_getElem?_getD, List.getElem?_eq_getElem hi]; rfl
  have e2 : strL E iv a (p.take (i + 1)) = strL E iv a (p.take i) ++ [p.getD i 0 ^^^ skB E iv (plc a i)] := by
    rw [e1, strL_app, List.length_take, Nat.min_eq_left (by omega)]
    simp only [strL, plc]
  rw [strP, List.set_append_right _ _ (by omega), hl, Nat.sub_self, strP, e2, show p.length - i = p.length - (i + 1) + 1 by omega, List.replicate_succ, List.set_cons_zero, List.append_assoc]
  simp only [List.cons_append, List.nil_append]
end
/-! ### Blocks -/
def xor16 (a b : List Nat) : List Nat := (List.range 16).map fun i => a.getD i 0 ^^^ b.getD i 0
theorem xor16_ok {a b : List Nat} (ha : B16 a) (hb : B16 b) : B16 (xor16 a b) := B16.map fun i _ => xor_lt (ha.lt i) (hb.lt i)
theorem xor16_len (a b : List Nat) : (xor16 a b).length = 16 := by simp [xor16]
theorem xor16_get {a b : List Nat} {i : Nat} (hi : i < 16) : (xor16 a b).getD i 0 = a.getD i 0 ^^^ b.getD i 0 := gd16 hi
theorem xor16_back {a b : List Nat} (hb : B16 b) : xor16 (xor16 a b) a = b := ext16 (xor16_len _ _) hb.len fun i hi => by
  rw [xor16_get hi, xor16_get hi, Nat.xor_comm (a.getD i 0), Nat.xor_assoc, Nat.xor_self, Nat.xor_zero]
theorem xor16_back' {a b : List Nat} (hb : B16 b) : xor16 a (xor16 b a) = b := ext16 (xor16_len _ _) hb.len fun i hi => by
  rw [xor16_get hi, xor16_get hi, Nat.xor_comm (b.getD i 0), ← Nat.xor_assoc, Nat.xor_self, Nat.zero_xor]
/-- The block k. -/
def blk (p : List Nat) (k : Nat) : List Nat := (p.drop (16 * k)).take 16
theorem blk_len {p : List Nat} {k : Nat} (h : 16 * k + 16 ≤ p.length) : (blk p k).length = 16 := by rw [blk, List.length_take, List.length_drop]; omega
theorem blk_ok {p : List Nat} {k : Nat} (h : 16 * k + 16 ≤ p.length) (hp : ∀ x ∈ p, x < 256) : B16 (blk p k) := B16.of (blk_len h) fun x hx => hp x (List.mem_of_mem_drop (List.mem_of_mem_take hx))
theorem blk_get {p : List Nat} {k j : Nat} (hj : j < 16) : (blk p k).getD j 0 = p.getD (16 * k + j) 0 := by
  rw [blk, List.getD_eq_getElem?_getD, List.getElem?_take_of_lt hj, List.getElem?_drop, List.getD_eq_getElem?_getD]
/-- What comes of k blocks: the last one, and all. -/
def cblk (E : List Nat → List Nat) (iv p : List Nat) : Nat → List Nat
  | 0 => iv
  | k + 1 => E (xor16 (cblk E iv p k) (blk p k))
def cflat (E : List Nat → List Nat) (iv p : List Nat) : Nat → List Nat
  | 0 => []
  | k + 1 => cflat E iv p k ++ cblk E iv p (k + 1)
/-- The block ahead. -/
def prevC (iv c : List Nat) : Nat → List Nat
  | 0 => iv
  | k + 1 => blk c k
def dblk (D : List Nat → List Nat) (iv c : List Nat) (k : Nat) : List Nat := xor16 (D (blk c k)) (prevC iv c k)
def dflat (D : List Nat → List Nat) (iv c : List Nat) : Nat → List Nat
  | 0 => []
  | k + 1 => dflat D iv c k ++ dblk D iv c k
section
variable {E D : List Nat → List Nat} {iv : List Nat}
theorem cblk_ok (h : EDok E D) (hi : B16 iv) {p : List Nat} (hp : ∀ x ∈ p, x < 256) : ∀ k, 16 * k ≤ p.length → B16 (cblk E iv p k)
  | 0, _ => hi
  | k + 1, hk => h.eok _ (xor16_ok (cblk_ok h hi hp k (by omega)) (blk_ok (by omega) hp))
theorem cflat_ok (h : EDok E D) (hi : B16 iv) {p : List Nat} (hp : ∀ x ∈ p, x < 256) : ∀ k, 16 * k ≤ p.length → (cflat E iv p k).length = 16 * k ∧ ∀ x ∈ cflat E iv p k, x < 256
  | 0, _ => ⟨rfl, fun x hx => by cases hx⟩
  | k + 1, hk => by
    obtain ⟨h1, h2⟩ := cflat_ok h hi hp k (by omega)
    have h3 := cblk_ok h hi hp (k + 1) hk
    refine ⟨by rw [cflat, List.length_append, h1, h3.len]; omega, fun x hx => ?_⟩
    rcases List.mem_append.1 hx with hx | hx
    · exact h2 x hx
    · exact h3.byl x hx
theorem blk_app {a b : List Nat} {k : Nat} (h : 16 * k + 16 ≤ a.length) : blk (a ++ b) k = blk a k := by
  rw [blk, blk, List.drop_append_of_le_length (by omega), List.take_append_of_le_length (by rw [List.length_drop]; omega)]
theorem blk_last {a b : List Nat} {k : Nat} (h : a.length = 16 * k) (hb : b.length = 16) : blk (a ++ b) k = b := by
  rw [blk, ← h, List.drop_left, List.take_of_length_le (by omega)]
theorem cflat_blk (h : EDok E D) (hi : B16 iv) {p : List Nat} (hp : ∀ x ∈ p, x < 256) : ∀ m, 16 * m ≤ p.length → ∀ k, k < m → blk (cflat E iv p m) k = cblk E iv p (k + 1)
  | 0, _, k, hk => by omega
  | m + 1, hm, k, hk => by
    obtain ⟨h1, h2⟩ := cflat_ok h hi hp m (by omega)
    rw [cflat]
    by_cases hkm : k < m
    · rw [blk_app (by omega)]
      exact cflat_blk h hi hp m (by omega) k hkm
    · obtain rfl : k = m := by omega
      exact blk_last h1 (cblk_ok h hi hp (k + 1) hm).len
theorem prevC_ok (hi : B16 iv) {c : List Nat} (hc : ∀ x ∈ c, x < 256) : ∀ k, 16 * k ≤ c.length → B16 (prevC iv c k)
  | 0, _ => hi
  | k + 1, hk => blk_ok (by omega) hc
theorem dblk_ok (h : EDok E D) (hi : B16 iv) {c : List Nat} (hc : ∀ x ∈ c, x < 256) {k : Nat} (hk : 16 * k + 16 ≤ c.length) : B16 (dblk D iv c k) :=
  xor16_ok (h.dok _ (blk_ok hk hc)) (prevC_ok hi hc k (by omega))
theorem dflat_ok (h : EDok E D) (hi : B16 iv) {c : List Nat} (hc : ∀ x ∈ c, x < 256) : ∀ k, 16 * k ≤ c.length → (dflat D iv c k).length = 16 * k ∧ ∀ x ∈ dflat D iv c k, x < 256
  | 0, _ => ⟨rfl, fun x hx => by cases hx⟩
  | k + 1, hk => by
    obtain ⟨h1, h2⟩ := dflat_ok h hi hc k (by omega)
    have h3 := dblk_ok h hi hc (k := k) (by omega)
    refine ⟨by rw [dflat, List.length_append, h1, h3.len]; omega, fun x hx => ?_⟩
    rcases List.mem_append.1 hx with hx | hx
    · exact h2 x hx
    · exact h3.byl x hx
theorem dflat_blk (h : EDok E D) (hi : B16 iv) {c : List Nat} (hc : ∀ x ∈ c, x < 256) : ∀ m, 16 * m ≤ c.length → ∀ k, k < m → blk (dflat D iv c m) k = dblk D iv c k
  | 0, _, k, hk => by omega
  | m + 1, hm, k, hk => by
    obtain ⟨h1, h2⟩ := dflat_ok h hi hc m (by omega)
    rw [dflat]
    by_cases hkm : k < m
    · rw [blk_app (by omega)]
      exact dflat_blk h hi hc m (by omega) k hkm
    · obtain rfl : k = m := by omega
      exact blk_last h1 (dblk_ok h hi hc hm).len
/-- Two texts of the same blocks are one. -/
theorem blk_ext {a b : List Nat} {m : Nat} (ha : a.length = 16 * m) (hb : b.length = 16 * m) (h : ∀ k, k < m → blk a k = blk b k) : a = b := by
  refine List.ext_getElem (by omega) fun i h1 h2 => ?_
  have e := congrArg (fun l => l.getD (i % 16) 0) (h (i / 16) (by omega))
  simp only [blk_get (Nat.mod_lt i (by decide : 0 < 16))] at e
  rw [show 16 * (i / 16) + i % 16 = i by omega] at e
  simpa [List.getD, h1, h2] using e
theorem open_seal (h : EDok E D) (hi : B16 iv) {p : List Nat} (hp : ∀ x ∈ p, x < 256) {m : Nat} (hm : p.length = 16 * m) : dflat D iv (cflat E iv p m) m = p := by
  obtain ⟨h1, h2⟩ := cflat_ok h hi hp m (by omega)
  refine blk_ext (dflat_ok h hi h2 m (by omega)).1 hm fun k hk => ?_
  rw [dflat_blk h hi h2 m (by omega) k hk, dblk, cflat_blk h hi hp m (by omega) k hk]
  have hprev : prevC iv (cflat E iv p m) k = cblk E iv p k := by
    cases k with
    | zero => rfl
    | succ k => exact cflat_blk h hi hp m (by omega) k (by omega)
  rw [hprev, cblk, h.de _ (xor16_ok (cblk_ok h hi hp k (by omega)) (blk_ok (by omega) hp)), xor16_back (blk_ok (by omega) hp)]
theorem seal_open (h : EDok E D) (hi : B16 iv) {c : List Nat} (hc : ∀ x ∈ c, x < 256) {m : Nat} (hm : c.length = 16 * m) : cflat E iv (dflat D iv c m) m = c := by
  obtain ⟨h1, h2⟩ := dflat_ok h hi hc m (by omega)
  have key : ∀ k, k ≤ m → cblk E iv (dflat D iv c m) k = prevC iv c k := fun k => by
    induction k with
    | zero => intro _; rfl
    | succ k ih =>
      intro hk
      rw [cblk, ih (by omega), dflat_blk h hi hc m (by omega) k (by omega), dblk, xor16_back' (h.dok _ (blk_ok (by omega) hc)), h.ed _ (blk_ok (by omega) hc)]
      rfl
  refine blk_ext (cflat_ok h hi h2 m (by omega)).1 hm fun k hk => ?_
  rw [cflat_blk h hi h2 m (by omega) k hk, key (k + 1) (by omega)]
  rfl
/-- A change in one block. -/
theorem blk_set {c : List Nat} {a x k : Nat} (h : k ≠ a / 16) : blk (c.set a x) k = blk c k := by
  have hg : ∀ i, i < 16 → (c.set a x)[16 * k + i]? = c[16 * k + i]? := fun i hi => by rw [List.getElem?_set_ne (by omega)]
  refine List.ext_getElem? fun i => ?_
  rw [blk, blk]
  by_cases hi : i < 16
  · rw [List.getElem?_take_of_lt hi, List.getElem?_take_of_lt hi, List.getElem?_drop, List.getElem?_drop, hg i hi]
  · rw [List.getElem?_eq_none (by rw [List.length_take]; omega), List.getElem?_eq_none (by rw [List.length_take]; omega)]
theorem heal {c : List Nat} {a b m : Nat} (h : EDok E D) (hi : B16 iv) (hc : ∀ x ∈ c, x < 256) (hb : b < 256) (hm : c.length = 16 * m) (ha : a < 16 * m) {i : Nat} (him : i < 16 * m) (hne : i / 16 ≠ a / 16) :
    (dflat D iv (c.set a (c.getD a 0 ^^^ b)) m).getD i 0 = (dflat D iv c m).getD i 0 ^^^ (if i = a + 16 then b else 0) := by
  have hc' : ∀ x ∈ c.set a (c.getD a 0 ^^^ b), x < 256 := fun y hy => by
    rcases List.mem_or_eq_of_mem_set hy with h1 | h1
    · exact hc y h1
    · rw [h1]
      refine xor_lt ?_ hb
      rw [List.getD_eq_getElem?_getD, List.getElem?_eq_getElem (by omega)]
      exact hc _ (List.getElem_mem _)
  have hl' : (c.set a (c.getD a 0 ^^^ b)).length = 16 * m := by rw [List.length_set, hm]
  have e : ∀ (c : List Nat), (∀ x ∈ c, x < 256) → c.length = 16 * m → (dflat D iv c m).getD i 0 = (D (blk c (i / 16))).getD (i % 16) 0 ^^^ (prevC iv c (i / 16)).getD (i % 16) 0 := fun c hc hm => by
    have := blk_get (p := dflat D iv c m) (k := i / 16) (Nat.mod_lt i (by decide : 0 < 16))
    rw [show 16 * (i / 16) + i % 16 = i by omega] at this
    rw [← this, dflat_blk h hi hc m (by omega) (i / 16) (by omega), dblk, xor16_get (Nat.mod_lt i (by decide))]
  rw [e _ hc' hl', e _ hc hm, blk_set hne]
  by_cases hp : i / 16 = a / 16 + 1
  · rw [hp, Nat.xor_assoc]
    congr 1
    show (blk (c.set a (c.getD a 0 ^^^ b)) (a / 16)).getD (i % 16) 0 = (blk c (a / 16)).getD (i % 16) 0 ^^^ _
    rw [blk_get (Nat.mod_lt i (by decide)), blk_get (Nat.mod_lt i (by decide))]
    by_cases hia : i = a + 16
    · rw [if_pos hia, show 16 * (a / 16) + i % 16 = a by omega]
      rw [List.getD_eq_getElem?_getD, List.getElem?_set_self (by omega)]; rfl
    · rw [if_neg hia, Nat.xor_zero, List.getD_eq_getElem?_getD, List.getElem?_set_ne (by omega), List.getD_eq_getElem?_getD]
  · rw [if_neg (by omega), Nat.xor_zero]
    congr 1
    cases hk : i / 16 with
    | zero => rfl
    | succ k =>
      show (blk (c.set a _) k).getD _ 0 = (blk c k).getD _ 0
      rw [blk_set (by omega)]
end
end Go.Proofs.Ytdmmbkhnhfcmcaa
