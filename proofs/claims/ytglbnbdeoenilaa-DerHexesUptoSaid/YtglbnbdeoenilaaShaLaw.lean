/- Digests in plain terms: what goes on behind what; a digest's bytes are its words. -/
import Derived.Test.YtglbnbdeoenilaaShaPlain
namespace Go.Proofs.Ytglbnbdeoenilaa
/-- Alike in all that is ever looked at again. -/
def HS.like (s t : HS) : Prop := s.h = t.h ∧ s.n = t.n ∧ s.left.length = 64 ∧ t.left.length = 64 ∧ ∀ i, i < s.n % 64 → s.left[i]? = t.left[i]?
theorem HS.like_refl {s : HS} (h : s.left.length = 64) : s.like s := ⟨rfl, rfl, h, h, fun _ _ => rfl⟩
theorem HS.like_put {s t : HS} (b : Nat) (h : s.like t) : (s.put b).like (t.put b) := by
  obtain ⟨h1, h2, h3, h4, h5⟩ := h
  have hlt : s.n % 64 < 64 := Nat.mod_lt _ (by decide)
  have hset : ∀ i, i < s.n % 64 + 1 → (s.left.set (s.n % 64) b)[i]? = (t.left.set (s.n % 64) b)[i]? := fun i hi => by
    rw [List.getElem?_set, List.getElem?_set, h3, h4]
    split
    · rfl
    · exact h5 i (by omega)
  refine ⟨?_, by simp only [HS.put, h2], by simp [HS.put, h3], by simp [HS.put, h4], fun i hi => ?_⟩
  · simp only [HS.put, ← h2, ← h1]
    split
    · rename_i h0
      congr 1
      have h63 : s.n % 64 = 63 := by omega
      apply List.ext_getElem?
      intro i
      by_cases hi : i < 64
      · exact hset i (by omega)
      · rw [List.getElem?_eq_none (by rw [List.length_set, h3]; omega), List.getElem?_eq_none (by rw [List.length_set, h4]; omega)]
    · rfl
  · simp only [HS.put, ← h2] at hi ⊢
    exact hset i (by omega)
theorem HS.like_write (p : List Nat) : ∀ {s t : HS}, s.like t → (s.write p).like (t.write p) := by
  induction p with
  | nil => intro s t h; exact h
  | cons b r ih => intro s t h; exact ih (HS.like_put b h)
theorem HS.like_sum {s t : HS} (h : s.like t) : s.sum = t.sum := by
  unfold HS.sum
  rw [← h.2.1, (HS.like_write _ h).1]
theorem HS.put_n (s : HS) (b : Nat) : (s.put b).n = (s.n + 1) % 18446744073709551616 := rfl
theorem HS.write_n (p : List Nat) : ∀ (s : HS), s.n < 18446744073709551616 → (s.write p).n = (s.n + p.length) % 18446744073709551616 := by
  induction p with
  | nil => intro s h; rw [List.length_nil, Nat.add_zero, Nat.mod_eq_of_lt h]; rfl
  | cons b r ih =>
    intro s h
    rw [show s.write (b :: r) = (s.put b).write r from rfl, ih _ (Nat.mod_lt _ (by decide)), HS.put_n, List.length_cons]
    omega
theorem newH_n (p : List Nat) (h : p.length < 18446744073709551616) : (newH.write p).n = p.length := by
  rw [HS.write_n p newH (by decide), show newH.n = 0 from rfl, Nat.zero_add, Nat.mod_eq_of_lt h]
/-! ### Words within bounds -/
def W32 (l : List Int) : Prop := ∀ x ∈ l, 0 ≤ x ∧ x < 4294967296
theorem wrap32 (x : Int) : 0 ≤ IntKind.u32.wrap x ∧ IntKind.u32.wrap x < 4294967296 := by
  have h : IntKind.u32.wrap x = x % 4294967296 := by simp [IntKind.wrap, IntKind.bits, IntKind.signed]
  rw [h]
  omega
theorem adds_w32 {h v : List Int} (hh : W32 h) : ∀ i, W32 (addsI h v i)
  | 0 => hh
  | i + 1 => fun x hx => by
    rcases List.mem_or_eq_of_mem_set hx with h1 | h1
    · exact adds_w32 hh i x h1
    · rw [h1]; exact wrap32 _
theorem HS.write_w32 (p : List Nat) : ∀ {s : HS}, W32 s.h → W32 (s.write p).h := by
  induction p with
  | nil => intro s h; exact h
  | cons b r ih =>
    intro s h
    refine ih (s := s.put b) ?_
    simp only [HS.put]
    split
    · exact adds_w32 h 8
    · exact h
theorem newH_w32 : W32 newH.h := by unfold W32 newH; decide
/-! ### A word's bytes -/
theorem or_nat {a b : Nat} (ha : a < 4294967296) (hb : b < 4294967296) : or32 (a : Int) (b : Int) = ((a ||| b : Nat) : Int) := by
  have h1 : (BitVec.ofInt 32 (a : Int)) = BitVec.ofNat 32 a := by rw [BitVec.ofInt_natCast]
  have h2 : (BitVec.ofInt 32 (b : Int)) = BitVec.ofNat 32 b := by rw [BitVec.ofInt_natCast]
  have hw : ∀ x : Int, IntKind.u32.wrap x = x % 4294967296 := fun x => by simp [IntKind.wrap, IntKind.bits, IntKind.signed]
  have hlt : a ||| b < 4294967296 := Nat.or_lt_two_pow (n := 32) ha hb
  show IntKind.u32.wrap (((BitVec.ofInt 32 (a : Int)) ||| (BitVec.ofInt 32 (b : Int))).toNat : Int) = _
  rw [h1, h2, BitVec.toNat_or, BitVec.toNat_ofNat, BitVec.toNat_ofNat, Nat.mod_eq_of_lt ha, Nat.mod_eq_of_lt hb, hw]
  omega
def by4 (x : Int) : List Nat := [(IntKind.u8.wrap (x / 16777216)).toNat, (IntKind.u8.wrap (x / 65536)).toNat, (IntKind.u8.wrap (x / 256)).toNat, (IntKind.u8.wrap x).toNat]
theorem wrap8 (x : Int) : IntKind.u8.wrap x = x % 256 := by simp [IntKind.wrap, IntKind.bits, IntKind.signed]
theorem or4 {a b c d : Nat} (ha : a < 256) (hb : b < 256) (hc : c < 256) (hd : d < 256) : or32 (or32 (or32 ((a * 16777216 : Nat) : Int) ((b * 65536 : Nat) : Int)) ((c * 256 : Nat) : Int)) (d : Int) = ((a * 16777216 + b * 65536 + c * 256 + d : Nat) : Int) := by
  have e1 := Nat.two_pow_add_eq_or_of_lt (i := 24) (b := b * 65536) (by omega) a
  rw [or_nat (by omega) (by omega), show a * 16777216 ||| b * 65536 = a * 16777216 + b * 65536 by rw [show a * 16777216 = 2 ^ 24 * a by omega, ← e1]]
  have e2 := Nat.two_pow_add_eq_or_of_lt (i := 16) (b := c * 256) (by omega) (a * 256 + b)
  rw [or_nat (by omega) (by omega), show a * 16777216 + b * 65536 ||| c * 256 = a * 16777216 + b * 65536 + c * 256 by rw [show a * 16777216 + b * 65536 = 2 ^ 16 * (a * 256 + b) by omega, ← e2]]
  have e3 := Nat.two_pow_add_eq_or_of_lt (i := 8) (b := d) (by omega) (a * 65536 + b * 256 + c)
  rw [or_nat (by omega) (by omega), show a * 16777216 + b * 65536 + c * 256 ||| d = a * 16777216 + b * 65536 + c * 256 + d by rw [show a * 16777216 + b * 65536 + c * 256 = 2 ^ 8 * (a * 65536 + b * 256 + c) by omega, ← e3]]
theorem word_by4 {x : Int} (h : 0 ≤ x ∧ x < 4294967296) (l r : List Nat) (at' : Nat) (hl : l.length = at') : wordI (l ++ (by4 x ++ r)) at' = x := by
  subst hl
  have g : ∀ j, (l ++ (by4 x ++ r)).getD (l.length + j) 0 = (by4 x ++ r).getD j 0 := fun j => by simp [List.getD, List.getElem?_append_right]
  have g0 := g 0
  unfold wordI
  rw [Nat.add_zero] at g0
  rw [g0, g 1, g 2, g 3]
  obtain ⟨n, rfl⟩ := Int.eq_ofNat_of_zero_le h.1
  simp only [by4, List.cons_append, List.getD_cons_zero, List.getD_cons_succ, wrap8]
  rw [or4 (by omega) (by omega) (by omega) (by omega)]
  omega
theorem sumB_eq (h : List Int) : sumB h = (h.map by4).flatten := rfl
theorem sumB_len : ∀ h : List Int, (sumB h).length = 4 * h.length
  | [] => rfl
  | x :: r => by rw [sumB_eq, List.map_cons, List.flatten_cons, List.length_append, ← sumB_eq, sumB_len r]; simp [by4]; omega
theorem sumB_byte (h : List Int) : ∀ x ∈ sumB h, x < 256 := fun x hx => by
  rw [sumB_eq] at hx
  obtain ⟨l, hl, hx⟩ := List.mem_flatten.1 hx
  obtain ⟨y, _, rfl⟩ := List.mem_map.1 hl
  simp only [by4, wrap8, List.mem_cons, List.not_mem_nil, or_false] at hx
  omega
theorem word_sum : ∀ (h : List Int) (i : Nat), W32 h → i < h.length → wordI (sumB h) (4 * i) = h.getD i 0 := fun h i hw hi => by
  have e : h = h.take i ++ (h[i] :: h.drop (i + 1)) := by rw [List.getElem_cons_drop]; exact (List.take_append_drop i h).symm
  have hb : sumB h = sumB (h.take i) ++ (by4 h[i] ++ sumB (h.drop (i + 1))) := by
    conv => lhs; rw [e]
    simp only [sumB_eq, List.map_append, List.map_cons, List.flatten_append, List.flatten_cons]
  rw [hb, word_by4 (hw _ (List.getElem_mem hi)) _ _ _ (by rw [sumB_len, List.length_take]; omega)]
  simp [List.getD, hi]
/-! ### Digests -/
theorem dig_eq (p : List Nat) (h : p.length < 18446744073709551616) : dig p = sumB (newH.write (p ++ padL p.length)).h := by
  rw [dig, HS.sum, newH_n p h, HS.write_app]
theorem dig_len (p : List Nat) : (dig p).length = 32 := by
  rw [dig, HS.sum, sumB_len]
  have : ∀ (p : List Nat) (s : HS), s.h.length = 8 → (s.write p).h.length = 8 := fun p => by
    induction p with
    | nil => intro s h; exact h
    | cons b r ih =>
      intro s h
      refine ih (s.put b) ?_
      simp only [HS.put]
      split
      · rw [pressI, addsI_len, h]
      · exact h
  rw [this _ _ (this _ _ rfl)]
/-- Behind a digest and its pad. -/
def resumeH (d : List Nat) (n : Nat) : HS := ⟨(List.range 8).map fun i => wordI d (4 * i), n, List.replicate 64 0⟩
theorem resume_like (p : List Nat) (h : p.length + (padL p.length).length < 18446744073709551616) : (resumeH (dig p) (p.length + (padL p.length).length)).like (newH.write (p ++ padL p.length)) := by
  have hn := newH_n (p ++ padL p.length) (by rw [List.length_append]; exact h)
  rw [List.length_append] at hn
  have h64 : (p.length + (padL p.length).length) % 64 = 0 := by rw [padL_len, padK]; omega
  have hl8 : (newH.write (p ++ padL p.length)).h.length = 8 := by
    have := dig_len p
    rw [dig_eq p (by omega), sumB_len] at this
    omega
  have hw := HS.write_w32 (p ++ padL p.length) newH_w32
  refine ⟨?_, hn.symm, by simp [resumeH], ?_, fun i hi => ?_⟩
  · simp only [resumeH]
    rw [dig_eq p (by omega)]
    generalize (newH.write (p ++ padL p.length)).h = hh at *
    apply List.ext_getElem
    · simp [hl8]
    · intro i h1 h2
      simp only [List.length_map, List.length_range] at h1
      rw [List.getElem_map, List.getElem_range, word_sum hh i hw h2]
      simp [List.getD, h2]
  · have : ∀ (q : List Nat) (s : HS), s.left.length = 64 → (s.write q).left.length = 64 := fun q => by
      induction q with
      | nil => intro s h; exact h
      | cons b r ih => intro s h; exact ih (s.put b) (by simp [HS.put, h])
    exact this _ _ rfl
  · simp only [resumeH] at hi
    omega
theorem extends_plain (p q : List Nat) (h : p.length + (padL p.length).length < 18446744073709551616) : ((resumeH (dig p) (p.length + (padL p.length).length)).write q).sum = dig (p ++ padL p.length ++ q) := by
  rw [HS.like_sum (HS.like_write q (resume_like p h)), dig, ← HS.write_app]
end Go.Proofs.Ytglbnbdeoenilaa
