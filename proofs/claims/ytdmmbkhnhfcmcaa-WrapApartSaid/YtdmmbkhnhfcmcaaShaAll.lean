/- What hash.Pad answers, in plain terms. What the package hash computes, in plain terms: words of 32 bits as integers, just as the code takes them together. The package hash, walked: turning, words. The package hash, walked: press. The package hash, walked: New. The package hash, walked: Write. Digests in plain terms: what goes on behind what; a digest's bytes are its words. hash.Pad, walked. The package hash, walked: Sum. -/
import Derived.Test.YtdmmbkhnhfcmcaaLwOps
import Derived.Test.YtdmmbkhnhfcmcaaLwH
import Derived.Test.YtdmmbkhnhfcmcaaTyS
import Derived.Test.YtdmmbkhnhfcmcaaInts
import Derived.Test.YtdmmbkhnhfcmcaaSeg
import Derived.Test.YtdmmbkhnhfcmcaaSl
import Derived.Test.YtdmmbkhnhfcmcaaOwnB
namespace Go.Proofs.Ytdmmbkhnhfcmcaa
/-- How many noughts. -/
def padK (n : Nat) : Nat := (119 - n % 64) % 64
def padTail (n : Nat) : List Nat := (List.range 8).map fun i => 8 * n % 18446744073709551616 / 2 ^ (56 - 8 * i) % 256
def padL (n : Nat) : List Nat := 128 :: (List.replicate (padK n) 0 ++ padTail n)
theorem padL_len (n : Nat) : (padL n).length = padK n + 9 := by simp [padL, padTail]
theorem padK_lt (n : Nat) : padK n < 64 := Nat.mod_lt _ (by decide)
end Go.Proofs.Ytdmmbkhnhfcmcaa
namespace Go.Proofs.Ytdmmbkhnhfcmcaa
def add32 (a b : Int) : Int := IntKind.u32.wrap (a + b)
def xor32 (a b : Int) : Int := bits .xor .u32 a b
def or32 (a b : Int) : Int := bits .or .u32 a b
def and32 (a b : Int) : Int := bits .and .u32 a b
/-- x turned s to the left. -/
def rotI (x : Int) (s : Nat) : Int := or32 (IntKind.u32.wrap (x * 2 ^ s)) (x / 2 ^ (32 - s))
def ss0 (x : Int) : Int := xor32 (xor32 (rotI x 25) (rotI x 14)) (x / 8)
def ss1 (x : Int) : Int := xor32 (xor32 (rotI x 15) (rotI x 13)) (x / 1024)
def bs1 (x : Int) : Int := xor32 (xor32 (rotI x 26) (rotI x 21)) (rotI x 7)
def bs0 (x : Int) : Int := xor32 (xor32 (rotI x 30) (rotI x 19)) (rotI x 10)
def wordI (p : List Nat) (at' : Nat) : Int := or32 (or32 (or32 ((p.getD at' 0 * 16777216 : Nat) : Int) ((p.getD (at' + 1) 0 * 65536 : Nat) : Int)) ((p.getD (at' + 2) 0 * 256 : Nat) : Int)) ((p.getD (at' + 3) 0 : Nat) : Int)
def nextW (l : List Int) (t : Nat) : Int := add32 (add32 (add32 (l.getD (t - 16) 0) (ss0 (l.getD (t - 15) 0))) (l.getD (t - 7) 0)) (ss1 (l.getD (t - 2) 0))
def schedI (b : List Nat) : Nat → List Int
  | 0 => List.replicate 64 0
  | t + 1 => (schedI b t).set t (if t < 16 then wordI b (4 * t) else nextW (schedI b t) t)
theorem schedI_len (b : List Nat) : ∀ t, (schedI b t).length = 64
  | 0 => by simp [schedI]
  | t + 1 => by rw [schedI, List.length_set, schedI_len b t]
def roots : List Int := [0x428a2f98, 0x71374491, 0xb5c0fbcf, 0xe9b5dba5, 0x3956c25b, 0x59f111f1, 0x923f82a4, 0xab1c5ed5,
  0xd807aa98, 0x12835b01, 0x243185be, 0x550c7dc3, 0x72be5d74, 0x80deb1fe, 0x9bdc06a7, 0xc19bf174,
  0xe49b69c1, 0xefbe4786, 0x0fc19dc6, 0x240ca1cc, 0x2de92c6f, 0x4a7484aa, 0x5cb0a9dc, 0x76f988da,
  0x983e5152, 0xa831c66d, 0xb00327c8, 0xbf597fc7, 0xc6e00bf3, 0xd5a79147, 0x06ca6351, 0x14292967,
  0x27b70a85, 0x2e1b2138, 0x4d2c6dfc, 0x53380d13, 0x650a7354, 0x766a0abb, 0x81c2c92e, 0x92722c85,
  0xa2bfe8a1, 0xa81a664b, 0xc24b8b70, 0xc76c51a3, 0xd192e819, 0xd6990624, 0xf40e3585, 0x106aa070,
  0x19a4c116, 0x1e376c08, 0x2748774c, 0x34b0bcb5, 0x391c0cb3, 0x4ed8aa4a, 0x5b9cca4f, 0x682e6ff3,
  0x748f82ee, 0x78a5636f, 0x84c87814, 0x8cc70208, 0x90befffa, 0xa4506ceb, 0xbef9a3f7, 0xc67178f2]
def oneI (v : List Int) (k w : Int) : Int := add32 (add32 (add32 (add32 (v.getD 7 0) (bs1 (v.getD 4 0))) (xor32 (and32 (v.getD 4 0) (v.getD 5 0)) (and32 (xor32 4294967295 (v.getD 4 0)) (v.getD 6 0)))) k) w
def twoI (v : List Int) : Int := add32 (bs0 (v.getD 0 0)) (xor32 (xor32 (and32 (v.getD 0 0) (v.getD 1 0)) (and32 (v.getD 0 0) (v.getD 2 0))) (and32 (v.getD 1 0) (v.getD 2 0)))
def roundI (v : List Int) (k w : Int) : List Int := [add32 (oneI v k w) (twoI v), v.getD 0 0, v.getD 1 0, v.getD 2 0, add32 (v.getD 3 0) (oneI v k w), v.getD 4 0, v.getD 5 0, v.getD 6 0]
def roundsI (h : List Int) (ws : List Int) : Nat → List Int
  | 0 => h
  | t + 1 => roundI (roundsI h ws t) (roots.getD t 0) (ws.getD t 0)
def addsI (h v : List Int) : Nat → List Int
  | 0 => h
  | i + 1 => (addsI h v i).set i (add32 ((addsI h v i).getD i 0) (v.getD i 0))
/-- A block is pressed into the words. -/
def pressI (h : List Int) (b : List Nat) : List Int := addsI h (roundsI h (schedI b 64) 64) 8
theorem roundsI_len (h ws : List Int) (hh : h.length = 8) : ∀ t, (roundsI h ws t).length = 8
  | 0 => hh
  | _ + 1 => rfl
theorem addsI_len (h v : List Int) : ∀ i, (addsI h v i).length = h.length
  | 0 => rfl
  | i + 1 => by rw [addsI, List.length_set, addsI_len h v i]
/-- A state: the words, how many bytes so far, what is left. -/
structure HS where
  h : List Int
  n : Nat
  left : List Nat
def HS.ok (s : HS) : Prop := s.h.length = 8 ∧ s.n < 18446744073709551616 ∧ s.left.length = 64 ∧ ∀ x ∈ s.left, x < 256
def newH : HS := ⟨[0x6a09e667, 0xbb67ae85, 0x3c6ef372, 0xa54ff53a, 0x510e527f, 0x9b05688c, 0x1f83d9ab, 0x5be0cd19], 0, List.replicate 64 0⟩
/-- One byte more. -/
def HS.put (s : HS) (b : Nat) : HS :=
  let left := s.left.set (s.n % 64) b
  let n := (s.n + 1) % 18446744073709551616
  ⟨if n % 64 = 0 then pressI s.h left else s.h, n, left⟩
def HS.write (s : HS) (p : List Nat) : HS := p.foldl HS.put s
def sumB (h : List Int) : List Nat := (h.map fun x => [(IntKind.u8.wrap (x / 16777216)).toNat, (IntKind.u8.wrap (x / 65536)).toNat, (IntKind.u8.wrap (x / 256)).toNat, (IntKind.u8.wrap x).toNat]).flatten
def HS.sum (s : HS) : List Nat := sumB (s.write (padL s.n)).h
/-- The digest. -/
def dig (p : List Nat) : List Nat := (newH.write p).sum
theorem newH_ok : newH.ok := ⟨rfl, by decide, rfl, by decide⟩
theorem HS.put_ok {s : HS} {b : Nat} (h : s.ok) (hb : b < 256) : (s.put b).ok := by
  obtain ⟨h1, h2, h3, h4⟩ := h
  refine ⟨?_, Nat.mod_lt _ (by decide), by simp [HS.put, h3], fun x hx => ?_⟩
  · simp only [HS.put]
    split
    · rw [pressI, addsI_len, h1]
    · exact h1
  · rcases List.mem_or_eq_of_mem_set hx with h | h
    · exact h4 x h
    · rw [h]; exact hb
theorem HS.write_ok {p : List Nat} (hp : ∀ x ∈ p, x < 256) : ∀ {s : HS}, s.ok → (s.write p).ok := by
  induction p with
  | nil => intro s h; exact h
  | cons b r ih => intro s h; exact ih (fun x hx => hp x (by simp [hx])) (HS.put_ok h (hp b (by simp)))
theorem HS.write_app (s : HS) (p q : List Nat) : s.write (p ++ q) = (s.write p).write q := by simp [HS.write, List.foldl_append]
theorem HS.write_snoc (s : HS) (p : List Nat) (b : Nat) : s.write (p ++ [b]) = (s.write p).put b := by rw [HS.write_app]; rfl
end Go.Proofs.Ytdmmbkhnhfcmcaa
namespace Go.Proofs.Ytdmmbkhnhfcmcaa
open Go.RowKit
set_option linter.unusedVariables false
set_option linter.unusedSimpArgs false
end Go.Proofs.Ytdmmbkhnhfcmcaa
namespace Go.Proofs.Ytdmmbkhnhfcmcaa
open Go.RowKit
set_option linter.unusedVariables false
set_option linter.unusedSimpArgs false
def iw (l : List Int) : Array Value := (l.map (Value.int .u32)).toArray
theorem iw_get {l : List Int} {i : Nat} (h : i < l.length) : (iw l)[i]? = some (.int .u32 (l.getD i 0)) := by simp [iw, h, List.getD]
theorem iw_put (l : List Int) (i : Nat) (x : Int) : putC (iw l) i (.int .u32 x) = iw (l.set i x) := by simp [iw, putC]
theorem iw_size (l : List Int) : (iw l).size = l.length := by simp [iw]
theorem iw_one (l : List Int) : (iw l).all (·.oneCell') = true := by simp [iw, Value.oneCell']
theorem seg_iw {n : Nat} {l : List Int} (h : l.length = n) : SegL (iw l) n := ⟨by rw [iw_size, h], iw_one l⟩
/-- The table of the roots stands in memory. -/
def Tab (w : World) : Prop := ∀ i, i < 64 → w.cell? ⟨0, i, none⟩ = some (.int .u32 (roots.getD i 0))
theorem Tab.below {w w' : World} (h : Tab w) (hb : Below w.heap.size w w') : Tab w' := fun i hi => by
  have := h i hi
  rw [← this]
  exact hb.cell (World.block_lt_of_cell? _ _ this)
class WL (l : List Int) (n : outParam Nat) : Prop where
  out : l.length = n
instance {l : List Int} {n : Nat} [h : WL l n] : Cells (iw l) n := ⟨by rw [iw_size, h.out], iw_one l⟩
instance {l : List Int} {n : Nat} {i : Nat} {x : Int} [h : WL l n] : WL (l.set i x) n := ⟨by rw [List.length_set, h.out]⟩
instance (b : List Nat) (t : Nat) : WL (schedI b t) 64 := ⟨schedI_len b t⟩
instance {n : Nat} {x : Int} : WL (List.replicate n x) n := ⟨by simp⟩
instance {l : List Int} {i : Nat} {x : Int} : PutC (iw l) i (.int .u32 x) (iw (l.set i x)) := ⟨iw_put l i x⟩
end Go.Proofs.Ytdmmbkhnhfcmcaa
namespace Go.Proofs.Ytdmmbkhnhfcmcaa
open Go.RowKit
set_option linter.unusedVariables false
set_option linter.unusedSimpArgs false
/-- A state as a row. -/
abbrev sgH (s : HS) : Sg := [(8, iw s.h), (1, #[.int .u64 (s.n : Int)]), (64, bys s.left)]
abbrev hv (s : HS) : Value := .agg (rwA (sgH s))
class HSo (s : HS) : Prop where
  out : s.ok
instance {s : HS} [h : HSo s] : SegL (iw s.h) 8 := seg_iw h.out.1
instance {s : HS} [h : HSo s] : SegL (bys s.left) 64 := seg_bys h.out.2.2.1
end Go.Proofs.Ytdmmbkhnhfcmcaa
namespace Go.Proofs.Ytdmmbkhnhfcmcaa
open Go.RowKit
set_option linter.unusedVariables false
set_option linter.unusedSimpArgs false
def zeroH : HS := ⟨List.replicate 8 0, 0, List.replicate 64 0⟩
instance : HSo zeroH := ⟨⟨rfl, by decide, rfl, by decide⟩⟩
theorem take_succ' (p : List Nat) (i : Nat) (h : i < p.length) : p.take (i + 1) = p.take i ++ [p.getD i 0] := by
  rw [List.take_add_one, List.getElem?_eq_getElem h]; simp [List.getD, h]
instance {st : HS} [h : HSo st] : Cells (rwA (sgH st)) 73 := ⟨rw_size inferInstance, rw_one inferInstance⟩
theorem hs_eq (st : HS) (b : Nat) (h : (st.n + 1) % 18446744073709551616 % 64 ≠ 0) : st.put b = ⟨st.h, (st.n + 1) % 18446744073709551616, st.left.set (st.n % 64) b⟩ := by
  simp only [HS.put, if_neg h]
theorem hs_eq0 (st : HS) (b : Nat) (h : (st.n + 1) % 18446744073709551616 % 64 = 0) : st.put b = ⟨pressI st.h (st.left.set (st.n % 64) b), (st.n + 1) % 18446744073709551616, st.left.set (st.n % 64) b⟩ := by
  simp only [HS.put, if_pos h]
theorem hs_lit (h : List Int) (n : Nat) (l : List Nat) : sgH ⟨h, n, l⟩ = [(8, iw h), (1, #[.int .u64 (n : Int)]), (64, bys l)] := rfl
end Go.Proofs.Ytdmmbkhnhfcmcaa
namespace Go.Proofs.Ytdmmbkhnhfcmcaa
/-- Alike in all that is ever looked at again. -/
def HS.like (s t : HS) : Prop := s.h = t.h ∧ s.n = t.n ∧ s.left.length = 64 ∧ t.left.length = 64 ∧ ∀ i, i < s.n % 64 → s.left[i]? = t.left[i]?
theorem HS.like_refl {s : HS} (h : s.left.length = 64) : s.like s := ⟨rfl, rfl, h, h, fun _ _ => rfl⟩
theorem HS.like_put {s t : HS} (b : Nat) (h : s.like t) : (s.put b).like (t.put b) := by
  obtain ⟨h1, h2, h3, h4, h5⟩ := h
  have hlt : s.n % 64 < 64 := Nat.mod_lt _ (by decide)
  have hset : ∀ i, i < s.n % 64 + 1 → (s.left.set (s.n % 64) b)[i]? = (t.left.set (s.n % 64) b)[i]? := fun i hi => by
    rw [List.getElem?_set, List.getElem?_set, h3, h4]
    split
    · rfl
    · exact h5 i (by omega)
  refine ⟨?_, by simp only [HS.put, h2], by simp [HS.put, h3], by simp [HS.put, h4], fun i hi => ?_⟩
  · simp only [HS.put, ← h2, ← h1]
    split
    · rename_i h0
      congr 1
      have h63 : s.n % 64 = 63 := by omega
      apply List.ext_getElem?
      intro i
      by_cases hi : i < 64
      · exact hset i (by omega)
      · rw [List.getElem?_eq_none (by rw [List.length_set, h3]; omega), List.getElem?_eq_none (by rw [List.length_set, h4]; omega)]
    · rfl
  · simp only [HS.put, ← h2] at hi ⊢
    exact hset i (by omega)
theorem HS.like_write (p : List Nat) : ∀ {s t : HS}, s.like t → (s.write p).like (t.write p) := by
  induction p with
  | nil => intro s t h; exact h
  | cons b r ih => intro s t h; exact ih (HS.like_put b h)
theorem HS.like_sum {s t : HS} (h : s.like t) : s.sum = t.sum := by
  unfold HS.sum
  rw [← h.2.1, (HS.like_write _ h).1]
theorem HS.put_n (s : HS) (b : Nat) : (s.put b).n = (s.n + 1) % 18446744073709551616 := rfl
theorem HS.write_n (p : List Nat) : ∀ (s : HS), s.n < 18446744073709551616 → (s.write p).n = (s.n + p.length) % 18446744073709551616 := by
  induction p with
  | nil => intro s h; rw [List.length_nil, Nat.add_zero, Nat.mod_eq_of_lt h]; rfl
  | cons b r ih =>
    intro s h
    rw [show s.write (b :: r) = (s.put b).write r from rfl, ih _ (Nat.mod_lt _ (by decide)), HS.put_n, List.length_cons]
    omega
theorem newH_n (p : List Nat) (h : p.length < 18446744073709551616) : (newH.write p).n = p.length := by
  rw [HS.write_n p newH (by decide), show newH.n = 0 from rfl, Nat.zero_add, Nat.mod_eq_of_lt h]
/-! ### Words within bounds -/
def W32 (l : List Int) : Prop := ∀ x ∈ l, 0 ≤ x ∧ x < 4294967296
theorem wrap32 (x : Int) : 0 ≤ IntKind.u32.wrap x ∧ IntKind.u32.wrap x < 4294967296 := by
  have h : IntKind.u32.wrap x = x % 4294967296 := by simp [IntKind.wrap, IntKind.bits, IntKind.signed]
  rw [h]
  omega
theorem adds_w32 {h v : List Int} (hh : W32 h) : ∀ i, W32 (addsI h v i)
  | 0 => hh
  | i + 1 => fun x hx => by
    rcases List.mem_or_eq_of_mem_set hx with h1 | h1
    · exact adds_w32 hh i x h1
    · rw [h1]; exact wrap32 _
theorem HS.write_w32 (p : List Nat) : ∀ {s : HS}, W32 s.h → W32 (s.write p).h := by
  induction p with
  | nil => intro s h; exact h
  | cons b r ih =>
    intro s h
    refine ih (s := s.put b) ?_
    simp only [HS.put]
    split
    · exact adds_w32 h 8
    · exact h
theorem newH_w32 : W32 newH.h := by unfold W32 newH; decide
/-! ### A word's bytes -/
theorem or_nat {a b : Nat} (ha : a < 4294967296) (hb : b < 4294967296) : or32 (a : Int) (b : Int) = ((a ||| b : Nat) : Int) := by
  have h1 : (BitVec.ofInt 32 (a : Int)) = BitVec.ofNat 32 a := by rw [BitVec.ofInt_natCast]
  have h2 : (BitVec.ofInt 32 (b : Int)) = BitVec.ofNat 32 b := by rw [BitVec.ofInt_natCast]
  have hw : ∀ x : Int, IntKind.u32.wrap x = x % 4294967296 := fun x => by simp [IntKind.wrap, IntKind.bits, IntKind.signed]
  have hlt : a ||| b < 4294967296 := Nat.or_lt_two_pow (n := 32) ha hb
  show IntKind.u32.wrap (((BitVec.ofInt 32 (a : Int)) ||| (BitVec.ofInt 32 (b : Int))).toNat : Int) = _
  rw [h1, h2, BitVec.toNat_or, BitVec.toNat_ofNat, BitVec.toNat_ofNat, Nat.mod_eq_of_lt ha, Nat.mod_eq_of_lt hb, hw]
  omega
def by4 (x : Int) : List Nat := [(IntKind.u8.wrap (x / 16777216)).toNat, (IntKind.u8.wrap (x / 65536)).toNat, (IntKind.u8.wrap (x / 256)).toNat, (IntKind.u8.wrap x).toNat]
theorem wrap8 (x : Int) : IntKind.u8.wrap x = x % 256 := by simp [IntKind.wrap, IntKind.bits, IntKind.signed]
theorem or4 {a b c d : Nat} (ha : a < 256) (hb : b < 256) (hc : c < 256) (hd : d < 256) : or32 (or32 (or32 ((a * 16777216 : Nat) : Int) ((b * 65536 : Nat) : Int)) ((c * 256 : Nat) : Int)) (d : Int) = ((a * 16777216 + b * 65536 + c * 256 + d : Nat) : Int) := by
  have e1 := Nat.two_pow_add_eq_or_of_lt (i := 24) (b := b * 65536) (by omega) a
  rw [or_nat (by omega) (by omega), show a * 16777216 ||| b * 65536 = a * 16777216 + b * 65536 by rw [show a * 16777216 = 2 ^ 24 * a by omega, ← e1]]
  have e2 := Nat.two_pow_add_eq_or_of_lt (i := 16) (b := c * 256) (by omega) (a * 256 + b)
  rw [or_nat (by omega) (by omega), show a * 16777216 + b * 65536 ||| c * 256 = a * 16777216 + b * 65536 + c * 256 by rw [show a * 16777216 + b * 65536 = 2 ^ 16 * (a * 256 + b) by omega, ← e2]]
  have e3 := Nat.two_pow_add_eq_or_of_lt (i := 8) (b := d) (by omega) (a * 65536 + b * 256 + c)
  rw [or_nat (by omega) (by omega), show a * 16777216 + b * 65536 + c * 256 ||| d = a * 16777216 + b * 65536 + c * 256 + d by rw [show a * 16777216 + b * 65536 + c * 256 = 2 ^ 8 * (a * 65536 + b * 256 + c) by omega, ← e3]]
theorem word_by4 {x : Int} (h : 0 ≤ x ∧ x < 4294967296) (l r : List Nat) (at' : Nat) (hl : l.length = at') : wordI (l ++ (by4 x ++ r)) at' = x := by
  subst hl
  have g : ∀ j, (l ++ (by4 x ++ r)).getD (l.length + j) 0 = (by4 x ++ r).getD j 0 := fun j => by simp [List.getD, List.getElem?_append_right]
  have g0 := g 0
  unfold wordI
  rw [Nat.add_zero] at g0
  rw [g0, g 1, g 2, g 3]
  obtain ⟨n, rfl⟩ := Int.eq_ofNat_of_zero_le h.1
  simp only [by4, List.cons_append, List.getD_cons_zero, List.getD_cons_succ, wrap8]
  rw [or4 (by omega) (by omega) (by omega) (by omega)]
  omega
theorem sumB_eq (h : List Int) : sumB h = (h.map by4).flatten := rfl
theorem sumB_len : ∀ h : List Int, (sumB h).length = 4 * h.length
  | [] => rfl
  | x :: r => by rw [sumB_eq, List.map_cons, List.flatten_cons, List.length_append, ← sumB_eq, sumB_len r]; simp [by4]; omega
theorem sumB_byte (h : List Int) : ∀ x ∈ sumB h, x < 256 := fun x hx => by
  rw [sumB_eq] at hx
  obtain ⟨l, hl, hx⟩ := List.mem_flatten.1 hx
  obtain ⟨y, _, rfl⟩ := List.mem_map.1 hl
  simp only [by4, wrap8, List.mem_cons, List.not_mem_nil, or_false] at hx
  omega
theorem word_sum : ∀ (h : List Int) (i : Nat), W32 h → i < h.length → wordI (sumB h) (4 * i) = h.getD i 0 := fun h i hw hi => by
  have e : h = h.take i ++ (h[i] :: h.drop (i + 1)) := by rw [List.getElem_cons_drop]; exact (List.take_append_drop i h).symm
  have hb : sumB h = sumB (h.take i) ++ (by4 h[i] ++ sumB (h.drop (i + 1))) := by
    conv => lhs; rw [e]
    simp only [sumB_eq, List.map_append, List.map_cons, List.flatten_append, List.flatten_cons]
  rw [hb, word_by4 (hw _ (List.getElem_mem hi)) _ _ _ (by rw [sumB_len, List.length_take]; omega)]
  simp [List.getD, hi]
/-! ### Digests -/
theorem dig_eq (p : List Nat) (h : p.length < 18446744073709551616) : dig p = sumB (newH.write (p ++ padL p.length)).h := by
  rw [dig, HS.sum, newH_n p h, HS.write_app]
theorem dig_len (p : List Nat) : (dig p).length = 32 := by
  rw [dig, HS.sum, sumB_len]
  have : ∀ (p : List Nat) (s : HS), s.h.length = 8 → (s.write p).h.length = 8 := fun p => by
    induction p with
    | nil => intro s h; exact h
    | cons b r ih =>
      intro s h
      refine ih (s.put b) ?_
      simp only [HS.put]
      split
      · rw [pressI, addsI_len, h]
      · exact h
  rw [this _ _ (this _ _ rfl)]
/-- Behind a digest and its pad. -/
def resumeH (d : List Nat) (n : Nat) : HS := ⟨(List.range 8).map fun i => wordI d (4 * i), n, List.replicate 64 0⟩
theorem resume_like (p : List Nat) (h : p.length + (padL p.length).length < 18446744073709551616) : (resumeH (dig p) (p.length + (padL p.length).length)).like (newH.write (p ++ padL p.length)) := by
  have hn := newH_n (p ++ padL p.length) (by rw [List.length_append]; exact h)
  rw [List.length_append] at hn
  have h64 : (p.length + (padL p.length).length) % 64 = 0 := by rw [padL_len, padK]; omega
  have hl8 : (newH.write (p ++ padL p.length)).h.length = 8 := by
    have := dig_len p
    rw [dig_eq p (by omega), sumB_len] at this
    omega
  have hw := HS.write_w32 (p ++ padL p.length) newH_w32
  refine ⟨?_, hn.symm, by simp [resumeH], ?_, fun i hi => ?_⟩
  · simp only [resumeH]
    rw [dig_eq p (by omega)]
    generalize (newH.write (p ++ padL p.length)).h = hh at *
    apply List.ext_getElem
    · simp [hl8]
    · intro i h1 h2
      simp only [List.length_map, List.length_range] at h1
      rw [List.getElem_map, List.getElem_range, word_sum hh i hw h2]
      simp [List.getD, h2]
  · have : ∀ (q : List Nat) (s : HS), s.left.length = 64 → (s.write q).left.length = 64 := fun q => by
      induction q with
      | nil => intro s h; exact h
      | cons b r ih => intro s h; exact ih (s.put b) (by simp [HS.put, h])
    exact this _ _ rfl
  · simp only [resumeH] at hi
    omega
theorem extends_plain (p q : List Nat) (h : p.length + (padL p.length).length < 18446744073709551616) : ((resumeH (dig p) (p.length + (padL p.length).length)).write q).sum = dig (p ++ padL p.length ++ q) := by
  rw [HS.like_sum (HS.like_write q (resume_like p h)), dig, ← HS.write_app]
end Go.Proofs.Ytdmmbkhnhfcmcaa
namespace Go.Proofs.Ytdmmbkhnhfcmcaa
open Go.RowKit
set_option linter.unusedVariables false
set_option linter.unusedSimpArgs false
end Go.Proofs.Ytdmmbkhnhfcmcaa
namespace Go.Proofs.Ytdmmbkhnhfcmcaa
open Go.RowKit
set_option linter.unusedVariables false
set_option linter.unusedSimpArgs false
theorem set4 {α : Type} (A R : List α) (a b c d z0 z1 z2 z3 : α) (k : Nat) (hk : A.length = k) :
    ((((A ++ z0 :: z1 :: z2 :: z3 :: R).set k a).set (k + 1) b).set (k + 2) c).set (k + 3) d = (A ++ [a, b, c, d]) ++ R := by
  subst hk
  simp [List.set_append_right]
/-- So far: the first i words' bytes, noughts behind. -/
def outB (h : List Int) (i : Nat) : List Nat := sumB (h.take i) ++ List.replicate (32 - 4 * i) 0
theorem outB_len (h : List Int) (hh : h.length = 8) {i : Nat} (hi : i ≤ 8) : (outB h i).length = 32 := by
  rw [outB, List.length_append, sumB_len, List.length_take, List.length_replicate]; omega
theorem outB_step (h : List Int) (hh : h.length = 8) {i : Nat} (hi : i < 8) {a b c d : Nat} (he : by4 (h.getD i 0) = [a, b, c, d]) :
    ((((outB h i).set (4 * i) a).set (4 * i + 1) b).set (4 * i + 2) c).set (4 * i + 3) d = outB h (i + 1) := by
  have e1 : List.replicate (32 - 4 * i) 0 = 0 :: 0 :: 0 :: 0 :: List.replicate (32 - 4 * (i + 1)) 0 := by
    rw [show 32 - 4 * i = 32 - 4 * (i + 1) + 1 + 1 + 1 + 1 by omega]; rfl
  have e2 : h.take (i + 1) = h.take i ++ [h.getD i 0] := by
    rw [List.take_add_one, List.getElem?_eq_getElem (by omega)]; simp [List.getD, (by omega : i < h.length)]
  rw [outB, e1, set4 _ _ a b c d _ _ _ _ (4 * i) (by rw [sumB_len, List.length_take]; omega), outB, e2]
  congr 1
  rw [sumB_eq, sumB_eq, List.map_append, List.flatten_append, List.map_cons, List.map_nil, List.flatten_cons, List.flatten_nil, List.append_nil, he]
/-- So many bytes. -/
class NBy (l : List Nat) (n : outParam Nat) : Prop where
  out : l.length = n
instance {l : List Nat} {n i k : Nat} [h : NBy l n] : NBy (l.set i k) n := ⟨by rw [List.length_set, h.out]⟩
instance {n x : Nat} : NBy (List.replicate n x) n := ⟨by simp⟩
instance {l : List Nat} {n : Nat} [h : NBy l n] : Cells (bys l) n := ⟨(seg_bys h.out).size, (seg_bys h.out).one⟩
instance {l : List Nat} {n : Nat} [h : NBy l n] : SegL (bys l) n := seg_bys h.out
theorem padL_byte (n : Nat) : ∀ x ∈ padL n, x < 256 := fun x hx => by
  rcases List.mem_cons.1 hx with rfl | hx
  · decide
  · rcases List.mem_append.1 hx with h | h
    · rw [(List.mem_replicate.1 h).2]; decide
    · obtain ⟨i, _, rfl⟩ := List.mem_map.1 h
      exact Nat.mod_lt _ (by decide)
end Go.Proofs.Ytdmmbkhnhfcmcaa
