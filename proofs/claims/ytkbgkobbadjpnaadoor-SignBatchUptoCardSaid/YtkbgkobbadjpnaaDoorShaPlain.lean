/- What the package hash computes, in plain terms: words of 32 bits as integers, just as the code takes them together. -/
import Derived.Test.YtkbgkobbadjpnaaDoorPadPlain
import Derived.Test.YtkbgkobbadjpnaaDoorLwOps
namespace Go.Proofs.YtkbgkobbadjpnaaDoor
def add32 (a b : Int) : Int := IntKind.u32.wrap (a + b)
def xor32 (a b : Int) : Int := bits .xor .u32 a b
def or32 (a b : Int) : Int := bits .or .u32 a b
def and32 (a b : Int) : Int := bits .and .u32 a b
/-- x turned s to the left. -/
def rotI (x : Int) (s : Nat) : Int := or32 (IntKind.u32.wrap (x * 2 ^ s)) (x / 2 ^ (32 - s))
def ss0 (x : Int) : Int := xor32 (xor32 (rotI x 25) (rotI x 14)) (x / 8)
def ss1 (x : Int) : Int := xor32 (xor32 (rotI x 15) (rotI x 13)) (x / 1024)
def bs1 (x : Int) : Int := xor32 (xor32 (rotI x 26) (rotI x 21)) (rotI x 7)
def bs0 (x : Int) : Int := xor32 (xor32 (rotI x 30) (rotI x 19)) (rotI x 10)
def wordI (p : List Nat) (at' : Nat) : Int := or32 (or32 (or32 ((p.getD at' 0 * 16777216 : Nat) : Int) ((p.getD (at' + 1) 0 * 65536 : Nat) : Int)) ((p.getD (at' + 2) 0 * 256 : Nat) : Int)) ((p.getD (at' + 3) 0 : Nat) : Int)
def nextW (l : List Int) (t : Nat) : Int := add32 (add32 (add32 (l.getD (t - 16) 0) (ss0 (l.getD (t - 15) 0))) (l.getD (t - 7) 0)) (ss1 (l.getD (t - 2) 0))
def schedI (b : List Nat) : Nat → List Int
  | 0 => List.replicate 64 0
  | t + 1 => (schedI b t).set t (if t < 16 then wordI b (4 * t) else nextW (schedI b t) t)
theorem schedI_len (b : List Nat) : ∀ t, (schedI b t).length = 64
  | 0 => by simp [schedI]
  | t + 1 => by rw [schedI, List.length_set, schedI_len b t]
def roots : List Int := [0x428a2f98, 0x71374491, 0xb5c0fbcf, 0xe9b5dba5, 0x3956c25b, 0x59f111f1, 0x923f82a4, 0xab1c5ed5,
  0xd807aa98, 0x12835b01, 0x243185be, 0x550c7dc3, 0x72be5d74, 0x80deb1fe, 0x9bdc06a7, 0xc19bf174,
  0xe49b69c1, 0xefbe4786, 0x0fc19dc6, 0x240ca1cc, 0x2de92c6f, 0x4a7484aa, 0x5cb0a9dc, 0x76f988da,
  0x983e5152, 0xa831c66d, 0xb00327c8, 0xbf597fc7, 0xc6e00bf3, 0xd5a79147, 0x06ca6351, 0x14292967,
  0x27b70a85, 0x2e1b2138, 0x4d2c6dfc, 0x53380d13, 0x650a7354, 0x766a0abb, 0x81c2c92e, 0x92722c85,
  0xa2bfe8a1, 0xa81a664b, 0xc24b8b70, 0xc76c51a3, 0xd192e819, 0xd6990624, 0xf40e3585, 0x106aa070,
  0x19a4c116, 0x1e376c08, 0x2748774c, 0x34b0bcb5, 0x391c0cb3, 0x4ed8aa4a, 0x5b9cca4f, 0x682e6ff3,
  0x748f82ee, 0x78a5636f, 0x84c87814, 0x8cc70208, 0x90befffa, 0xa4506ceb, 0xbef9a3f7, 0xc67178f2]
def oneI (v : List Int) (k w : Int) : Int := add32 (add32 (add32 (add32 (v.getD 7 0) (bs1 (v.getD 4 0))) (xor32 (and32 (v.getD 4 0) (v.getD 5 0)) (and32 (xor32 4294967295 (v.getD 4 0)) (v.getD 6 0)))) k) w
def twoI (v : List Int) : Int := add32 (bs0 (v.getD 0 0)) (xor32 (xor32 (and32 (v.getD 0 0) (v.getD 1 0)) (and32 (v.getD 0 0) (v.getD 2 0))) (and32 (v.getD 1 0) (v.getD 2 0)))
def roundI (v : List Int) (k w : Int) : List Int := [add32 (oneI v k w) (twoI v), v.getD 0 0, v.getD 1 0, v.getD 2 0, add32 (v.getD 3 0) (oneI v k w), v.getD 4 0, v.getD 5 0, v.getD 6 0]
def roundsI (h : List Int) (ws : List Int) : Nat → List Int
  | 0 => h
  | t + 1 => roundI (roundsI h ws t) (roots.getD t 0) (ws.getD t 0)
def addsI (h v : List Int) : Nat → List Int
  | 0 => h
  | i + 1 => (addsI h v i).set i (add32 ((addsI h v i).getD i 0) (v.getD i 0))
/-- A block is pressed into the words. -/
def pressI (h : List Int) (b : List Nat) : List Int := addsI h (roundsI h (schedI b 64) 64) 8
theorem roundsI_len (h ws : List Int) (hh : h.length = 8) : ∀ t, (roundsI h ws t).length = 8
  | 0 => hh
  | _ + 1 => rfl
theorem addsI_len (h v : List Int) : ∀ i, (addsI h v i).length = h.length
  | 0 => rfl
  | i + 1 => by rw [addsI, List.length_set, addsI_len h v i]
/-- A state: the words, how many bytes so far, what is left. -/
structure HS where
  h : List Int
  n : Nat
  left : List Nat
def HS.ok (s : HS) : Prop := s.h.length = 8 ∧ s.n < 18446744073709551616 ∧ s.left.length = 64 ∧ ∀ x ∈ s.left, x < 256
def newH : HS := ⟨[0x6a09e667, 0xbb67ae85, 0x3c6ef372, 0xa54ff53a, 0x510e527f, 0x9b05688c, 0x1f83d9ab, 0x5be0cd19], 0, List.replicate 64 0⟩
/-- One byte more. -/
def HS.put (s : HS) (b : Nat) : HS :=
  let left := s.left.set (s.n % 64) b
  let n := (s.n + 1) % 18446744073709551616
  ⟨if n % 64 = 0 then pressI s.h left else s.h, n, left⟩
def HS.write (s : HS) (p : List Nat) : HS := p.foldl HS.put s
def sumB (h : List Int) : List Nat := (h.map fun x => [(IntKind.u8.wrap (x / 16777216)).toNat, (IntKind.u8.wrap (x / 65536)).toNat, (IntKind.u8.wrap (x / 256)).toNat, (IntKind.u8.wrap x).toNat]).flatten
def HS.sum (s : HS) : List Nat := sumB (s.write (padL s.n)).h
/-- The digest. -/
def dig (p : List Nat) : List Nat := (newH.write p).sum
theorem newH_ok : newH.ok := ⟨rfl, by decide, rfl, by decide⟩
theorem HS.put_ok {s : HS} {b : Nat} (h : s.ok) (hb : b < 256) : (s.put b).ok := by
  obtain ⟨h1, h2, h3, h4⟩ := h
  refine ⟨?_, Nat.mod_lt _ (by decide), by simp [HS.put, h3], fun x hx => ?_⟩
  · simp only [HS.put]
    split
    · rw [pressI, addsI_len, h1]
    · exact h1
  · rcases List.mem_or_eq_of_mem_set hx with h | h
    · exact h4 x h
    · rw [h]; exact hb
theorem HS.write_ok {p : List Nat} (hp : ∀ x ∈ p, x < 256) : ∀ {s : HS}, s.ok → (s.write p).ok := by
  induction p with
  | nil => intro s h; exact h
  | cons b r ih => intro s h; exact ih (fun x hx => hp x (by simp [hx])) (HS.put_ok h (hp b (by simp)))
theorem HS.write_app (s : HS) (p q : List Nat) : s.write (p ++ q) = (s.write p).write q := by simp [HS.write, List.foldl_append]
theorem HS.write_snoc (s : HS) (p : List Nat) (b : Nat) : s.write (p ++ [b]) = (s.write p).put b := by rw [HS.write_app]; rfl
end Go.Proofs.YtkbgkobbadjpnaaDoor
