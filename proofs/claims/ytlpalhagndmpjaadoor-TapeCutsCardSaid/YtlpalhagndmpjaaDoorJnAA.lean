/- What hash.Pad answers, in plain terms. What the package hash computes, in plain terms: words of 32 bits as integers, just as the code takes them together. Small laws of numbers that wrap. The package hash, walked: turning, words. Structs as rows of segments. Slices of bytes that come in as arguments; the builtin min; and, or, xor of int. The package hash, walked: press. The package hash, walked: New. The package hash, walked: Write. Digests in plain terms: what goes on behind what; a digest's bytes are its words. hash.Pad, walked. The package hash, walked: Sum. -/
import Derived.Test.YtlpalhagndmpjaaDoorLwOps
import Derived.Test.YtlpalhagndmpjaaDoorLwH
import Derived.Test.YtlpalhagndmpjaaDoorTyS
import Derived.Test.YtlpalhagndmpjaaDoorOwnB
import Derived.Test.YtlpalhagndmpjaaDoorLwDraw
import Derived.ChangeSlices
import Derived.Below
import Derived.WideShapes
namespace Go.Proofs.YtlpalhagndmpjaaDoor
/-- How many noughts. -/
def padK (n : Nat) : Nat := (119 - n % 64) % 64
def padTail (n : Nat) : List Nat := (List.range 8).map fun i => 8 * n % 18446744073709551616 / 2 ^ (56 - 8 * i) % 256
def padL (n : Nat) : List Nat := 128 :: (List.replicate (padK n) 0 ++ padTail n)
theorem padL_len (n : Nat) : (padL n).length = padK n + 9 := by simp [padL, padTail]
theorem padK_lt (n : Nat) : padK n < 64 := Nat.mod_lt _ (by decide)
end Go.Proofs.YtlpalhagndmpjaaDoor
namespace Go.Proofs.YtlpalhagndmpjaaDoor
def add32 (a b : Int) : Int := IntKind.u32.wrap (a + b)
def xor32 (a b : Int) : Int := bits .xor .u32 a b
def or32 (a b : Int) : Int := bits .or .u32 a b
def and32 (a b : Int) : Int := bits .and .u32 a b
/-- x turned s to the left. -/
def rotI (x : Int) (s : Nat) : Int := or32 (IntKind.u32.wrap (x * 2 ^ s)) (x / 2 ^ (32 - s))
def ss0 (x : Int) : Int := xor32 (xor32 (rotI x 25) (rotI x 14)) (x / 8)
def ss1 (x : Int) : Int := xor32 (xor32 (rotI x 15) (rotI x 13)) (x / 1024)
def bs1 (x : Int) : Int := xor32 (xor32 (rotI x 26) (rotI x 21)) (rotI x 7)
def bs0 (x : Int) : Int := xor32 (xor32 (rotI x 30) (rotI x 19)) (rotI x 10)
def wordI (p : List Nat) (at' : Nat) : Int := or32 (or32 (or32 ((p.getD at' 0 * 16777216 : Nat) : Int) ((p.getD (at' + 1) 0 * 65536 : Nat) : Int)) ((p.getD (at' + 2) 0 * 256 : Nat) : Int)) ((p.getD (at' + 3) 0 : Nat) : Int)
def nextW (l : List Int) (t : Nat) : Int := add32 (add32 (add32 (l.getD (t - 16) 0) (ss0 (l.getD (t - 15) 0))) (l.getD (t - 7) 0)) (ss1 (l.getD (t - 2) 0))
def schedI (b : List Nat) : Nat → List Int
  | 0 => List.replicate 64 0
  | t + 1 => (schedI b t).set t (if t < 16 then wordI b (4 * t) else nextW (schedI b t) t)
theorem schedI_len (b : List Nat) : ∀ t, (schedI b t).length = 64
  | 0 => by simp [schedI]
  | t + 1 => by rw [schedI, List.length_set, schedI_len b t]
def roots : List Int := [0x428a2f98, 0x71374491, 0xb5c0fbcf, 0xe9b5dba5, 0x3956c25b, 0x59f111f1, 0x923f82a4, 0xab1c5ed5,
  0xd807aa98, 0x12835b01, 0x243185be, 0x550c7dc3, 0x72be5d74, 0x80deb1fe, 0x9bdc06a7, 0xc19bf174,
  0xe49b69c1, 0xefbe4786, 0x0fc19dc6, 0x240ca1cc, 0x2de92c6f, 0x4a7484aa, 0x5cb0a9dc, 0x76f988da,
  0x983e5152, 0xa831c66d, 0xb00327c8, 0xbf597fc7, 0xc6e00bf3, 0xd5a79147, 0x06ca6351, 0x14292967,
  0x27b70a85, 0x2e1b2138, 0x4d2c6dfc, 0x53380d13, 0x650a7354, 0x766a0abb, 0x81c2c92e, 0x92722c85,
  0xa2bfe8a1, 0xa81a664b, 0xc24b8b70, 0xc76c51a3, 0xd192e819, 0xd6990624, 0xf40e3585, 0x106aa070,
  0x19a4c116, 0x1e376c08, 0x2748774c, 0x34b0bcb5, 0x391c0cb3, 0x4ed8aa4a, 0x5b9cca4f, 0x682e6ff3,
  0x748f82ee, 0x78a5636f, 0x84c87814, 0x8cc70208, 0x90befffa, 0xa4506ceb, 0xbef9a3f7, 0xc67178f2]
def oneI (v : List Int) (k w : Int) : Int := add32 (add32 (add32 (add32 (v.getD 7 0) (bs1 (v.getD 4 0))) (xor32 (and32 (v.getD 4 0) (v.getD 5 0)) (and32 (xor32 4294967295 (v.getD 4 0)) (v.getD 6 0)))) k) w
def twoI (v : List Int) : Int := add32 (bs0 (v.getD 0 0)) (xor32 (xor32 (and32 (v.getD 0 0) (v.getD 1 0)) (and32 (v.getD 0 0) (v.getD 2 0))) (and32 (v.getD 1 0) (v.getD 2 0)))
def roundI (v : List Int) (k w : Int) : List Int := [add32 (oneI v k w) (twoI v), v.getD 0 0, v.getD 1 0, v.getD 2 0, add32 (v.getD 3 0) (oneI v k w), v.getD 4 0, v.getD 5 0, v.getD 6 0]
def roundsI (h : List Int) (ws : List Int) : Nat → List Int
  | 0 => h
  | t + 1 => roundI (roundsI h ws t) (roots.getD t 0) (ws.getD t 0)
def addsI (h v : List Int) : Nat → List Int
  | 0 => h
  | i + 1 => (addsI h v i).set i (add32 ((addsI h v i).getD i 0) (v.getD i 0))
/-- A block is pressed into the words. -/
def pressI (h : List Int) (b : List Nat) : List Int := addsI h (roundsI h (schedI b 64) 64) 8
theorem roundsI_len (h ws : List Int) (hh : h.length = 8) : ∀ t, (roundsI h ws t).length = 8
  | 0 => hh
  | _ + 1 => rfl
theorem addsI_len (h v : List Int) : ∀ i, (addsI h v i).length = h.length
  | 0 => rfl
  | i + 1 => by rw [addsI, List.length_set, addsI_len h v i]
/-- A state: the words, how many bytes so far, what is left. -/
structure HS where
  h : List Int
  n : Nat
  left : List Nat
def HS.ok (s : HS) : Prop := s.h.length = 8 ∧ s.n < 18446744073709551616 ∧ s.left.length = 64 ∧ ∀ x ∈ s.left, x < 256
def newH : HS := ⟨[0x6a09e667, 0xbb67ae85, 0x3c6ef372, 0xa54ff53a, 0x510e527f, 0x9b05688c, 0x1f83d9ab, 0x5be0cd19], 0, List.replicate 64 0⟩
/-- One byte more. -/
def HS.put (s : HS) (b : Nat) : HS :=
  let left := s.left.set (s.n % 64) b
  let n := (s.n + 1) % 18446744073709551616
  ⟨if n % 64 = 0 then pressI s.h left else s.h, n, left⟩
def HS.write (s : HS) (p : List Nat) : HS := p.foldl HS.put s
def sumB (h : List Int) : List Nat := (h.map fun x => [(IntKind.u8.wrap (x / 16777216)).toNat, (IntKind.u8.wrap (x / 65536)).toNat, (IntKind.u8.wrap (x / 256)).toNat, (IntKind.u8.wrap x).toNat]).flatten
def HS.sum (s : HS) : List Nat := sumB (s.write (padL s.n)).h
/-- The digest. -/
def dig (p : List Nat) : List Nat := (newH.write p).sum
theorem newH_ok : newH.ok := ⟨rfl, by decide, rfl, by decide⟩
theorem HS.put_ok {s : HS} {b : Nat} (h : s.ok) (hb : b < 256) : (s.put b).ok := by
  obtain ⟨h1, h2, h3, h4⟩ := h
  refine ⟨?_, Nat.mod_lt _ (by decide), by simp [HS.put, h3], fun x hx => ?_⟩
  · simp only [HS.put]
    split
    · rw [pressI, addsI_len, h1]
    · exact h1
  · rcases List.mem_or_eq_of_mem_set hx with h | h
    · exact h4 x h
    · rw [h]; exact hb
theorem HS.write_ok {p : List Nat} (hp : ∀ x ∈ p, x < 256) : ∀ {s : HS}, s.ok → (s.write p).ok := by
  induction p with
  | nil => intro s h; exact h
  | cons b r ih => intro s h; exact ih (fun x hx => hp x (by simp [hx])) (HS.put_ok h (hp b (by simp)))
theorem HS.write_app (s : HS) (p q : List Nat) : s.write (p ++ q) = (s.write p).write q := by simp [HS.write, List.foldl_append]
theorem HS.write_snoc (s : HS) (p : List Nat) (b : Nat) : s.write (p ++ [b]) = (s.write p).put b := by rw [HS.write_app]; rfl
end Go.Proofs.YtlpalhagndmpjaaDoor
namespace Go.Proofs.YtlpalhagndmpjaaDoor
open Go.RowKit
theorem wrapU (x : Nat) : IntKind.u64.wrap (x : Int) = ((x % 18446744073709551616 : Nat) : Int) := by
  have e : (2 : Int) ^ 64 = 18446744073709551616 := rfl
  simp only [IntKind.wrap, IntKind.bits, IntKind.signed, Bool.false_and, e]; simp
theorem wrapB (x : Nat) : IntKind.u8.wrap (x : Int) = ((x % 256 : Nat) : Int) := by
  simp only [IntKind.wrap, IntKind.bits, IntKind.signed]; simp
theorem rep_snoc {α : Type} (k : Nat) (x : α) : List.replicate k x ++ [x] = List.replicate (k + 1) x := by rw [List.replicate_succ']
theorem range_snoc {α : Type} (k : Nat) (f : Nat → α) : (List.range k).map f ++ [f k] = (List.range (k + 1)).map f := by rw [List.range_succ, List.map_append]; rfl
end Go.Proofs.YtlpalhagndmpjaaDoor
namespace Go.Proofs.YtlpalhagndmpjaaDoor
open Go.RowKit
set_option linter.unusedVariables false
set_option linter.unusedSimpArgs false
set_option maxRecDepth 100000
set_option maxRecDepth 100000 in
set_option maxHeartbeats 2000000 in
theorem rotl_c (x k : Int) (s : Nat) (hs : bits .and .u64 (IntKind.u64.wrap k) 31 = (s : Int)) (h1 : 0 < s) (h2 : s < 32) (w : World) : Calls Tryd.prog 32 [.int .u32 x, .int .i64 k].toArray w (Ret (.int .u32 (rotI x s)) w) := by
  have w1 : IntKind.u64.wrap (32 - (s : Int)) = ((32 - s : Nat) : Int) := by rw [wrap_u64 _ (by omega) (by omega)]; omega
  have e1 : IntKind.u32.wrap (x * 2 ^ (min ((s : Int).toNat) IntKind.u32.bits)) = IntKind.u32.wrap (x * 2 ^ s) := by rw [Int.toNat_natCast, Nat.min_eq_left (by simp [IntKind.bits]; omega)]
  have e2 : x / 2 ^ (min (((32 - s : Nat) : Int).toNat) IntKind.u32.bits) = x / 2 ^ (32 - s) := by rw [Int.toNat_natCast, Nat.min_eq_left (by simp [IntKind.bits])]
  refine fn_ret (N := _) Tryd.func32 rfl Tryd.ntmps32 Tryd.results32 (by simp) ?_
  simp only [initS, Nat.reduceAdd, Nat.zero_add]
  repeat' (first | (refine wlS ?_) | (refine wlB ?_) | (refine wl_skip rfl rfl ?_) | ((with_reducible refine wc_seq ?_); intro K hK) | (refine auC ?_) | (refine wc_cond rfl (fun hc => ?_) (fun hc => ?_)) | (refine wc_draw (by kernel_rfl) (by kernel_rfl) (by decide +kernel) ?_; intro w0 hw0 hm0; (try simp only [List.append_eq, List.cons_append, List.nil_append])) | (refine auP ?_) | ((refine auR ?_); clear hK K) | (refine auR ?_) | ((with_reducible refine hK _ _ ?_); clear hK K) | fail)
  first | refine end_ret (ResP.tmp rfl ResP.nil) ?_ | refine end_normal (ResP.tmp rfl ResP.nil) ?_
  first | rfl | (show _ = _; rfl) | (simp only [tupV, *]; done)
theorem right2 (w : World) {x : Int} : Calls Tryd.prog 31 [.int .u32 x, .int .i64 2].toArray w (Ret (.int .u32 (rotI x 30)) w) := by
  have C := rotl_c x (-2) 30 (by decide) (by decide) (by decide)
  have w1 : IntKind.i64.wrap (0 - 2) = -2 := by decide
  refine fn_ret (N := _) Tryd.func31 rfl Tryd.ntmps31 Tryd.results31 (by simp) ?_
  simp only [initS, Nat.reduceAdd, Nat.zero_add]
  repeat' (first | (refine wlB ?_) | ((with_reducible refine sel_call ?_); refine wl_rd rfl rfl (rd_call rfl rfl rfl (fun w hm => by with_reducible exact C w)) ?_) | (refine wlE ?_) | (refine wl_skip rfl rfl ?_) | ((with_reducible refine wc_seq ?_); intro K hK) | (refine auC ?_) | (refine wc_cond rfl (fun hc => ?_) (fun hc => ?_)) | (refine wc_draw (by kernel_rfl) (by kernel_rfl) (by decide +kernel) ?_; intro w0 hw0 hm0; (try simp only [List.append_eq, List.cons_append, List.nil_append])) | (refine auP ?_) | ((refine auR ?_); clear hK K) | (refine auR ?_) | ((with_reducible refine hK _ _ ?_); clear hK K) | fail)
  first | refine end_ret (ResP.tmp rfl ResP.nil) ?_ | refine end_normal (ResP.tmp rfl ResP.nil) ?_
  first | rfl | (show _ = _; rfl) | (simp only [tupV, *]; done)
theorem right6 (w : World) {x : Int} : Calls Tryd.prog 31 [.int .u32 x, .int .i64 6].toArray w (Ret (.int .u32 (rotI x 26)) w) := by
  have C := rotl_c x (-6) 26 (by decide) (by decide) (by decide)
  have w1 : IntKind.i64.wrap (0 - 6) = -6 := by decide
  refine fn_ret (N := _) Tryd.func31 rfl Tryd.ntmps31 Tryd.results31 (by simp) ?_
  simp only [initS, Nat.reduceAdd, Nat.zero_add]
  repeat' (first | (refine wlB ?_) | ((with_reducible refine sel_call ?_); refine wl_rd rfl rfl (rd_call rfl rfl rfl (fun w hm => by with_reducible exact C w)) ?_) | (refine wlE ?_) | (refine wl_skip rfl rfl ?_) | ((with_reducible refine wc_seq ?_); intro K hK) | (refine auC ?_) | (refine wc_cond rfl (fun hc => ?_) (fun hc => ?_)) | (refine wc_draw (by kernel_rfl) (by kernel_rfl) (by decide +kernel) ?_; intro w0 hw0 hm0; (try simp only [List.append_eq, List.cons_append, List.nil_append])) | (refine auP ?_) | ((refine auR ?_); clear hK K) | (refine auR ?_) | ((with_reducible refine hK _ _ ?_); clear hK K) | fail)
  first | refine end_ret (ResP.tmp rfl ResP.nil) ?_ | refine end_normal (ResP.tmp rfl ResP.nil) ?_
  first | rfl | (show _ = _; rfl) | (simp only [tupV, *]; done)
theorem right7 (w : World) {x : Int} : Calls Tryd.prog 31 [.int .u32 x, .int .i64 7].toArray w (Ret (.int .u32 (rotI x 25)) w) := by
  have C := rotl_c x (-7) 25 (by decide) (by decide) (by decide)
  have w1 : IntKind.i64.wrap (0 - 7) = -7 := by decide
  refine fn_ret (N := _) Tryd.func31 rfl Tryd.ntmps31 Tryd.results31 (by simp) ?_
  simp only [initS, Nat.reduceAdd, Nat.zero_add]
  repeat' (first | (refine wlB ?_) | ((with_reducible refine sel_call ?_); refine wl_rd rfl rfl (rd_call rfl rfl rfl (fun w hm => by with_reducible exact C w)) ?_) | (refine wlE ?_) | (refine wl_skip rfl rfl ?_) | ((with_reducible refine wc_seq ?_); intro K hK) | (refine auC ?_) | (refine wc_cond rfl (fun hc => ?_) (fun hc => ?_)) | (refine wc_draw (by kernel_rfl) (by kernel_rfl) (by decide +kernel) ?_; intro w0 hw0 hm0; (try simp only [List.append_eq, List.cons_append, List.nil_append])) | (refine auP ?_) | ((refine auR ?_); clear hK K) | (refine auR ?_) | ((with_reducible refine hK _ _ ?_); clear hK K) | fail)
  first | refine end_ret (ResP.tmp rfl ResP.nil) ?_ | refine end_normal (ResP.tmp rfl ResP.nil) ?_
  first | rfl | (show _ = _; rfl) | (simp only [tupV, *]; done)
theorem right11 (w : World) {x : Int} : Calls Tryd.prog 31 [.int .u32 x, .int .i64 11].toArray w (Ret (.int .u32 (rotI x 21)) w) := by
  have C := rotl_c x (-11) 21 (by decide) (by decide) (by decide)
  have w1 : IntKind.i64.wrap (0 - 11) = -11 := by decide
  refine fn_ret (N := _) Tryd.func31 rfl Tryd.ntmps31 Tryd.results31 (by simp) ?_
  simp only [initS, Nat.reduceAdd, Nat.zero_add]
  repeat' (first | (refine wlB ?_) | ((with_reducible refine sel_call ?_); refine wl_rd rfl rfl (rd_call rfl rfl rfl (fun w hm => by with_reducible exact C w)) ?_) | (refine wlE ?_) | (refine wl_skip rfl rfl ?_) | ((with_reducible refine wc_seq ?_); intro K hK) | (refine auC ?_) | (refine wc_cond rfl (fun hc => ?_) (fun hc => ?_)) | (refine wc_draw (by kernel_rfl) (by kernel_rfl) (by decide +kernel) ?_; intro w0 hw0 hm0; (try simp only [List.append_eq, List.cons_append, List.nil_append])) | (refine auP ?_) | ((refine auR ?_); clear hK K) | (refine auR ?_) | ((with_reducible refine hK _ _ ?_); clear hK K) | fail)
  first | refine end_ret (ResP.tmp rfl ResP.nil) ?_ | refine end_normal (ResP.tmp rfl ResP.nil) ?_
  first | rfl | (show _ = _; rfl) | (simp only [tupV, *]; done)
theorem right13 (w : World) {x : Int} : Calls Tryd.prog 31 [.int .u32 x, .int .i64 13].toArray w (Ret (.int .u32 (rotI x 19)) w) := by
  have C := rotl_c x (-13) 19 (by decide) (by decide) (by decide)
  have w1 : IntKind.i64.wrap (0 - 13) = -13 := by decide
  refine fn_ret (N := _) Tryd.func31 rfl Tryd.ntmps31 Tryd.results31 (by simp) ?_
  simp only [initS, Nat.reduceAdd, Nat.zero_add]
  repeat' (first | (refine wlB ?_) | ((with_reducible refine sel_call ?_); refine wl_rd rfl rfl (rd_call rfl rfl rfl (fun w hm => by with_reducible exact C w)) ?_) | (refine wlE ?_) | (refine wl_skip rfl rfl ?_) | ((with_reducible refine wc_seq ?_); intro K hK) | (refine auC ?_) | (refine wc_cond rfl (fun hc => ?_) (fun hc => ?_)) | (refine wc_draw (by kernel_rfl) (by kernel_rfl) (by decide +kernel) ?_; intro w0 hw0 hm0; (try simp only [List.append_eq, List.cons_append, List.nil_append])) | (refine auP ?_) | ((refine auR ?_); clear hK K) | (refine auR ?_) | ((with_reducible refine hK _ _ ?_); clear hK K) | fail)
  first | refine end_ret (ResP.tmp rfl ResP.nil) ?_ | refine end_normal (ResP.tmp rfl ResP.nil) ?_
  first | rfl | (show _ = _; rfl) | (simp only [tupV, *]; done)
theorem right17 (w : World) {x : Int} : Calls Tryd.prog 31 [.int .u32 x, .int .i64 17].toArray w (Ret (.int .u32 (rotI x 15)) w) := by
  have C := rotl_c x (-17) 15 (by decide) (by decide) (by decide)
  have w1 : IntKind.i64.wrap (0 - 17) = -17 := by decide
  refine fn_ret (N := _) Tryd.func31 rfl Tryd.ntmps31 Tryd.results31 (by simp) ?_
  simp only [initS, Nat.reduceAdd, Nat.zero_add]
  repeat' (first | (refine wlB ?_) | ((with_reducible refine sel_call ?_); refine wl_rd rfl rfl (rd_call rfl rfl rfl (fun w hm => by with_reducible exact C w)) ?_) | (refine wlE ?_) | (refine wl_skip rfl rfl ?_) | ((with_reducible refine wc_seq ?_); intro K hK) | (refine auC ?_) | (refine wc_cond rfl (fun hc => ?_) (fun hc => ?_)) | (refine wc_draw (by kernel_rfl) (by kernel_rfl) (by decide +kernel) ?_; intro w0 hw0 hm0; (try simp only [List.append_eq, List.cons_append, List.nil_append])) | (refine auP ?_) | ((refine auR ?_); clear hK K) | (refine auR ?_) | ((with_reducible refine hK _ _ ?_); clear hK K) | fail)
  first | refine end_ret (ResP.tmp rfl ResP.nil) ?_ | refine end_normal (ResP.tmp rfl ResP.nil) ?_
  first | rfl | (show _ = _; rfl) | (simp only [tupV, *]; done)
theorem right18 (w : World) {x : Int} : Calls Tryd.prog 31 [.int .u32 x, .int .i64 18].toArray w (Ret (.int .u32 (rotI x 14)) w) := by
  have C := rotl_c x (-18) 14 (by decide) (by decide) (by decide)
  have w1 : IntKind.i64.wrap (0 - 18) = -18 := by decide
  refine fn_ret (N := _) Tryd.func31 rfl Tryd.ntmps31 Tryd.results31 (by simp) ?_
  simp only [initS, Nat.reduceAdd, Nat.zero_add]
  repeat' (first | (refine wlB ?_) | ((with_reducible refine sel_call ?_); refine wl_rd rfl rfl (rd_call rfl rfl rfl (fun w hm => by with_reducible exact C w)) ?_) | (refine wlE ?_) | (refine wl_skip rfl rfl ?_) | ((with_reducible refine wc_seq ?_); intro K hK) | (refine auC ?_) | (refine wc_cond rfl (fun hc => ?_) (fun hc => ?_)) | (refine wc_draw (by kernel_rfl) (by kernel_rfl) (by decide +kernel) ?_; intro w0 hw0 hm0; (try simp only [List.append_eq, List.cons_append, List.nil_append])) | (refine auP ?_) | ((refine auR ?_); clear hK K) | (refine auR ?_) | ((with_reducible refine hK _ _ ?_); clear hK K) | fail)
  first | refine end_ret (ResP.tmp rfl ResP.nil) ?_ | refine end_normal (ResP.tmp rfl ResP.nil) ?_
  first | rfl | (show _ = _; rfl) | (simp only [tupV, *]; done)
theorem right19 (w : World) {x : Int} : Calls Tryd.prog 31 [.int .u32 x, .int .i64 19].toArray w (Ret (.int .u32 (rotI x 13)) w) := by
  have C := rotl_c x (-19) 13 (by decide) (by decide) (by decide)
  have w1 : IntKind.i64.wrap (0 - 19) = -19 := by decide
  refine fn_ret (N := _) Tryd.func31 rfl Tryd.ntmps31 Tryd.results31 (by simp) ?_
  simp only [initS, Nat.reduceAdd, Nat.zero_add]
  repeat' (first | (refine wlB ?_) | ((with_reducible refine sel_call ?_); refine wl_rd rfl rfl (rd_call rfl rfl rfl (fun w hm => by with_reducible exact C w)) ?_) | (refine wlE ?_) | (refine wl_skip rfl rfl ?_) | ((with_reducible refine wc_seq ?_); intro K hK) | (refine auC ?_) | (refine wc_cond rfl (fun hc => ?_) (fun hc => ?_)) | (refine wc_draw (by kernel_rfl) (by kernel_rfl) (by decide +kernel) ?_; intro w0 hw0 hm0; (try simp only [List.append_eq, List.cons_append, List.nil_append])) | (refine auP ?_) | ((refine auR ?_); clear hK K) | (refine auR ?_) | ((with_reducible refine hK _ _ ?_); clear hK K) | fail)
  first | refine end_ret (ResP.tmp rfl ResP.nil) ?_ | refine end_normal (ResP.tmp rfl ResP.nil) ?_
  first | rfl | (show _ = _; rfl) | (simp only [tupV, *]; done)
theorem right22 (w : World) {x : Int} : Calls Tryd.prog 31 [.int .u32 x, .int .i64 22].toArray w (Ret (.int .u32 (rotI x 10)) w) := by
  have C := rotl_c x (-22) 10 (by decide) (by decide) (by decide)
  have w1 : IntKind.i64.wrap (0 - 22) = -22 := by decide
  refine fn_ret (N := _) Tryd.func31 rfl Tryd.ntmps31 Tryd.results31 (by simp) ?_
  simp only [initS, Nat.reduceAdd, Nat.zero_add]
  repeat' (first | (refine wlB ?_) | ((with_reducible refine sel_call ?_); refine wl_rd rfl rfl (rd_call rfl rfl rfl (fun w hm => by with_reducible exact C w)) ?_) | (refine wlE ?_) | (refine wl_skip rfl rfl ?_) | ((with_reducible refine wc_seq ?_); intro K hK) | (refine auC ?_) | (refine wc_cond rfl (fun hc => ?_) (fun hc => ?_)) | (refine wc_draw (by kernel_rfl) (by kernel_rfl) (by decide +kernel) ?_; intro w0 hw0 hm0; (try simp only [List.append_eq, List.cons_append, List.nil_append])) | (refine auP ?_) | ((refine auR ?_); clear hK K) | (refine auR ?_) | ((with_reducible refine hK _ _ ?_); clear hK K) | fail)
  first | refine end_ret (ResP.tmp rfl ResP.nil) ?_ | refine end_normal (ResP.tmp rfl ResP.nil) ?_
  first | rfl | (show _ = _; rfl) | (simp only [tupV, *]; done)
theorem right25 (w : World) {x : Int} : Calls Tryd.prog 31 [.int .u32 x, .int .i64 25].toArray w (Ret (.int .u32 (rotI x 7)) w) := by
  have C := rotl_c x (-25) 7 (by decide) (by decide) (by decide)
  have w1 : IntKind.i64.wrap (0 - 25) = -25 := by decide
  refine fn_ret (N := _) Tryd.func31 rfl Tryd.ntmps31 Tryd.results31 (by simp) ?_
  simp only [initS, Nat.reduceAdd, Nat.zero_add]
  repeat' (first | (refine wlB ?_) | ((with_reducible refine sel_call ?_); refine wl_rd rfl rfl (rd_call rfl rfl rfl (fun w hm => by with_reducible exact C w)) ?_) | (refine wlE ?_) | (refine wl_skip rfl rfl ?_) | ((with_reducible refine wc_seq ?_); intro K hK) | (refine auC ?_) | (refine wc_cond rfl (fun hc => ?_) (fun hc => ?_)) | (refine wc_draw (by kernel_rfl) (by kernel_rfl) (by decide +kernel) ?_; intro w0 hw0 hm0; (try simp only [List.append_eq, List.cons_append, List.nil_append])) | (refine auP ?_) | ((refine auR ?_); clear hK K) | (refine auR ?_) | ((with_reducible refine hK _ _ ?_); clear hK K) | fail)
  first | refine end_ret (ResP.tmp rfl ResP.nil) ?_ | refine end_normal (ResP.tmp rfl ResP.nil) ?_
  first | rfl | (show _ = _; rfl) | (simp only [tupV, *]; done)
set_option maxHeartbeats 2000000 in
theorem word_c (w : World) {v : Value} {n : Nat} {p : List Nat} (h : Cb w v n p) (at' : Nat) (hn : at' + 3 < n) (hs : n < 9223372036854775808) : Calls Tryd.prog 30 [v, .int .i64 (at' : Int)].toArray w (Ret (.int .u32 (wordI p at')) w) := by
  haveI := h.old
  have bt : ∀ i, i < n → p.getD i 0 < 256 := fun i hi => by
    have hi' : i < p.length := by rw [h.ok.len]; exact hi
    exact h.ok.by' _ (by rw [show p.getD i 0 = p[i] by simp [List.getD, hi']]; exact List.getElem_mem hi')
  have b0 := bt at' (by omega)
  have b1 := bt (at' + 1) (by omega)
  have b2 := bt (at' + 2) (by omega)
  have b3 := bt (at' + 3) (by omega)
  have g0 : (bl p)[at']? = some (.int .u8 ((p.getD at' 0 : Nat) : Int)) := bl_get (by rw [h.ok.len]; omega)
  have g1 : (bl p)[at' + 1]? = some (.int .u8 ((p.getD (at' + 1) 0 : Nat) : Int)) := bl_get (by rw [h.ok.len]; omega)
  have g2 : (bl p)[at' + 2]? = some (.int .u8 ((p.getD (at' + 2) 0 : Nat) : Int)) := bl_get (by rw [h.ok.len]; omega)
  have g3 : (bl p)[at' + 3]? = some (.int .u8 ((p.getD (at' + 3) 0 : Nat) : Int)) := bl_get (by rw [h.ok.len]; omega)
  have a1 : IntKind.i64.wrap ((at' : Int) + 1) = ((at' + 1 : Nat) : Int) := by rw [wrap_i64 _ (by omega) (by omega)]; omega
  have a2 : IntKind.i64.wrap ((at' : Int) + 2) = ((at' + 2 : Nat) : Int) := by rw [wrap_i64 _ (by omega) (by omega)]; omega
  have a3 : IntKind.i64.wrap ((at' : Int) + 3) = ((at' + 3 : Nat) : Int) := by rw [wrap_i64 _ (by omega) (by omega)]; omega
  have l0 : (at' : Int) < (n : Int) := by omega
  have l1 : ((at' + 1 : Nat) : Int) < (n : Int) := by omega
  have l2 : ((at' + 2 : Nat) : Int) < (n : Int) := by omega
  have l3 : ((at' + 3 : Nat) : Int) < (n : Int) := by omega
  have s0 : IntKind.u32.wrap (((p.getD at' 0 : Nat) : Int) * 2 ^ (min ((24 : Int).toNat) IntKind.u32.bits)) = ((p.getD at' 0 * 16777216 : Nat) : Int) := by
    rw [show (2 : Int) ^ (min ((24 : Int).toNat) IntKind.u32.bits) = 16777216 from rfl, wrap_u32 _ (by omega) (by omega)]; omega
  have s1 : IntKind.u32.wrap (((p.getD (at' + 1) 0 : Nat) : Int) * 2 ^ (min ((16 : Int).toNat) IntKind.u32.bits)) = ((p.getD (at' + 1) 0 * 65536 : Nat) : Int) := by
    rw [show (2 : Int) ^ (min ((16 : Int).toNat) IntKind.u32.bits) = 65536 from rfl, wrap_u32 _ (by omega) (by omega)]; omega
  have s2 : IntKind.u32.wrap (((p.getD (at' + 2) 0 : Nat) : Int) * 2 ^ (min ((8 : Int).toNat) IntKind.u32.bits)) = ((p.getD (at' + 2) 0 * 256 : Nat) : Int) := by
    rw [show (2 : Int) ^ (min ((8 : Int).toNat) IntKind.u32.bits) = 256 from rfl, wrap_u32 _ (by omega) (by omega)]; omega
  clear h bt
  refine fn_ret (N := _) Tryd.func30 rfl Tryd.ntmps30 Tryd.results30 (by simp) ?_
  simp only [initS, Nat.reduceAdd, Nat.zero_add]
  repeat' (first | (refine wlS ?_) | (refine wlB ?_) | (refine wl_skip rfl rfl ?_) | ((with_reducible refine wc_seq ?_); intro K hK) | (refine auC ?_) | (refine wc_cond rfl (fun hc => ?_) (fun hc => ?_)) | ((with_reducible refine wc_drawT (by kernel_rfl) ?_); (try simp only [List.append_eq, List.cons_append, List.nil_append, List.length_cons, List.length_nil, Nat.reduceAdd])) | ((with_reducible refine sel_wh ?_); (refine wh_if (by decide +kernel) ?_); first | (refine wh_take (lq := []) rfl rfl rfl rfl (by first | exact rvS | exact rvB) (Or.inl rfl) ?_) | (refine wh_takeL rfl rfl rfl rfl (by first | exact rvS | exact rvB) (by decide +kernel) ?_)) | (refine whS ?_; intro v hv hp) | ((with_reducible refine sel_wh ?_); first | (refine wh_pass rfl rfl rfl rfl ?_) | (refine wh_done rfl ?_) | (refine wh_all rfl ?_)) | ((with_reducible refine sel_rest ?_); first | exact rest_nil rfl | refine rest_cons rfl rfl ?_ ?_) | ((with_reducible refine sel_nx ?_); first | refine next_of ?_ | refine next_late (by decide +kernel) ?_) | (refine auP ?_) | ((refine auR ?_); clear hK K) | (refine auR ?_) | ((with_reducible refine hK _ _ ?_); clear hK K) | fail)
  first | refine end_ret (ResP.tmp rfl ResP.nil) ?_ | refine end_normal (ResP.tmp rfl ResP.nil) ?_
  first | rfl | (show _ = _; rfl) | (simp only [tupV, *]; done)
end Go.Proofs.YtlpalhagndmpjaaDoor
namespace Go.Proofs.YtlpalhagndmpjaaDoor
open Go.RowKit
set_option linter.unusedVariables false
set_option linter.unusedSimpArgs false
/-- Segments: how many cells, and which. -/
abbrev Sg := List (Nat × Array Value)
def rwL (g : Sg) : List Value := (g.map fun s => s.2.toList).flatten
def rwA (g : Sg) : Array Value := (rwL g).toArray
def sumG : Sg → Nat
  | [] => 0
  | s :: r => s.1 + sumG r
/-- A segment of m cells. -/
class SegL (A : Array Value) (m : Nat) : Prop where
  size : A.size = m
  one : A.all (·.oneCell') = true
class SgOk (g : Sg) : Prop where
  out : ∀ s ∈ g, s.2.size = s.1 ∧ s.2.all (·.oneCell') = true
instance SgOk.nil : SgOk [] := ⟨fun _ h => by cases h⟩
instance SgOk.cons {A : Array Value} {m : Nat} {r : Sg} [h : SegL A m] [h' : SgOk r] : SgOk ((m, A) :: r) := ⟨fun s hs => by
  rcases List.mem_cons.1 hs with rfl | hs
  · exact ⟨h.size, h.one⟩
  · exact h'.out s hs⟩
theorem SgOk.head {s : Nat × Array Value} {r : Sg} (h : SgOk (s :: r)) : s.2.size = s.1 ∧ s.2.all (·.oneCell') = true := h.out s (by simp)
theorem SgOk.tail {s : Nat × Array Value} {r : Sg} (h : SgOk (s :: r)) : SgOk r := ⟨fun q hq => h.out q (by simp [hq])⟩
theorem rwL_cons (s : Nat × Array Value) (r : Sg) : rwL (s :: r) = s.2.toList ++ rwL r := rfl
theorem rwL_len : ∀ {g : Sg}, SgOk g → (rwL g).length = sumG g
  | [], _ => rfl
  | s :: r, h => by rw [rwL_cons, List.length_append, Array.length_toList, h.head.1, rwL_len h.tail]; rfl
theorem rw_size {g : Sg} (h : SgOk g) : (rwA g).size = sumG g := by rw [rwA, List.size_toArray, rwL_len h]
theorem rwL_one : ∀ {g : Sg}, SgOk g → (rwL g).all (·.oneCell') = true
  | [], _ => rfl
  | s :: r, h => by
    rw [rwL_cons, List.all_append, rwL_one h.tail, Bool.and_true]
    have := h.head.2
    rwa [← Array.all_toList] at this
theorem rw_one {g : Sg} (h : SgOk g) : (rwA g).all (·.oneCell') = true := by rw [rwA, List.all_toArray]; exact rwL_one h
def atL : Sg → Nat → Nat → Option (Array Value)
  | [], _, _ => none
  | s :: r, off, k => bif Nat.beq off 0 && Nat.beq k s.1 then some s.2 else bif Nat.ble s.1 off then atL r (off - s.1) k else none
def putG : Sg → Nat → Nat → Array Value → Option Sg
  | [], _, _, _ => none
  | s :: r, off, k, B => bif Nat.beq off 0 && Nat.beq k s.1 then some ((s.1, B) :: r) else bif Nat.ble s.1 off then (match putG r (off - s.1) k B with
    | some r' => some (s :: r')
    | none => none) else none
theorem atL_spec : ∀ {g : Sg} {off k : Nat} {B : Array Value}, SgOk g → atL g off k = some B → ((rwL g).drop off).take k = B.toList ∧ B.size = k ∧ off + k ≤ (rwL g).length
  | [], _, _, _, _, h => by cases h
  | s :: r, off, k, B, hok, h => by
    unfold atL at h
    have hs := hok.head.1
    by_cases h1 : (Nat.beq off 0 && Nat.beq k s.1) = true
    · rw [h1] at h
      simp only [cond_true, Option.some.injEq] at h
      subst h
      simp only [Bool.and_eq_true, Nat.beq_eq] at h1
      obtain ⟨rfl, rfl⟩ := h1
      refine ⟨?_, hs, by rw [rwL_cons, List.length_append, Array.length_toList, hs]; omega⟩
      rw [List.drop_zero, rwL_cons, List.take_append_of_le_length (by rw [Array.length_toList, hs]; exact Nat.le_refl _), List.take_of_length_le (by rw [Array.length_toList, hs]; exact Nat.le_refl _)]
    · rw [eq_false_of_ne_true h1, cond_false] at h
      by_cases h2 : Nat.ble s.1 off = true
      · rw [h2, cond_true] at h
        have hle := Nat.le_of_ble_eq_true h2
        obtain ⟨e1, e2, e3⟩ := atL_spec hok.tail h
        refine ⟨?_, e2, by rw [rwL_cons, List.length_append, Array.length_toList, hs]; omega⟩
        rw [rwL_cons, List.drop_append, Array.length_toList, hs, List.drop_of_length_le (by rw [Array.length_toList, hs]; exact hle), List.nil_append]
        exact e1
      · rw [eq_false_of_ne_true h2, cond_false] at h; cases h
theorem putG_spec : ∀ {g g' : Sg} {off k : Nat} {B : Array Value}, SgOk g → B.size = k → B.all (·.oneCell') = true → putG g off k B = some g' → putR (rwL g) off B.toList = rwL g' ∧ SgOk g' ∧ sumG g' = sumG g ∧ off + k ≤ sumG g
  | [], _, _, _, _, _, _, _, h => by cases h
  | s :: r, g', off, k, B, hok, hk, h1, h => by
    unfold putG at h
    have hs := hok.head.1
    by_cases c1 : (Nat.beq off 0 && Nat.beq k s.1) = true
    · rw [c1] at h
      simp only [cond_true, Option.some.injEq] at h
      subst h
      simp only [Bool.and_eq_true, Nat.beq_eq] at c1
      obtain ⟨rfl, rfl⟩ := c1
      refine ⟨?_, ⟨fun q hq => ?_⟩, rfl, by simp only [sumG]; omega⟩
      · unfold putR
        rw [rwL_cons, rwL_cons, List.take_zero, List.nil_append, Nat.zero_add, Array.length_toList, hk, List.drop_append, Array.length_toList, hs, List.drop_of_length_le (by rw [Array.length_toList, hs]; exact Nat.le_refl _), Nat.sub_self, List.drop_zero, List.nil_append]
      · rcases List.mem_cons.1 hq with rfl | hq
        · exact ⟨hk, h1⟩
        · exact hok.tail.out q hq
    · rw [eq_false_of_ne_true c1, cond_false] at h
      by_cases c2 : Nat.ble s.1 off = true
      · rw [c2, cond_true] at h
        have hle := Nat.le_of_ble_eq_true c2
        cases hp : putG r (off - s.1) k B with
        | none => rw [hp] at h; cases h
        | some r' =>
          rw [hp] at h
          simp only [Option.some.injEq] at h
          subst h
          obtain ⟨e1, e2, e3, e4⟩ := putG_spec hok.tail hk h1 hp
          refine ⟨?_, ⟨fun q hq => ?_⟩, by simp only [sumG, e3], by simp only [sumG]; omega⟩
          · rw [rwL_cons, rwL_cons, ← e1]
            unfold putR
            have e : s.2.toList.length = s.1 := by rw [Array.length_toList, hs]
            rw [List.take_append, e, List.take_of_length_le (by rw [e]; exact hle), List.drop_append, e, List.drop_of_length_le (by rw [e]; omega), List.nil_append, show off + B.toList.length - s.1 = off - s.1 + B.toList.length by omega, List.append_assoc, List.append_assoc, List.append_assoc]
          · rcases List.mem_cons.1 hq with rfl | hq
            · exact hok.head
            · exact e2.out q hq
      · rw [eq_false_of_ne_true c2, cond_false] at h; cases h
/-- A type's nought, in segments. -/
class ZG (P : Program) (t : Nat) (g : outParam Sg) : Prop where
  out : (P.info? t).bind (·.zero) = some (.agg (rwA g))
  ok : SgOk g
def bys (l : List Nat) : Array Value := (bl l).toArray
def w32 (l : List Nat) : Array Value := (l.map fun k : Nat => Value.int .u32 (k : Int)).toArray
theorem seg_bys {n : Nat} {l : List Nat} (h : l.length = n) : SegL (bys l) n := ⟨by simp [bys, bl_len, h], by simp [bys, bl, Value.oneCell']⟩
instance {l : List Nat} {i k : Nat} : PutC (bys l) i (.int .u8 (k : Int)) (bys (l.set i k)) := ⟨by simp [bys, putC, bl]⟩
theorem bys_get {l : List Nat} {i : Nat} (h : i < l.length) : (bys l)[i]? = some (.int .u8 ((l.getD i 0 : Nat) : Int)) := by simp [bys, bl, h, List.getD]
/-- Where a block stands. -/
class BlkAt (l : Blks) (n : Nat) (x : outParam (Array Value × TypeId)) : Prop where
  out : (n, x) ∈ l
instance {n : Nat} {x : Array Value × TypeId} {l : Blks} : BlkAt ((n, x) :: l) n x := ⟨List.mem_cons_self⟩
instance (priority := 900) {n : Nat} {x : Array Value × TypeId} {p : Nat × (Array Value × TypeId)} {l : Blks} [h : BlkAt l n x] : BlkAt (p :: l) n x := ⟨List.mem_cons_of_mem _ h.out⟩
instance (priority := 900) {n : Nat} {x : Array Value × TypeId} {ob l : Blks} [h : BlkAt l n x] : BlkAt (ob ++ l) n x := ⟨List.mem_append_right _ h.out⟩
class BLc (n : Nat) (p : List Nat) : Prop where
  out : BL n p
  small : n ≤ 1099511627776
instance {X : Cx} {l : Blks} {n k : Nat} {p : List Nat} {e : Nat} [h : BlkAt l n (bys p, e)] [h' : BLc k p] : VwB X l (.slice (some ⟨n, 0, none⟩) k k) k p := ⟨fun w hm => by
  have hg := hm.cls.now n (bys p) e (mu_mem_of h.out hm.nd)
  refine ⟨⟨⟨_, _, rfl, Nat.le_refl _, by have := h'.small; simp only [maxLen]; omega, fun _ => ⟨n, 0, rfl⟩⟩, fun j u hj => ⟨n, 0, k, rfl, ?_⟩⟩, h'.out⟩
  rw [cell_of_row w n (0 + j) (bys p) e _ hg, Nat.zero_add]
  simpa [bys] using hj⟩
theorem seg_w32 {n : Nat} {l : List Nat} (h : l.length = n) : SegL (w32 l) n := ⟨by simp [w32, h], by simp [w32, Value.oneCell']⟩
instance {k : IntKind} {z : Int} : SegL #[.int k z] 1 := ⟨rfl, by simp [Value.oneCell']⟩
instance {b : Bool} : SegL #[.bool b] 1 := ⟨rfl, by simp [Value.oneCell']⟩
theorem seg_rw {g : Sg} [h : SgOk g] {k : Nat} (hk : sumG g = k) : SegL (rwA g) k := ⟨by rw [rw_size h, hk], rw_one h⟩
section
variable {X : Cx} {s : Slots} {l : Blks} {o : Oper} {v : Value} {Q : Post} {ops : Array Oper} {r : List Oper}
theorem ld_sg {t b off k e : Nat} {g : Sg} {B : Array Value} [hu : KD X.P t true] [hs : SZ X.P t k] [hok : SgOk g] (hh : Has X l b (rwA g, e) := by first | (with_reducible assumption) | (refine Has.inn ?_; repeat (first | exact Inn.here | refine Inn.there ?_))) (ha : atL g off k = some B := by rfl) : Ld X l t b off (.agg B) := by
  obtain ⟨h1, h2, h3⟩ := atL_spec hok ha
  have := ld_row (X := X) (l := l) (t := t) (b := b) (off := off) (k := k) (c := rwA g) (cs := B.toList) hh (by rw [rwA]; exact h1) (by rw [Array.length_toList, h2])
  rwa [Array.toArray_toList] at this
theorem ld_sg1 {t b off e : Nat} {g : Sg} [hu : KD X.P t false] [hok : SgOk g] (hh : Has X l b (rwA g, e) := by first | (with_reducible assumption) | (refine Has.inn ?_; repeat (first | exact Inn.here | refine Inn.there ?_))) (ha : atL g off 1 = some #[v] := by rfl) : Ld X l t b off v := by
  obtain ⟨h1, h2, h3⟩ := atL_spec hok ha
  refine ld_cell (c := rwA g) hh ?_
  have := congrArg (·[0]?) h1
  simpa [rwA] using this
theorem ld_wholeG {t b k e : Nat} {g : Sg} [hu : KD X.P t true] [hs : SZ X.P t k] [hok : SgOk g] (hh : Has X l b (rwA g, e) := by first | (with_reducible assumption) | (refine Has.inn ?_; repeat (first | exact Inn.here | refine Inn.there ?_))) (hk : sumG g = k := by rfl) : Ld X l t b 0 (.agg (rwA g)) :=
  ld_whole hh (by rw [rw_size hok, hk])
theorem sv_sg {t k off b e : Nat} {x y : Operand} {g g' : Sg} {B : Array Value} {l' : Blks} (ho : o.op = .store t x y) (hx : val s x = some (.pointer (some ⟨b, off, none⟩))) (hy : val s y = some (.agg B))
    [hs : SZ X.P t k] [hok : SgOk g] [hB : SegL B k] (ha : At l b (rwA g, e) (rwA g', e) l' := by repeat (first | exact At.here | apply At.there)) (hp : putG g off k B = some g' := by rfl)  : Sv X s l o l' := by
  obtain ⟨h1, h2, h3, h4⟩ := putG_spec hok hB.size hB.one hp
  have hB' : Value.agg B = .agg B.toList.toArray := by rw [Array.toArray_toList]
  exact sv_row (cs := B.toList) (c := rwA g) (c' := rwL g') ho hx (by rw [hy, hB']) (hk := by rw [Array.length_toList, hB.size]) (h1 := by have := hB.one; rwa [← Array.all_toList] at this) (hc := by rw [rwA, ← h1]) ha (hlt := by rw [Array.length_toList, hB.size, rw_size hok]; exact h4)
theorem sv_sg1 {t off b e : Nat} {x y : Operand} {g g' : Sg} {l' : Blks} (ho : o.op = .store t x y) (hx : val s x = some (.pointer (some ⟨b, off, none⟩))) (hy : val s y = some v)
    [hs : SZ X.P t 1] [hok : SgOk g] [hB : SegL #[v] 1] (ha : At l b (rwA g, e) (rwA g', e) l' := by repeat (first | exact At.here | apply At.there)) (hp : putG g off 1 #[v] = some g' := by rfl)  : Sv X s l o l' := by
  obtain ⟨h1, h2, h3, h4⟩ := putG_spec hok hB.size hB.one hp
  have hv : v.oneCell' = true := by have := hB.one; simpa using this
  have hlt : off < (rwA g).size := by rw [rw_size hok]; omega
  refine sv_cell (c := rwA g) (c' := rwA g') ho hx hy hv ha (hc := ?_) (hlt := hlt)
  unfold putC rwA
  rw [← h1]
  unfold putR
  have hlt' : off < (rwL g).length := by rw [rwL_len hok]; omega
  simp only [List.setIfInBounds_toArray, List.length_cons, List.length_nil]
  congr 1
  rw [List.set_eq_take_append_cons_drop, if_pos hlt']
  simp
theorem sv_wholeG {t k b e : Nat} {x y : Operand} {g g' : Sg} {l' : Blks} (ho : o.op = .store t x y) (hx : val s x = some (.pointer (some ⟨b, 0, none⟩))) (hy : val s y = some (.agg (rwA g')))
    [hs : SZ X.P t k] [hok : SgOk g] [hok' : SgOk g'] (ha : At l b (rwA g, e) (rwA g', e) l' := by repeat (first | exact At.here | apply At.there)) (hk : sumG g' = k := by rfl) (hk' : sumG g = k := by rfl)  : Sv X s l o l' :=
  sv_whole ho hx hy (hk := by rw [rw_size hok', hk]) (h1 := rw_one hok') ha (hlt := by rw [rw_size hok, rw_size hok', hk, hk'])
theorem mk_allocG {t : Nat} {g : Sg} (ho : o.op = .alloc t) [hz : ZG X.P t g] : Mk X s o (rwA g) t ptr := by
  haveI : ZR X.P t (.agg (rwA g)) := ⟨hz.out⟩
  exact mk_alloc ho rfl
theorem rd_fieldG {t f fo ty k : Nat} {x : Operand} {g : Sg} {B : Array Value} (ho : o.op = .field t x f) (hx : val s x = some (.agg (rwA g))) [hf : FD X.P t f fo ty k] [hu : KD X.P ty true] [hs : SZ X.P ty k] [hok : SgOk g] (ha : atL g fo k = some B := by rfl) : RdV X s l o (.agg B) := by
  obtain ⟨h1, h2, h3⟩ := atL_spec hok ha
  refine rd_field ho hx fun w => ?_
  have := part_row (P := X.P) (t := ty) (off := fo) (cs := rwA g) (cs' := B.toList) (by rw [rwA]; exact h1) w
  rwa [Array.toArray_toList] at this
theorem rd_fieldG1 {t f fo ty k : Nat} {x : Operand} {g : Sg} (ho : o.op = .field t x f) (hx : val s x = some (.agg (rwA g))) [hf : FD X.P t f fo ty k] [hu : KD X.P ty false] [hok : SgOk g] (ha : atL g fo 1 = some #[v] := by rfl) : RdV X s l o v := by
  obtain ⟨h1, h2, h3⟩ := atL_spec hok ha
  refine rd_field ho hx fun w => part_cell ?_ w
  have := congrArg (·[0]?) h1
  simpa [rwA] using this
/-- Fields put into a nought. -/
def putsG (pl : List (Nat × Nat)) : Sg → List (Nat × Value) → Option Sg
  | g, [] => some g
  | g, (i, v) :: r => match pl[i]? with
    | none => none
    | some q => bif v.cells.size == q.2 then (match putG g q.1 q.2 v.cells with
      | some g' => putsG pl g' r
      | none => none) else none
theorem putsG_spec {pl : List (Nat × Nat)} : ∀ {vs : List (Nat × Value)} {g g' : Sg}, SgOk g → (∀ p ∈ vs, p.2.cells.all (·.oneCell') = true) → putsG pl g vs = some g' → fillC (fun i => pl[i]?) (rwL g) vs = some (rwL g') ∧ SgOk g'
  | [], g, g', hok, _, h => by cases h; exact ⟨rfl, hok⟩
  | (i, v) :: r, g, g', hok, h1, h => by
    unfold putsG at h
    unfold fillC
    cases hp : pl[i]? with
    | none => simp [hp] at h
    | some q =>
      simp only [hp] at h ⊢
      by_cases c : (v.cells.size == q.2) = true
      · rw [c, cond_true] at h
        cases hg : putG g q.1 q.2 v.cells with
        | none => rw [hg] at h; cases h
        | some g1 =>
          rw [hg] at h
          simp only at h
          obtain ⟨e1, e2, e3, e4⟩ := putG_spec hok (by simpa using c) (h1 (i, v) (by simp)) hg
          have hb : Nat.ble (q.1 + q.2) (rwL g).length = true := Nat.ble_eq_true_of_le (by rw [rwL_len hok]; exact e4)
          rw [c, hb, Bool.and_self, cond_true, e1]
          exact putsG_spec e2 (fun p hp => h1 p (by simp [hp])) h
      · rw [eq_false_of_ne_true c, cond_false] at h; cases h
theorem rd_buildG {t : Nat} {ps : Array (Nat × Operand)} {vs : List (Nat × Value)} {pl : List (Nat × Nat)} {g0 g : Sg} (ho : o.op = .build t ps) (hx : valsP s ps.toList = some vs) [ht : SP X.P t pl] [hz : ZG X.P t g0]
    (hc : putsG pl g0 vs = some g) (h1 : ∀ p ∈ vs, p.2.cells.all (·.oneCell') = true) : RdV X s l o (.agg (rwA g)) := by
  haveI : ZR X.P t (.agg (rwA g0)) := ⟨hz.out⟩
  exact rd_buildS ho hx (by rw [rwA]; exact (putsG_spec hz.ok h1 hc).1)
/-- One cell of a segment. -/
theorem ld_sgC {t b off e p m j : Nat} {g : Sg} {A : Array Value} [hu : KD X.P t false] [hok : SgOk g] (hh : Has X l b (rwA g, e) := by first | (with_reducible assumption) | (refine Has.inn ?_; repeat (first | exact Inn.here | refine Inn.there ?_))) (ha : atL g p m = some A := by rfl) (ho : p + j = off := by first | (with_reducible assumption) | rfl | omega) (hv : A[j]? = some v := by first | (with_reducible assumption)) : Ld X l t b off v := by
  obtain ⟨h1, h2, h3⟩ := atL_spec hok ha
  subst ho
  have hj : j < m := by rw [← h2]; exact (Array.getElem?_eq_some_iff.1 hv).1
  refine ld_cell (c := rwA g) hh ?_
  have := congrArg (·[j]?) h1
  simp only [List.getElem?_take_of_lt hj, List.getElem?_drop] at this
  rw [rwA, List.getElem?_toArray, this]
  simpa using hv
theorem sv_sgC {t off b e p m j : Nat} {x y : Operand} {g g' : Sg} {A A' : Array Value} {l' : Blks} (ho : o.op = .store t x y) (hx : val s x = some (.pointer (some ⟨b, off, none⟩))) (hy : val s y = some v)
    [hs : SZ X.P t 1] [hok : SgOk g] (h1 : v.oneCell' = true) (hat : At l b (rwA g, e) (rwA g', e) l' := by repeat (first | exact At.here | apply At.there)) (ha : atL g p m = some A := by rfl) (hof : p + j = off := by first | (with_reducible assumption) | rfl | omega) (hc : putC A j v = A' := by first | (with_reducible assumption) | exact PutC.out) (hj : j < m := by first | (with_reducible assumption) | omega)
    (hp : putG g p m A' = some g' := by rfl)  : Sv X s l o l' := by
  obtain ⟨e1, e2, e3⟩ := atL_spec hok ha
  subst hof; subst hc
  have hA : A.all (·.oneCell') = true := by
    rw [← Array.all_toList, ← e1, List.all_eq_true]
    intro q hq
    exact (List.all_eq_true.1 (rwL_one hok)) q (List.mem_of_mem_drop (List.mem_of_mem_take hq))
  have hB : SegL (putC A j v) m := ⟨by simp [putC, e2], by
    rw [← Array.all_toList, List.all_eq_true]
    intro q hq
    simp only [putC, Array.toList_setIfInBounds] at hq
    rcases List.mem_or_eq_of_mem_set hq with h | h
    · exact (List.all_eq_true.1 (by rw [Array.all_toList]; exact hA)) q h
    · rw [h]; exact h1⟩
  obtain ⟨f1, f2, f3, f4⟩ := putG_spec hok hB.size hB.one hp
  have hlen : A.toList.length = m := by rw [Array.length_toList, e2]
  refine sv_cell (c := rwA g) (c' := rwA g') ho hx hy h1 hat (hc := ?_) (hlt := by rw [rw_size hok]; omega)
  unfold putC rwA
  rw [← f1]
  unfold putR
  simp only [List.setIfInBounds_toArray]
  congr 1
  have hpl : p + j < (rwL g).length := by omega
  apply List.ext_getElem?
  intro i
  have hAi : ∀ k, k < m → A.toList[k]? = (rwL g)[p + k]? := fun k hk => by rw [← e1, List.getElem?_take_of_lt hk, List.getElem?_drop]
  have hlA : (A.toList.set j v).length = m := by rw [List.length_set, hlen]
  have htk : ((rwL g).take p).length = p := by rw [List.length_take]; omega
  simp only [putC, Array.toList_setIfInBounds]
  rw [hlA, List.getElem?_set]
  by_cases c1 : i < p
  · rw [if_neg (by omega), List.append_assoc, List.getElem?_append_left (by omega), List.getElem?_take_of_lt c1]
  · by_cases c2 : i < p + m
    · rw [List.append_assoc, List.getElem?_append_right (by omega), htk, List.getElem?_append_left (by omega), List.getElem?_set, hlen]
      by_cases c3 : j = i - p
      · rw [if_pos (by omega), if_pos c3, if_pos hpl, if_pos hj]
      · rw [if_neg (by omega), if_neg c3, hAi _ (by omega)]; congr 1; omega
    · rw [if_neg (by omega), List.append_assoc, List.getElem?_append_right (by omega), htk, List.getElem?_append_right (by omega), hlA, List.getElem?_drop]; congr 1; omega
end
end Go.Proofs.YtlpalhagndmpjaaDoor
namespace Go.Proofs.YtlpalhagndmpjaaDoor
open Go.RowKit Go.ChangeShapes
set_option linter.unusedVariables false
set_option linter.unusedSimpArgs false
/-- A slice of n bytes in the memory w: byte i is f i. -/
structure Sl (W : World) (p : Option Addr) (n : Nat) (f : Nat → Nat) : Prop where
  small : n < 9223372036854775808
  byte : ∀ i, f i < 256
  cell : ∀ i, i < n → ∃ b off, p = some ⟨b, off, none⟩ ∧ W.cell? ⟨b, off + i, none⟩ = some (.int .u8 ((f i : Nat) : Int))
theorem Sl.below {W w : World} {p : Option Addr} {n : Nat} {f : Nat → Nat} (h : Sl W p n f) (hb : Below W.heap.size W w) : Sl w p n f := ⟨h.small, h.byte, fun i hi => by
  obtain ⟨b, off, hp, hc⟩ := h.cell i hi
  exact ⟨b, off, hp, by rw [hb.cell (World.block_lt_of_cell? _ _ hc)]; exact hc⟩⟩
section
variable {X : Cx} {s : Slots} {l : Blks} {o : Oper} {v : Value}
/-- A cell that was there when the function began. -/
theorem ld_old {t b off : Nat} [hu : KD X.P t false] (hc : X.W.cell? ⟨b, off, none⟩ = some v) (ho : X.own = [] := by rfl) : Ld X l t b off v := fun w hm => by
  have hc' : w.cell? ⟨b, off, none⟩ = some v := by rw [(hm.below ho).cell (World.block_lt_of_cell? _ _ hc)]; exact hc
  simp [loadVar, Sem.run_bind, hu.agg, run_load, hc']
theorem rd_min {c : Call} {x y : Operand} {k k' : IntKind} {a b r : Int} (ho : o.op = .call c) (hc : c.callee = .builtin .min) (ha : c.args = #[x, y]) (hx : val s x = some (.int k a)) (hy : val s y = some (.int k' b)) (hr : (if b < a then b else a) = r := by with_reducible assumption) : RdV X s l o (.int k r) :=
  rd_val fun e w he hm => by
    subst hr
    simp only [execOp, ho, resolve, hc, ha, List.map_toArray, List.map_cons, List.map_nil, he.eval hx, he.eval hy]
    simp [invoke, builtin, Sem.run_bind, run_min_int2]
theorem rd_neqB {t yt : Nat} {x y : Operand} {a b r : Bool} (ho : o.op = .binOp .neq t x y yt) (hx : val s x = some (.bool a)) (hy : val s y = some (.bool b)) [h : UT X.P t .bool] (hr : (a != b) = r) : RdV X s l o (.bool r) :=
  rd_val fun e w he hm => by
    subst hr
    have q : (Op.equalIn 10000 t (.bool a) (.bool b)).run X.P w = .ok (a == b) w := by
      rw [show (10000 : Nat) = 9999 + 1 from rfl, Op.equalIn, Sem.run_bind, run_underlying h.out]; rfl
    simp only [execOp, ho, he.eval hx, he.eval hy, eqGuard]
    simp [run_neq w rfl q]
    cases a <;> cases b <;> rfl
/-- A call through a value. -/
theorem rd_callv {c : Call} {f : Nat} {y : Operand} {vs : List Value} (ho : o.op = .call c) (hc : c.callee = .value y) (hy : val s y = some (.func (.func f) #[] #[])) (ha : vals s c.args.toList = some vs)
    (h : ∀ w, Mem X l w → Calls X.P f vs.toArray w (Ret v w)) (hk : callOk X.P f = true := by kernel_rfl) : Rd X s l o v := fun a w he hm => by
  have h1 := he.vals ha
  have h2 : c.args.map a.eval = vs.toArray := by rw [← h1]; simp [← Array.toList_map]
  have e : (execOp a.eval o).run X.P w = (callFunc f vs.toArray).run X.P w := by
    simp only [execOp, ho, resolve, hc, h2, he.eval hy, Deferred.ofValue]
    simp [invoke]
  rw [e, run_enter hk]
  exact ⟨rfl, h w hm⟩
end
section
variable {H : Type} {enc : TypeId × Value → H} {P : Program} {w : World} {base : Nat}
theorem wf_byte {z : Int} (h : (Lit.int .u8 z).wf = true) : 0 ≤ z ∧ z < 256 := by
  simp [Lit.wf, IntKind.min, IntKind.max, IntKind.signed, IntKind.bits] at h
  exact ⟨h.1, by omega⟩
theorem open_bytes {t e : TypeId} {r : Reach} {b0 : Nat} {v : Value} {d : DataW H} {p : List MemPlace} (ht : P.underlying t = some (.slice e)) (he : P.underlying e = some (.int .u8)) (hce : P.cellsOf e = 1)
    (hv : Value.okWide P w r b0 t v) (h : DataW.Trod enc P w base (fun _ => true) true t v d p) : ∃ (q : Option Addr) (n cap : Nat) (f : Nat → Nat), v = .slice q n cap ∧ n ≤ cap ∧ Sl w q n f := by
  obtain ⟨a0, len0, cap0, rfl⟩ := Go.WideShapes.okWide_slice ht hv
  obtain ⟨fuel, hf⟩ := h
  rcases open_ints ht he hce hf with ⟨hcs, hx⟩ | ⟨a, len, cap, zs, hcs, _, hl, hm, hz, hx, hcell, hwz⟩
  · simp [Value.cells] at hcs
    obtain ⟨rfl, rfl, rfl⟩ := hcs
    exact ⟨none, 0, 0, fun _ => 0, rfl, Nat.le_refl _, by decide, fun _ => by decide, fun i hi => by omega⟩
  · simp [Value.cells] at hcs
    obtain ⟨rfl, rfl, rfl⟩ := hcs
    simp only [if_true] at hz
    refine ⟨some a, _, _, fun i => (zs.getD i 0).toNat, rfl, hl, by simp [maxLen] at hm; omega, fun i => ?_, fun i hi => ?_⟩
    · by_cases hi : i < zs.length
      · have := wf_byte (hwz zs[i] (List.getElem_mem hi))
        simp [List.getD, hi]; omega
      · simp [List.getD, hi]
    · have h0 := hcell 0 (by omega)
      have hi' := hcell i (by omega)
      obtain ⟨b, off, spot⟩ := a
      have hs : spot = none := by
        simp only [Addr.add, if_true, World.cell?] at h0
        split at h0
        · cases spot with
          | none => rfl
          | some x => simp at h0
        · cases h0
      subst hs
      refine ⟨b, off, rfl, ?_⟩
      rw [Addr.add_mid] at hi'
      rw [hi']
      have := wf_byte (hwz zs[i] (List.getElem_mem (by omega)))
      have h2 : zs.getD i 0 = zs[i] := by simp [List.getD, show i < zs.length by omega]
      rw [h2, Int.toNat_of_nonneg this.1]
end
/-! ### bits -/
theorem b63 {a : Nat} (ha : a < 9223372036854775808) : (BitVec.ofInt 64 (a : Int)).toNat = a := by
  rw [BitVec.ofInt_natCast, BitVec.toNat_ofNat]; exact Nat.mod_eq_of_lt (by omega)
theorem xor63 {a b : Nat} (ha : a < 9223372036854775808) (hb : b < 9223372036854775808) : a ^^^ b < 9223372036854775808 := Nat.xor_lt_two_pow (n := 63) ha hb
theorem or63 {a b : Nat} (ha : a < 9223372036854775808) (hb : b < 9223372036854775808) : a ||| b < 9223372036854775808 := Nat.or_lt_two_pow (n := 63) ha hb
theorem xor_int {a b : Nat} (ha : a < 9223372036854775808) (hb : b < 9223372036854775808) : bits .xor .i64 (a : Int) (b : Int) = ((a ^^^ b : Nat) : Int) := by
  have hx := xor63 ha hb
  show IntKind.i64.wrap ((BitVec.ofInt 64 (a : Int) ^^^ BitVec.ofInt 64 (b : Int)).toNat : Int) = _
  rw [BitVec.toNat_xor, b63 ha, b63 hb]
  exact wrap_i64 _ (by omega) (by omega)
theorem or_int {a b : Nat} (ha : a < 9223372036854775808) (hb : b < 9223372036854775808) : bits .or .i64 (a : Int) (b : Int) = ((a ||| b : Nat) : Int) := by
  have hx := or63 ha hb
  show IntKind.i64.wrap ((BitVec.ofInt 64 (a : Int) ||| BitVec.ofInt 64 (b : Int)).toNat : Int) = _
  rw [BitVec.toNat_or, b63 ha, b63 hb]
  exact wrap_i64 _ (by omega) (by omega)
theorem xor_nought {a b : Nat} : a ^^^ b = 0 ↔ a = b := by
  constructor
  · intro h
    have : a ^^^ (b ^^^ b) = b := by rw [← Nat.xor_assoc, h, Nat.zero_xor]
    rwa [Nat.xor_self, Nat.xor_zero] at this
  · rintro rfl; exact Nat.xor_self a
theorem xor_u8 {a b : Nat} (ha : a < 256) (hb : b < 256) : bits .xor .u8 (a : Int) (b : Int) = ((a ^^^ b : Nat) : Int) := by
  have hx : a ^^^ b < 256 := Nat.xor_lt_two_pow (n := 8) ha hb
  have h1 : (BitVec.ofInt 8 (a : Int)).toNat = a := by
    rw [BitVec.ofInt_natCast, BitVec.toNat_ofNat]; exact Nat.mod_eq_of_lt (by omega)
  have h2 : (BitVec.ofInt 8 (b : Int)).toNat = b := by
    rw [BitVec.ofInt_natCast, BitVec.toNat_ofNat]; exact Nat.mod_eq_of_lt (by omega)
  show IntKind.u8.wrap ((BitVec.ofInt 8 (a : Int) ^^^ BitVec.ofInt 8 (b : Int)).toNat : Int) = _
  rw [BitVec.toNat_xor, h1, h2]
  exact wrap_u8 _ (by omega) (by omega)
end Go.Proofs.YtlpalhagndmpjaaDoor
namespace Go.Proofs.YtlpalhagndmpjaaDoor
open Go.RowKit
set_option linter.unusedVariables false
set_option maxRecDepth 100000
set_option linter.unusedSimpArgs false
def iw (l : List Int) : Array Value := (l.map (Value.int .u32)).toArray
theorem iw_get {l : List Int} {i : Nat} (h : i < l.length) : (iw l)[i]? = some (.int .u32 (l.getD i 0)) := by simp [iw, h, List.getD]
theorem iw_put (l : List Int) (i : Nat) (x : Int) : putC (iw l) i (.int .u32 x) = iw (l.set i x) := by simp [iw, putC]
theorem iw_size (l : List Int) : (iw l).size = l.length := by simp [iw]
theorem iw_one (l : List Int) : (iw l).all (·.oneCell') = true := by simp [iw, Value.oneCell']
theorem seg_iw {n : Nat} {l : List Int} (h : l.length = n) : SegL (iw l) n := ⟨by rw [iw_size, h], iw_one l⟩
/-- The table of the roots stands in memory. -/
def Tab (w : World) : Prop := ∀ i, i < 64 → w.cell? ⟨0, i, none⟩ = some (.int .u32 (roots.getD i 0))
theorem Tab.below {w w' : World} (h : Tab w) (hb : Below w.heap.size w w') : Tab w' := fun i hi => by
  have := h i hi
  rw [← this]
  exact hb.cell (World.block_lt_of_cell? _ _ this)
class WL (l : List Int) (n : outParam Nat) : Prop where
  out : l.length = n
instance {l : List Int} {n : Nat} [h : WL l n] : Cells (iw l) n := ⟨by rw [iw_size, h.out], iw_one l⟩
instance {l : List Int} {n : Nat} {i : Nat} {x : Int} [h : WL l n] : WL (l.set i x) n := ⟨by rw [List.length_set, h.out]⟩
instance (b : List Nat) (t : Nat) : WL (schedI b t) 64 := ⟨schedI_len b t⟩
instance : ZC Tryd.prog 69 (iw (List.replicate 64 0)) := ⟨by kernel_rfl⟩
instance : ZC Tryd.prog 53 (iw (List.replicate 8 0)) := ⟨by kernel_rfl⟩
instance {n : Nat} {x : Int} : WL (List.replicate n x) n := ⟨by simp⟩
instance {l : List Int} {i : Nat} {x : Int} : PutC (iw l) i (.int .u32 x) (iw (l.set i x)) := ⟨iw_put l i x⟩
set_option maxRecDepth 100000 in
set_option maxHeartbeats 16000000 in
theorem press_c (w : World) (hT : Tab w) {h : List Int} {b : List Nat} (hh : h.length = 8) (hb : BL 64 b) : Calls Tryd.prog 28 [.agg (iw h), .agg (bys b)].toArray w (Ret (.agg (iw (pressI h b))) w) := by
  haveI : WL h 8 := ⟨hh⟩
  haveI : Cells (bys b) 64 := ⟨(seg_bys hb.len).size, (seg_bys hb.len).one⟩
  haveI : BLc 64 b := ⟨hb, by decide⟩
  have hsl := schedI_len b
  refine fn_ret (N := _) Tryd.func28 rfl Tryd.ntmps28 Tryd.results28 (by simp) ?_
  simp only [initS, Nat.reduceAdd, Nat.zero_add]
  repeat' (first | (refine wlS ?_) | (refine wlB ?_) | (refine wlE ?_) | (refine efSvvp ?_; intro v hv hp) | (refine efSvao ?_; intro v oa ho) | (refine efZCnn ?_; intro n hn) | (refine efBnn ?_; intro n hn) | (refine efB ?_) | (refine efBS ?_) | (refine wl_skip rfl rfl ?_) | ((with_reducible refine wc_seq ?_); intro K hK) | (refine auC ?_) | (refine wc_cond rfl (fun hc => ?_) (fun hc => ?_)) | ((with_reducible refine wc_drawT (by kernel_rfl) ?_); (try simp only [List.append_eq, List.cons_append, List.nil_append, List.length_cons, List.length_nil, Nat.reduceAdd])) | ((with_reducible refine sel_wh ?_); (refine wh_if (by decide +kernel) ?_); first | (refine wh_take (lq := []) rfl rfl rfl rfl (by first | exact rvS | exact rvB | exact rvE) (Or.inl rfl) ?_) | (refine wh_takeL rfl rfl rfl rfl (by first | exact rvS | exact rvB | exact rvE) (by decide +kernel) ?_)) | (refine whS ?_; intro v hv hp) | ((with_reducible refine sel_wh ?_); first | (refine wh_pass rfl rfl rfl rfl ?_) | (refine wh_done rfl ?_) | (refine wh_all rfl ?_)) | ((with_reducible refine sel_rest ?_); first | exact rest_nil rfl | refine rest_cons rfl rfl ?_ ?_) | ((with_reducible refine sel_nx ?_); first | refine next_of ?_ | refine next_late (by decide +kernel) ?_) | (refine auP ?_) | ((refine auR ?_); clear hK K) | (refine auR ?_) | ((with_reducible refine hK _ _ ?_); clear hK K) | fail)
  rename_i n2 hn2 n3 hn3 n4 hn4
  refine wc_loop (σ := Nat) (fun t => [(2, ptr n2), (3, ptr n3), (4, ptr n4), (5, ptr n), (20, .int .i64 (t : Int))])
    (fun t => [(n, (iw (schedI b t), 69)), (n4, (iw (List.replicate 8 0), 53)), (n3, (bys b, 55)), (n2, (iw h, 53))])
    (fun t => t ≤ 64) (fun t => 64 - t) 0 (Nat.zero_le _) (Fits.of ⟨rfl, rfl, rfl, rfl, rfl, trivial⟩ (SubL.refl _) rfl) ?_
  intro t ht
  have hs := hsl t
  by_cases hlt : t < 64
  · have t1 : decide ((t : Int) < 64) = true := decide_eq_true (by omega)
    have k1 : IntKind.i64.wrap ((t : Int) + 1) = ((t + 1 : Nat) : Int) := by rw [wrap_i64 _ (by omega) (by omega)]; omega
    have j1 : (t : Int) < ((64 : Nat) : Int) := by omega
    by_cases h16 : t < 16
    · have t2 : decide ((t : Int) < 16) = true := decide_eq_true (by omega)
      have k4 : IntKind.i64.wrap (4 * (t : Int)) = ((4 * t : Nat) : Int) := by rw [wrap_i64 _ (by omega) (by omega)]; omega
      have C0 : ∀ w' v, Cb w' v 64 b → Calls Tryd.prog 30 [v, .int .i64 ((4 * t : Nat) : Int)].toArray w' (Ret (.int .u32 (wordI b (4 * t))) w') := fun w' v hv => word_c w' hv (4 * t) (by omega) (by decide)
      have hsc : schedI b (t + 1) = (schedI b t).set t (wordI b (4 * t)) := by rw [schedI, if_pos h16]
      clear hb hh
      repeat' (first | (refine wlS ?_) | (refine wlB ?_) | ((with_reducible refine sel_call ?_); refine wl_rd rfl rfl (rd_call rfl rfl rfl (fun w hm => by with_reducible exact C0 w _ (VwB.out w hm))) ?_) | (refine wlE ?_) | (refine efSvvp ?_; intro v hv hp) | (refine efSvao ?_; intro v oa ho) | (refine efBnn ?_; intro n hn) | (refine efB ?_) | (refine efBS ?_) | (refine wl_skip rfl rfl ?_) | ((with_reducible refine wc_seq ?_); intro K hK) | (refine auC ?_) | (refine wc_cond rfl (fun hc => ?_) (fun hc => ?_)) | ((with_reducible refine wc_drawT (by kernel_rfl) ?_); (try simp only [List.append_eq, List.cons_append, List.nil_append, List.length_cons, List.length_nil, Nat.reduceAdd])) | ((with_reducible refine sel_wh ?_); (refine wh_if (by decide +kernel) ?_); first | (refine wh_take (lq := []) rfl rfl rfl rfl (by first | exact rvS | exact rvB | exact rvE) (Or.inl rfl) ?_) | (refine wh_takeL rfl rfl rfl rfl (by first | exact rvS | exact rvB | exact rvE) (by decide +kernel) ?_)) | (refine whS ?_; intro v hv hp) | ((with_reducible refine sel_wh ?_); first | (refine wh_pass rfl rfl rfl rfl ?_) | (refine wh_done rfl ?_) | (refine wh_all rfl ?_)) | ((with_reducible refine sel_rest ?_); first | exact rest_nil rfl | refine rest_cons rfl rfl ?_ ?_) | ((with_reducible refine sel_nx ?_); first | refine next_of ?_ | refine next_late (by decide +kernel) ?_) | (refine auP ?_) | ((refine auR ?_); clear hK K) | (refine auR ?_) | ((with_reducible refine hK _ _ ?_); clear hK K) | fail)
      exact ⟨t + 1, hlt, by omega, Fits.of ⟨rfl, rfl, rfl, rfl, rfl, trivial⟩ (by rw [hsc]; exact SubL.refl _) rfl⟩
    · have t2 : decide ((t : Int) < 16) = false := decide_eq_false (by omega)
      have d15 : IntKind.i64.wrap ((t : Int) - 15) = ((t - 15 : Nat) : Int) := by rw [wrap_i64 _ (by omega) (by omega)]; omega
      have d16 : IntKind.i64.wrap ((t : Int) - 16) = ((t - 16 : Nat) : Int) := by rw [wrap_i64 _ (by omega) (by omega)]; omega
      have d7 : IntKind.i64.wrap ((t : Int) - 7) = ((t - 7 : Nat) : Int) := by rw [wrap_i64 _ (by omega) (by omega)]; omega
      have d2 : IntKind.i64.wrap ((t : Int) - 2) = ((t - 2 : Nat) : Int) := by rw [wrap_i64 _ (by omega) (by omega)]; omega
      have l15 : ((t - 15 : Nat) : Int) < ((64 : Nat) : Int) := by omega
      have l16 : ((t - 16 : Nat) : Int) < ((64 : Nat) : Int) := by omega
      have l7 : ((t - 7 : Nat) : Int) < ((64 : Nat) : Int) := by omega
      have l2 : ((t - 2 : Nat) : Int) < ((64 : Nat) : Int) := by omega
      have g15 := iw_get (l := schedI b t) (i := t - 15) (by omega)
      have g16 := iw_get (l := schedI b t) (i := t - 16) (by omega)
      have g7 := iw_get (l := schedI b t) (i := t - 7) (by omega)
      have g2 := iw_get (l := schedI b t) (i := t - 2) (by omega)
      have hsc : schedI b (t + 1) = (schedI b t).set t (nextW (schedI b t) t) := by rw [schedI, if_neg h16]
      have sh3 : ∀ x : Int, x / 2 ^ (min ((3 : Int).toNat) IntKind.u32.bits) = x / 8 := fun x => rfl
      have sh10 : ∀ x : Int, x / 2 ^ (min ((10 : Int).toNat) IntKind.u32.bits) = x / 1024 := fun x => rfl
      have sa := sh3 ((schedI b t).getD (t - 15) 0)
      have sb := sh10 ((schedI b t).getD (t - 2) 0)
      clear hb hh sh3 sh10
      repeat' (first | (refine wlS ?_) | (refine wlB ?_) | ((with_reducible refine sel_call ?_); refine wl_rd rfl rfl (rd_call rfl rfl rfl (fun w hm => by with_reducible first | exact right7 w | exact right18 w | exact right17 w | exact right19 w)) ?_) | (refine wlE ?_) | (refine efSvvp ?_; intro v hv hp) | (refine efSvao ?_; intro v oa ho) | (refine efBnn ?_; intro n hn) | (refine efB ?_) | (refine efBS ?_) | (refine wl_skip rfl rfl ?_) | ((with_reducible refine wc_seq ?_); intro K hK) | (refine auC ?_) | (refine wc_cond rfl (fun hc => ?_) (fun hc => ?_)) | ((with_reducible refine wc_drawT (by kernel_rfl) ?_); (try simp only [List.append_eq, List.cons_append, List.nil_append, List.length_cons, List.length_nil, Nat.reduceAdd])) | ((with_reducible refine sel_wh ?_); (refine wh_if (by decide +kernel) ?_); first | (refine wh_take (lq := []) rfl rfl rfl rfl (by first | exact rvS | exact rvB | exact rvE) (Or.inl rfl) ?_) | (refine wh_takeL rfl rfl rfl rfl (by first | exact rvS | exact rvB | exact rvE) (by decide +kernel) ?_)) | (refine whS ?_; intro v hv hp) | ((with_reducible refine sel_wh ?_); first | (refine wh_pass rfl rfl rfl rfl ?_) | (refine wh_done rfl ?_) | (refine wh_all rfl ?_)) | ((with_reducible refine sel_rest ?_); first | exact rest_nil rfl | refine rest_cons rfl rfl ?_ ?_) | ((with_reducible refine sel_nx ?_); first | refine next_of ?_ | refine next_late (by decide +kernel) ?_) | (refine auP ?_) | ((refine auR ?_); clear hK K) | (refine auR ?_) | ((with_reducible refine hK _ _ ?_); clear hK K) | fail)
      exact ⟨t + 1, hlt, by omega, Fits.of ⟨rfl, rfl, rfl, rfl, rfl, trivial⟩ (by rw [hsc]; exact SubL.refl _) rfl⟩
  · obtain rfl : t = 64 := by omega
    have t1 : decide (((64 : Nat) : Int) < 64) = false := by decide
    repeat' (first | (refine wlS ?_) | (refine wlB ?_) | (refine wlE ?_) | (refine efSvvp ?_; intro v hv hp) | (refine efSvao ?_; intro v oa ho) | (refine efZCnn ?_; intro n hn) | (refine efBnn ?_; intro n hn) | (refine efB ?_) | (refine efBS ?_) | (refine wl_skip rfl rfl ?_) | ((with_reducible refine wc_seq ?_); intro K hK) | (refine auC ?_) | (refine wc_cond rfl (fun hc => ?_) (fun hc => ?_)) | ((with_reducible refine wc_drawT (by kernel_rfl) ?_); (try simp only [List.append_eq, List.cons_append, List.nil_append, List.length_cons, List.length_nil, Nat.reduceAdd])) | ((with_reducible refine sel_wh ?_); (refine wh_if (by decide +kernel) ?_); first | (refine wh_take (lq := []) rfl rfl rfl rfl (by first | exact rvS | exact rvB | exact rvE) (Or.inl rfl) ?_) | (refine wh_takeL rfl rfl rfl rfl (by first | exact rvS | exact rvB | exact rvE) (by decide +kernel) ?_)) | (refine whS ?_; intro v hv hp) | ((with_reducible refine sel_wh ?_); first | (refine wh_pass rfl rfl rfl rfl ?_) | (refine wh_done rfl ?_) | (refine wh_all rfl ?_)) | ((with_reducible refine sel_rest ?_); first | exact rest_nil rfl | refine rest_cons rfl rfl ?_ ?_) | ((with_reducible refine sel_nx ?_); first | refine next_of ?_ | refine next_late (by decide +kernel) ?_) | (refine auP ?_) | ((refine auR ?_); clear hK K) | (refine auR ?_) | ((with_reducible refine hK _ _ ?_); clear hK K) | fail)
    rename_i n5 hn5
    have hp : pressI h b = addsI h (roundsI h (schedI b 64) 64) 8 := rfl
    clear ht hlt hsl t1
    generalize schedI b 64 = ws at *
    refine wc_loop (σ := Nat) (fun t => [(2, ptr n2), (4, ptr n4), (5, ptr n5), (9, ptr n), (70, .int .i64 (t : Int))])
      (fun t => [(n, (iw (roundsI h ws t), 53)), (n5, (iw ws, 69)), (n4, (iw (List.replicate 8 0), 53)), (n2, (iw h, 53))])
      (fun t => t ≤ 64) (fun t => 64 - t) 0 (Nat.zero_le _) (Fits.of ⟨rfl, rfl, rfl, rfl, rfl, trivial⟩ (.keep (.keep (.keep (.skip (.keep .nil))))) rfl) ?_
    intro t ht
    by_cases hlt : t < 64
    · have t1 : decide ((t : Int) < 64) = true := decide_eq_true (by omega)
      have k1 : IntKind.i64.wrap ((t : Int) + 1) = ((t + 1 : Nat) : Int) := by rw [wrap_i64 _ (by omega) (by omega)]; omega
      have j1 : (t : Int) < ((64 : Nat) : Int) := by omega
      have hV := roundsI_len h ws hh t
      have hsc : roundsI h ws (t + 1) = roundI (roundsI h ws t) (roots.getD t 0) (ws.getD t 0) := rfl
      have gt := hT t hlt
      have gw := iw_get (l := ws) (i := t) (by omega)
      generalize hVe : roundsI h ws t = V at *
      generalize hke : roots.getD t 0 = k at *
      generalize hxe : ws.getD t 0 = x at *
      have g0 := iw_get (l := V) (i := 0) (by omega)
      have g1 := iw_get (l := V) (i := 1) (by omega)
      have g2 := iw_get (l := V) (i := 2) (by omega)
      have g3 := iw_get (l := V) (i := 3) (by omega)
      have g4 := iw_get (l := V) (i := 4) (by omega)
      have g5 := iw_get (l := V) (i := 5) (by omega)
      have g6 := iw_get (l := V) (i := 6) (by omega)
      have g7 := iw_get (l := V) (i := 7) (by omega)
      haveI : WL V 8 := ⟨hV⟩
      have cm : bits .xor .u32 (if IntKind.u32.signed then -1 else IntKind.u32.max) (V.getD 4 0) = xor32 4294967295 (V.getD 4 0) := rfl
      clear hb hh hs hT hV
      repeat' (first | (refine wlS ?_) | (refine wlB ?_) | (refine wlO ?_) | ((with_reducible refine sel_call ?_); refine wl_rd rfl rfl (rd_call rfl rfl rfl (fun w hm => by with_reducible first | exact right6 w | exact right11 w | exact right25 w | exact right2 w | exact right13 w | exact right22 w)) ?_) | (refine wlE ?_) | (refine efSvvp ?_; intro v hv hp) | (refine efSvao ?_; intro v oa ho) | (refine efBnn ?_; intro n hn) | (refine efB ?_) | (refine efBS ?_) | (refine wl_skip rfl rfl ?_) | ((with_reducible refine wc_seq ?_); intro K hK) | (refine auC ?_) | (refine wc_cond rfl (fun hc => ?_) (fun hc => ?_)) | ((with_reducible refine wc_drawT (by kernel_rfl) ?_); (try simp only [List.append_eq, List.cons_append, List.nil_append, List.length_cons, List.length_nil, Nat.reduceAdd])) | ((with_reducible refine sel_wh ?_); (refine wh_if (by decide +kernel) ?_); first | (refine wh_take (lq := []) rfl rfl rfl rfl (by first | exact rvS | exact rvB | exact rvO | exact rvE) (Or.inl rfl) ?_) | (refine wh_takeL rfl rfl rfl rfl (by first | exact rvS | exact rvB | exact rvO | exact rvE) (by decide +kernel) ?_)) | (refine whS ?_; intro v hv hp) | ((with_reducible refine sel_wh ?_); first | (refine wh_pass rfl rfl rfl rfl ?_) | (refine wh_done rfl ?_) | (refine wh_all rfl ?_)) | ((with_reducible refine sel_rest ?_); first | exact rest_nil rfl | refine rest_cons rfl rfl ?_ ?_) | ((with_reducible refine sel_nx ?_); first | refine next_of ?_ | refine next_late (by decide +kernel) ?_) | (refine auP ?_) | ((refine auR ?_); clear hK K) | (refine auR ?_) | ((with_reducible refine hK _ _ ?_); clear hK K) | fail)
      exact ⟨t + 1, hlt, by omega, Fits.of ⟨rfl, rfl, rfl, rfl, rfl, trivial⟩ (by rw [hsc]; exact SubL.refl _) rfl⟩
    · obtain rfl : t = 64 := by omega
      have t1 : decide (((64 : Nat) : Int) < 64) = false := by decide
      have hV := roundsI_len h ws hh 64
      clear ht hlt hs hb
      generalize roundsI h ws 64 = V at *
      haveI : WL V 8 := ⟨hV⟩
      repeat' (first | (refine wlS ?_) | (refine wlB ?_) | (refine wlE ?_) | (refine efSvvp ?_; intro v hv hp) | (refine efSvao ?_; intro v oa ho) | (refine efZCnn ?_; intro n hn) | (refine efBnn ?_; intro n hn) | (refine efB ?_) | (refine efBS ?_) | (refine wl_skip rfl rfl ?_) | ((with_reducible refine wc_seq ?_); intro K hK) | (refine auC ?_) | (refine wc_cond rfl (fun hc => ?_) (fun hc => ?_)) | ((with_reducible refine wc_drawT (by kernel_rfl) ?_); (try simp only [List.append_eq, List.cons_append, List.nil_append, List.length_cons, List.length_nil, Nat.reduceAdd])) | ((with_reducible refine sel_wh ?_); (refine wh_if (by decide +kernel) ?_); first | (refine wh_take (lq := []) rfl rfl rfl rfl (by first | exact rvS | exact rvB | exact rvE) (Or.inl rfl) ?_) | (refine wh_takeL rfl rfl rfl rfl (by first | exact rvS | exact rvB | exact rvE) (by decide +kernel) ?_)) | (refine whS ?_; intro v hv hp) | ((with_reducible refine sel_wh ?_); first | (refine wh_pass rfl rfl rfl rfl ?_) | (refine wh_done rfl ?_) | (refine wh_all rfl ?_)) | ((with_reducible refine sel_rest ?_); first | exact rest_nil rfl | refine rest_cons rfl rfl ?_ ?_) | ((with_reducible refine sel_nx ?_); first | refine next_of ?_ | refine next_late (by decide +kernel) ?_) | (refine auP ?_) | ((refine auR ?_); clear hK K) | (refine auR ?_) | ((with_reducible refine hK _ _ ?_); clear hK K) | fail)
      refine wc_loop (σ := Nat) (fun t => [(2, ptr n2), (4, ptr n4), (9, ptr n), (148, .int .i64 (t : Int))])
        (fun t => [(n, (iw V, 53)), (n4, (iw (List.replicate 8 0), 53)), (n2, (iw (addsI h V t), 53))])
        (fun t => t ≤ 8) (fun t => 8 - t) 0 (Nat.zero_le _) (Fits.of ⟨rfl, rfl, rfl, rfl, trivial⟩ (.keep (.skip (.keep (.keep .nil)))) rfl) ?_
      intro t ht
      have ha := addsI_len h V t
      haveI : WL (addsI h V t) 8 := ⟨by rw [ha, hh]⟩
      by_cases hlt : t < 8
      · have t2 : decide ((t : Int) < 8) = true := decide_eq_true (by omega)
        have k1 : IntKind.i64.wrap ((t : Int) + 1) = ((t + 1 : Nat) : Int) := by rw [wrap_i64 _ (by omega) (by omega)]; omega
        have j1 : (t : Int) < ((8 : Nat) : Int) := by omega
        have g1 := iw_get (l := addsI h V t) (i := t) (by omega)
        have g2 := iw_get (l := V) (i := t) (by omega)
        have hsc : addsI h V (t + 1) = (addsI h V t).set t (add32 ((addsI h V t).getD t 0) (V.getD t 0)) := rfl
        clear ha hV t1 hT
        repeat' (first | (refine wlS ?_) | (refine wlB ?_) | (refine wlE ?_) | (refine efSvvp ?_; intro v hv hp) | (refine efSvao ?_; intro v oa ho) | (refine efBnn ?_; intro n hn) | (refine efB ?_) | (refine efBS ?_) | (refine wl_skip rfl rfl ?_) | ((with_reducible refine wc_seq ?_); intro K hK) | (refine auC ?_) | (refine wc_cond rfl (fun hc => ?_) (fun hc => ?_)) | ((with_reducible refine wc_drawT (by kernel_rfl) ?_); (try simp only [List.append_eq, List.cons_append, List.nil_append, List.length_cons, List.length_nil, Nat.reduceAdd])) | ((with_reducible refine sel_wh ?_); (refine wh_if (by decide +kernel) ?_); first | (refine wh_take (lq := []) rfl rfl rfl rfl (by first | exact rvS | exact rvB | exact rvE) (Or.inl rfl) ?_) | (refine wh_takeL rfl rfl rfl rfl (by first | exact rvS | exact rvB | exact rvE) (by decide +kernel) ?_)) | (refine whS ?_; intro v hv hp) | ((with_reducible refine sel_wh ?_); first | (refine wh_pass rfl rfl rfl rfl ?_) | (refine wh_done rfl ?_) | (refine wh_all rfl ?_)) | ((with_reducible refine sel_rest ?_); first | exact rest_nil rfl | refine rest_cons rfl rfl ?_ ?_) | ((with_reducible refine sel_nx ?_); first | refine next_of ?_ | refine next_late (by decide +kernel) ?_) | (refine auP ?_) | ((refine auR ?_); clear hK K) | (refine auR ?_) | ((with_reducible refine hK _ _ ?_); clear hK K) | fail)
        exact ⟨t + 1, hlt, by omega, Fits.of ⟨rfl, rfl, rfl, rfl, trivial⟩ (by rw [hsc]; exact SubL.refl _) rfl⟩
      · obtain rfl : t = 8 := by omega
        have t2 : decide (((8 : Nat) : Int) < 8) = false := by decide
        repeat' (first | (refine wlS ?_) | (refine wlB ?_) | (refine wlE ?_) | (refine efSvvp ?_; intro v hv hp) | (refine efSvao ?_; intro v oa ho) | (refine efBnn ?_; intro n hn) | (refine efB ?_) | (refine efBS ?_) | (refine wl_skip rfl rfl ?_) | ((with_reducible refine wc_seq ?_); intro K hK) | (refine auC ?_) | (refine wc_cond rfl (fun hc => ?_) (fun hc => ?_)) | ((with_reducible refine wc_drawT (by kernel_rfl) ?_); (try simp only [List.append_eq, List.cons_append, List.nil_append, List.length_cons, List.length_nil, Nat.reduceAdd])) | ((with_reducible refine sel_wh ?_); (refine wh_if (by decide +kernel) ?_); first | (refine wh_take (lq := []) rfl rfl rfl rfl (by first | exact rvS | exact rvB | exact rvE) (Or.inl rfl) ?_) | (refine wh_takeL rfl rfl rfl rfl (by first | exact rvS | exact rvB | exact rvE) (by decide +kernel) ?_)) | (refine whS ?_; intro v hv hp) | ((with_reducible refine sel_wh ?_); first | (refine wh_pass rfl rfl rfl rfl ?_) | (refine wh_done rfl ?_) | (refine wh_all rfl ?_)) | ((with_reducible refine sel_rest ?_); first | exact rest_nil rfl | refine rest_cons rfl rfl ?_ ?_) | ((with_reducible refine sel_nx ?_); first | refine next_of ?_ | refine next_late (by decide +kernel) ?_) | (refine auP ?_) | ((refine auR ?_); clear hK K) | (refine auR ?_) | ((with_reducible refine hK _ _ ?_); clear hK K) | fail)
        clear ht ha hlt t2 hV
        first | refine end_ret (ResP.cell rfl ld_whole ResP.nil) ?_ | refine end_normal (ResP.cell rfl ld_whole ResP.nil) ?_
        first | rfl | (show _ = _; rfl) | (simp only [tupV, *]; done)
end Go.Proofs.YtlpalhagndmpjaaDoor
namespace Go.Proofs.YtlpalhagndmpjaaDoor
open Go.RowKit
set_option linter.unusedVariables false
set_option maxRecDepth 100000
set_option linter.unusedSimpArgs false
/-- A state as a row. -/
abbrev sgH (s : HS) : Sg := [(8, iw s.h), (1, #[.int .u64 (s.n : Int)]), (64, bys s.left)]
abbrev hv (s : HS) : Value := .agg (rwA (sgH s))
class HSo (s : HS) : Prop where
  out : s.ok
instance {s : HS} [h : HSo s] : SegL (iw s.h) 8 := seg_iw h.out.1
instance {s : HS} [h : HSo s] : SegL (bys s.left) 64 := seg_bys h.out.2.2.1
set_option maxRecDepth 100000 in
set_option maxHeartbeats 4000000 in
theorem new_c (w : World) : Calls Tryd.prog 25 #[] w (Ret (hv newH) w) := by
  refine fn_ret (N := _) Tryd.func25 rfl Tryd.ntmps25 Tryd.results25 (by simp) ?_
  simp only [initS, Nat.reduceAdd, Nat.zero_add]
  repeat' (first | (refine wlS ?_) | (refine wlE ?_) | (refine efBnn ?_; intro n hn) | (refine efB ?_) | (refine efBS ?_) | (refine wl_skip rfl rfl ?_) | ((with_reducible refine wc_seq ?_); intro K hK) | (refine auC ?_) | (refine wc_cond rfl (fun hc => ?_) (fun hc => ?_)) | (refine wc_draw (by kernel_rfl) (by kernel_rfl) (by decide +kernel) ?_; intro w0 hw0 hm0; (try simp only [List.append_eq, List.cons_append, List.nil_append])) | (refine auP ?_) | ((refine auR ?_); clear hK K) | (refine auR ?_) | ((with_reducible refine hK _ _ ?_); clear hK K) | fail)
  first | refine end_ret (ResP.cell rfl ld_whole ResP.nil) ?_ | refine end_normal (ResP.cell rfl ld_whole ResP.nil) ?_
  first | rfl | (show _ = _; rfl) | (simp only [tupV, *]; done)
end Go.Proofs.YtlpalhagndmpjaaDoor
namespace Go.Proofs.YtlpalhagndmpjaaDoor
open Go.RowKit
set_option linter.unusedVariables false
set_option maxRecDepth 100000
set_option linter.unusedSimpArgs false
def zeroH : HS := ⟨List.replicate 8 0, 0, List.replicate 64 0⟩
instance : HSo zeroH := ⟨⟨rfl, by decide, rfl, by decide⟩⟩
set_option maxRecDepth 100000 in
instance : ZG Tryd.prog 57 (sgH zeroH) := ⟨by kernel_rfl, inferInstance⟩
theorem take_succ' (p : List Nat) (i : Nat) (h : i < p.length) : p.take (i + 1) = p.take i ++ [p.getD i 0] := by
  rw [List.take_add_one, List.getElem?_eq_getElem h]; simp [List.getD, h]
instance {st : HS} [h : HSo st] : Cells (rwA (sgH st)) 73 := ⟨rw_size inferInstance, rw_one inferInstance⟩
theorem hs_eq (st : HS) (b : Nat) (h : (st.n + 1) % 18446744073709551616 % 64 ≠ 0) : st.put b = ⟨st.h, (st.n + 1) % 18446744073709551616, st.left.set (st.n % 64) b⟩ := by
  simp only [HS.put, if_neg h]
theorem hs_eq0 (st : HS) (b : Nat) (h : (st.n + 1) % 18446744073709551616 % 64 = 0) : st.put b = ⟨pressI st.h (st.left.set (st.n % 64) b), (st.n + 1) % 18446744073709551616, st.left.set (st.n % 64) b⟩ := by
  simp only [HS.put, if_pos h]
theorem hs_lit (h : List Int) (n : Nat) (l : List Nat) : sgH ⟨h, n, l⟩ = [(8, iw h), (1, #[.int .u64 (n : Int)]), (64, bys l)] := rfl
set_option maxRecDepth 100000 in
set_option maxHeartbeats 8000000 in
theorem write_c (w : World) (hT : Tab w) {s : HS} (hs : s.ok) {v : Value} {m : Nat} {p : List Nat} (hp : Cb w v m p) : Calls Tryd.prog 26 [hv s, v].toArray w (Ret (hv (s.write p)) w) := by
  haveI := hp.old
  haveI : HSo s := ⟨hs⟩
  have hpl := hp.ok.len
  have hpm := hp.ok.by'
  have hnm : m ≤ maxLen := by obtain ⟨_, _, _, h1, h2, _⟩ := hp.cs.ln.out; omega
  simp only [maxLen] at hnm
  have hP : ∀ i, i < m → (bl p)[i]? = some (.int .u8 ((p.getD i 0 : Nat) : Int)) := fun i hi => bl_get (by omega)
  have hB : ∀ i, i < m → p.getD i 0 < 256 := fun i hi => hpm _ (by rw [show p.getD i 0 = p[i]'(by omega) by simp [List.getD, (by omega : i < p.length)]]; exact List.getElem_mem _)
  clear hp
  refine fn_ret (N := _) Tryd.func26 rfl Tryd.ntmps26 Tryd.results26 (by simp) ?_
  simp only [initS, Nat.reduceAdd, Nat.zero_add]
  repeat' (first | (refine wlS ?_) | (refine wlG ?_) | (refine wlB ?_) | (refine wlE ?_) | (refine efSvao ?_; intro v oa ho) | (refine efG ?_) | (refine efGnn ?_; intro n hn) | (refine efBnn ?_; intro n hn) | (refine efB ?_) | (refine efBS ?_) | (refine wl_skip rfl rfl ?_) | ((with_reducible refine wc_seq ?_); intro K hK) | (refine auC ?_) | (refine wc_cond rfl (fun hc => ?_) (fun hc => ?_)) | (refine wc_draw (by kernel_rfl) (by kernel_rfl) (by decide +kernel) ?_; intro w0 hw0 hm0; (try simp only [List.append_eq, List.cons_append, List.nil_append])) | (refine auP ?_) | ((refine auR ?_); clear hK K) | (refine auR ?_) | ((with_reducible refine hK _ _ ?_); clear hK K) | fail)
  rename_i n2 hn2
  refine wc_loop (σ := Nat) (fun i => [(1, v), (2, ptr n2), (4, ptr n), (7, v), (8, .int .i64 (m : Int)), (9, .int .i64 (i : Int))])
    (fun i => [(n, (rwA (sgH zeroH), 57)), (n2, (rwA (sgH (s.write (p.take i))), 57))])
    (fun i => i ≤ m) (fun i => m - i) 0 (Nat.zero_le _) (Fits.of ⟨rfl, rfl, rfl, rfl, rfl, rfl, trivial⟩ (by rw [List.take_zero]; exact SubL.refl _) rfl) ?_
  intro i hi
  by_cases hlt : i < m
  · have t1 : decide ((i : Int) < (m : Int)) = true := decide_eq_true (by omega)
    have k1 : IntKind.i64.wrap ((i : Int) + 1) = ((i + 1 : Nat) : Int) := by rw [wrap_i64 _ (by omega) (by omega)]; omega
    have j1 : (i : Int) < (m : Int) := by omega
    have g1 := hP i hlt
    have g2 := hB i hlt
    have hok : (s.write (p.take i)).ok := HS.write_ok (fun x hx => hpm x (List.mem_of_mem_take hx)) hs
    have hnx : s.write (p.take (i + 1)) = (s.write (p.take i)).put (p.getD i 0) := by rw [take_succ' p i (by omega), HS.write_snoc]
    generalize hw2 : s.write (p.take (i + 1)) = st2 at *
    generalize s.write (p.take i) = st at *
    generalize p.getD i 0 = b at *
    clear hP hB hpm hs
    haveI : HSo st := ⟨hok⟩
    obtain ⟨o1, o2, o3, o4⟩ := hok
    have m1 : ((st.n : Nat) : Int).tmod 64 = ((st.n % 64 : Nat) : Int) := by rw [Int.tmod_eq_emod_of_nonneg (by omega)]; omega
    have m2 : IntKind.u64.wrap ((st.n : Int) + 1) = (((st.n + 1) % 18446744073709551616 : Nat) : Int) := by
      have : IntKind.u64.wrap ((st.n : Int) + 1) = ((st.n : Int) + 1) % 18446744073709551616 := by simp [IntKind.wrap, IntKind.bits, IntKind.signed]
      rw [this]; omega
    have m3 : (((st.n + 1) % 18446744073709551616 : Nat) : Int).tmod 64 = (((st.n + 1) % 18446744073709551616 % 64 : Nat) : Int) := by rw [Int.tmod_eq_emod_of_nonneg (by omega)]; omega
    have m4 : ((st.n % 64 : Nat) : Int) < ((64 : Nat) : Int) := by omega
    have m5 : st.n % 64 < 64 := by omega
    by_cases h0 : (st.n + 1) % 18446744073709551616 % 64 = 0
    · rw [h0] at m3
      have he := hs_eq0 st b h0
      rw [he] at hnx
      clear he
      have hb : BL 64 (st.left.set (st.n % 64) b) := ⟨by rw [List.length_set]; exact o3, fun x hx => by
        rcases List.mem_or_eq_of_mem_set hx with h | h
        · exact o4 x h
        · rw [h]; exact g2⟩
      have C : ∀ w', Below w.heap.size w w' → Calls Tryd.prog 28 [.agg (iw st.h), .agg (bys (st.left.set (st.n % 64) b))].toArray w' (Ret (.agg (iw (pressI st.h (st.left.set (st.n % 64) b)))) w') := fun w' hw' => press_c w' (hT.below hw') o1 hb
      have hl8 : (pressI st.h (st.left.set (st.n % 64) b)).length = 8 := by rw [pressI, addsI_len, o1]
      haveI : SegL (iw (pressI st.h (st.left.set (st.n % 64) b))) 8 := seg_iw hl8
      haveI : SegL (bys (st.left.set (st.n % 64) b)) 64 := seg_bys hb.len
      repeat' (first | (refine wlS ?_) | ((with_reducible refine sel_load ?_); refine wv rfl rfl (rd_load rfl rfl (ld_sgC (p := 9) (m := 64))) ?_) | (refine wlG ?_) | (refine wlB ?_) | ((with_reducible refine sel_call ?_); refine wl_rd rfl rfl (rd_call rfl rfl rfl (fun w hm => by with_reducible exact C w (hm.below rfl))) ?_) | (refine wlE ?_) | (refine efSvao ?_; intro v oa ho) | (refine efG ?_) | (refine efGnn ?_; intro n hn) | ((with_reducible refine sel_store ?_); first | refine wl_store rfl rfl (sv_sgC (p := 9) (m := 64) rfl rfl rfl One.out) ?_) | (refine efBnn ?_; intro n hn) | (refine efB ?_) | (refine efBS ?_) | (refine wl_skip rfl rfl ?_) | ((with_reducible refine wc_seq ?_); intro K hK) | (refine auC ?_) | (refine wc_cond rfl (fun hc => ?_) (fun hc => ?_)) | (refine wc_draw (by kernel_rfl) (by kernel_rfl) (by decide +kernel) ?_; intro w0 hw0 hm0; (try simp only [List.append_eq, List.cons_append, List.nil_append])) | (refine auP ?_) | ((refine auR ?_); clear hK K) | (refine auR ?_) | ((with_reducible refine hK _ _ ?_); clear hK K) | fail)
      exact ⟨i + 1, hlt, by omega, Fits.of ⟨rfl, rfl, rfl, rfl, rfl, rfl, trivial⟩ (by rw [hw2, hnx]; exact SubL.refl _) rfl⟩
    · have m6 : (((((st.n + 1) % 18446744073709551616 % 64 : Nat) : Int)) == 0) = false := by rw [beq_eq_false_iff_ne]; omega
      have he := hs_eq st b h0
      rw [he] at hnx
      clear he
      haveI : SegL (bys (st.left.set (st.n % 64) b)) 64 := seg_bys (by rw [List.length_set]; exact o3)
      repeat' (first | (refine wlS ?_) | ((with_reducible refine sel_load ?_); refine wv rfl rfl (rd_load rfl rfl (ld_sgC (p := 9) (m := 64))) ?_) | (refine wlG ?_) | (refine wlB ?_) | (refine wlE ?_) | (refine efSvao ?_; intro v oa ho) | (refine efG ?_) | (refine efGnn ?_; intro n hn) | ((with_reducible refine sel_store ?_); first | refine wl_store rfl rfl (sv_sgC (p := 9) (m := 64) rfl rfl rfl One.out) ?_) | (refine efBnn ?_; intro n hn) | (refine efB ?_) | (refine efBS ?_) | (refine wl_skip rfl rfl ?_) | ((with_reducible refine wc_seq ?_); intro K hK) | (refine auC ?_) | (refine wc_cond rfl (fun hc => ?_) (fun hc => ?_)) | (refine wc_draw (by kernel_rfl) (by kernel_rfl) (by decide +kernel) ?_; intro w0 hw0 hm0; (try simp only [List.append_eq, List.cons_append, List.nil_append])) | (refine auP ?_) | ((refine auR ?_); clear hK K) | (refine auR ?_) | ((with_reducible refine hK _ _ ?_); clear hK K) | fail)
      exact ⟨i + 1, hlt, by omega, Fits.of ⟨rfl, rfl, rfl, rfl, rfl, rfl, trivial⟩ (by rw [hw2, hnx]; exact SubL.refl _) rfl⟩
  · obtain rfl : i = m := by omega
    have t1 : decide ((i : Int) < (i : Int)) = false := decide_eq_false (by omega)
    have hok : (s.write p).ok := HS.write_ok hpm hs
    have hall : s.write (p.take i) = s.write p := by rw [List.take_of_length_le (by omega)]
    generalize s.write (p.take i) = st at *
    subst hall
    haveI : HSo (s.write p) := ⟨hok⟩
    repeat' (first | (refine wlS ?_) | (refine wlG ?_) | (refine wlB ?_) | (refine wlE ?_) | (refine efSvao ?_; intro v oa ho) | (refine efG ?_) | (refine efGnn ?_; intro n hn) | (refine efBnn ?_; intro n hn) | (refine efB ?_) | (refine efBS ?_) | (refine wl_skip rfl rfl ?_) | ((with_reducible refine wc_seq ?_); intro K hK) | (refine auC ?_) | (refine wc_cond rfl (fun hc => ?_) (fun hc => ?_)) | (refine wc_draw (by kernel_rfl) (by kernel_rfl) (by decide +kernel) ?_; intro w0 hw0 hm0; (try simp only [List.append_eq, List.cons_append, List.nil_append])) | (refine auP ?_) | ((refine auR ?_); clear hK K) | (refine auR ?_) | ((with_reducible refine hK _ _ ?_); clear hK K) | fail)
    first | refine end_ret (ResP.cell rfl ld_whole ResP.nil) ?_ | refine end_normal (ResP.cell rfl ld_whole ResP.nil) ?_
    first | rfl | (show _ = _; rfl) | (simp only [tupV, *]; done)
end Go.Proofs.YtlpalhagndmpjaaDoor
namespace Go.Proofs.YtlpalhagndmpjaaDoor
/-- Alike in all that is ever looked at again. -/
def HS.like (s t : HS) : Prop := s.h = t.h ∧ s.n = t.n ∧ s.left.length = 64 ∧ t.left.length = 64 ∧ ∀ i, i < s.n % 64 → s.left[i]? = t.left[i]?
theorem HS.like_refl {s : HS} (h : s.left.length = 64) : s.like s := ⟨rfl, rfl, h, h, fun _ _ => rfl⟩
theorem HS.like_put {s t : HS} (b : Nat) (h : s.like t) : (s.put b).like (t.put b) := by
  obtain ⟨h1, h2, h3, h4, h5⟩ := h
  have hlt : s.n % 64 < 64 := Nat.mod_lt _ (by decide)
  have hset : ∀ i, i < s.n % 64 + 1 → (s.left.set (s.n % 64) b)[i]? = (t.left.set (s.n % 64) b)[i]? := fun i hi => by
    rw [List.getElem?_set, List.getElem?_set, h3, h4]
    split
    · rfl
    · exact h5 i (by omega)
  refine ⟨?_, by simp only [HS.put, h2], by simp [HS.put, h3], by simp [HS.put, h4], fun i hi => ?_⟩
  · simp only [HS.put, ← h2, ← h1]
    split
    · rename_i h0
      congr 1
      have h63 : s.n % 64 = 63 := by omega
      apply List.ext_getElem?
      intro i
      by_cases hi : i < 64
      · exact hset i (by omega)
      · rw [List.getElem?_eq_none (by rw [List.length_set, h3]; omega), List.getElem?_eq_none (by rw [List.length_set, h4]; omega)]
    · rfl
  · simp only [HS.put, ← h2] at hi ⊢
    exact hset i (by omega)
theorem HS.like_write (p : List Nat) : ∀ {s t : HS}, s.like t → (s.write p).like (t.write p) := by
  induction p with
  | nil => intro s t h; exact h
  | cons b r ih => intro s t h; exact ih (HS.like_put b h)
theorem HS.like_sum {s t : HS} (h : s.like t) : s.sum = t.sum := by
  unfold HS.sum
  rw [← h.2.1, (HS.like_write _ h).1]
theorem HS.put_n (s : HS) (b : Nat) : (s.put b).n = (s.n + 1) % 18446744073709551616 := rfl
theorem HS.write_n (p : List Nat) : ∀ (s : HS), s.n < 18446744073709551616 → (s.write p).n = (s.n + p.length) % 18446744073709551616 := by
  induction p with
  | nil => intro s h; rw [List.length_nil, Nat.add_zero, Nat.mod_eq_of_lt h]; rfl
  | cons b r ih =>
    intro s h
    rw [show s.write (b :: r) = (s.put b).write r from rfl, ih _ (Nat.mod_lt _ (by decide)), HS.put_n, List.length_cons]
    omega
theorem newH_n (p : List Nat) (h : p.length < 18446744073709551616) : (newH.write p).n = p.length := by
  rw [HS.write_n p newH (by decide), show newH.n = 0 from rfl, Nat.zero_add, Nat.mod_eq_of_lt h]
/-! ### Words within bounds -/
def W32 (l : List Int) : Prop := ∀ x ∈ l, 0 ≤ x ∧ x < 4294967296
theorem wrap32 (x : Int) : 0 ≤ IntKind.u32.wrap x ∧ IntKind.u32.wrap x < 4294967296 := by
  have h : IntKind.u32.wrap x = x % 4294967296 := by simp [IntKind.wrap, IntKind.bits, IntKind.signed]
  rw [h]
  omega
theorem adds_w32 {h v : List Int} (hh : W32 h) : ∀ i, W32 (addsI h v i)
  | 0 => hh
  | i + 1 => fun x hx => by
    rcases List.mem_or_eq_of_mem_set hx with h1 | h1
    · exact adds_w32 hh i x h1
    · rw [h1]; exact wrap32 _
theorem HS.write_w32 (p : List Nat) : ∀ {s : HS}, W32 s.h → W32 (s.write p).h := by
  induction p with
  | nil => intro s h; exact h
  | cons b r ih =>
    intro s h
    refine ih (s := s.put b) ?_
    simp only [HS.put]
    split
    · exact adds_w32 h 8
    · exact h
theorem newH_w32 : W32 newH.h := by unfold W32 newH; decide
/-! ### A word's bytes -/
theorem or_nat {a b : Nat} (ha : a < 4294967296) (hb : b < 4294967296) : or32 (a : Int) (b : Int) = ((a ||| b : Nat) : Int) := by
  have h1 : (BitVec.ofInt 32 (a : Int)) = BitVec.ofNat 32 a := by rw [BitVec.ofInt_natCast]
  have h2 : (BitVec.ofInt 32 (b : Int)) = BitVec.ofNat 32 b := by rw [BitVec.ofInt_natCast]
  have hw : ∀ x : Int, IntKind.u32.wrap x = x % 4294967296 := fun x => by simp [IntKind.wrap, IntKind.bits, IntKind.signed]
  have hlt : a ||| b < 4294967296 := Nat.or_lt_two_pow (n := 32) ha hb
  show IntKind.u32.wrap (((BitVec.ofInt 32 (a : Int)) ||| (BitVec.ofInt 32 (b : Int))).toNat : Int) = _
  rw [h1, h2, BitVec.toNat_or, BitVec.toNat_ofNat, BitVec.toNat_ofNat, Nat.mod_eq_of_lt ha, Nat.mod_eq_of_lt hb, hw]
  omega
def by4 (x : Int) : List Nat := [(IntKind.u8.wrap (x / 16777216)).toNat, (IntKind.u8.wrap (x / 65536)).toNat, (IntKind.u8.wrap (x / 256)).toNat, (IntKind.u8.wrap x).toNat]
theorem wrap8 (x : Int) : IntKind.u8.wrap x = x % 256 := by simp [IntKind.wrap, IntKind.bits, IntKind.signed]
theorem or4 {a b c d : Nat} (ha : a < 256) (hb : b < 256) (hc : c < 256) (hd : d < 256) : or32 (or32 (or32 ((a * 16777216 : Nat) : Int) ((b * 65536 : Nat) : Int)) ((c * 256 : Nat) : Int)) (d : Int) = ((a * 16777216 + b * 65536 + c * 256 + d : Nat) : Int) := by
  have e1 := Nat.two_pow_add_eq_or_of_lt (i := 24) (b := b * 65536) (by omega) a
  rw [or_nat (by omega) (by omega), show a * 16777216 ||| b * 65536 = a * 16777216 + b * 65536 by rw [show a * 16777216 = 2 ^ 24 * a by omega, ← e1]]
  have e2 := Nat.two_pow_add_eq_or_of_lt (i := 16) (b := c * 256) (by omega) (a * 256 + b)
  rw [or_nat (by omega) (by omega), show a * 16777216 + b * 65536 ||| c * 256 = a * 16777216 + b * 65536 + c * 256 by rw [show a * 16777216 + b * 65536 = 2 ^ 16 * (a * 256 + b) by omega, ← e2]]
  have e3 := Nat.two_pow_add_eq_or_of_lt (i := 8) (b := d) (by omega) (a * 65536 + b * 256 + c)
  rw [or_nat (by omega) (by omega), show a * 16777216 + b * 65536 + c * 256 ||| d = a * 16777216 + b * 65536 + c * 256 + d by rw [show a * 16777216 + b * 65536 + c * 256 = 2 ^ 8 * (a * 65536 + b * 256 + c) by omega, ← e3]]
theorem word_by4 {x : Int} (h : 0 ≤ x ∧ x < 4294967296) (l r : List Nat) (at' : Nat) (hl : l.length = at') : wordI (l ++ (by4 x ++ r)) at' = x := by
  subst hl
  have g : ∀ j, (l ++ (by4 x ++ r)).getD (l.length + j) 0 = (by4 x ++ r).getD j 0 := fun j => by simp [List.getD, List.getElem?_append_right]
  have g0 := g 0
  unfold wordI
  rw [Nat.add_zero] at g0
  rw [g0, g 1, g 2, g 3]
  obtain ⟨n, rfl⟩ := Int.eq_ofNat_of_zero_le h.1
  simp only [by4, List.cons_append, List.getD_cons_zero, List.getD_cons_succ, wrap8]
  rw [or4 (by omega) (by omega) (by omega) (by omega)]
  omega
theorem sumB_eq (h : List Int) : sumB h = (h.map by4).flatten := rfl
theorem sumB_len : ∀ h : List Int, (sumB h).length = 4 * h.length
  | [] => rfl
  | x :: r => by rw [sumB_eq, List.map_cons, List.flatten_cons, List.length_append, ← sumB_eq, sumB_len r]; simp [by4]; omega
theorem sumB_byte (h : List Int) : ∀ x ∈ sumB h, x < 256 := fun x hx => by
  rw [sumB_eq] at hx
  obtain ⟨l, hl, hx⟩ := List.mem_flatten.1 hx
  obtain ⟨y, _, rfl⟩ := List.mem_map.1 hl
  simp only [by4, wrap8, List.mem_cons, List.not_mem_nil, or_false] at hx
  omega
theorem word_sum : ∀ (h : List Int) (i : Nat), W32 h → i < h.length → wordI (sumB h) (4 * i) = h.getD i 0 := fun h i hw hi => by
  have e : h = h.take i ++ (h[i] :: h.drop (i + 1)) := by rw [List.getElem_cons_drop]; exact (List.take_append_drop i h).symm
  have hb : sumB h = sumB (h.take i) ++ (by4 h[i] ++ sumB (h.drop (i + 1))) := by
    conv => lhs; rw [e]
    simp only [sumB_eq, List.map_append, List.map_cons, List.flatten_append, List.flatten_cons]
  rw [hb, word_by4 (hw _ (List.getElem_mem hi)) _ _ _ (by rw [sumB_len, List.length_take]; omega)]
  simp [List.getD, hi]
/-! ### Digests -/
theorem dig_eq (p : List Nat) (h : p.length < 18446744073709551616) : dig p = sumB (newH.write (p ++ padL p.length)).h := by
  rw [dig, HS.sum, newH_n p h, HS.write_app]
theorem dig_len (p : List Nat) : (dig p).length = 32 := by
  rw [dig, HS.sum, sumB_len]
  have : ∀ (p : List Nat) (s : HS), s.h.length = 8 → (s.write p).h.length = 8 := fun p => by
    induction p with
    | nil => intro s h; exact h
    | cons b r ih =>
      intro s h
      refine ih (s.put b) ?_
      simp only [HS.put]
      split
      · rw [pressI, addsI_len, h]
      · exact h
  rw [this _ _ (this _ _ rfl)]
/-- Behind a digest and its pad. -/
def resumeH (d : List Nat) (n : Nat) : HS := ⟨(List.range 8).map fun i => wordI d (4 * i), n, List.replicate 64 0⟩
theorem resume_like (p : List Nat) (h : p.length + (padL p.length).length < 18446744073709551616) : (resumeH (dig p) (p.length + (padL p.length).length)).like (newH.write (p ++ padL p.length)) := by
  have hn := newH_n (p ++ padL p.length) (by rw [List.length_append]; exact h)
  rw [List.length_append] at hn
  have h64 : (p.length + (padL p.length).length) % 64 = 0 := by rw [padL_len, padK]; omega
  have hl8 : (newH.write (p ++ padL p.length)).h.length = 8 := by
    have := dig_len p
    rw [dig_eq p (by omega), sumB_len] at this
    omega
  have hw := HS.write_w32 (p ++ padL p.length) newH_w32
  refine ⟨?_, hn.symm, by simp [resumeH], ?_, fun i hi => ?_⟩
  · simp only [resumeH]
    rw [dig_eq p (by omega)]
    generalize (newH.write (p ++ padL p.length)).h = hh at *
    apply List.ext_getElem
    · simp [hl8]
    · intro i h1 h2
      simp only [List.length_map, List.length_range] at h1
      rw [List.getElem_map, List.getElem_range, word_sum hh i hw h2]
      simp [List.getD, h2]
  · have : ∀ (q : List Nat) (s : HS), s.left.length = 64 → (s.write q).left.length = 64 := fun q => by
      induction q with
      | nil => intro s h; exact h
      | cons b r ih => intro s h; exact ih (s.put b) (by simp [HS.put, h])
    exact this _ _ rfl
  · simp only [resumeH] at hi
    omega
theorem extends_plain (p q : List Nat) (h : p.length + (padL p.length).length < 18446744073709551616) : ((resumeH (dig p) (p.length + (padL p.length).length)).write q).sum = dig (p ++ padL p.length ++ q) := by
  rw [HS.like_sum (HS.like_write q (resume_like p h)), dig, ← HS.write_app]
end Go.Proofs.YtlpalhagndmpjaaDoor
namespace Go.Proofs.YtlpalhagndmpjaaDoor
open Go.RowKit
set_option linter.unusedVariables false
set_option maxRecDepth 100000
set_option linter.unusedSimpArgs false
set_option maxRecDepth 100000 in
set_option maxHeartbeats 4000000 in
theorem pad_c (n : Nat) (hn : n < 18446744073709551616) (w : World) : Calls Tryd.prog 29 [.int .u64 (n : Int)].toArray w (RetO (fun v => v) (fun v oa => OwnB 5 v (padK n + 9) (padL n) oa) w) := by
  refine fn_own (N := _) Tryd.func29 rfl Tryd.ntmps29 Tryd.results29 (by simp) ?_
  simp only [initS, Nat.reduceAdd, Nat.zero_add]
  repeat' (first | (refine wlS ?_) | (refine wlB ?_) | (refine wlE ?_) | (refine efSvao ?_; intro v oa ho) | (refine wl_skip rfl rfl ?_) | ((with_reducible refine wc_seq ?_); intro K hK) | (refine auC ?_) | (refine wc_cond rfl (fun hc => ?_) (fun hc => ?_)) | (refine wc_draw (by kernel_rfl) (by kernel_rfl) (by decide +kernel) ?_; intro w0 hw0 hm0; (try simp only [List.append_eq, List.cons_append, List.nil_append])) | (refine auP ?_) | ((refine auR ?_); clear hK K) | (refine auR ?_) | ((with_reducible refine hK _ _ ?_); clear hK K) | fail)
  refine wc_loop (σ := Nat × Value × Blks) (fun x => [(0, .int .u64 (n : Int)), (3, x.2.1)]) (fun x => x.2.2)
    (fun x => x.1 ≤ padK n ∧ OwnB 5 x.2.1 (1 + x.1) ([128] ++ List.replicate x.1 0) x.2.2) (fun x => padK n - x.1) (0, v, oa) ⟨Nat.zero_le _, ho⟩ (Fits.of ⟨rfl, rfl, trivial⟩ (SubL.refl _) rfl) ?_
  clear ho v oa
  rintro ⟨k, v, oa⟩ ⟨hk, ho⟩
  dsimp only at hk ho
  have hp := padK_lt n
  have hc : IntKind.u64.wrap ((1 + k : Nat) : Int) = ((1 + k : Nat) : Int) := by rw [wrapU]; omega
  have ha : IntKind.u64.wrap ((n : Int) + ((1 + k : Nat) : Int)) = (((n + (1 + k)) % 18446744073709551616 : Nat) : Int) := by rw [← wrapU]; congr 1
  have hr : ((((n + (1 + k)) % 18446744073709551616 : Nat) : Int)).tmod 64 = (((n + (1 + k)) % 64 : Nat) : Int) := by rw [rem_nn _ _ (by omega)]; omega
  by_cases hlt : k < padK n
  · have t1 : ((((n + (1 + k)) % 64 : Nat) : Int) != (56 : Int)) = true := by
      unfold padK at hlt hp
      rw [bne_iff_ne]; omega
    repeat' (first | (refine wlS ?_) | (refine wlB ?_) | (refine wlE ?_) | (refine efSvao ?_; intro v oa ho) | (refine wl_skip rfl rfl ?_) | ((with_reducible refine wc_seq ?_); intro K hK) | (refine auC ?_) | (refine wc_cond rfl (fun hc => ?_) (fun hc => ?_)) | (refine wc_draw (by kernel_rfl) (by kernel_rfl) (by decide +kernel) ?_; intro w0 hw0 hm0; (try simp only [List.append_eq, List.cons_append, List.nil_append])) | (refine auP ?_) | ((refine auR ?_); clear hK K) | (refine auR ?_) | ((with_reducible refine hK _ _ ?_); clear hK K) | fail)
    exact ⟨(k + 1, v, oa), ⟨hlt, by rw [List.append_assoc, rep_snoc] at ho; exact ho⟩, by dsimp only; omega, Fits.of ⟨rfl, rfl, trivial⟩ (SubL.headA _ _) rfl⟩
  · obtain rfl : k = padK n := by omega
    have t1 : ((((n + (1 + padK n)) % 64 : Nat) : Int) != (56 : Int)) = false := by
      have : (n + (1 + padK n)) % 64 = 56 := by unfold padK; omega
      rw [this]; rfl
    repeat' (first | (refine wlS ?_) | (refine wlB ?_) | (refine wlE ?_) | (refine efSvao ?_; intro v oa ho) | (refine wl_skip rfl rfl ?_) | ((with_reducible refine wc_seq ?_); intro K hK) | (refine auC ?_) | (refine wc_cond rfl (fun hc => ?_) (fun hc => ?_)) | (refine wc_draw (by kernel_rfl) (by kernel_rfl) (by decide +kernel) ?_; intro w0 hw0 hm0; (try simp only [List.append_eq, List.cons_append, List.nil_append])) | (refine auP ?_) | ((refine auR ?_); clear hK K) | (refine auR ?_) | ((with_reducible refine hK _ _ ?_); clear hK K) | fail)
    refine wc_loop (σ := Nat × Value × Blks) (fun x => [(0, .int .u64 (n : Int)), (3, x.2.1), (16, .int .i64 (x.1 : Int))]) (fun x => x.2.2)
      (fun x => x.1 ≤ 8 ∧ OwnB 5 x.2.1 (1 + padK n + x.1) ([128] ++ List.replicate (padK n) 0 ++ (List.range x.1).map fun i => 8 * n % 18446744073709551616 / 2 ^ (56 - 8 * i) % 256) x.2.2) (fun x => 8 - x.1) (0, v, oa)
      ⟨Nat.zero_le _, by simpa using ho⟩ (Fits.of ⟨rfl, rfl, rfl, trivial⟩ (SubL.refl _) rfl) ?_
    clear ho v oa hc ha hr t1 hlt
    rintro ⟨k, v, oa⟩ ⟨hk8, ho⟩
    dsimp only at hk8 ho
    by_cases hlt : k < 8
    · have t1 : decide ((k : Int) < 8) = true := decide_eq_true (by omega)
      have h8 : IntKind.u64.wrap (8 * (n : Int)) = ((8 * n % 18446744073709551616 : Nat) : Int) := by rw [← wrapU]; rfl
      have hs : IntKind.u64.wrap (56 - 8 * (k : Int)) = ((56 - 8 * k : Nat) : Int) := by rw [show (56 - 8 * (k : Int)) = ((56 - 8 * k : Nat) : Int) by omega, wrapU]; omega
      have hsh : (((8 * n % 18446744073709551616 : Nat) : Int)) / 2 ^ (min (((56 - 8 * k : Nat) : Int).toNat) IntKind.u64.bits) = ((8 * n % 18446744073709551616 / 2 ^ (56 - 8 * k) : Nat) : Int) := by
        rw [Int.toNat_natCast, Nat.min_eq_left (by simp [IntKind.bits]; omega)]; norm_cast
      have hb : IntKind.u8.wrap ((8 * n % 18446744073709551616 / 2 ^ (56 - 8 * k) : Nat) : Int) = ((8 * n % 18446744073709551616 / 2 ^ (56 - 8 * k) % 256 : Nat) : Int) := wrapB _
      have hk1 : IntKind.i64.wrap ((k : Int) + 1) = ((k + 1 : Nat) : Int) := wrap_i64 _ (by omega) (by omega)
      repeat' (first | (refine wlS ?_) | (refine wlB ?_) | (refine wlE ?_) | (refine efSvao ?_; intro v oa ho) | (refine wl_skip rfl rfl ?_) | ((with_reducible refine wc_seq ?_); intro K hK) | (refine auC ?_) | (refine wc_cond rfl (fun hc => ?_) (fun hc => ?_)) | (refine wc_draw (by kernel_rfl) (by kernel_rfl) (by decide +kernel) ?_; intro w0 hw0 hm0; (try simp only [List.append_eq, List.cons_append, List.nil_append])) | (refine auP ?_) | ((refine auR ?_); clear hK K) | (refine auR ?_) | ((with_reducible refine hK _ _ ?_); clear hK K) | fail)
      exact ⟨(k + 1, v, oa), ⟨hlt, by rw [List.append_assoc, range_snoc (f := fun i => 8 * n % 18446744073709551616 / 2 ^ (56 - 8 * i) % 256)] at ho; exact ho⟩, by dsimp only; omega, Fits.of ⟨rfl, rfl, rfl, trivial⟩ (SubL.headA _ _) rfl⟩
    · obtain rfl : k = 8 := by omega
      have t1 : decide (((8 : Nat) : Int) < 8) = false := by decide
      have hpl : padK n + 9 = 1 + padK n + 8 := by omega
      have hpp : padL n = [128] ++ List.replicate (padK n) 0 ++ (List.range 8).map fun i => 8 * n % 18446744073709551616 / 2 ^ (56 - 8 * i) % 256 := by rw [List.append_assoc]; rfl
      repeat' (first | (refine wlS ?_) | (refine wlB ?_) | (refine wlE ?_) | (refine efSvao ?_; intro v oa ho) | (refine wl_skip rfl rfl ?_) | ((with_reducible refine wc_seq ?_); intro K hK) | (refine auC ?_) | (refine wc_cond rfl (fun hc => ?_) (fun hc => ?_)) | (refine wc_draw (by kernel_rfl) (by kernel_rfl) (by decide +kernel) ?_; intro w0 hw0 hm0; (try simp only [List.append_eq, List.cons_append, List.nil_append])) | (refine auP ?_) | ((refine auR ?_); clear hK K) | (refine auR ?_) | ((with_reducible refine hK _ _ ?_); clear hK K) | fail)
      first | refine end_ret (ResP.tmp rfl ResP.nil) ?_ | refine end_normal (ResP.tmp rfl ResP.nil) ?_
      (try dsimp only [tupV])
      exact ⟨_, _, rfl, by rw [hpl, hpp]; exact ho, SubL.refl _⟩
end Go.Proofs.YtlpalhagndmpjaaDoor
namespace Go.Proofs.YtlpalhagndmpjaaDoor
open Go.RowKit
set_option linter.unusedVariables false
set_option maxRecDepth 100000
set_option linter.unusedSimpArgs false
theorem set4 {α : Type} (A R : List α) (a b c d z0 z1 z2 z3 : α) (k : Nat) (hk : A.length = k) :
    ((((A ++ z0 :: z1 :: z2 :: z3 :: R).set k a).set (k + 1) b).set (k + 2) c).set (k + 3) d = (A ++ [a, b, c, d]) ++ R := by
  subst hk
  simp [List.set_append_right]
/-- So far: the first i words' bytes, noughts behind. -/
def outB (h : List Int) (i : Nat) : List Nat := sumB (h.take i) ++ List.replicate (32 - 4 * i) 0
theorem outB_len (h : List Int) (hh : h.length = 8) {i : Nat} (hi : i ≤ 8) : (outB h i).length = 32 := by
  rw [outB, List.length_append, sumB_len, List.length_take, List.length_replicate]; omega
theorem outB_step (h : List Int) (hh : h.length = 8) {i : Nat} (hi : i < 8) {a b c d : Nat} (he : by4 (h.getD i 0) = [a, b, c, d]) :
    ((((outB h i).set (4 * i) a).set (4 * i + 1) b).set (4 * i + 2) c).set (4 * i + 3) d = outB h (i + 1) := by
  have e1 : List.replicate (32 - 4 * i) 0 = 0 :: 0 :: 0 :: 0 :: List.replicate (32 - 4 * (i + 1)) 0 := by
    rw [show 32 - 4 * i = 32 - 4 * (i + 1) + 1 + 1 + 1 + 1 by omega]; rfl
  have e2 : h.take (i + 1) = h.take i ++ [h.getD i 0] := by
    rw [List.take_add_one, List.getElem?_eq_getElem (by omega)]; simp [List.getD, (by omega : i < h.length)]
  rw [outB, e1, set4 _ _ a b c d _ _ _ _ (4 * i) (by rw [sumB_len, List.length_take]; omega), outB, e2]
  congr 1
  rw [sumB_eq, sumB_eq, List.map_append, List.flatten_append, List.map_cons, List.map_nil, List.flatten_cons, List.flatten_nil, List.append_nil, he]
/-- So many bytes. -/
class NBy (l : List Nat) (n : outParam Nat) : Prop where
  out : l.length = n
instance {l : List Nat} {n i k : Nat} [h : NBy l n] : NBy (l.set i k) n := ⟨by rw [List.length_set, h.out]⟩
instance {n x : Nat} : NBy (List.replicate n x) n := ⟨by simp⟩
instance {l : List Nat} {n : Nat} [h : NBy l n] : Cells (bys l) n := ⟨(seg_bys h.out).size, (seg_bys h.out).one⟩
instance {l : List Nat} {n : Nat} [h : NBy l n] : SegL (bys l) n := seg_bys h.out
instance : ZC Tryd.prog 40 (bys (List.replicate 32 0)) := ⟨by kernel_rfl⟩
theorem padL_byte (n : Nat) : ∀ x ∈ padL n, x < 256 := fun x hx => by
  rcases List.mem_cons.1 hx with rfl | hx
  · decide
  · rcases List.mem_append.1 hx with h | h
    · rw [(List.mem_replicate.1 h).2]; decide
    · obtain ⟨i, _, rfl⟩ := List.mem_map.1 h
      exact Nat.mod_lt _ (by decide)
set_option maxRecDepth 100000 in
set_option maxHeartbeats 8000000 in
theorem sum_c (w : World) (hT : Tab w) {s : HS} (hs : s.ok) : Calls Tryd.prog 27 [hv s].toArray w (Ret (.agg (bys s.sum)) w) := by
  haveI : HSo s := ⟨hs⟩
  obtain ⟨o1, o2, o3, o4⟩ := id hs
  have P1 := fun w' => pad_c s.n o2 w'
  have W1 : ∀ w' v, Below w.heap.size w w' → Cb w' v (padK s.n + 9) (padL s.n) → Calls Tryd.prog 26 [hv s, v].toArray w' (Ret (hv (s.write (padL s.n))) w') := fun w' v hb hv => write_c w' (hT.below hb) hs hv
  have hpb : ∀ x ∈ padL s.n, x < 256 := padL_byte s.n
  have hs2 : (s.write (padL s.n)).ok := HS.write_ok hpb hs
  have hsum : s.sum = sumB (s.write (padL s.n)).h := rfl
  rw [hsum]
  generalize s.write (padL s.n) = t at *
  haveI : HSo t := ⟨hs2⟩
  obtain ⟨q1, q2, q3, q4⟩ := hs2
  have hlast : sumB t.h = outB t.h 8 := by rw [outB, List.take_of_length_le (by omega)]; simp
  rw [hlast]
  clear hT hpb hsum hlast hs
  refine fn_ret (N := _) Tryd.func27 rfl Tryd.ntmps27 Tryd.results27 (by simp) ?_
  simp only [initS, Nat.reduceAdd, Nat.zero_add]
  repeat' (first | (refine wlS ?_) | (refine wlG ?_) | (refine wlB ?_) | ((with_reducible refine sel_call ?_); refine wl_rd rfl rfl (rd_call rfl rfl rfl (fun w hm => by with_reducible exact W1 w _ (hm.below rfl) (VwB.out w hm))) ?_) | (refine wlE ?_) | (refine efSvao ?_; intro v oa ho) | (refine efG ?_) | (refine efGnn ?_; intro n hn) | (refine efZCnn ?_; intro n hn) | ((with_reducible refine sel_call ?_); first | (refine wl_newO rfl rfl rfl rfl rfl (fun w hm => by with_reducible exact P1 w) ?_; intro x oa hx)) | (refine efBnn ?_; intro n hn) | (refine efB ?_) | (refine efBS ?_) | (refine wl_skip rfl rfl ?_) | ((with_reducible refine wc_seq ?_); intro K hK) | (refine auC ?_) | (refine wc_cond rfl (fun hc => ?_) (fun hc => ?_)) | ((with_reducible refine wc_drawT (by kernel_rfl) ?_); (try simp only [List.append_eq, List.cons_append, List.nil_append, List.length_cons, List.length_nil, Nat.reduceAdd])) | ((with_reducible refine sel_wh ?_); (refine wh_if (by decide +kernel) ?_); first | (refine wh_take (lq := []) rfl rfl rfl rfl (by first | exact rvS | exact rvG | exact rvB | exact rvE) (Or.inl rfl) ?_) | (refine wh_takeL rfl rfl rfl rfl (by first | exact rvS | exact rvG | exact rvB | exact rvE) (by decide +kernel) ?_)) | (refine whS ?_; intro v hv hp) | ((with_reducible refine sel_wh ?_); first | (refine wh_pass rfl rfl rfl rfl ?_) | (refine wh_done rfl ?_) | (refine wh_all rfl ?_)) | ((with_reducible refine sel_rest ?_); first | exact rest_nil rfl | refine rest_cons rfl rfl ?_ ?_) | ((with_reducible refine sel_nx ?_); first | refine next_of ?_ | refine next_late (by decide +kernel) ?_) | (refine auP ?_) | ((refine auR ?_); clear hK K) | (refine auR ?_) | ((with_reducible refine hK _ _ ?_); clear hK K) | fail)
  rename_i n1 hn1 n2 hn2
  have e0 : outB t.h 0 = List.replicate 32 0 := rfl
  refine wc_loop (σ := Nat) (fun i => [(2, ptr n2), (3, ptr n), (12, .agg (iw t.h)), (13, .int .i64 (i : Int))])
    (fun i => [(n, (bys (outB t.h i), 40)), (n2, (bys (List.replicate 32 0), 40))])
    (fun i => i ≤ 8) (fun i => 8 - i) 0 (Nat.zero_le _) (Fits.of ⟨rfl, rfl, rfl, rfl, trivial⟩ (by rw [e0]; exact .keep (.keep .nil)) rfl) ?_
  intro i hi
  haveI : NBy (outB t.h i) 32 := ⟨outB_len t.h q1 hi⟩
  by_cases hlt : i < 8
  · have t1 : decide ((i : Int) < 8) = true := decide_eq_true (by omega)
    have k1 : IntKind.i64.wrap ((i : Int) + 1) = ((i + 1 : Nat) : Int) := by rw [wrap_i64 _ (by omega) (by omega)]; omega
    have k4 : IntKind.i64.wrap (4 * (i : Int)) = ((4 * i : Nat) : Int) := by rw [wrap_i64 _ (by omega) (by omega)]; omega
    have k5 : IntKind.i64.wrap (((4 * i : Nat) : Int) + 1) = ((4 * i + 1 : Nat) : Int) := by rw [wrap_i64 _ (by omega) (by omega)]; omega
    have k6 : IntKind.i64.wrap (((4 * i : Nat) : Int) + 2) = ((4 * i + 2 : Nat) : Int) := by rw [wrap_i64 _ (by omega) (by omega)]; omega
    have k7 : IntKind.i64.wrap (((4 * i : Nat) : Int) + 3) = ((4 * i + 3 : Nat) : Int) := by rw [wrap_i64 _ (by omega) (by omega)]; omega
    have j0 : (i : Int) < ((8 : Nat) : Int) := by omega
    have j1 : ((4 * i : Nat) : Int) < ((32 : Nat) : Int) := by omega
    have j2 : ((4 * i + 1 : Nat) : Int) < ((32 : Nat) : Int) := by omega
    have j3 : ((4 * i + 2 : Nat) : Int) < ((32 : Nat) : Int) := by omega
    have j4 : ((4 * i + 3 : Nat) : Int) < ((32 : Nat) : Int) := by omega
    have g : (iw t.h)[((i : Nat) : Int).toNat]? = some (.int .u32 (t.h.getD i 0)) := iw_get (l := t.h) (i := i) (by omega)
    have hst := fun a b c d => outB_step t.h q1 hlt (a := a) (b := b) (c := c) (d := d)
    generalize t.h.getD i 0 = x at *
    have s24 : x / 2 ^ (min ((24 : Int).toNat) IntKind.u32.bits) = x / 16777216 := rfl
    have s16 : x / 2 ^ (min ((16 : Int).toNat) IntKind.u32.bits) = x / 65536 := rfl
    have s8 : x / 2 ^ (min ((8 : Int).toNat) IntKind.u32.bits) = x / 256 := rfl
    obtain ⟨a, ha⟩ : ∃ a : Nat, IntKind.u8.wrap (x / 16777216) = (a : Int) := ⟨_, (Int.toNat_of_nonneg (by rw [wrap8]; omega)).symm⟩
    obtain ⟨b, hb⟩ : ∃ a : Nat, IntKind.u8.wrap (x / 65536) = (a : Int) := ⟨_, (Int.toNat_of_nonneg (by rw [wrap8]; omega)).symm⟩
    obtain ⟨c, hc⟩ : ∃ a : Nat, IntKind.u8.wrap (x / 256) = (a : Int) := ⟨_, (Int.toNat_of_nonneg (by rw [wrap8]; omega)).symm⟩
    obtain ⟨d, hd⟩ : ∃ a : Nat, IntKind.u8.wrap x = (a : Int) := ⟨_, (Int.toNat_of_nonneg (by rw [wrap8]; omega)).symm⟩
    replace hst := hst a b c d (by rw [by4, ha, hb, hc, hd]; rfl)
    clear hi
    repeat' (first | (refine wlS ?_) | (refine wlB ?_) | (refine efBnn ?_; intro n hn) | (refine efB ?_) | (refine efBS ?_) | (refine wl_skip rfl rfl ?_) | (refine wdS ?_) | (refine wdV ?_) | (refine wdB ?_) | (refine wdE ?_) | (refine wdT ?_) | (refine wdTO ?_) | (refine wd_skip rfl rfl ?_) | ((with_reducible refine seld_nil ?_); refine wd_nil hm0 ?_; clear hm0 hw0) | ((with_reducible refine wc_seq ?_); intro K hK) | (refine auC ?_) | (refine wc_cond rfl (fun hc => ?_) (fun hc => ?_)) | (refine wc_draw (by kernel_rfl) (by kernel_rfl) (by decide +kernel) ?_; intro w0 hw0 hm0; (try simp only [List.append_eq, List.cons_append, List.nil_append])) | (refine auP ?_) | ((refine auR ?_); clear hK K) | (refine auR ?_) | ((with_reducible refine hK _ _ ?_); clear hK K) | fail)
    exact ⟨i + 1, hlt, by omega, Fits.of ⟨rfl, rfl, rfl, rfl, trivial⟩ (by rw [← hst]; exact SubL.refl _) rfl⟩
  · obtain rfl : i = 8 := by omega
    have t1 : decide (((8 : Nat) : Int) < 8) = false := by decide
    repeat' (first | (refine wlS ?_) | (refine wlB ?_) | (refine efBnn ?_; intro n hn) | (refine efB ?_) | (refine efBS ?_) | (refine wl_skip rfl rfl ?_) | (refine wdS ?_) | (refine wdV ?_) | (refine wdB ?_) | (refine wdE ?_) | (refine wdT ?_) | (refine wdTO ?_) | (refine wd_skip rfl rfl ?_) | ((with_reducible refine seld_nil ?_); refine wd_nil hm0 ?_; clear hm0 hw0) | ((with_reducible refine wc_seq ?_); intro K hK) | (refine auC ?_) | (refine wc_cond rfl (fun hc => ?_) (fun hc => ?_)) | (refine wc_draw (by kernel_rfl) (by kernel_rfl) (by decide +kernel) ?_; intro w0 hw0 hm0; (try simp only [List.append_eq, List.cons_append, List.nil_append])) | (refine auP ?_) | ((refine auR ?_); clear hK K) | (refine auR ?_) | ((with_reducible refine hK _ _ ?_); clear hK K) | fail)
    first | refine end_ret (ResP.cell rfl ld_whole ResP.nil) ?_ | refine end_normal (ResP.cell rfl ld_whole ResP.nil) ?_
    first | rfl | (show _ = _; rfl) | (simp only [tupV, *]; done)
end Go.Proofs.YtlpalhagndmpjaaDoor
