/- AES in plain terms: states as lists of 16 bytes; decrypting is back from encrypting. -/
import Derived.Test.YtdmmbkhnhfcmcaaGfAll
namespace Go.Proofs.Ytdmmbkhnhfcmcaa
set_option linter.unusedVariables false
theorem gd16 {f : Nat → Nat} {i : Nat} (h : i < 16) : ((List.range 16).map f).getD i 0 = f i := by
  simp [List.getD, h]
theorem ext16 {a b : List Nat} (ha : a.length = 16) (hb : b.length = 16) (h : ∀ i, i < 16 → a.getD i 0 = b.getD i 0) : a = b := by
  refine List.ext_getElem (by omega) fun i h1 h2 => ?_
  have := h i (by omega)
  simpa [List.getD, h1, h2] using this
structure B16 (b : List Nat) : Prop where
  len : b.length = 16
  lt : ∀ i, b.getD i 0 < 256
theorem B16.map {f : Nat → Nat} (h : ∀ i, i < 16 → f i < 256) : B16 ((List.range 16).map f) := ⟨by simp, fun i => by
  by_cases hi : i < 16
  · rw [gd16 hi]; exact h i hi
  · simp [List.getD, hi]⟩
theorem B16.of {b : List Nat} (hl : b.length = 16) (h : ∀ x ∈ b, x < 256) : B16 b := ⟨hl, fun i => by
  rw [List.getD_eq_getElem?_getD]
  cases hx : b[i]? with
  | none => simp
  | some x => exact h x (List.mem_of_getElem? hx)⟩
theorem B16.byl {b : List Nat} (h : B16 b) : ∀ x ∈ b, x < 256 := fun x hx => by
  obtain ⟨i, hi, rfl⟩ := List.mem_iff_getElem.1 hx
  have := h.lt i
  simpa [List.getD, hi] using this
/-- A round's key is put to it. -/
def addK (W : List Nat) (r : Nat) (b : List Nat) : List Nat := (List.range 16).map fun i => b.getD i 0 ^^^ W.getD (16 * r + i) 0
def subL (b : List Nat) : List Nat := (List.range 16).map fun i => gsub (b.getD ((i + i % 4 * 4) % 16) 0)
def unsubL (b : List Nat) : List Nat := (List.range 16).map fun i => gunsub (b.getD ((i + i % 4 * 12) % 16) 0)
def mixL (B : Nat → Nat) (b : List Nat) : List Nat := (List.range 16).map fun i => colf B (fun j => b.getD (i / 4 * 4 + j) 0) (i % 4)
structure KOk (W : List Nat) : Prop where
  lt : ∀ i, W.getD i 0 < 256
theorem addK_ok {W : List Nat} (hW : KOk W) {r : Nat} {b : List Nat} (hb : B16 b) : B16 (addK W r b) := B16.map fun i hi => xor_lt (hb.lt i) (hW.lt _)
theorem subL_ok {b : List Nat} (hb : B16 b) : B16 (subL b) := B16.map fun i hi => gsub_lt _ (hb.lt _)
theorem unsubL_ok {b : List Nat} (hb : B16 b) : B16 (unsubL b) := B16.map fun i hi => gunsub_lt _ (hb.lt _)
theorem mixL_ok {B : Nat → Nat} (hB : ∀ j, B j < 256) {b : List Nat} : B16 (mixL B b) := B16.map fun i hi => colf_lt hB _ _
theorem addK_addK {W : List Nat} (r : Nat) {b : List Nat} (hb : b.length = 16) : addK W r (addK W r b) = b := by
  refine ext16 (by simp [addK]) hb fun i hi => ?_
  rw [addK, gd16 hi, addK, gd16 hi, Nat.xor_assoc, Nat.xor_self, Nat.xor_zero]
theorem addK_inj {W : List Nat} (r : Nat) {a b : List Nat} (ha : a.length = 16) (hb : b.length = 16) (h : addK W r a = addK W r b) : a = b := by
  rw [← addK_addK (W := W) r ha, h, addK_addK r hb]
theorem unsub_sub {b : List Nat} (hb : B16 b) : unsubL (subL b) = b := by
  refine ext16 (by simp [unsubL]) hb.len fun i hi => ?_
  rw [unsubL, gd16 hi, subL, gd16 (Nat.mod_lt _ (by decide)), law1 _ (hb.lt _)]
  congr 1
  omega
theorem sub_unsub {b : List Nat} (hb : B16 b) : subL (unsubL b) = b := by
  refine ext16 (by simp [subL]) hb.len fun i hi => ?_
  rw [subL, gd16 hi, unsubL, gd16 (Nat.mod_lt _ (by decide)), law2 _ (hb.lt _)]
  congr 1
  omega
theorem mix_get {B : Nat → Nat} {b : List Nat} {i j : Nat} (hi : i < 16) (hj : j < 4) : (mixL B b).getD (i / 4 * 4 + j) 0 = colf B (fun k => b.getD (i / 4 * 4 + k) 0) j := by
  rw [mixL, gd16 (by omega), show (i / 4 * 4 + j) / 4 = i / 4 by omega, show (i / 4 * 4 + j) % 4 = j by omega]
theorem unmix_mix {b : List Nat} (hb : B16 b) : mixL unB (mixL mixB b) = b := by
  refine ext16 (by simp [mixL]) hb.len fun i hi => ?_
  rw [mixL, gd16 hi, colf_congr (fun j hj => mix_get hi hj), un_mix (fun j => hb.lt _) _ (Nat.mod_lt _ (by decide))]
  congr 1
  omega
theorem mix_unmix {b : List Nat} (hb : B16 b) : mixL mixB (mixL unB b) = b := by
  refine ext16 (by simp [mixL]) hb.len fun i hi => ?_
  rw [mixL, gd16 hi, colf_congr (fun j hj => mix_get hi hj), mix_un (fun j => hb.lt _) _ (Nat.mod_lt _ (by decide))]
  congr 1
  omega
/-- Behind n rounds of R. -/
def encN (W : List Nat) (R : Nat) (b : List Nat) : Nat → List Nat
  | 0 => addK W 0 b
  | n + 1 => addK W (n + 1) (if n + 1 < R then mixL mixB (subL (encN W R b n)) else subL (encN W R b n))
def encL (W : List Nat) (R : Nat) (b : List Nat) : List Nat := encN W R b R
/-- With k rounds taken off. -/
def decN (W : List Nat) (R : Nat) (b : List Nat) : Nat → List Nat
  | 0 => b
  | k + 1 => unsubL (if R - k < R then mixL unB (addK W (R - k) (decN W R b k)) else addK W (R - k) (decN W R b k))
def decL (W : List Nat) (R : Nat) (b : List Nat) : List Nat := addK W 0 (decN W R b R)
theorem encN_ok {W : List Nat} (hW : KOk W) {R : Nat} {b : List Nat} (hb : B16 b) : ∀ n, B16 (encN W R b n)
  | 0 => addK_ok hW hb
  | n + 1 => by
    rw [encN]
    refine addK_ok hW ?_
    split
    · exact mixL_ok mixB_lt
    · exact subL_ok (encN_ok hW hb n)
theorem decN_ok {W : List Nat} (hW : KOk W) {R : Nat} {b : List Nat} (hb : B16 b) : ∀ n, B16 (decN W R b n)
  | 0 => hb
  | n + 1 => by
    rw [decN]
    refine unsubL_ok ?_
    split
    · exact mixL_ok unB_lt
    · exact addK_ok hW (decN_ok hW hb n)
theorem encL_ok {W : List Nat} (hW : KOk W) {R : Nat} {b : List Nat} (hb : B16 b) : B16 (encL W R b) := encN_ok hW hb R
theorem decL_ok {W : List Nat} (hW : KOk W) {R : Nat} {b : List Nat} (hb : B16 b) : B16 (decL W R b) := addK_ok hW (decN_ok hW hb R)
theorem dec_enc {W : List Nat} (hW : KOk W) {R : Nat} {b : List Nat} (hb : B16 b) : decL W R (encL W R b) = b := by
  have key : ∀ k, k ≤ R → decN W R (encL W R b) k = encN W R b (R - k) := fun k => by
    induction k with
    | zero => intro _; rfl
    | succ k ih =>
      intro hk
      obtain ⟨n, hn⟩ : ∃ n, R - k = n + 1 := ⟨R - k - 1, by omega⟩
      have hs := subL_ok (encN_ok hW hb n (R := R))
      rw [decN, ih (by omega), hn, show R - (k + 1) = n by omega, encN]
      by_cases hr : n + 1 < R
      · rw [if_pos hr, if_pos hr, addK_addK _ (mixL_ok mixB_lt).len, unmix_mix hs, unsub_sub (encN_ok hW hb n)]
      · rw [if_neg hr, if_neg hr, addK_addK _ hs.len, unsub_sub (encN_ok hW hb n)]
  rw [decL, key R (Nat.le_refl _), Nat.sub_self, encN, addK_addK _ hb.len]
theorem enc_dec {W : List Nat} (hW : KOk W) {R : Nat} {b : List Nat} (hb : B16 b) : encL W R (decL W R b) = b := by
  have key : ∀ n, n ≤ R → encN W R (decL W R b) n = decN W R b (R - n) := fun n => by
    induction n with
    | zero => intro _; rw [encN, decL, addK_addK _ (decN_ok hW hb R).len]; rfl
    | succ n ih =>
      intro hn
      obtain ⟨k, hk⟩ : ∃ k, R - n = k + 1 := ⟨R - n - 1, by omega⟩
      have ho := decN_ok hW hb k (R := R)
      rw [encN, ih (by omega), hk, decN, show R - k = n + 1 by omega, show R - (n + 1) = k by omega]
      by_cases hr : n + 1 < R
      · rw [if_pos hr, if_pos hr, sub_unsub (mixL_ok unB_lt), mix_unmix (addK_ok hW ho), addK_addK _ ho.len]
      · rw [if_neg hr, if_neg hr, sub_unsub (addK_ok hW ho), addK_addK _ ho.len]
  rw [encL, key R (Nat.le_refl _), Nat.sub_self]; rfl
theorem enc_inj {W : List Nat} (hW : KOk W) {R : Nat} {a b : List Nat} (ha : B16 a) (hb : B16 b) (h : encL W R a = encL W R b) : a = b := by
  rw [← dec_enc hW ha (R := R), h, dec_enc hW hb]
end Go.Proofs.Ytdmmbkhnhfcmcaa
