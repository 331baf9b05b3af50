/- Keys under a key, in plain Lean. -/
import Derived.Test.YtdmmbkhnhfcmcaaModePlain
namespace Go.Proofs.Ytdmmbkhnhfcmcaa
open Go.RowKit
set_option linter.unusedVariables false
set_option linter.unusedSimpArgs false
/-- The front, and eight bytes from a on. -/
def getW (o : List Nat) (a : Nat) : List Nat := o.take 8 ++ (o.drop a).take 8
def putF (o b : List Nat) : List Nat := b.take 8 ++ o.drop 8
def putB (o : List Nat) (a : Nat) (b : List Nat) : List Nat := o.take a ++ (b.drop 8 ++ o.drop (a + 8))
def puW (o : List Nat) (a : Nat) (b : List Nat) : List Nat := putB (putF o b) a b
def xor7 (b : List Nat) (t : Nat) : List Nat := b.set 7 (b.getD 7 0 ^^^ t % 256)
theorem xor7_len {b : List Nat} (h : b.length = 16) (t : Nat) : (xor7 b t).length = 16 := by rw [xor7, List.length_set, h]
theorem xor7_ok {b : List Nat} (h : B16 b) (t : Nat) : B16 (xor7 b t) := h.set (xor_lt (h.lt 7) (Nat.mod_lt _ (by decide)))
theorem xor7_twice {b : List Nat} (h : b.length = 16) (t : Nat) : xor7 (xor7 b t) t = b := by
  have h7 : 7 < b.length := by omega
  unfold xor7
  have e1 : b.getD 7 0 = b[7] := by rw [List.getD_eq_getElem?_getD, List.getElem?_eq_getElem h7]; rfl
  have e2 : (b.set 7 (b.getD 7 0 ^^^ t % 256)).getD 7 0 = b.getD 7 0 ^^^ t % 256 := by rw [List.getD_eq_getElem?_getD, List.getElem?_set_self h7]; rfl
  rw [List.set_set, e2, Nat.xor_assoc, Nat.xor_self, Nat.xor_zero, e1, List.set_getElem_self]
section
variable {o b c : List Nat} {a : Nat}
theorem putF_len (h : 8 ≤ o.length) (hb : b.length = 16) : (putF o b).length = o.length := by rw [putF, List.length_append, List.length_take, List.length_drop]; omega
theorem putB_len (h : a + 8 ≤ o.length) (hb : b.length = 16) : (putB o a b).length = o.length := by rw [putB, List.length_append, List.length_append, List.length_take, List.length_drop, List.length_drop]; omega
theorem puW_len (h8 : 8 ≤ a) (h : a + 8 ≤ o.length) (hb : b.length = 16) : (puW o a b).length = o.length := by rw [puW, putB_len (by rw [putF_len (by omega) hb]; exact h) hb, putF_len (by omega) hb]
theorem getW_len (h : a + 8 ≤ o.length) : (getW o a).length = 16 := by rw [getW, List.length_append, List.length_take, List.length_take, List.length_drop]; omega
theorem puW_get? (h8 : 8 ≤ a) (h : a + 8 ≤ o.length) (hb : b.length = 16) (i : Nat) : (puW o a b)[i]? = if i < 8 then b[i]? else if a ≤ i ∧ i < a + 8 then b[i - a + 8]? else o[i]? := by
  have hF : ∀ i, (putF o b)[i]? = if i < 8 then b[i]? else o[i]? := fun i => by
    have ht : (b.take 8).length = 8 := by rw [List.length_take]; omega
    rw [putF]
    split
    · rename_i h1; rw [List.getElem?_append_left (by omega), List.getElem?_take_of_lt h1]
    · rename_i h1; rw [List.getElem?_append_right (by omega), ht, List.getElem?_drop]; congr 1; omega
  have hl := putF_len (o := o) (by omega) hb
  have ht : ((putF o b).take a).length = a := by rw [List.length_take]; omega
  have hd : (b.drop 8).length = 8 := by rw [List.length_drop]; omega
  rw [puW, putB]
  by_cases h1 : i < a
  · rw [List.getElem?_append_left (by omega), List.getElem?_take_of_lt h1, hF]
    by_cases h2 : i < 8
    · rw [if_pos h2, if_pos h2]
    · rw [if_neg h2, if_neg h2, if_neg (by omega)]
  · rw [if_neg (by omega), List.getElem?_append_right (by omega), ht]
    by_cases h2 : i < a + 8
    · rw [if_pos ⟨by omega, h2⟩, List.getElem?_append_left (by omega), List.getElem?_drop]; congr 1; omega
    · rw [if_neg (by omega), List.getElem?_append_right (by omega), hd, List.getElem?_drop, hF, if_neg (by omega)]; congr 1; omega
theorem getW_get? (h : a + 8 ≤ o.length) {i : Nat} (hi : i < 16) : (getW o a)[i]? = if i < 8 then o[i]? else o[a + (i - 8)]? := by
  have ht : (o.take 8).length = 8 := by rw [List.length_take]; omega
  rw [getW]
  split
  · rename_i h1; rw [List.getElem?_append_left (by omega), List.getElem?_take_of_lt h1]
  · rename_i h1; rw [List.getElem?_append_right (by omega), ht, List.getElem?_take_of_lt (by omega), List.getElem?_drop]
theorem get_put (h8 : 8 ≤ a) (h : a + 8 ≤ o.length) (hb : b.length = 16) : getW (puW o a b) a = b := by
  have hl := puW_len h8 h hb
  refine List.ext_getElem? fun i => ?_
  by_cases hi : i < 16
  · rw [getW_get? (by omega) hi, puW_get? h8 h hb, puW_get? h8 h hb]
    by_cases h1 : i < 8
    · rw [if_pos h1, if_pos h1]
    · rw [if_neg h1, if_neg (by omega), if_pos (by omega)]; congr 1; omega
  · rw [List.getElem?_eq_none (by rw [getW_len (by omega)]; omega), List.getElem?_eq_none (by omega)]
theorem put_put (h8 : 8 ≤ a) (h : a + 8 ≤ o.length) (hb : b.length = 16) (hc : c.length = 16) : puW (puW o a b) a c = puW o a c := by
  have hl := puW_len h8 h hb
  refine List.ext_getElem? fun i => ?_
  rw [puW_get? h8 (by omega) hc, puW_get? h8 h hc, puW_get? h8 h hb]
  by_cases h1 : i < 8
  · simp only [if_pos h1]
  · by_cases h2 : a ≤ i ∧ i < a + 8
    · simp only [if_neg h1, if_pos h2]
    · simp only [if_neg h1, if_neg h2]
theorem put_get (h8 : 8 ≤ a) (h : a + 8 ≤ o.length) : puW o a (getW o a) = o := by
  have hg := getW_len h
  refine List.ext_getElem? fun i => ?_
  rw [puW_get? h8 h hg]
  by_cases h1 : i < 8
  · rw [if_pos h1, getW_get? h (by omega), if_pos h1]
  · rw [if_neg h1]
    by_cases h2 : a ≤ i ∧ i < a + 8
    · rw [if_pos h2, getW_get? h (by omega), if_neg (by omega)]; congr 1; omega
    · rw [if_neg h2]
end
/-- n pieces of eight bytes behind the front, all bytes. -/
structure Wo (n : Nat) (o : List Nat) : Prop where
  len : o.length = 8 * (n + 1)
  byl : ∀ x ∈ o, x < 256
def atW (n t : Nat) : Nat := ((t - 1) % n + 1) * 8
theorem atW_ok {n : Nat} (hn : 0 < n) (t : Nat) : 8 ≤ atW n t ∧ atW n t + 8 ≤ 8 * (n + 1) := by
  have := Nat.mod_lt (t - 1) hn
  unfold atW
  omega
theorem Wo.get {n : Nat} {o : List Nat} (h : Wo n o) {a : Nat} (ha : a + 8 ≤ 8 * (n + 1)) : B16 (getW o a) := B16.of (getW_len (by rw [h.len]; exact ha)) fun x hx => by
  rcases List.mem_append.1 hx with hx | hx
  · exact h.byl x (List.mem_of_mem_take hx)
  · exact h.byl x (List.mem_of_mem_drop (List.mem_of_mem_take hx))
theorem Wo.put {n : Nat} {o b : List Nat} (h : Wo n o) {a : Nat} (h8 : 8 ≤ a) (ha : a + 8 ≤ 8 * (n + 1)) (hb : B16 b) : Wo n (puW o a b) := ⟨by rw [puW_len h8 (by rw [h.len]; exact ha) hb.len, h.len], fun x hx => by
  have hF : ∀ x ∈ putF o b, x < 256 := fun x hx => by
    rcases List.mem_append.1 hx with hx | hx
    · exact hb.byl x (List.mem_of_mem_take hx)
    · exact h.byl x (List.mem_of_mem_drop hx)
  rcases List.mem_append.1 hx with hx | hx
  · exact hF x (List.mem_of_mem_take hx)
  · rcases List.mem_append.1 hx with hx | hx
    · exact hb.byl x (List.mem_of_mem_drop hx)
    · exact hF x (List.mem_of_mem_drop hx)⟩
def wst (E : List Nat → List Nat) (n t : Nat) (o : List Nat) : List Nat := puW o (atW n t) (xor7 (E (getW o (atW n t))) t)
def ust (D : List Nat → List Nat) (n t : Nat) (o : List Nat) : List Nat := puW o (atW n t) (D (xor7 (getW o (atW n t)) t))
section
variable {E D : List Nat → List Nat} {n : Nat}
theorem wst_ok (h : EDok E D) (hn : 0 < n) {o : List Nat} (ho : Wo n o) (t : Nat) : Wo n (wst E n t o) :=
  ho.put (atW_ok hn t).1 (atW_ok hn t).2 (xor7_ok (h.eok _ (ho.get (atW_ok hn t).2)) t)
theorem ust_ok (h : EDok E D) (hn : 0 < n) {o : List Nat} (ho : Wo n o) (t : Nat) : Wo n (ust D n t o) :=
  ho.put (atW_ok hn t).1 (atW_ok hn t).2 (h.dok _ (xor7_ok (ho.get (atW_ok hn t).2) t))
theorem ust_wst (h : EDok E D) (hn : 0 < n) {o : List Nat} (ho : Wo n o) (t : Nat) : ust D n t (wst E n t o) = o := by
  obtain ⟨a1, a2⟩ := atW_ok hn t
  have g := ho.get a2
  have hl : atW n t + 8 ≤ o.length := by rw [ho.len]; exact a2
  have e := xor7_ok (h.eok _ g) t
  rw [ust, wst, get_put a1 hl e.len, xor7_twice (h.eok _ g).len, h.de _ g, put_put a1 hl e.len g.len, put_get a1 hl]
theorem wst_ust (h : EDok E D) (hn : 0 < n) {o : List Nat} (ho : Wo n o) (t : Nat) : wst E n t (ust D n t o) = o := by
  obtain ⟨a1, a2⟩ := atW_ok hn t
  have g := ho.get a2
  have hl : atW n t + 8 ≤ o.length := by rw [ho.len]; exact a2
  have e := h.dok _ (xor7_ok g t)
  rw [wst, ust, get_put a1 hl e.len, h.ed _ (xor7_ok g t), xor7_twice g.len, put_put a1 hl e.len g.len, put_get a1 hl]
/-- t steps. -/
def wN (E : List Nat → List Nat) (n : Nat) (o : List Nat) : Nat → List Nat
  | 0 => o
  | t + 1 => wst E n (t + 1) (wN E n o t)
def uN (D : List Nat → List Nat) (n T : Nat) (o : List Nat) : Nat → List Nat
  | 0 => o
  | j + 1 => ust D n (T - j) (uN D n T o j)
theorem wN_ok (h : EDok E D) (hn : 0 < n) {o : List Nat} (ho : Wo n o) : ∀ t, Wo n (wN E n o t)
  | 0 => ho
  | t + 1 => wst_ok h hn (wN_ok h hn ho t) (t + 1)
theorem uN_ok (h : EDok E D) (hn : 0 < n) {T : Nat} {o : List Nat} (ho : Wo n o) : ∀ j, Wo n (uN D n T o j)
  | 0 => ho
  | j + 1 => ust_ok h hn (uN_ok h hn ho j) (T - j)
theorem uN_wN (h : EDok E D) (hn : 0 < n) {T : Nat} {o : List Nat} (ho : Wo n o) : uN D n T (wN E n o T) T = o := by
  have key : ∀ j, j ≤ T → uN D n T (wN E n o T) j = wN E n o (T - j) := fun j => by
    induction j with
    | zero => intro _; rfl
    | succ j ih =>
      intro hj
      obtain ⟨k, hk⟩ : ∃ k, T - j = k + 1 := ⟨T - j - 1, by omega⟩
      rw [uN, ih (by omega), hk, wN, ust_wst h hn (wN_ok h hn ho k), show T - (j + 1) = k by omega]
  rw [key T (Nat.le_refl _), Nat.sub_self]; rfl
theorem wN_uN (h : EDok E D) (hn : 0 < n) {T : Nat} {o : List Nat} (ho : Wo n o) : wN E n (uN D n T o T) T = o := by
  have key : ∀ i, i ≤ T → wN E n (uN D n T o T) i = uN D n T o (T - i) := fun i => by
    induction i with
    | zero => intro _; rfl
    | succ i ih =>
      intro hi
      obtain ⟨k, hk⟩ : ∃ k, T - i = k + 1 := ⟨T - i - 1, by omega⟩
      rw [wN, ih (by omega), hk, uN, show T - k = i + 1 by omega, wst_ust h hn (uN_ok h hn ho k), show T - (i + 1) = k by omega]
  rw [key T (Nat.le_refl _), Nat.sub_self]; rfl
end
/-- What is wrapped. -/
def frontW : List Nat := List.replicate 8 166
theorem wo_front {n : Nat} {p : List Nat} (hl : p.length = 8 * n) (hp : ∀ x ∈ p, x < 256) : Wo n (frontW ++ p) := ⟨by rw [List.length_append, hl, frontW, List.length_replicate]; omega, fun x hx => by
  rcases List.mem_append.1 hx with hx | hx
  · rw [(List.mem_replicate.1 hx).2]; decide
  · exact hp x hx⟩
end Go.Proofs.Ytdmmbkhnhfcmcaa
