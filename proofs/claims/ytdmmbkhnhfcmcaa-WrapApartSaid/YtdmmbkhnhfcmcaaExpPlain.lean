/- The schedule of keys, in plain Lean. -/
import Derived.Test.YtdmmbkhnhfcmcaaAesS
namespace Go.Proofs.Ytdmmbkhnhfcmcaa
open Go.RowKit
set_option linter.unusedVariables false
set_option linter.unusedSimpArgs false
/-- A list of n bytes, filled up with noughts to 240. -/
def pad (l : List Nat) : List Nat := l ++ List.replicate (240 - l.length) 0
theorem pad_len {l : List Nat} (h : l.length ≤ 240) : (pad l).length = 240 := by rw [pad, List.length_append, List.length_replicate]; omega
theorem pad_nil : pad [] = List.replicate 240 0 := rfl
theorem pad_get {l : List Nat} {j : Nat} (h : j < l.length) : (pad l).getD j 0 = l.getD j 0 := by
  rw [pad, List.getD_eq_getElem?_getD, List.getElem?_append_left h, List.getD_eq_getElem?_getD]
theorem pad_set {l : List Nat} {x : Nat} (h : l.length < 240) : (pad l).set l.length x = pad (l ++ [x]) := by
  rw [pad, List.set_append_right _ _ (Nat.le_refl _), Nat.sub_self, pad, List.length_append, List.length_singleton, show 240 - l.length = 240 - (l.length + 1) + 1 by omega, List.replicate_succ, List.set_cons_zero, List.append_assoc]
  rfl
theorem pad_app {l q : List Nat} {k : Nat} (hq : q.length = k) (h : l.length + k ≤ 240) : (pad l).take l.length ++ (q.take k ++ (pad l).drop (l.length + k)) = pad (l ++ q) := by
  rw [pad, List.take_left, List.take_of_length_le (by omega), List.drop_append, List.drop_of_length_le (by omega), List.nil_append, pad, List.append_assoc, List.length_append, hq, List.drop_replicate]
  congr 3
  omega
theorem pad_part {l : List Nat} {j k : Nat} (h : j + k ≤ l.length) : ((bys (pad l)).toList.drop j).take k = bl ((l.drop j).take k) := by
  rw [bys, List.toList_toArray, bl_drop, bl_take, pad, List.drop_append_of_le_length (by omega), List.take_append_of_le_length (by rw [List.length_drop]; omega)]
/-- The word i. -/
def wdAt (ws : List Nat) (i : Nat) : List Nat := (ws.drop (4 * i)).take 4
theorem wdAt_len {ws : List Nat} {i : Nat} (h : 4 * i + 4 ≤ ws.length) : (wdAt ws i).length = 4 := by rw [wdAt, List.length_take, List.length_drop]; omega
theorem wdAt_get {ws : List Nat} {i j : Nat} (hj : j < 4) : (wdAt ws i).getD j 0 = ws.getD (4 * i + j) 0 := by
  rw [wdAt, List.getD_eq_getElem?_getD, List.getElem?_take_of_lt hj, List.getElem?_drop, List.getD_eq_getElem?_getD]
/-- A word turned round, and made another. -/
def wdRot (t : List Nat) (x : Nat) : List Nat := [gsub (t.getD 1 0) ^^^ x, gsub (t.getD 2 0), gsub (t.getD 3 0), gsub (t.getD 0 0)]
/-- What is laid over the word n words ahead. -/
def wdTurn (n i : Nat) (t : List Nat) : List Nat :=
  if i % n = 0 then wdRot t (npow 2 (i / n - 1)) else if n = 8 ∧ i % 8 = 4 then t.map gsub else t
def xor4 (a b : List Nat) : List Nat := (List.range 4).map fun j => a.getD j 0 ^^^ b.getD j 0
theorem xor4_len (a b : List Nat) : (xor4 a b).length = 4 := by simp [xor4]
theorem xor4_get {a b : List Nat} {j : Nat} (hj : j < 4) : (xor4 a b)[j]? = some (a.getD j 0 ^^^ b.getD j 0) := by simp [xor4, hj]
theorem xor4_step {a b : List Nat} {j : Nat} (hj : j < 4) : (xor4 a b).take (j + 1) = (xor4 a b).take j ++ [a.getD j 0 ^^^ b.getD j 0] := by
  rw [List.take_add_one, xor4_get hj]; rfl
/-- The first i words. -/
def expN (n : Nat) (key : List Nat) : Nat → List Nat
  | 0 => []
  | i + 1 => expN n key i ++ (if i < n then wdAt key i else xor4 (wdAt (expN n key i) (i - n)) (wdTurn n i (wdAt (expN n key i) (i - 1))))
def bys8 (l : List Nat) : Prop := ∀ x ∈ l, x < 256
theorem bys8.get {l : List Nat} (h : bys8 l) (i : Nat) : l.getD i 0 < 256 := by
  rw [List.getD_eq_getElem?_getD]
  cases hx : l[i]? with
  | none => simp
  | some x => exact h x (List.mem_of_getElem? hx)
theorem bys8.app {a b : List Nat} (h : bys8 a) (h' : bys8 b) : bys8 (a ++ b) := fun x hx => (List.mem_append.1 hx).elim (h x) (h' x)
theorem bys8.wd {l : List Nat} (h : bys8 l) (i : Nat) : bys8 (wdAt l i) := fun x hx => h x (List.mem_of_mem_drop (List.mem_of_mem_take hx))
theorem npow2_lt (k : Nat) : npow 2 k < 256 := npow_lt k (by decide)
theorem bys8.rot {t : List Nat} (h : bys8 t) {x : Nat} (hx : x < 256) : bys8 (wdRot t x) := fun y hy => by
  simp only [wdRot, List.mem_cons, List.not_mem_nil, or_false] at hy
  rcases hy with rfl | rfl | rfl | rfl
  · exact xor_lt (gsub_lt _ (h.get _)) hx
  all_goals exact gsub_lt _ (h.get _)
theorem bys8.turn {t : List Nat} (h : bys8 t) (n i : Nat) : bys8 (wdTurn n i t) := by
  unfold wdTurn
  split
  · exact h.rot (npow2_lt _)
  · split
    · intro y hy
      obtain ⟨x, hx, rfl⟩ := List.mem_map.1 hy
      exact gsub_lt _ (h x hx)
    · exact h
theorem bys8.xor4 {a b : List Nat} (h : bys8 a) (h' : bys8 b) : bys8 (xor4 a b) := fun y hy => by
  obtain ⟨j, _, rfl⟩ := List.mem_map.1 hy
  exact xor_lt (h.get _) (h'.get _)
theorem wdTurn_len {n i : Nat} {t : List Nat} (h : t.length = 4) : (wdTurn n i t).length = 4 := by
  unfold wdTurn
  split
  · rfl
  · split
    · rw [List.length_map, h]
    · exact h
theorem expN_ok {n : Nat} {key : List Nat} (hk : key.length = 4 * n) (hb : bys8 key) (hn : 0 < n) : ∀ i, (expN n key i).length = 4 * i ∧ bys8 (expN n key i)
  | 0 => ⟨rfl, fun x hx => by cases hx⟩
  | i + 1 => by
    obtain ⟨h1, h2⟩ := expN_ok hk hb hn i
    rw [expN]
    split
    · exact ⟨by rw [List.length_append, h1, wdAt_len (by omega)]; omega, h2.app (hb.wd i)⟩
    · exact ⟨by rw [List.length_append, h1, xor4_len]; omega, h2.app ((h2.wd _).xor4 ((h2.wd _).turn n i))⟩
theorem expN_pre {n : Nat} {key : List Nat} : ∀ k i, ∃ r, expN n key (i + k) = expN n key i ++ r
  | 0, i => ⟨[], by simp⟩
  | k + 1, i => by
    obtain ⟨r, h⟩ := expN_pre (n := n) (key := key) k i
    exact ⟨r ++ _, by rw [show i + (k + 1) = (i + k) + 1 from rfl, expN, h, List.append_assoc]⟩
theorem expN_key {n : Nat} {key : List Nat} : ∀ i, i ≤ n → expN n key i = key.take (4 * i)
  | 0, _ => rfl
  | i + 1, h => by
    rw [expN, expN_key i (by omega), if_pos (by omega), wdAt, show 4 * (i + 1) = 4 * i + 4 from rfl, List.take_add]
/-- The key's words, as they stand in memory. -/
def expW (n : Nat) (key : List Nat) : List Nat := pad (expN n key (4 * (n + 7)))
theorem expW_ok {n : Nat} {key : List Nat} (hk : key.length = 4 * n) (hb : bys8 key) (hn : 0 < n) (hn8 : n ≤ 8) : AKey (expW n key) := by
  obtain ⟨h1, h2⟩ := expN_ok hk hb hn (4 * (n + 7))
  refine ⟨pad_len (by omega), fun x hx => ?_⟩
  rcases List.mem_append.1 hx with h | h
  · exact h2 x h
  · rw [(List.mem_replicate.1 h).2]; decide
theorem expW_front {n : Nat} {key : List Nat} (hk : key.length = 4 * n) : (expW n key).take (4 * n) = key := by
  obtain ⟨r, h⟩ := expN_pre (n := n) (key := key) (3 * n + 28) n
  rw [expW, show 4 * (n + 7) = n + (3 * n + 28) by omega, h, expN_key n (Nat.le_refl _), pad, List.append_assoc, List.take_append_of_le_length (by rw [List.length_take, hk]; omega), List.take_take, Nat.min_self, List.take_of_length_le (by omega)]
end Go.Proofs.Ytdmmbkhnhfcmcaa
