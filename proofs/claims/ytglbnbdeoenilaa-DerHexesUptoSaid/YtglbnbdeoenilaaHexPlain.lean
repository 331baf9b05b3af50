/- Bytes told in signs. Plain laws. -/
import Derived.Test.YtglbnbdeoenilaaBAr
namespace Go.Proofs.Ytglbnbdeoenilaa
set_option linter.unusedVariables false
def digL : List Nat := [48, 49, 50, 51, 52, 53, 54, 55, 56, 57, 97, 98, 99, 100, 101, 102]
def dgt (i : Nat) : Nat := digL.getD i 0
abbrev digB : ByteArray := { data := #[48, 49, 50, 51, 52, 53, 54, 55, 56, 57, 97, 98, 99, 100, 101, 102] }
theorem digB_eq : digB = bAr digL := rfl
theorem dgt_lt (i : Nat) : dgt i < 256 := by
  unfold dgt
  rw [List.getD_eq_getElem?_getD]
  cases h : digL[i]? with
  | none => simp
  | some x =>
    have hx := List.mem_of_getElem? h
    simp only [Option.getD_some]
    have hall : ∀ y ∈ digL, y < 256 := by decide
    exact hall x hx
theorem dgt_get {i : Nat} (h : i < 16) : digL[i]? = some (dgt i) := by
  unfold dgt
  rw [List.getD_eq_getElem?_getD, List.getElem?_eq_getElem (show i < digL.length from h)]; rfl
theorem dgt_inj : ∀ i, i < 16 → ∀ j, j < 16 → dgt i = dgt j → i = j := by decide +kernel
/-- A byte's two signs. -/
def hexB (x : Nat) : List Nat := [dgt (x / 16), dgt (x % 16)]
def hexL (p : List Nat) : List Nat := p.flatMap hexB
theorem hexL_nil : hexL [] = [] := rfl
theorem hexL_cons (x : Nat) (p : List Nat) : hexL (x :: p) = dgt (x / 16) :: dgt (x % 16) :: hexL p := rfl
theorem hexL_app (p q : List Nat) : hexL (p ++ q) = hexL p ++ hexL q := by simp [hexL]
theorem hexL_len : ∀ p : List Nat, (hexL p).length = 2 * p.length
  | [] => rfl
  | x :: p => by rw [hexL_cons, List.length_cons, List.length_cons, hexL_len p, List.length_cons]; omega
theorem hexL_lt (p : List Nat) : ∀ x ∈ hexL p, x < 256 := fun x hx => by
  obtain ⟨y, _, hy⟩ := List.mem_flatMap.1 hx
  simp only [hexB, List.mem_cons, List.not_mem_nil, or_false] at hy
  rcases hy with rfl | rfl <;> exact dgt_lt _
theorem hexL_inj : ∀ {p q : List Nat}, (∀ x ∈ p, x < 256) → (∀ x ∈ q, x < 256) → hexL p = hexL q → p = q
  | [], [], _, _, _ => rfl
  | [], y :: q, _, _, h => by rw [hexL_cons] at h; cases h
  | x :: p, [], _, _, h => by rw [hexL_cons] at h; cases h
  | x :: p, y :: q, hp, hq, h => by
    rw [hexL_cons, hexL_cons, List.cons.injEq, List.cons.injEq] at h
    have hx := hp x (by simp)
    have hy := hq y (by simp)
    have h1 := dgt_inj _ (by omega) _ (by omega) h.1
    have h2 := dgt_inj _ (by omega) _ (by omega) h.2.1
    rw [hexL_inj (fun z hz => hp z (by simp [hz])) (fun z hz => hq z (by simp [hz])) h.2.2]
    congr 1
    omega
theorem hexL_get : ∀ {p : List Nat} {k : Nat} {x : Nat}, p[k]? = some x → (hexL p)[2 * k]? = some (dgt (x / 16)) ∧ (hexL p)[2 * k + 1]? = some (dgt (x % 16))
  | [], k, x, h => by simp at h
  | y :: p, 0, x, h => by
    simp only [List.getElem?_cons_zero, Option.some.injEq] at h
    subst h
    rw [hexL_cons]; exact ⟨rfl, rfl⟩
  | y :: p, k + 1, x, h => by
    rw [List.getElem?_cons_succ] at h
    have := hexL_get h
    rw [hexL_cons, show 2 * (k + 1) = 2 * k + 1 + 1 by omega, List.getElem?_cons_succ, List.getElem?_cons_succ, List.getElem?_cons_succ, List.getElem?_cons_succ]
    exact this
/-- Where a sign stands. -/
def ixI (c : Nat) : Int := Go.firstIdx digB c.toUInt8
theorem ixI_cases : ∀ c, c < 256 → (ixI c = -1 ∧ ∀ j, j < 16 → dgt j ≠ c) ∨ (0 ≤ ixI c ∧ ixI c < 16 ∧ dgt (ixI c).toNat = c) := by decide +kernel
/-- What is read: whose signs these are. -/
def RdH (s : List Nat) (d : List Nat) : Prop := (∀ x ∈ d, x < 256) ∧ hexL d = s
theorem RdH.snoc {s d : List Nat} {k a b : Nat} (h : RdH (s.take (2 * k)) d) {i j : Nat} (hi : i < 16) (hj : j < 16) (ha : s[2 * k]? = some a) (hb : s[2 * k + 1]? = some b) (ea : dgt i = a) (eb : dgt j = b) : RdH (s.take (2 * (k + 1))) (d ++ [i * 16 + j]) := by
  refine ⟨fun x hx => ?_, ?_⟩
  · rcases List.mem_append.1 hx with hx | hx
    · exact h.1 x hx
    · simp only [List.mem_singleton] at hx
      omega
  · rw [hexL_app, h.2, show 2 * (k + 1) = 2 * k + 1 + 1 by omega, List.take_add_one, List.take_add_one, ha, hb]
    have e1 : (i * 16 + j) / 16 = i := by omega
    have e2 : (i * 16 + j) % 16 = j := by omega
    simp only [hexL, List.flatMap_cons, List.flatMap_nil, hexB, e1, e2, ea, eb, Option.toList, List.append_assoc, List.append_nil]
    rfl
theorem no_hex {s : List Nat} {k a : Nat} (e : Nat) (he : e < 2) (ha : s[2 * k + e]? = some a) (hno : ∀ j, j < 16 → dgt j ≠ a) : ∀ d, ¬ RdH s d := fun d h => by
  have hk : k < d.length := by
    have := (List.getElem?_eq_some_iff.1 ha).1
    rw [← h.2, hexL_len] at this
    omega
  have hx := hexL_get (p := d) (k := k) (x := d[k]) (List.getElem?_eq_getElem hk)
  rw [h.2] at hx
  have hb := h.1 _ (List.getElem_mem hk)
  rcases Nat.lt_or_ge e 1 with h1 | h1
  · obtain rfl : e = 0 := by omega
    rw [Nat.add_zero, hx.1] at ha
    injection ha with ha
    exact hno _ (by omega) ha
  · obtain rfl : e = 1 := by omega
    rw [hx.2] at ha
    injection ha with ha
    exact hno _ (by omega) ha
end Go.Proofs.Ytglbnbdeoenilaa
