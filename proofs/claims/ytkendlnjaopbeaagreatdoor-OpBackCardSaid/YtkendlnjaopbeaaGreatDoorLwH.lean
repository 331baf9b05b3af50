/- The walk over lists: regions that draw their order and hold effects. What is steady is taken first; the rest comes up in whatever order. -/
import Derived.Test.YtkendlnjaopbeaaGreatDoorOwnB
import Derived.OrdersHeld
namespace Go.Proofs.YtkendlnjaopbeaaGreatDoor
open Go.RowKit
set_option linter.unusedVariables false
set_option linter.unusedSimpArgs false
section
variable {P : Program} {ops : Array Oper} {Q : Exit → Act → World → Prop} {md : Region.Mode} {S : Array Bool → World → Prop}
/-- Whatever order is picked from here on; S holds behind each operation. -/
def wpAnyS (P : Program) (md : Region.Mode) (ops : Array Oper) (Q : Exit → Act → World → Prop) (S : Array Bool → World → Prop) : Nat → Array Bool → Act → World → Prop
  | 0, listed, a, w => Region.ready md ops listed = [] ∧ Q .normal a w
  | fuel + 1, listed, a, w =>
    (Region.ready md ops listed = [] → Q .normal a w) ∧
    ∀ i ∈ Region.ready md ops listed, wpOp P ops Q i (fun a' w' => S (listed.setIfInBounds i true) w' ∧ wpAnyS P md ops Q S fuel (listed.setIfInBounds i true) a' w') a w
theorem wpAny_of_S : ∀ (fuel : Nat) (listed : Array Bool) (a : Act) (w : World), wpAnyS P md ops Q S fuel listed a w → wpAny P md ops Q fuel listed a w
  | 0, _, _, _, h => h
  | fuel + 1, _, _, _, h => ⟨h.1, fun i hi => wpOp_mono (fun a' w' h' => wpAny_of_S fuel _ a' w' h'.2) (h.2 i hi)⟩
theorem wpAnyS_first {i : Nat} {oi : Oper} {v : Value} {T : World → Prop} (hi : ops[i]? = some oi) (hsel : ∀ (j : Nat) (o : Oper) cs b, ops[j]? = some o → o.op ≠ .select cs b)
    (hQ : ∀ c a w, Q (.panic c) (a.put oi.dst v) w → Q (.panic c) a w) (hT : ∀ L w, Clo md ops L → L.getD i true = false → S L w → T w) (hSi : ∀ L w, S (L.setIfInBounds i true) w ↔ S L w) :
    ∀ (fuel : Nat) (listed : Array Bool) (a : Act) (w : World), Clo md ops listed →
      (∀ j oj, ops[j]? = some oj → j ≠ i → listed.getD j true = false → (∀ e ∈ oj.after, Region.binds md e = true → e.on ≠ i) → oi.apart ops oj = true) →
      i ∈ Region.ready md ops listed → YieldsIf P ops T oi v a → S listed w →
      wpAnyS P md ops Q S fuel (listed.setIfInBounds i true) (a.put oi.dst v) w → wpAnyS P md ops Q S (fuel + 1) listed a w := by
  intro fuel
  induction fuel with
  | zero =>
    intro listed a w hcl _ hr hy hS H
    refine ⟨fun h => (by rw [h] at hr; cases hr), fun j hj => ?_⟩
    by_cases hji : j = i
    · subst hji; exact hy.wpOp hi (hT listed w hcl (mem_ready.1 hr).1 hS) ⟨(hSi _ _).2 hS, H⟩
    · have := ready_mono hj hji
      rw [H.1] at this
      cases this
  | succ fuel ih =>
    intro listed a w hcl hfree hr hy hS H
    refine ⟨fun h => (by rw [h] at hr; cases hr), fun j hj => ?_⟩
    by_cases hji : j = i
    · subst hji; exact hy.wpOp hi (hT listed w hcl (mem_ready.1 hr).1 hS) ⟨(hSi _ _).2 hS, H⟩
    · have h1 := H.2 j (ready_mono hj hji)
      obtain ⟨hjun, oj, hoj, hall⟩ := mem_ready.1 hj
      have hnot : ∀ e ∈ oj.after, Region.binds md e = true → e.on ≠ i := fun e he hb heq => by
        have h1 := hall e he hb
        have h0 := (mem_ready.1 hr).1
        rw [heq] at h1
        rcases Nat.lt_or_ge i listed.size with h' | h'
        · simp [h'] at h0 h1; rw [h0] at h1; cases h1
        · simp [Array.getElem?_eq_none h'] at h1
      have h2 := wpOp_putIf hoj (hfree j oj hoj hji hjun hnot) (fun cs b => hsel i oi cs b hi) (fun cs b => hsel j oj cs b hoj) hQ hy h1
      have hfree' : ∀ k ok, ops[k]? = some ok → k ≠ i → (listed.setIfInBounds j true).getD k true = false →
          (∀ e ∈ ok.after, Region.binds md e = true → e.on ≠ i) → oi.apart ops ok = true := fun k ok hk hki hun hno => by
        refine hfree k ok hk hki ?_ hno
        by_cases hjk : j = k
        · subst hjk; exact hjun
        · rw [getD_set_ne true hjk] at hun; exact hun
      have hcomm : (listed.setIfInBounds i true).setIfInBounds j true = (listed.setIfInBounds j true).setIfInBounds i true := Array.setIfInBounds_comm _ _ (Ne.symm hji)
      refine wpOp_mono (fun a' w' h3 => ?_) h2
      obtain ⟨h3, h4, h5⟩ := h3
      rw [hcomm] at h4 h5
      have h6 := (hSi _ _).1 h4
      exact ⟨h6, ih (listed.setIfInBounds j true) a' w' (hcl.set hj) hfree' (ready_mono hr (Ne.symm hji)) h3 h6 h5⟩
end
theorem wp_mono2 {P : Program} {o : Oper} {a : Act} {w : World} {K K' : Act → World → Prop} {Q Q' : Exit → Act → World → Prop} (h : ∀ a w, K a w → K' a w) (hQ : ∀ e a w, Q e a w → e ≠ .normal → Q' e a w) (hh : o.wp P a w K Q) : o.wp P a w K' Q' := by
  unfold Oper.wp at *
  generalize (execOp a.eval o).run P w = r at *
  cases r with
  | ok n w' =>
    cases n <;> simp only [Oper.upon] at hh ⊢ <;> first | exact h _ _ hh | skip
    case enter f args =>
      refine Calls.mono hh fun e w'' he => ?_
      cases e with
      | returned u => exact h _ _ he
      | panicked c => exact hQ _ _ _ he (by simp)
      | outgrown =>
        obtain ⟨a, w, h1⟩ := he
        exact ⟨a, w, hQ _ _ _ h1 (by simp)⟩
    case row row args => exact Rows.mono hh fun u w'' he => h _ _ he
  | halt x w' =>
    cases x <;> simp only [Oper.upon] at hh ⊢
    case panic u => exact hQ _ _ _ hh (by simp)
/-! ### Over lists -/
def memB (k : Nat) : List Nat → Bool
  | [] => false
  | j :: r => bif Nat.beq k j then true else memB k r
theorem memB_iff {k : Nat} : ∀ {l : List Nat}, memB k l = true ↔ k ∈ l
  | [] => by simp [memB]
  | j :: r => by
    unfold memB
    by_cases h : k = j
    · subst h; simp
    · have : Nat.beq k j = false := by
        rw [← Bool.not_eq_true, Nat.beq_eq]; exact h
      rw [this, cond_false, memB_iff, List.mem_cons]
      exact ⟨.inr, fun h' => h'.resolve_left h⟩
def arrOf (n : Nat) (l : List Nat) : Array Bool := ((List.range n).map fun k => memB k l).toArray
theorem arrOf_get (n : Nat) (l : List Nat) (k : Nat) (d : Bool) : (arrOf n l).getD k d = if k < n then memB k l else d := by
  unfold arrOf
  by_cases h : k < n <;> simp [Array.getD, h]
theorem arrOf_set (n : Nat) (l : List Nat) (i : Nat) : (arrOf n l).setIfInBounds i true = arrOf n (i :: l) := by
  apply Array.ext
  · simp [arrOf]
  · intro k h1 h2
    have h3 : k < (arrOf n l).size := by rw [Array.size_setIfInBounds] at h1; exact h1
    rw [Array.getElem_setIfInBounds h3]
    simp only [arrOf, List.getElem_toArray, List.getElem_map, List.getElem_range, memB]
    split
    · rename_i h; subst h; simp
    · rename_i h
      have : Nat.beq k i = false := by
        rw [← Bool.not_eq_true, Nat.beq_eq]; exact fun e => h e.symm
      rw [this, cond_false]
theorem arrOf_nil (n : Nat) : arrOf n [] = Array.replicate n false := by
  apply Array.ext
  · simp [arrOf]
  · intro k h1 h2
    simp [arrOf, memB]
def edgeOk (l : List Nat) (e : Edge) : Bool := bif Region.binds .any e then memB e.on l else true
def allE (l : List Nat) : List Edge → Bool
  | [] => true
  | e :: r => bif edgeOk l e then allE l r else false
/-- Does it change nothing? -/
def steadyB (o : Oper) : Bool := match o.op with
  | .call c => match c.callee with
    | .builtin .len | .builtin .cap | .builtin .min | .builtin .max => true
    | _ => false
  | .alloc _ | .box _ _ | .store _ _ _ | .buildSlice _ _ _ | .makeSlice _ _ _ | .makeMap _ _ | .mapUpdate _ _ _ _ | .insert _ _ _ _ | .mapEntry _ _ _ | .entryStore _ _ _ _ | .range _ _ | .next _ _ | .entry _ => false
  | _ => true
def idx : List Nat := [0, 1, 2, 3, 4, 5, 6, 7, 8, 9, 10, 11, 12, 13, 14, 15, 16, 17, 18, 19, 20, 21, 22, 23, 24, 25, 26, 27, 28, 29, 30, 31, 32, 33, 34, 35, 36, 37, 38, 39, 40, 41, 42, 43, 44, 45, 46, 47, 48, 49, 50, 51, 52, 53, 54, 55, 56, 57, 58, 59]
def pickS (p : Oper → Bool) : List Oper → List Nat → List Nat → Option Nat
  | o :: r, k :: ks, l => bif memB k l then pickS p r ks l else bif p o then (bif allE l o.after.toList then some k else pickS p r ks l) else pickS p r ks l
  | _, _, _ => none
def opAt : List Oper → Nat → Option Oper
  | [], _ => none
  | o :: _, 0 => some o
  | _ :: r, i + 1 => opAt r i
theorem opAt_get : ∀ {r : List Oper} {i : Nat} {o : Oper}, opAt r i = some o → r.toArray[i]? = some o
  | [], _, _, h => by cases h
  | o :: _, 0, _, h => by cases h; rfl
  | _ :: r, i + 1, o, h => by
    have := opAt_get (r := r) (i := i) h
    simpa using this
def readyL : List Oper → List Nat → List Nat → List Nat
  | o :: r, k :: ks, l => bif memB k l then readyL r ks l else bif allE l o.after.toList then k :: readyL r ks l else readyL r ks l
  | _, _, _ => []
/-- The late ones wait for it. -/
def lateOk (late : List Nat) (ops : Array Oper) (i : Nat) : Bool := late.all fun j => reachB .any ops i 1 j || reachB .any ops i 4 j
def storeI : List Oper → Nat → List Nat
  | [], _ => []
  | o :: r, k => match o.op with
    | .store _ _ _ => k :: storeI r (k + 1)
    | _ => storeI r (k + 1)
def SL (X : Cx) (lp : Blks) (late : List Nat) (L : Array Bool) (w : World) : Prop := ((∃ j ∈ late, L.getD j false = true) ∧ Mem X [] w) ∨ Mem X lp w
/-- The post, at the region's own end alone. -/
def Qn (X : Cx) (Q : Post) : Exit → Act → World → Prop
  | .normal, a, w => lift X Q .normal a w
  | _, _, _ => False
structure Hg where
  ops : Array Oper
  lp : Blks
  late : List Nat
def Wh (X : Cx) (G : Hg) (Q : Post) (fuel : Nat) (l : List Nat) (s : Slots) (b : Blks) : Prop :=
  ∀ a w, St X s b a w → Clo .any G.ops (arrOf G.ops.size l) → SL X G.lp G.late (arrOf G.ops.size l) w → wpAnyS X.P .any G.ops (Qn X Q) (SL X G.lp G.late) fuel (arrOf G.ops.size l) a w
section
variable {X : Cx} {G : Hg} {s : Slots} {b : Blks} {v : Value} {Q : Post} {l : List Nat} {fuel : Nat}
theorem Mem.none {w : World} {l : Blks} (h : Mem X l w) : Mem X [] w := h.sub .nil
theorem SL.none {lp : Blks} {late : List Nat} {L : Array Bool} {w : World} (h : SL X lp late L w) : Mem X [] w := by
  rcases h with h | h
  · exact h.2
  · exact h.none
theorem wc_drawH {id : Nat} {r : List Oper} (lp : Blks) (late : List Nat) (hm : X.P.follows .mixedOrders = true) (hlp : SubL lp b) (h : Wh X ⟨r.toArray, lp, late⟩ Q r.length [] s b) : Wc X (.region id r.toArray true) Q s b := fun a w hs => by
  refine wp_mono (Q := Qn X Q) (wp_region_any hm (wpAny_of_S (S := SL X lp late) _ _ _ _ ?_)) (fun e a w h => by cases e <;> first | exact h | exact h.elim)
  have hd : Mem X b { w with drawn := w.drawn + 1 } := hs.mem.drew
  have := h a _ ⟨hs.env, hd⟩ (by dsimp only; rw [arrOf_nil]; exact Clo.none) (.inr (hd.sub hlp))
  dsimp only at this
  rw [arrOf_nil] at this
  simpa using this
theorem wh_first {i : Nat} {oi : Oper} {lq : Blks} {fuel : Nat} (hi : G.ops[i]? = some oi) (hr : (Region.ready .any G.ops (arrOf G.ops.size l)).contains i = true) (hs : Region.noSelect G.ops = true) (hf : Region.free .any G.ops (arrOf G.ops.size l) i = true)
    (hn : memB i G.late = false) (hq : lq = [] ∨ (lq = G.lp ∧ lateOk G.late G.ops i = true)) (hy : ∀ a, Env X.N s a → YieldsIf X.P G.ops (fun w => Mem X lq w) oi v a) (hd : dOk X.N oi.dst = true)
    (h : Wh X G Q fuel (i :: l) (sputO s oi.dst v) b) : Wh X G Q (fuel + 1) l s b := fun a w hst hcl hS => by
  have hr' : i ∈ Region.ready .any G.ops (arrOf G.ops.size l) := by simpa using hr
  have hne : ∀ j ∈ G.late, j ≠ i := fun j hj e => by subst e; rw [memB_iff.2 hj] at hn; cases hn
  have hSi : ∀ L w, SL X G.lp G.late (L.setIfInBounds i true) w ↔ SL X G.lp G.late L w := fun L w => by
    unfold SL
    have : (∃ j ∈ G.late, (L.setIfInBounds i true).getD j false = true) ↔ (∃ j ∈ G.late, L.getD j false = true) :=
      ⟨fun ⟨j, hj, h⟩ => ⟨j, hj, by rwa [getD_set_ne false (hne j hj).symm] at h⟩, fun ⟨j, hj, h⟩ => ⟨j, hj, by rwa [getD_set_ne false (hne j hj).symm]⟩⟩
    rw [this]
  have h1 := h (a.put oi.dst v) w ⟨hst.env.put hd v, hst.mem⟩ (by rw [← arrOf_set]; exact hcl.set hr') (by rw [← arrOf_set]; exact (hSi _ _).2 hS)
  rw [← arrOf_set] at h1
  refine wpAnyS_first (T := fun w => Mem X lq w) hi (Region.noSelect_spec hs) (fun c a w hq' => ?_) (fun L w hL hun hSL => ?_) hSi fuel _ a w hcl (Region.free_spec hi hf) hr' (hy a hst.env) hS h1
  · exact hq'
  · rcases hq with rfl | ⟨rfl, hlate⟩
    · exact hSL.none
    · rcases hSL with ⟨⟨j, hj, hl⟩, _⟩ | h
      · exfalso
        simp only [lateOk, List.all_eq_true, Bool.or_eq_true] at hlate
        have : L.getD i false = true := by
          rcases hlate j hj with h | h
          · exact reachB_listed hL _ _ h hl
          · exact reachB_listed hL _ _ h hl
        rw [(getD_flip hun).2] at this
        cases this
      · exact h
/-- Something steady. -/
theorem wh_take {i : Nat} {oi : Oper} {r : List Oper} {lp lq : Blks} {late : List Nat} {s' : Slots} (hp : pickS steadyB r idx l = some i) (hi : opAt r i = some oi) (hg : gd s r.toArray oi = some true) (hd : dOk X.N oi.dst = true) (hy : RdV X s lq oi v)
    (hq : lq = [] ∨ (lq = lp ∧ lateOk late r.toArray i = true))
    (h : Wh X ⟨r.toArray, lp, late⟩ Q fuel (i :: l) s' b) (hs' : sputO s oi.dst v = s' := by (try dsimp only [sputO, sput, Nat.reduceBEq, cond_true, cond_false, beq_self_eq_true]); first | done | exact rfl)
    (hr : (Region.ready .any r.toArray (arrOf r.toArray.size l)).contains i = true := by kernel_rfl) (hs : Region.noSelect r.toArray = true := by kernel_rfl) (hf : Region.free .any r.toArray (arrOf r.toArray.size l) i = true := by kernel_rfl)
    (hn : memB i late = false := by kernel_rfl) : Wh X ⟨r.toArray, lp, late⟩ Q (fuel + 1) l s b := by
  subst hs'
  exact wh_first (G := ⟨r.toArray, lp, late⟩) (opAt_get hi) hr hs hf hn hq (fun a he => .inl ⟨gd_wanted he hg, fun w hm => hy a w he hm⟩) hd h
/-- The same, where it reads what stood when the region began (told apart: with '∨' the walk is 70 times slower). -/
theorem wh_takeL {i : Nat} {oi : Oper} {r : List Oper} {lp : Blks} {late : List Nat} {s' : Slots} (hp : pickS steadyB r idx l = some i) (hi : opAt r i = some oi) (hg : gd s r.toArray oi = some true) (hd : dOk X.N oi.dst = true) (hy : RdV X s lp oi v)
    (hq : lateOk late r.toArray i = true)
    (h : Wh X ⟨r.toArray, lp, late⟩ Q fuel (i :: l) s' b) (hs' : sputO s oi.dst v = s' := by (try dsimp only [sputO, sput, Nat.reduceBEq, cond_true, cond_false, beq_self_eq_true]); first | done | exact rfl)
    (hr : (Region.ready .any r.toArray (arrOf r.toArray.size l)).contains i = true := by kernel_rfl) (hs : Region.noSelect r.toArray = true := by kernel_rfl) (hf : Region.free .any r.toArray (arrOf r.toArray.size l) i = true := by kernel_rfl)
    (hn : memB i late = false := by kernel_rfl) : Wh X ⟨r.toArray, lp, late⟩ Q (fuel + 1) l s b := wh_take hp hi hg hd hy (Or.inr ⟨rfl, hq⟩) h hs' hr hs hf hn
/-- Is there something steady to take? (Asked ahead: 'rfl' is slow where it falls.) -/
theorem wh_if {r : List Oper} {lp : Blks} {late : List Nat} (h0 : (pickS steadyB r idx l).isSome = true) (h : Wh X ⟨r.toArray, lp, late⟩ Q fuel l s b) : Wh X ⟨r.toArray, lp, late⟩ Q fuel l s b := h
theorem wh_pass {i : Nat} {oi : Oper} {r : List Oper} {lp : Blks} {late : List Nat} {s' : Slots} (hp : pickS (fun o => match gd s r.toArray o with | some false => true | _ => false) r idx l = some i) (hi : opAt r i = some oi) (hg : gd s r.toArray oi = some false) (hd : dOk X.N oi.dst = true)
    (h : Wh X ⟨r.toArray, lp, late⟩ Q fuel (i :: l) s' b) (hs' : sputO s oi.dst undef = s' := by (try dsimp only [sputO, sput, Nat.reduceBEq, cond_true, cond_false, beq_self_eq_true]); first | done | exact rfl)
    (hr : (Region.ready .any r.toArray (arrOf r.toArray.size l)).contains i = true := by kernel_rfl) (hs : Region.noSelect r.toArray = true := by kernel_rfl) (hf : Region.free .any r.toArray (arrOf r.toArray.size l) i = true := by kernel_rfl)
    (hn : memB i late = false := by kernel_rfl) : Wh X ⟨r.toArray, lp, late⟩ Q (fuel + 1) l s b := by
  subst hs'
  exact wh_first (G := ⟨r.toArray, lp, late⟩) (lq := []) (opAt_get hi) hr hs hf hn (.inl rfl) (fun a he => .inr ⟨gd_wanted he hg, rfl⟩) hd h
/-- What an effect is to leave. -/
def nextP (X : Cx) (G : Hg) (Q : Post) (fuel : Nat) (i : Nat) (l : List Nat) : Post
  | .normal, s, b => (SubB G.lp b ∨ i ∈ G.late) ∧ Wh X G Q fuel (i :: l) s b
  | _, _, _ => False
theorem next_of {i : Nat} [h : SubB G.lp b] (hw : Wh X G Q fuel (i :: l) s b) : nextP X G Q fuel i l .normal s b := ⟨.inl h, hw⟩
theorem next_late {i : Nat} {r : List Oper} {lp : Blks} {late : List Nat} (h : memB i late = true) (hw : Wh X ⟨r.toArray, lp, late⟩ Q fuel (i :: l) s b) : nextP X ⟨r.toArray, lp, late⟩ Q fuel i l .normal s b := ⟨.inr (memB_iff.1 h), hw⟩
def allI (p : Nat → Prop) : List Nat → Prop
  | [] => True
  | i :: r => p i ∧ allI p r
theorem allI_mem {p : Nat → Prop} : ∀ {l : List Nat}, allI p l → ∀ i ∈ l, p i
  | [], _, i, h => by cases h
  | j :: r, h, i, hi => by
    rcases List.mem_cons.1 hi with rfl | hi
    · exact h.1
    · exact allI_mem h.2 i hi
theorem allI_nil {p : Nat → Prop} : allI p [] := trivial
theorem allI_cons {p : Nat → Prop} {i : Nat} {r : List Nat} (h : p i) (h' : allI p r) : allI p (i :: r) := ⟨h, h'⟩
/-- One that comes up. -/
def Wi (X : Cx) (G : Hg) (Q : Post) (fuel : Nat) (l : List Nat) (s : Slots) (b : Blks) (i : Nat) : Prop := ∃ o, G.ops[i]? = some o ∧ Wl X G.ops (nextP X G Q fuel i l) [o] s b
theorem wi_of {i : Nat} {o : Oper} {r : List Oper} {lp : Blks} {late : List Nat} (hi : opAt r i = some o) (h : Wl X r.toArray (nextP X ⟨r.toArray, lp, late⟩ Q fuel i l) [o] s b) : Wi X ⟨r.toArray, lp, late⟩ Q fuel l s b i := ⟨o, opAt_get hi, h⟩
def pickN : List Oper → List Nat → List Nat → List Nat → Option Nat
  | o :: r, k :: ks, l, ex => bif memB k l then pickN r ks l ex else bif memB k ex then pickN r ks l ex else bif allE l o.after.toList then some k else pickN r ks l ex
  | _, _, _, _ => none
theorem pickN_none : ∀ {r : List Oper} {ks ex : List Nat}, pickN r ks l ex = none → ∀ i ∈ readyL r ks l, i ∈ ex
  | [], ks, ex, _, i, hi => by simp [readyL] at hi
  | _ :: _, [], ex, _, i, hi => by simp [readyL] at hi
  | o :: r, k :: ks, ex, h, i, hi => by
    unfold pickN at h
    unfold readyL at hi
    cases h1 : memB k l with
    | true => rw [h1, cond_true] at h hi; exact pickN_none h i hi
    | false =>
      rw [h1, cond_false] at h hi
      cases h2 : memB k ex with
      | true =>
        rw [h2, cond_true] at h
        cases h3 : allE l o.after.toList with
        | true =>
          rw [h3, cond_true] at hi
          rcases List.mem_cons.1 hi with rfl | hi
          · exact memB_iff.1 h2
          · exact pickN_none h i hi
        | false => rw [h3, cond_false] at hi; exact pickN_none h i hi
      | false =>
        rw [h2, cond_false] at h
        cases h3 : allE l o.after.toList with
        | true => rw [h3, cond_true] at h; cases h
        | false => rw [h3, cond_false] at hi h; exact pickN_none h i hi
theorem pickN_some : ∀ {r : List Oper} {ks ex : List Nat} {i : Nat}, pickN r ks l ex = some i → i ∈ readyL r ks l
  | [], ks, ex, i, h => by simp [pickN] at h
  | _ :: _, [], ex, i, h => by simp [pickN] at h
  | o :: r, k :: ks, ex, i, h => by
    unfold pickN at h
    unfold readyL
    cases h1 : memB k l with
    | true => rw [h1, cond_true] at h; rw [cond_true]; exact pickN_some h
    | false =>
      rw [h1, cond_false] at h
      rw [cond_false]
      cases h2 : memB k ex with
      | true =>
        rw [h2, cond_true] at h
        have := pickN_some h
        cases h3 : allE l o.after.toList with
        | true => rw [cond_true]; exact List.mem_cons_of_mem _ this
        | false => rw [cond_false]; exact this
      | false =>
        rw [h2, cond_false] at h
        cases h3 : allE l o.after.toList with
        | true => rw [h3, cond_true] at h; cases h; rw [cond_true]; exact List.mem_cons_self
        | false => rw [h3, cond_false] at h; rw [cond_false]; exact pickN_some h
/-- Those that may come up, but for some. -/
def Rest (X : Cx) (Q : Post) (fuel : Nat) (l : List Nat) (s : Slots) (b : Blks) (r : List Oper) (lp : Blks) (late : List Nat) (ex : List Nat) : Prop := ∀ i ∈ readyL r idx l, i ∉ ex → Wi X ⟨r.toArray, lp, late⟩ Q fuel l s b i
theorem rest_cons {r : List Oper} {lp : Blks} {late ex : List Nat} {i : Nat} {o : Oper} (hp : pickN r idx l ex = some i) (hi : opAt r i = some o) (hw : Wl X r.toArray (nextP X ⟨r.toArray, lp, late⟩ Q fuel i l) [o] s b) (h : Rest X Q fuel l s b r lp late (i :: ex)) : Rest X Q fuel l s b r lp late ex := fun j hj hn => by
  by_cases hji : j = i
  · subst hji; exact wi_of hi hw
  · exact h j hj (by simp [hji, hn])
theorem rest_nil {r : List Oper} {lp : Blks} {late ex : List Nat} (hp : pickN r idx l ex = none) : Rest X Q fuel l s b r lp late ex := fun j hj hn => absurd (pickN_none hp j hj) hn
theorem sel_rest {r : List Oper} {lp : Blks} {late ex : List Nat} (h : Rest X Q fuel l s b r lp late ex) : Rest X Q fuel l s b r lp late ex := h
theorem wh_all {i0 : Nat} {r : List Oper} {lp : Blks} {late : List Nat} (hp : pickN r idx l [] = some i0) (h : Rest X Q fuel l s b r lp late []) (hr : Region.ready .any r.toArray (arrOf r.toArray.size l) = readyL r idx l := by kernel_rfl) : Wh X ⟨r.toArray, lp, late⟩ Q (fuel + 1) l s b := fun a w hst hcl hS => by
  refine ⟨fun h0 => ?_, fun i hi => ?_⟩
  · have := pickN_some hp
    rw [← hr] at this
    rw [show Region.ready .any r.toArray (arrOf r.toArray.size l) = [] from h0] at this
    cases this
  have hi' := hi
  rw [show Region.ready .any (Hg.ops ⟨r.toArray, lp, late⟩) (arrOf (Hg.ops ⟨r.toArray, lp, late⟩).size l) = readyL r idx l from hr] at hi'
  obtain ⟨o, ho, hw⟩ := h i hi' (by simp)
  have h1 := hw a w hst
  unfold wpList at h1
  unfold wpOp
  simp only [ho]
  have hclo := hcl.set hi
  rw [arrOf_set] at hclo
  have step : ∀ a' w', wpList X.P (Hg.ops ⟨r.toArray, lp, late⟩) (lift X (nextP X ⟨r.toArray, lp, late⟩ Q fuel i l)) [] a' w' → SL X lp late ((arrOf (Hg.ops ⟨r.toArray, lp, late⟩).size l).setIfInBounds i true) w' ∧ wpAnyS X.P .any (Hg.ops ⟨r.toArray, lp, late⟩) (Qn X Q) (SL X lp late) fuel ((arrOf (Hg.ops ⟨r.toArray, lp, late⟩).size l).setIfInBounds i true) a' w' := fun a' w' hh => by
    obtain ⟨s', b', hst', hsub, hnx⟩ := hh
    have hSL : SL X lp late ((arrOf (Hg.ops ⟨r.toArray, lp, late⟩).size l).setIfInBounds i true) w' := by
      rcases hsub with hsub | hlate
      · rcases hS with ⟨⟨j, hj, hl⟩, _⟩ | hS
        · exact .inl ⟨⟨j, hj, getD_set_true hl⟩, hst'.mem.none⟩
        · exact .inr (hst'.mem.sub' hS.nd hsub.out)
      · refine .inl ⟨⟨i, hlate, ?_⟩, hst'.mem.none⟩
        exact getD_on (getD_flip (mem_ready.1 hi).1).1
    refine ⟨hSL, ?_⟩
    rw [arrOf_set] at hSL ⊢
    exact hnx a' w' hst' hclo hSL
  by_cases hwn : Region.wanted o (yielded (Hg.ops ⟨r.toArray, lp, late⟩) a.tmps) = true
  · rw [if_pos hwn] at h1
    rw [if_pos hwn]
    rcases h1 with h1 | ⟨_, h1⟩
    · exact .inl (wp_mono2 (fun a w h => step a w h) (fun e a w ⟨s, b, _, h⟩ hne => by cases e <;> first | exact h.elim | exact absurd rfl hne) h1)
    · obtain ⟨_, _, _, _, _, h⟩ := h1
      exact h.elim
  · rw [if_neg hwn] at h1
    rw [if_neg hwn]
    exact step _ _ h1
/-- All have come up. -/
theorem wh_done {r : List Oper} {lp : Blks} {late : List Nat} (hp : readyL r idx l = []) (h : Q .normal s b) (hr : Region.ready .any r.toArray (arrOf r.toArray.size l) = [] := by kernel_rfl) : Wh X ⟨r.toArray, lp, late⟩ Q fuel l s b := fun a w hst hcl hS => by
  cases fuel with
  | zero => exact ⟨hr, s, b, hst, h⟩
  | succ n => exact ⟨fun _ => ⟨s, b, hst, h⟩, fun i hi => by rw [show Region.ready .any (Hg.ops ⟨r.toArray, lp, late⟩) (arrOf (Hg.ops ⟨r.toArray, lp, late⟩).size l) = [] from hr] at hi; cases hi⟩
/-- A region: its stores are late, and all that is known at its beginning is steady. -/
theorem wc_drawT {id : Nat} {r : List Oper} (hm : X.P.follows .mixedOrders = true) (h : Wh X ⟨r.toArray, b, storeI r 0⟩ Q r.length [] s b) : Wc X (.region id r.toArray true) Q s b := wc_drawH b _ hm (SubL.refl b) h
theorem sel_wh {r : List Oper} {lp : Blks} {late : List Nat} (h : Wh X ⟨r.toArray, lp, late⟩ Q fuel l s b) : Wh X ⟨r.toArray, lp, late⟩ Q fuel l s b := h
theorem sel_wi {i : Nat} (h : Wi X G Q fuel l s b i) : Wi X G Q fuel l s b i := h
theorem sel_all {p : Nat → Prop} {i : Nat} {r : List Nat} (h : allI p (i :: r)) : allI p (i :: r) := h
theorem sel_nx {i : Nat} {r : List Oper} {lp : Blks} {late : List Nat} (h : nextP X ⟨r.toArray, lp, late⟩ Q fuel i l .normal s b) : nextP X ⟨r.toArray, lp, late⟩ Q fuel i l .normal s b := h
theorem wh_subB {i : Nat} {oi : Oper} {r : List Oper} {lp : Blks} {late : List Nat} {t e n n' lo hi : Nat} {x : Operand} {ol oh : Option Operand} {Φ : World → Prop} {p p' : List Nat} {s' : Value → Slots} (hpk : pickS steadyB r idx l = some i) (hi' : opAt r i = some oi) (hg : gd s r.toArray oi = some true) (hd : dOk X.N oi.dst = true) (ho : oi.op = .slice t x ol oh none) (hx : val s x = some v)
    [ht : UT X.P t (.slice e)] [hs : SZ X.P e 1] {la ha : Int} [hv : CsB Φ v n p] (hl : loV s ol = some la) (hh : hiV s n oh = some ha) (hnl : la = (lo : Int)) (hnh : ha = (hi : Int))
    (h : ∀ v', CsB Φ v' n' p' → Part v v' lo n' → Wh X ⟨r.toArray, lp, late⟩ Q fuel (i :: l) (s' v') b)
    (h1 : lo ≤ hi := by first | (with_reducible assumption) | omega) (h2 : hi ≤ n := by first | (with_reducible assumption) | omega)
    (hn : hi - lo = n' := by first | (with_reducible assumption) | rfl) (hxs : (p.drop lo).take (hi - lo) = p' := by first | (with_reducible assumption) | rfl)
    (hs' : ∀ v', sputO s oi.dst v' = s' v' := by intro _; (try dsimp only [sputO, sput, Nat.reduceBEq, cond_true, cond_false, beq_self_eq_true]); first | done | exact rfl)
    (hr : (Region.ready .any r.toArray (arrOf r.toArray.size l)).contains i = true := by kernel_rfl) (hns : Region.noSelect r.toArray = true := by kernel_rfl) (hf : Region.free .any r.toArray (arrOf r.toArray.size l) i = true := by kernel_rfl)
    (hn' : memB i late = false := by kernel_rfl) : Wh X ⟨r.toArray, lp, late⟩ Q (fuel + 1) l s b := by
  obtain rfl : (fun v' => sputO s oi.dst v') = s' := funext hs'
  subst hn; subst hxs
  obtain ⟨v', h3, h4, h5⟩ := sub_ex (xs' := bl ((p.drop lo).take (hi - lo))) ho hx ht hs hv.cs hl hh hnl hnh h1 h2 rfl (by rw [Nat.mul_one, Nat.mul_one, bl_drop, bl_take])
  rw [Nat.mul_one] at h5
  exact wh_take hpk hi' hg hd h3 (.inl rfl) (h v' ⟨h4, hv.ok.sub h1 h2⟩ h5) rfl hr hns hf hn'
theorem wh_sub {i : Nat} {oi : Oper} {r : List Oper} {lp : Blks} {late : List Nat} {t e k n n' lo hi : Nat} {x : Operand} {ol oh : Option Operand} {Φ : World → Prop} {xs xs' : List Value} {s' : Value → Slots} (hpk : pickS steadyB r idx l = some i) (hi' : opAt r i = some oi) (hg : gd s r.toArray oi = some true) (hd : dOk X.N oi.dst = true) (ho : oi.op = .slice t x ol oh none) (hx : val s x = some v)
    [ht : UT X.P t (.slice e)] [hs : SZ X.P e k] {la ha : Int} [hv : CsF Φ v n xs] (hl : loV s ol = some la) (hh : hiV s n oh = some ha) (hnl : la = (lo : Int)) (hnh : ha = (hi : Int))
    (h : ∀ v', CsF Φ v' n' xs' → Part v v' (lo * k) n' → Wh X ⟨r.toArray, lp, late⟩ Q fuel (i :: l) (s' v') b)
    (h1 : lo ≤ hi := by first | (with_reducible assumption) | omega) (h2 : hi ≤ n := by first | (with_reducible assumption) | omega)
    (hn : hi - lo = n' := by first | (with_reducible assumption) | rfl) (hxs : (xs.drop (lo * k)).take ((hi - lo) * k) = xs' := by first | (with_reducible assumption) | rfl)
    (hs' : ∀ v', sputO s oi.dst v' = s' v' := by intro _; (try dsimp only [sputO, sput, Nat.reduceBEq, cond_true, cond_false, beq_self_eq_true]); first | done | exact rfl)
    (hr : (Region.ready .any r.toArray (arrOf r.toArray.size l)).contains i = true := by kernel_rfl) (hns : Region.noSelect r.toArray = true := by kernel_rfl) (hf : Region.free .any r.toArray (arrOf r.toArray.size l) i = true := by kernel_rfl)
    (hn' : memB i late = false := by kernel_rfl) : Wh X ⟨r.toArray, lp, late⟩ Q (fuel + 1) l s b := by
  obtain rfl : (fun v' => sputO s oi.dst v') = s' := funext hs'
  obtain ⟨v', h3, h4, h5⟩ := sub_ex ho hx ht hs hv hl hh hnl hnh h1 h2 hn hxs
  exact wh_take hpk hi' hg hd h3 (.inl rfl) (h v' h4 h5) rfl hr hns hf hn'
end
theorem whS {p q : Prop} (k : q) (h : Box q → p := by refine fun k => ?_; (with_reducible refine sel_wh ?_); first | (refine wh_subB (lo := 0) rfl rfl rfl rfl rfl rfl rfl rfl rfl rfl ?_; exact k.out) | (refine wh_subB rfl rfl rfl rfl rfl rfl rfl rfl rfl rfl ?_; exact k.out) | (refine wh_sub (lo := 0) rfl rfl rfl rfl rfl rfl rfl rfl rfl rfl ?_; exact k.out) | (refine wh_sub rfl rfl rfl rfl rfl rfl rfl rfl rfl rfl ?_; exact k.out) | fail) : p := h ⟨k⟩
theorem whD {p q : Prop} (k : q) (h : Box q → p := by refine fun k => ?_; (with_reducible refine sel_wh ?_); first | (refine wh_subD (lo := 0) rfl rfl rfl rfl rfl rfl rfl rfl rfl rfl ?_; exact k.out) | (refine wh_subD rfl rfl rfl rfl rfl rfl rfl rfl rfl rfl ?_; exact k.out) | fail) : p := h ⟨k⟩
theorem whC {p q : Prop} (k : q) (h : Box q → p := by refine fun k => ?_; (with_reducible refine sel_wh ?_); first | (refine wh_cutD rfl rfl rfl rfl rfl rfl rfl rfl rfl rfl ?_; exact k.out) | fail) : p := h ⟨k⟩
end Go.Proofs.YtkendlnjaopbeaaGreatDoor
