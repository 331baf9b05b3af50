/- Items as bytes, in plain terms. Items that came in: a tag, a body. Items of the walk's own: a slice that nobody else holds, with bodies that stand in blocks of the walk's own. Attributes: what is checked, what is normal. Plain laws. Functions' values that have caught something: made, called. Slices of bytes that come in as arguments; the builtin min; and, or, xor of int. Bytes that are told as strings; bytes.Equal. A block of one's own, seen in a world. Attributes: kinds and values; find and Match, walked. What arguments are that came in, with how much they hold: shapes built out of shapes. attr.Match, walked; attributes that came in. attr.fits, walked. attr.Check, walked. Attributes of the walk's own: lists that nobody else holds. Structs as rows of segments. -/
import Derived.Test.YtlpalhagndmpjaaOwnB
import Derived.Test.YtlpalhagndmpjaaLwH
import Derived.Test.YtlpalhagndmpjaaCom
import Derived.Test.YtlpalhagndmpjaaLwDraw
import Derived.ChangeSlices
import Derived.Below
import Derived.WideShapes
import Derived.Test.YtlpalhagndmpjaaTyS
import Derived.Laws.BytesArg
import Derived.Laws.Strings
import Derived.Test.YtlpalhagndmpjaaRows
import Derived.OpenShut
import Derived.DataReads
import Derived.ChangeSame
namespace Go.Proofs.Ytlpalhagndmpjaa
/-- What stands ahead of a body of n bytes. -/
def headL (tag n : Nat) : List Nat := if n < 128 then [tag, n] else if n < 256 then [tag, 129, n] else [tag, 130, n / 256 % 256, n % 256]
def wr1 (x : Nat × List Nat) : List Nat := headL x.1 x.2.length ++ x.2
def wrL (l : List (Nat × List Nat)) : List Nat := (l.map wr1).flatten
/-- May that be written? -/
def fitsL (l : List (Nat × List Nat)) : Prop := l.length ≤ 200 ∧ ∀ x ∈ l, x.2.length ≤ 4096
theorem wrL_app (a b : List (Nat × List Nat)) : wrL (a ++ b) = wrL a ++ wrL b := by simp [wrL]
theorem wrL_nil : wrL [] = [] := rfl
theorem wrL_one (x : Nat × List Nat) : wrL [x] = wr1 x := by simp [wrL]
theorem wrL_snoc {l : List (Nat × List Nat)} {i : Nat} {x : Nat × List Nat} (h : l[i]? = some x) : wrL (l.take (i + 1)) = wrL (l.take i) ++ wr1 x := by
  rw [List.take_add_one, h, wrL_app]
  simp [wrL_one]
theorem headL_len (t n : Nat) : (headL t n).length ≤ 4 ∧ 2 ≤ (headL t n).length := by
  unfold headL; split <;> (try split) <;> simp
theorem wr1_len (x : Nat × List Nat) : (wr1 x).length ≤ x.2.length + 4 := by
  have := (headL_len x.1 x.2.length).1
  simp only [wr1, List.length_append]; omega
theorem wrL_len : ∀ {l : List (Nat × List Nat)}, (∀ x ∈ l, x.2.length ≤ 4096) → (wrL l).length ≤ 4100 * l.length
  | [], _ => by simp [wrL]
  | x :: r, h => by
    have h1 := wr1_len x
    have h2 := h x (by simp)
    have h3 := wrL_len (l := r) fun y hy => h y (by simp [hy])
    rw [show x :: r = [x] ++ r from rfl, wrL_app, List.length_append, wrL_one]
    simp only [List.length_append, List.length_cons, List.length_nil]
    omega
/-- Of two items' texts none is the beginning of the other, unless they are one. -/
theorem wr1_front {x y : Nat × List Nat} (hx : x.2.length ≤ 4096) (hy : y.2.length ≤ 4096) {s t : List Nat} (h : wr1 x ++ s = wr1 y ++ t) : x = y ∧ s = t := by
  obtain ⟨a, p⟩ := x
  obtain ⟨b, q⟩ := y
  simp only [wr1] at h hx hy
  have key : a = b ∧ p.length = q.length ∧ p ++ s = q ++ t := by
    generalize hn : p.length = n at *
    generalize hm : q.length = m at *
    by_cases n1 : n < 128 <;> by_cases n2 : n < 256 <;> by_cases m1 : m < 128 <;> by_cases m2 : m < 256 <;> simp [headL, n1, n2, m1, m2] at h <;>
      first | exact ⟨h.1, h.2.1, h.2.2⟩ | exact ⟨h.1, by omega, h.2.2.2⟩ | (exfalso; omega)
  obtain ⟨rfl, hl, h3⟩ := key
  obtain ⟨rfl, h4⟩ := List.append_inj h3 hl
  exact ⟨rfl, h4⟩
end Go.Proofs.Ytlpalhagndmpjaa
namespace Go.Proofs.Ytlpalhagndmpjaa
open Go.RowKit
set_option linter.unusedVariables false
/-- An item: its tag, its body's slice, the bytes. -/
abbrev It := Nat × Value × List Nat
def It.p (x : It) : Nat × List Nat := (x.1, x.2.2)
def itC (x : It) : List Value := [.int .u8 ((x.1 : Nat) : Int), x.2.1]
def itsC (l : List It) : List Value := (l.map itC).flatten
theorem itsC_len : ∀ l : List It, (itsC l).length = l.length * 2
  | [] => rfl
  | x :: r => by
    have := itsC_len r
    unfold itsC at this ⊢
    simp only [List.map_cons, List.flatten_cons, List.length_append, this, List.length_cons, itC, List.length_nil]; omega
theorem itsC_app (a b : List It) : itsC (a ++ b) = itsC a ++ itsC b := by simp [itsC]
theorem itsC_get : ∀ {l : List It} {i : Nat} {x : It}, l[i]? = some x → ((itsC l).drop (i * 2)).take 2 = [.int .u8 ((x.1 : Nat) : Int), x.2.1]
  | [], _, _, h => by simp at h
  | y :: r, 0, x, h => by
    simp only [List.getElem?_cons_zero, Option.some.injEq] at h
    subst h
    simp [itsC, itC]
  | y :: r, i + 1, x, h => by
    rw [List.getElem?_cons_succ] at h
    have ih := itsC_get h
    rw [show (i + 1) * 2 = 2 + i * 2 by omega, ← List.drop_drop]
    have : (itsC (y :: r)).drop 2 = itsC r := by simp [itsC, itC]
    rw [this]
    exact ih
/-- A slice of items in a world. -/
structure Its (w : World) (v : Value) (l : List It) : Prop where
  cs : Cs w v l.length (itsC l)
  tag : ∀ x ∈ l, x.1 < 256
  body : ∀ x ∈ l, Cb w x.2.1 x.2.2.length x.2.2
theorem Its.below {w w' : World} {v : Value} {l : List It} (h : Its w v l) (hb : Below w.heap.size w w') : Its w' v l := ⟨h.cs.below hb, h.tag, fun x hx => (h.body x hx).below hb⟩
end Go.Proofs.Ytlpalhagndmpjaa
namespace Go.Proofs.Ytlpalhagndmpjaa
open Go.RowKit
set_option linter.unusedVariables false
set_option maxRecDepth 100000
/-- Items, the same in all worlds of which Φ is told. -/
class IsF (Φ : outParam (World → Prop)) (v : Value) (l : outParam (List It)) : Prop where
  cs : CsF Φ v l.length (itsC l)
  out : ∀ w, Φ w → Its w v l
theorem Its.old {W : World} {v : Value} {l : List It} (h : Its W v l) : IsF (Old W []) v l := ⟨h.cs.old, fun w ho =>
  ⟨h.cs.old.out w ho, h.tag, fun x hx => ⟨(h.body x hx).cs.old.out w ho, (h.body x hx).ok⟩⟩⟩
theorem IsF.csf {Φ : World → Prop} {v : Value} {l : List It} (h : IsF Φ v l) : CsF Φ v l.length (itsC l) := h.cs
class VwI (X : Cx) (l : Blks) (v : Value) (its : outParam (List It)) : Prop where
  out : ∀ w, Mem X l w → Its w v its
instance {X : Cx} {l : Blks} {Φ : World → Prop} {v : Value} {its : List It} [h : IsF Φ v its] [h' : Hold X l Φ] : VwI X l v its := ⟨fun w hm => h.out w (h'.out w hm)⟩
/-- The bodies of items, in blocks of the walk's own. -/
def BodI (its : List It) (ob : Blks) : Prop := ∀ x ∈ its, x.1 < 256 ∧ (BL x.2.2.length x.2.2 ∧ Ln x.2.1 x.2.2.length) ∧ ∀ w, Hd ob w → Cs w x.2.1 x.2.2.length (bl x.2.2)
theorem BodI.nil : BodI [] [] := fun x hx => by cases hx
theorem Hd.left {a b : Blks} {w : World} (h : Hd (a ++ b) w) : Hd a w := fun p hp => h p (List.mem_append_left _ hp)
theorem Hd.right {a b : Blks} {w : World} (h : Hd (a ++ b) w) : Hd b w := fun p hp => h p (List.mem_append_right _ hp)
theorem BodI.app {l m : List It} {a b : Blks} (h : BodI l a) (h' : BodI m b) : BodI (l ++ m) (a ++ b) := fun x hx => by
  rcases List.mem_append.1 hx with hx | hx
  · obtain ⟨h1, h2, h3⟩ := h x hx; exact ⟨h1, h2, fun w hw => h3 w hw.left⟩
  · obtain ⟨h1, h2, h3⟩ := h' x hx; exact ⟨h1, h2, fun w hw => h3 w hw.right⟩
theorem BodI.one {t : Nat} {v : Value} {e : Nat} {q : List Nat} {oa : Blks} (h : OwnB e v q.length q oa) (ht : t < 256) : BodI [(t, v, q)] oa := fun x hx => by
  simp only [List.mem_singleton] at hx
  subst hx
  exact ⟨ht, ⟨h.ok, h.own.ln⟩, fun w hw => h.own.cs.out w hw⟩
/-- A slice of such items. -/
structure OwnI (e : Nat) (v : Value) (its : List It) (oa : Blks) : Prop where
  out : ∃ oo ob, oa = oo ++ ob ∧ OwnL e 2 v its.length (itsC its) oo ∧ BodI its ob
theorem OwnI.isf {e : Nat} {v : Value} {its : List It} {oa : Blks} (h : OwnI e v its oa) : IsF (Hd oa) v its := by
  obtain ⟨oo, ob, rfl, h1, h2⟩ := h.out
  refine ⟨⟨h1.ln, fun w hw => h1.cs.out w hw.left⟩, fun w hw => ⟨h1.cs.out w hw.left, fun x hx => (h2 x hx).1, fun x hx => ⟨(h2 x hx).2.2 w hw.right, (h2 x hx).2.1.1⟩⟩⟩
end Go.Proofs.Ytlpalhagndmpjaa
namespace Go.Proofs.Ytlpalhagndmpjaa
set_option linter.unusedVariables false
/-- A kind, and the bytes of its value. -/
abbrev Ab := Int × List Nat
def fitsB (x : Ab) : Bool :=
  if x.1 = 1 then decide (x.2.length = 1 ∧ 1 ≤ x.2.getD 0 0 ∧ x.2.getD 0 0 ≤ 4)
  else if x.1 = 2 ∨ x.1 = 3 then decide (x.2.length ≤ 32)
  else if x.1 = 4 then decide (x.2.length ≤ 64)
  else decide (x.2.length = 1 ∧ x.2.getD 0 0 ≤ 1)
/-- What is told of the first that is wrong; s: the kinds that were there. -/
def chkF : List Ab → List Int → Int
  | [], _ => 0
  | x :: r, s => if x.1 < 1 ∨ x.1 > 18 then 13 else if fitsB x = false then 4 else if x.1 ∈ s then 1 else chkF r (x.1 :: s)
def chkA (l : List Ab) : Int := if l.length > 24 then 2 else chkF l []
structure AbOk (l : List Ab) : Prop where
  len : l.length ≤ 24
  each : ∀ x ∈ l, 1 ≤ x.1 ∧ x.1 ≤ 18 ∧ fitsB x = true
  nd : (l.map (·.1)).Nodup
theorem chkF_zero : ∀ (l : List Ab) (s : List Int), chkF l s = 0 ↔ (∀ x ∈ l, 1 ≤ x.1 ∧ x.1 ≤ 18 ∧ fitsB x = true) ∧ (l.map (·.1)).Nodup ∧ ∀ x ∈ l, x.1 ∉ s
  | [], s => by simp [chkF]
  | x :: r, s => by
    unfold chkF
    by_cases h1 : x.1 < 1 ∨ x.1 > 18
    · rw [if_pos h1]
      refine ⟨fun h => absurd h (by decide), fun h => ?_⟩
      have := h.1 x (by simp)
      omega
    rw [if_neg h1]
    by_cases h2 : fitsB x = false
    · rw [if_pos h2]
      refine ⟨fun h => absurd h (by decide), fun h => ?_⟩
      have := (h.1 x (by simp)).2.2
      rw [h2] at this; cases this
    rw [if_neg h2]
    by_cases h3 : x.1 ∈ s
    · rw [if_pos h3]
      exact ⟨fun h => absurd h (by decide), fun h => absurd h3 (h.2.2 x (by simp))⟩
    rw [if_neg h3, chkF_zero r (x.1 :: s)]
    have h2' : fitsB x = true := by simpa using h2
    constructor
    · rintro ⟨h4, h5, h6⟩
      refine ⟨fun y hy => ?_, ?_, fun y hy => ?_⟩
      · rcases List.mem_cons.1 hy with rfl | hy
        · exact ⟨by omega, by omega, h2'⟩
        · exact h4 y hy
      · rw [List.map_cons, List.nodup_cons]
        refine ⟨fun hm => ?_, h5⟩
        obtain ⟨y, hy, he⟩ := List.mem_map.1 hm
        exact h6 y hy (by rw [he]; exact List.mem_cons_self)
      · rcases List.mem_cons.1 hy with rfl | hy
        · exact h3
        · exact fun hm => h6 y hy (List.mem_cons_of_mem _ hm)
    · rintro ⟨h4, h5, h6⟩
      rw [List.map_cons, List.nodup_cons] at h5
      refine ⟨fun y hy => h4 y (List.mem_cons_of_mem _ hy), h5.2, fun y hy hm => ?_⟩
      rcases List.mem_cons.1 hm with he | hm
      · exact h5.1 (by rw [← he]; exact List.mem_map.2 ⟨y, hy, rfl⟩)
      · exact h6 y (List.mem_cons_of_mem _ hy) hm
theorem chkA_zero {l : List Ab} : chkA l = 0 ↔ AbOk l := by
  unfold chkA
  by_cases h : l.length > 24
  · rw [if_pos h]
    exact ⟨fun h' => absurd h' (by decide), fun h' => absurd h'.len (by omega)⟩
  · rw [if_neg h, chkF_zero]
    exact ⟨fun ⟨h1, h2, _⟩ => ⟨by omega, h1, h2⟩, fun ⟨_, h1, h2⟩ => ⟨h1, h2, fun x _ => by simp⟩⟩
/-! ### Rising -/
def Rises (l : List Ab) : Prop := l.Pairwise fun a b => a.1 < b.1
/-- What rises and has the same is the same. -/
theorem rises_only : ∀ {l m : List Ab}, Rises l → Rises m → l.Perm m → l = m
  | [], m, _, _, h => (List.nil_perm.1 h).symm
  | a :: l, [], _, _, h => absurd h.length_eq (by simp)
  | a :: l, b :: m, hl, hm, h => by
    have hl' := List.pairwise_cons.1 hl
    have hm' := List.pairwise_cons.1 hm
    have e : a = b := by
      have h1 : a ∈ b :: m := h.mem_iff.1 List.mem_cons_self
      have h2 : b ∈ a :: l := h.mem_iff.2 List.mem_cons_self
      rcases List.mem_cons.1 h1 with h1 | h1
      · exact h1
      rcases List.mem_cons.1 h2 with h2 | h2
      · exact h2.symm
      have := hm'.1 a h1
      have := hl'.1 b h2
      omega
    subst e
    rw [rises_only hl'.2 hm'.2 (List.Perm.cons_inv h)]
theorem Rises.nodup {l : List Ab} (h : Rises l) : (l.map (·.1)).Nodup := by
  rw [List.nodup_iff_pairwise_ne]
  refine List.Pairwise.map _ (R := fun a b : Ab => a.1 < b.1) (fun a b hab => ?_) h
  omega
end Go.Proofs.Ytlpalhagndmpjaa
namespace Go.Proofs.Ytlpalhagndmpjaa
open Go.RowKit
set_option linter.unusedVariables false
set_option linter.unusedSimpArgs false
section
variable {X : Cx} {s : Slots} {l : Blks} {o : Oper} {v : Value}
/-- A function's value with what it has caught. -/
theorem rd_mkfun {f : Nat} {cs : Array Operand} {us : List Value} (ho : o.op = .makeFunc (.func f) #[] cs) (hu : vals s cs.toList = some us) : RdV X s l o (.func (.func f) #[] us.toArray) := rd_val fun a w he hm => by
  have h := he.vals hu
  have h2 : cs.map a.eval = us.toArray := by rw [← h]; simp [← Array.toList_map]
  have h3 : Array.map a.eval (#[] : Array Operand) = #[] := by simp
  simp only [execOp, ho, Instr.makeFunc, h2, h3, Sem.run_bind, Sem.run_pure, Result.andThen_ok]
/-- A call of such a value. -/
theorem rd_callc {c : Call} {f : Nat} {y : Operand} {us vs : List Value} (ho : o.op = .call c) (hc : c.callee = .value y) (hy : val s y = some (.func (.func f) #[] us.toArray)) (ha : vals s c.args.toList = some vs)
    (h : ∀ w, Mem X l w → Calls X.P f (vs ++ us).toArray w (Ret v w)) (hk : callOk X.P f = true := by kernel_rfl) : Rd X s l o v := fun a w he hm => by
  have h1 := he.vals ha
  have h2 : c.args.map a.eval = vs.toArray := by rw [← h1]; simp [← Array.toList_map]
  have e : (execOp a.eval o).run X.P w = (callFunc f (vs ++ us).toArray).run X.P w := by
    simp only [execOp, ho, resolve, hc, h2, he.eval hy, Deferred.ofValue]
    simp [invoke]
  rw [e, run_enter hk]
  exact ⟨rfl, h w hm⟩
end
section
variable {X : Cx} {Q : Post} {s : Slots} {l : Blks} {ops : Array Oper} {r : List Oper} {d : Option Tmp} {ty : TypeId} {p : String} {af : Array Edge} {g : Option (Nat × Bool)}
theorem sel_makeFunc {f : Fn} {a b : Array Operand} (h : Wl X ops Q (⟨d, .makeFunc f a b, ty, p, af, g⟩ :: r) s l) : Wl X ops Q (⟨d, .makeFunc f a b, ty, p, af, g⟩ :: r) s l := h
end
end Go.Proofs.Ytlpalhagndmpjaa
namespace Go.Proofs.Ytlpalhagndmpjaa
open Go.RowKit Go.ChangeShapes
set_option linter.unusedVariables false
set_option linter.unusedSimpArgs false
/-- A slice of n bytes in the memory w: byte i is f i. -/
structure Sl (W : World) (p : Option Addr) (n : Nat) (f : Nat → Nat) : Prop where
  small : n < 9223372036854775808
  byte : ∀ i, f i < 256
  cell : ∀ i, i < n → ∃ b off, p = some ⟨b, off, none⟩ ∧ W.cell? ⟨b, off + i, none⟩ = some (.int .u8 ((f i : Nat) : Int))
theorem Sl.below {W w : World} {p : Option Addr} {n : Nat} {f : Nat → Nat} (h : Sl W p n f) (hb : Below W.heap.size W w) : Sl w p n f := ⟨h.small, h.byte, fun i hi => by
  obtain ⟨b, off, hp, hc⟩ := h.cell i hi
  exact ⟨b, off, hp, by rw [hb.cell (World.block_lt_of_cell? _ _ hc)]; exact hc⟩⟩
section
variable {X : Cx} {s : Slots} {l : Blks} {o : Oper} {v : Value}
/-- A cell that was there when the function began. -/
theorem ld_old {t b off : Nat} [hu : KD X.P t false] (hc : X.W.cell? ⟨b, off, none⟩ = some v) (ho : X.own = [] := by rfl) : Ld X l t b off v := fun w hm => by
  have hc' : w.cell? ⟨b, off, none⟩ = some v := by rw [(hm.below ho).cell (World.block_lt_of_cell? _ _ hc)]; exact hc
  simp [loadVar, Sem.run_bind, hu.agg, run_load, hc']
theorem rd_min {c : Call} {x y : Operand} {k k' : IntKind} {a b r : Int} (ho : o.op = .call c) (hc : c.callee = .builtin .min) (ha : c.args = #[x, y]) (hx : val s x = some (.int k a)) (hy : val s y = some (.int k' b)) (hr : (if b < a then b else a) = r := by with_reducible assumption) : RdV X s l o (.int k r) :=
  rd_val fun e w he hm => by
    subst hr
    simp only [execOp, ho, resolve, hc, ha, List.map_toArray, List.map_cons, List.map_nil, he.eval hx, he.eval hy]
    simp [invoke, builtin, Sem.run_bind, run_min_int2]
theorem rd_neqB {t yt : Nat} {x y : Operand} {a b r : Bool} (ho : o.op = .binOp .neq t x y yt) (hx : val s x = some (.bool a)) (hy : val s y = some (.bool b)) [h : UT X.P t .bool] (hr : (a != b) = r) : RdV X s l o (.bool r) :=
  rd_val fun e w he hm => by
    subst hr
    have q : (Op.equalIn 10000 t (.bool a) (.bool b)).run X.P w = .ok (a == b) w := by
      rw [show (10000 : Nat) = 9999 + 1 from rfl, Op.equalIn, Sem.run_bind, run_underlying h.out]; rfl
    simp only [execOp, ho, he.eval hx, he.eval hy, eqGuard]
    simp [run_neq w rfl q]
    cases a <;> cases b <;> rfl
/-- A call through a value. -/
theorem rd_callv {c : Call} {f : Nat} {y : Operand} {vs : List Value} (ho : o.op = .call c) (hc : c.callee = .value y) (hy : val s y = some (.func (.func f) #[] #[])) (ha : vals s c.args.toList = some vs)
    (h : ∀ w, Mem X l w → Calls X.P f vs.toArray w (Ret v w)) (hk : callOk X.P f = true := by kernel_rfl) : Rd X s l o v := fun a w he hm => by
  have h1 := he.vals ha
  have h2 : c.args.map a.eval = vs.toArray := by rw [← h1]; simp [← Array.toList_map]
  have e : (execOp a.eval o).run X.P w = (callFunc f vs.toArray).run X.P w := by
    simp only [execOp, ho, resolve, hc, h2, he.eval hy, Deferred.ofValue]
    simp [invoke]
  rw [e, run_enter hk]
  exact ⟨rfl, h w hm⟩
end
section
variable {H : Type} {enc : TypeId × Value → H} {P : Program} {w : World} {base : Nat}
theorem wf_byte {z : Int} (h : (Lit.int .u8 z).wf = true) : 0 ≤ z ∧ z < 256 := by
  simp [Lit.wf, IntKind.min, IntKind.max, IntKind.signed, IntKind.bits] at h
  exact ⟨h.1, by omega⟩
theorem open_bytes {t e : TypeId} {r : Reach} {b0 : Nat} {v : Value} {d : DataW H} {p : List MemPlace} (ht : P.underlying t = some (.slice e)) (he : P.underlying e = some (.int .u8)) (hce : P.cellsOf e = 1)
    (hv : Value.okWide P w r b0 t v) (h : DataW.Trod enc P w base (fun _ => true) true t v d p) : ∃ (q : Option Addr) (n cap : Nat) (f : Nat → Nat), v = .slice q n cap ∧ n ≤ cap ∧ Sl w q n f := by
  obtain ⟨a0, len0, cap0, rfl⟩ := Go.WideShapes.okWide_slice ht hv
  obtain ⟨fuel, hf⟩ := h
  rcases open_ints ht he hce hf with ⟨hcs, hx⟩ | ⟨a, len, cap, zs, hcs, _, hl, hm, hz, hx, hcell, hwz⟩
  · simp [Value.cells] at hcs
    obtain ⟨rfl, rfl, rfl⟩ := hcs
    exact ⟨none, 0, 0, fun _ => 0, rfl, Nat.le_refl _, by decide, fun _ => by decide, fun i hi => by omega⟩
  · simp [Value.cells] at hcs
    obtain ⟨rfl, rfl, rfl⟩ := hcs
    simp only [if_true] at hz
    refine ⟨some a, _, _, fun i => (zs.getD i 0).toNat, rfl, hl, by simp [maxLen] at hm; omega, fun i => ?_, fun i hi => ?_⟩
    · by_cases hi : i < zs.length
      · have := wf_byte (hwz zs[i] (List.getElem_mem hi))
        simp [List.getD, hi]; omega
      · simp [List.getD, hi]
    · have h0 := hcell 0 (by omega)
      have hi' := hcell i (by omega)
      obtain ⟨b, off, spot⟩ := a
      have hs : spot = none := by
        simp only [Addr.add, if_true, World.cell?] at h0
        split at h0
        · cases spot with
          | none => rfl
          | some x => simp at h0
        · cases h0
      subst hs
      refine ⟨b, off, rfl, ?_⟩
      rw [Addr.add_mid] at hi'
      rw [hi']
      have := wf_byte (hwz zs[i] (List.getElem_mem (by omega)))
      have h2 : zs.getD i 0 = zs[i] := by simp [List.getD, show i < zs.length by omega]
      rw [h2, Int.toNat_of_nonneg this.1]
end
/-! ### bits -/
theorem b63 {a : Nat} (ha : a < 9223372036854775808) : (BitVec.ofInt 64 (a : Int)).toNat = a := by
  rw [BitVec.ofInt_natCast, BitVec.toNat_ofNat]; exact Nat.mod_eq_of_lt (by omega)
theorem xor63 {a b : Nat} (ha : a < 9223372036854775808) (hb : b < 9223372036854775808) : a ^^^ b < 9223372036854775808 := Nat.xor_lt_two_pow (n := 63) ha hb
theorem or63 {a b : Nat} (ha : a < 9223372036854775808) (hb : b < 9223372036854775808) : a ||| b < 9223372036854775808 := Nat.or_lt_two_pow (n := 63) ha hb
theorem xor_int {a b : Nat} (ha : a < 9223372036854775808) (hb : b < 9223372036854775808) : bits .xor .i64 (a : Int) (b : Int) = ((a ^^^ b : Nat) : Int) := by
  have hx := xor63 ha hb
  show IntKind.i64.wrap ((BitVec.ofInt 64 (a : Int) ^^^ BitVec.ofInt 64 (b : Int)).toNat : Int) = _
  rw [BitVec.toNat_xor, b63 ha, b63 hb]
  exact wrap_i64 _ (by omega) (by omega)
theorem or_int {a b : Nat} (ha : a < 9223372036854775808) (hb : b < 9223372036854775808) : bits .or .i64 (a : Int) (b : Int) = ((a ||| b : Nat) : Int) := by
  have hx := or63 ha hb
  show IntKind.i64.wrap ((BitVec.ofInt 64 (a : Int) ||| BitVec.ofInt 64 (b : Int)).toNat : Int) = _
  rw [BitVec.toNat_or, b63 ha, b63 hb]
  exact wrap_i64 _ (by omega) (by omega)
theorem xor_nought {a b : Nat} : a ^^^ b = 0 ↔ a = b := by
  constructor
  · intro h
    have : a ^^^ (b ^^^ b) = b := by rw [← Nat.xor_assoc, h, Nat.zero_xor]
    rwa [Nat.xor_self, Nat.xor_zero] at this
  · rintro rfl; exact Nat.xor_self a
theorem xor_u8 {a b : Nat} (ha : a < 256) (hb : b < 256) : bits .xor .u8 (a : Int) (b : Int) = ((a ^^^ b : Nat) : Int) := by
  have hx : a ^^^ b < 256 := Nat.xor_lt_two_pow (n := 8) ha hb
  have h1 : (BitVec.ofInt 8 (a : Int)).toNat = a := by
    rw [BitVec.ofInt_natCast, BitVec.toNat_ofNat]; exact Nat.mod_eq_of_lt (by omega)
  have h2 : (BitVec.ofInt 8 (b : Int)).toNat = b := by
    rw [BitVec.ofInt_natCast, BitVec.toNat_ofNat]; exact Nat.mod_eq_of_lt (by omega)
  show IntKind.u8.wrap ((BitVec.ofInt 8 (a : Int) ^^^ BitVec.ofInt 8 (b : Int)).toNat : Int) = _
  rw [BitVec.toNat_xor, h1, h2]
  exact wrap_u8 _ (by omega) (by omega)
end Go.Proofs.Ytlpalhagndmpjaa
namespace Go.Proofs.Ytlpalhagndmpjaa
open Go.RowKit
set_option linter.unusedVariables false
set_option linter.unusedSimpArgs false
def strB (l : List Nat) : ByteArray := strOfNums (l.map fun k : Nat => (k : Int))
theorem strB_data (l : List Nat) : (strB l).data.toList = l.map UInt8.ofNat := by
  rw [strB, strOfNums_data, List.map_map]
  apply List.map_congr_left
  intro k _
  simp
theorem strB_size (l : List Nat) : (strB l).size = l.length := by rw [strB, strOfNums_size, List.length_map]
theorem ofNat_inj {a b : Nat} (ha : a < 256) (hb : b < 256) (h : UInt8.ofNat a = UInt8.ofNat b) : a = b := by
  have := congrArg UInt8.toNat h
  rwa [UInt8.toNat_ofNat', UInt8.toNat_ofNat', Nat.mod_eq_of_lt ha, Nat.mod_eq_of_lt hb] at this
theorem map_inj {p q : List Nat} (hp : ∀ x ∈ p, x < 256) (hq : ∀ x ∈ q, x < 256) (h : p.map UInt8.ofNat = q.map UInt8.ofNat) : p = q := by
  induction p generalizing q with
  | nil => cases q with
    | nil => rfl
    | cons b r => simp at h
  | cons a r ih => cases q with
    | nil => simp at h
    | cons b r' =>
      simp only [List.map_cons, List.cons.injEq] at h
      rw [ofNat_inj (hp a (by simp)) (hq b (by simp)) h.1, ih (fun x hx => hp x (by simp [hx])) (fun x hx => hq x (by simp [hx])) h.2]
theorem strB_inj {n m : Nat} {p q : List Nat} (hp : BL n p) (hq : BL m q) : strB p = strB q ↔ p = q := by
  refine ⟨fun h => ?_, fun h => by rw [h]⟩
  have h1 := congrArg (fun b => b.data.toList) h
  simp only [strB_data] at h1
  exact map_inj hp.by' hq.by' h1
theorem cs_string {P : Program} {w : World} {v : Value} {n src dst e : Nat} {p : List Nat} (hb : Cb w v n p) (hs : P.underlying src = some (.slice e)) (he : P.underlying e = some (.int .u8)) (hd : P.underlying dst = some .string) :
    (convert src dst v).run P w = .ok (.string (strB p)) w := by
  have hp := hb.ok
  have h := hb.cs
  clear hb
  obtain ⟨q, cap, rfl, h1, h2, h3⟩ := h.ln.out
  rcases Nat.eq_zero_or_pos n with h0 | h0
  · have hp0 : p = [] := List.eq_nil_of_length_eq_zero (by rw [hp.len, h0])
    subst hp0
    cases q with
    | none => rw [run_convert_bytes_nil w src e hs he n cap dst hd]; rfl
    | some a =>
      obtain ⟨b, off, spot⟩ := a
      have hl : (loadCells ⟨b, off, spot⟩ n).run P w = .ok (([] : List Int).map (Value.int .u8)).toArray w := by subst h0; simp [loadCells, loadCellsFrom]
      rw [run_convert_bytes_string w src dst e _ n cap hs he hd, run_bytesToString w _ n cap [] hl]
      rfl
  · obtain ⟨b, off, rfl⟩ := h3 h0
    refine run_convert_bytes_arg w src e hs he b off n cap (p.map fun k : Nat => (k : Int)) (by rw [List.length_map, hp.len]) (fun i hi => ?_) dst hd
    obtain ⟨b', off', cap', hv, hc⟩ := h.cell i (.int .u8 ((p.getD i 0 : Nat) : Int)) (bl_get (by rw [hp.len]; exact hi))
    injection hv with hv
    injection hv with hv
    injection hv with hb ho
    subst hb; subst ho
    rw [hc]
    have hi' : i < p.length := by rw [hp.len]; exact hi
    simp [List.getD, hi']
section
variable {X : Cx} {s : Slots} {l : Blks} {o : Oper} {v : Value}
theorem rd_convS {src dst e n : Nat} {x : Operand} {p : List Nat} (ho : o.op = .convert src dst x) (hx : val s x = some v) [hs : UT X.P src (.slice e)] [he : UT X.P e (.int .u8)] [hd : UT X.P dst .string] [hv : VwB X l v n p] : RdV X s l o (.string (strB p)) :=
  rd_val fun a w hev hm => by
    simp only [execOp, ho, hev.eval hx, Sem.run_bind, cs_string (hv.out w hm) hs.out he.out hd.out, Result.andThen_ok, Sem.run_pure]
theorem rd_eqlS {t yt : Nat} {x y : Operand} {a b : ByteArray} {r : Bool} (ho : o.op = .binOp .eql t x y yt) (hx : val s x = some (.string a)) (hy : val s y = some (.string b)) (hr : (a.toList == b.toList) = r := by first | (with_reducible assumption) | rfl) : RdV X s l o (.bool r) :=
  rd_val fun e w he hm => by
    subst hr
    simp only [execOp, ho, he.eval hx, he.eval hy, eqGuard]
    simp [binOp_string_eql]
end
theorem strB_beq {n m : Nat} {p q : List Nat} (hp : BL n p) (hq : BL m q) : ((strB p).toList == (strB q).toList) = (p == q) := by
  rw [Bool.eq_iff_iff, beq_iff_eq, beq_iff_eq, ← strB_inj hp hq, ByteArray.toList_eq, ByteArray.toList_eq]
  constructor
  · intro h
    cases h1 : strB p; cases h2 : strB q
    rw [h1, h2] at h
    congr 1
    exact Array.ext' h
  · intro h; rw [h]
set_option maxHeartbeats 1000000 in
set_option maxRecDepth 100000 in
theorem beq_c (w : World) {v u : Value} {n m : Nat} {p q : List Nat} (hv : Cb w v n p) (hu : Cb w u m q) : Calls Try.prog 20 [v, u].toArray w (Ret (.bool (p == q)) w) := by
  haveI := hv.old
  haveI := hu.old
  have hr := strB_beq hv.ok hu.ok
  refine fn_ret (N := _) Try.func20 rfl Try.ntmps20 Try.results20 (by simp) ?_
  simp only [initS, Nat.reduceAdd, Nat.zero_add]
  repeat' (first | (refine wlS ?_) | (refine wlB ?_) | (refine wl_skip rfl rfl ?_) | ((with_reducible refine wc_seq ?_); intro K hK) | (refine auC ?_) | (refine wc_cond rfl (fun hc => ?_) (fun hc => ?_)) | (refine wc_draw (by kernel_rfl) (by kernel_rfl) (by decide +kernel) ?_; intro w0 hw0 hm0; (try simp only [List.append_eq, List.cons_append, List.nil_append])) | (refine auP ?_) | ((refine auR ?_); clear hK K) | (refine auR ?_) | ((with_reducible refine hK _ _ ?_); clear hK K) | fail)
  first | refine end_ret (ResP.tmp rfl ResP.nil) ?_ | refine end_normal (ResP.tmp rfl ResP.nil) ?_
  first | rfl | (show _ = _; rfl) | (simp only [tupV, *]; done)
theorem beq_r (w : World) {v u : Value} {n m : Nat} {p q : List Nat} {r : Bool} (hv : Cb w v n p) (hu : Cb w u m q) (h : (p == q) = r) : Calls Try.prog 20 [v, u].toArray w (Ret (.bool r) w) := by
  rw [← h]; exact beq_c w hv hu
end Go.Proofs.Ytlpalhagndmpjaa
namespace Go.Proofs.Ytlpalhagndmpjaa
open Go.RowKit
set_option linter.unusedVariables false
set_option linter.unusedSimpArgs false
theorem At.skipA {n : Nat} {x y : Array Value × TypeId} {r r' : Blks} (h : At r n x y r') : ∀ ob : Blks, At (ob ++ r) n x y (ob ++ r')
  | [] => h
  | _ :: o => .there (At.skipA h o)
theorem Inn.skipA {n : Nat} {x : Array Value × TypeId} {r : Blks} (h : Inn r n x) : ∀ ob : Blks, Inn (ob ++ r) n x
  | [] => h
  | _ :: o => .there (Inn.skipA h o)
theorem Has.sees {X : Cx} {l : Blks} {n : Nat} {c : Array Value} {e : Nat} {w : World} (hm : Mem X l w) (h : Inn l n (c, e) := by repeat (first | exact Inn.here | apply Inn.there | apply Inn.skipA)) : w.heap[n]? = some (.cells c e) := Has.inn h w hm
end Go.Proofs.Ytlpalhagndmpjaa
namespace Go.Proofs.Ytlpalhagndmpjaa
open Go.RowKit
set_option linter.unusedVariables false
set_option linter.unusedSimpArgs false
set_option maxRecDepth 100000
/-- An attribute: its kind, its value's slice, the bytes. -/
abbrev Att := Int × Value × List Nat
def atC (x : Att) : List Value := [.int .i64 x.1, x.2.1]
def atsC (l : List Att) : List Value := (l.map atC).flatten
theorem atsC_len : ∀ l : List Att, (atsC l).length = l.length * 2
  | [] => rfl
  | x :: r => by
    have := atsC_len r
    unfold atsC at this ⊢
    simp only [List.map_cons, List.flatten_cons, List.length_append, this, List.length_cons, atC, List.length_nil]; omega
theorem atsC_app (a b : List Att) : atsC (a ++ b) = atsC a ++ atsC b := by simp [atsC]
theorem atsC_get : ∀ {l : List Att} {i : Nat} {x : Att}, l[i]? = some x → ((atsC l).drop (i * 2)).take 2 = [.int .i64 x.1, x.2.1]
  | [], _, _, h => by simp at h
  | y :: r, 0, x, h => by
    simp only [List.getElem?_cons_zero, Option.some.injEq] at h
    subst h
    simp [atsC, atC]
  | y :: r, i + 1, x, h => by
    rw [List.getElem?_cons_succ] at h
    have ih := atsC_get h
    rw [show (i + 1) * 2 = 2 + i * 2 by omega, ← List.drop_drop]
    have : (atsC (y :: r)).drop 2 = atsC r := by simp [atsC, atC]
    rw [this]
    exact ih
theorem atsC_val {l : List Att} {i : Nat} {x : Att} (h : l[i]? = some x) : (atsC l)[i * 2 + 1]? = some x.2.1 := by
  have := congrArg (·[1]?) (atsC_get h)
  simpa using this
/-- A slice of attributes in a world. -/
structure Ats (w : World) (v : Value) (l : List Att) : Prop where
  cs : Cs w v l.length (atsC l)
  body : ∀ x ∈ l, Cb w x.2.1 x.2.2.length x.2.2
theorem Ats.below {w w' : World} {v : Value} {l : List Att} (h : Ats w v l) (hb : Below w.heap.size w w') : Ats w' v l := ⟨h.cs.below hb, fun x hx => (h.body x hx).below hb⟩
/-- The same in all worlds of which Φ is told. -/
class AtF (Φ : outParam (World → Prop)) (v : Value) (l : outParam (List Att)) : Prop where
  cs : CsF Φ v l.length (atsC l)
  out : ∀ w, Φ w → Ats w v l
theorem Ats.old {W : World} {v : Value} {l : List Att} (h : Ats W v l) : AtF (Old W []) v l := ⟨h.cs.old, fun w ho =>
  ⟨h.cs.old.out w ho, fun x hx => ⟨(h.body x hx).cs.old.out w ho, (h.body x hx).ok⟩⟩⟩
class VwT (X : Cx) (l : Blks) (v : Value) (ts : outParam (List Att)) : Prop where
  out : ∀ w, Mem X l w → Ats w v ts
instance {X : Cx} {l : Blks} {Φ : World → Prop} {v : Value} {ts : List Att} [h : AtF Φ v ts] [h' : Hold X l Φ] : VwT X l v ts := ⟨fun w hm => h.out w (h'.out w hm)⟩
/-- The first of a kind. -/
def findN (k : Int) : List Att → Nat → Option Nat
  | [], _ => none
  | x :: r, i => if x.1 = k then some i else findN k r (i + 1)
def findI (l : List Att) (k : Int) : Int := match l.findIdx? (fun x => x.1 == k) with
  | some i => (i : Int)
  | none => -1
def matchB (l ask : List Att) : Bool := ask.all fun x => match l.find? (fun y => y.1 == x.1) with
  | some y => y.2.2 == x.2.2
  | none => false
theorem match_nil (l : List Att) : matchB l [] = true := rfl
theorem match_app (l a b : List Att) : matchB l (a ++ b) = (matchB l a && matchB l b) := by simp [matchB, List.all_append]
theorem match_cons (l : List Att) (x : Att) (r : List Att) : matchB l (x :: r) = (matchB l [x] && matchB l r) := match_app l [x] r
theorem match_trans {l a b : List Att} (h1 : matchB l a = true) (h2 : matchB a b = true) : matchB l b = true := by
  unfold matchB at *
  rw [List.all_eq_true] at *
  intro x hx
  have h3 := h2 x hx
  cases hy : a.find? (fun y => y.1 == x.1) with
  | none => rw [hy] at h3; cases h3
  | some y =>
    rw [hy] at h3
    have hk : y.1 = x.1 := by simpa using List.find?_some hy
    have h4 := h1 y (List.mem_of_find?_eq_some hy)
    rw [hk] at h4
    cases hz : l.find? (fun z => z.1 == x.1) with
    | none => rw [hz] at h4; cases h4
    | some z =>
      rw [hz] at h4
      dsimp only at h3 h4 ⊢
      rw [beq_iff_eq] at *
      rw [h4, h3]
theorem findIdx_find {l : List Att} {k : Int} : (∀ i, l.findIdx? (fun x => x.1 == k) = some i → ∃ y, l[i]? = some y ∧ l.find? (fun x => x.1 == k) = some y) ∧ (l.findIdx? (fun x => x.1 == k) = none → l.find? (fun x => x.1 == k) = none) := by
  induction l with
  | nil => exact ⟨fun i h => by simp at h, fun _ => rfl⟩
  | cons x r ih =>
    by_cases hx : (x.1 == k) = true
    · refine ⟨fun i h => ?_, fun h => ?_⟩
      · rw [List.findIdx?_cons, hx] at h
        simp only [if_true, Option.some.injEq] at h
        subst h
        exact ⟨x, rfl, by rw [List.find?_cons, hx]⟩
      · rw [List.findIdx?_cons, hx] at h; simp at h
    · have hx' : (x.1 == k) = false := by simpa using hx
      refine ⟨fun i h => ?_, fun h => ?_⟩
      · rw [List.findIdx?_cons, hx'] at h
        simp only [Bool.false_eq_true, if_false, Option.map_eq_some_iff] at h
        obtain ⟨j, hj, rfl⟩ := h
        obtain ⟨y, h1, h2⟩ := ih.1 j hj
        exact ⟨y, by simpa using h1, by rw [List.find?_cons, hx']; exact h2⟩
      · rw [List.findIdx?_cons, hx'] at h
        simp only [Bool.false_eq_true, if_false, Option.map_eq_none_iff] at h
        rw [List.find?_cons, hx']; exact ih.2 h
set_option maxHeartbeats 2000000 in
/-- Is it of this kind? -/
theorem isk_c (w : World) {g : Nat} {k z : Int} {v : Value} [One v] (h : w.heap[g]? = some (.cells #[.int .i64 k] 3)) : Calls Try.prog 51 [.agg #[.int .i64 z, v], ptr g].toArray w (Ret (.bool (z == k)) w) := by
  have hc : w.cell? ⟨g, 0, none⟩ = some (.int .i64 k) := by simp [World.cell?, h]
  clear h
  refine fn_ret (N := _) Try.func51 rfl Try.ntmps51 Try.results51 (by simp) ?_
  simp only [initS, Nat.reduceAdd, Nat.zero_add]
  repeat' (first | (refine wlS ?_) | (refine wlB ?_) | (refine wlO ?_) | (refine efBnn ?_; intro n hn) | (refine wl_skip rfl rfl ?_) | ((with_reducible refine wc_seq ?_); intro K hK) | (refine auC ?_) | (refine wc_cond rfl (fun hc => ?_) (fun hc => ?_)) | (refine wc_draw (by kernel_rfl) (by kernel_rfl) (by decide +kernel) ?_; intro w0 hw0 hm0; (try simp only [List.append_eq, List.cons_append, List.nil_append])) | (refine auP ?_) | ((refine auR ?_); clear hK K) | (refine auR ?_) | ((with_reducible refine hK _ _ ?_); clear hK K) | fail)
  first | refine end_ret (ResP.tmp rfl ResP.nil) ?_ | refine end_normal (ResP.tmp rfl ResP.nil) ?_
  first | rfl | (show _ = _; rfl) | (simp only [tupV, *]; done)
set_option maxHeartbeats 4000000 in
theorem ixf_c (w : World) {u : Value} {l : List Att} {g : Nat} {k : Int} (h : Ats w u l) (hg : w.heap[g]? = some (.cells #[.int .i64 k] 3)) :
    Calls Try.prog 50 [u, .func (.func 51) #[] [ptr g].toArray].toArray w (Ret (.int .i64 (findI l k)) w) := by
  have i0 := h.cs.old
  have IK : ∀ {z : Int} {v : Value} [One v] w', Below w.heap.size w w' → Calls Try.prog 51 ([Value.agg #[.int .i64 z, v]] ++ [ptr g]).toArray w' (Ret (.bool (z == k)) w') := fun {z v} _ w' hb => isk_c w' (by rw [hb.block g (blk_lt hg)]; exact hg)
  have hl63 : l.length ≤ 9223372036854775807 := by obtain ⟨_, _, _, h1, h2, _⟩ := h.cs.ln.out; simp only [maxLen] at h2; omega
  have one : ∀ x ∈ l, One x.2.1 := fun x hx => by
    haveI : Ln x.2.1 x.2.2.length := (h.body x hx).cs.ln
    exact inferInstance
  clear h hg
  refine fn_ret (N := _) Try.func50 rfl Try.ntmps50 Try.results50 (by simp) ?_
  simp only [initS, Nat.reduceAdd, Nat.zero_add]
  repeat' (first | (refine wlS ?_) | (refine wlB ?_) | (refine wlE ?_) | (refine efSvao ?_; intro v oa ho) | (refine wl_skip rfl rfl ?_) | ((with_reducible refine wc_seq ?_); intro K hK) | (refine auC ?_) | (refine wc_cond rfl (fun hc => ?_) (fun hc => ?_)) | (refine wc_draw (by kernel_rfl) (by kernel_rfl) (by decide +kernel) ?_; intro w0 hw0 hm0; (try simp only [List.append_eq, List.cons_append, List.nil_append])) | (refine auP ?_) | ((refine auR ?_); clear hK K) | (refine auR ?_) | ((with_reducible refine hK _ _ ?_); clear hK K) | fail)
  refine wc_loop (σ := Nat) (fun i => [(0, u), (1, .func (.func 51) #[] [ptr g].toArray), (7, .int .i64 (l.length : Int)), (8, .int .i64 (i : Int))]) (fun _ => [])
    (fun i => i ≤ l.length ∧ ∀ j x, j < i → l[j]? = some x → (x.1 == k) = false) (fun i => l.length - i) 0 ⟨Nat.zero_le _, fun j x hj => absurd hj (by omega)⟩ (Fits.of ⟨rfl, rfl, rfl, rfl, trivial⟩ .nil rfl) ?_
  rintro i ⟨hi, hno⟩
  by_cases hlt : i < l.length
  · obtain ⟨⟨z, v, q⟩, hx⟩ : ∃ x, l[i]? = some x := ⟨l[i], List.getElem?_eq_getElem hlt⟩
    have hget := atsC_get hx
    have t1 : decide ((i : Int) < (l.length : Int)) = true := decide_eq_true (by omega)
    have t2 : IntKind.i64.wrap ((i : Int) + 1) = ((i + 1 : Nat) : Int) := by rw [wrap_i64 _ (by omega) (by omega)]; omega
    have j1 : (i : Int) < (l.length : Int) := by omega
    haveI : One v := one _ (List.mem_of_getElem? hx)
    dsimp only at hget
    by_cases hz : (z == k) = true
    · have IK1 := fun w' hb => IK (z := z) (v := v) w' hb
      rw [hz] at IK1
      have hf : findI l k = (i : Int) := by
        have : l.findIdx? (fun x => x.1 == k) = some i := by
          rw [List.findIdx?_eq_some_iff_getElem]
          refine ⟨hlt, ?_, fun j hj => ?_⟩
          · have := (List.getElem?_eq_some_iff.1 hx).2; rw [this]; exact hz
          · have := hno j _ hj (List.getElem?_eq_getElem (by omega)); simpa using this
        rw [findI, this]
      rw [hf]
      clear IK hno one
      repeat' (first | (refine wlS ?_) | (refine wlB ?_) | ((with_reducible refine sel_call ?_); refine wl_rd rfl rfl (rd_callc rfl rfl rfl rfl (fun w hm => by with_reducible exact IK1 w (hm.below rfl))) ?_) | (refine wlE ?_) | (refine efSvao ?_; intro v oa ho) | (refine wl_skip rfl rfl ?_) | ((with_reducible refine wc_seq ?_); intro K hK) | (refine auC ?_) | (refine wc_cond rfl (fun hc => ?_) (fun hc => ?_)) | (refine wc_draw (by kernel_rfl) (by kernel_rfl) (by decide +kernel) ?_; intro w0 hw0 hm0; (try simp only [List.append_eq, List.cons_append, List.nil_append])) | (refine auP ?_) | ((refine auR ?_); clear hK K) | (refine auR ?_) | ((with_reducible refine hK _ _ ?_); clear hK K) | fail)
      first | refine end_ret (ResP.tmp rfl ResP.nil) ?_ | refine end_normal (ResP.tmp rfl ResP.nil) ?_
      first | rfl | (show _ = _; rfl) | (simp only [tupV, *]; done)
    · have hz' : (z == k) = false := by simpa using hz
      have IK1 := fun w' hb => IK (z := z) (v := v) w' hb
      rw [hz'] at IK1
      clear IK
      repeat' (first | (refine wlS ?_) | (refine wlB ?_) | ((with_reducible refine sel_call ?_); refine wl_rd rfl rfl (rd_callc rfl rfl rfl rfl (fun w hm => by with_reducible exact IK1 w (hm.below rfl))) ?_) | (refine wlE ?_) | (refine efSvao ?_; intro v oa ho) | (refine wl_skip rfl rfl ?_) | ((with_reducible refine wc_seq ?_); intro K hK) | (refine auC ?_) | (refine wc_cond rfl (fun hc => ?_) (fun hc => ?_)) | (refine wc_draw (by kernel_rfl) (by kernel_rfl) (by decide +kernel) ?_; intro w0 hw0 hm0; (try simp only [List.append_eq, List.cons_append, List.nil_append])) | (refine auP ?_) | ((refine auR ?_); clear hK K) | (refine auR ?_) | ((with_reducible refine hK _ _ ?_); clear hK K) | fail)
      refine ⟨i + 1, ⟨hlt, fun j x hj hjx => ?_⟩, by omega, Fits.of ⟨rfl, rfl, rfl, rfl, trivial⟩ .nil rfl⟩
      rcases Nat.lt_or_ge j i with h1 | h1
      · exact hno j x h1 hjx
      · obtain rfl : j = i := by omega
        rw [hx] at hjx
        cases hjx
        exact hz'
  · obtain rfl : i = l.length := by omega
    have t1 : decide ((l.length : Int) < (l.length : Int)) = false := decide_eq_false (by omega)
    have hf : findI l k = -1 := by
      have : l.findIdx? (fun x => x.1 == k) = none := by
        rw [List.findIdx?_eq_none_iff]
        intro x hx
        obtain ⟨j, hj, he⟩ := List.mem_iff_getElem.1 hx
        exact hno j x hj (by rw [List.getElem?_eq_getElem hj, he])
      rw [findI, this]
    rw [hf]
    clear IK hno one
    repeat' (first | (refine wlS ?_) | (refine wlB ?_) | (refine wlE ?_) | (refine efSvao ?_; intro v oa ho) | (refine wl_skip rfl rfl ?_) | ((with_reducible refine wc_seq ?_); intro K hK) | (refine auC ?_) | (refine wc_cond rfl (fun hc => ?_) (fun hc => ?_)) | (refine wc_draw (by kernel_rfl) (by kernel_rfl) (by decide +kernel) ?_; intro w0 hw0 hm0; (try simp only [List.append_eq, List.cons_append, List.nil_append])) | (refine auP ?_) | ((refine auR ?_); clear hK K) | (refine auR ?_) | ((with_reducible refine hK _ _ ?_); clear hK K) | fail)
    first | refine end_ret (ResP.tmp rfl ResP.nil) ?_ | refine end_normal (ResP.tmp rfl ResP.nil) ?_
    first | rfl | (show _ = _; rfl) | (simp only [tupV, *]; done)
set_option maxHeartbeats 2000000 in
theorem find_c (w : World) {u : Value} {l : List Att} {k : Int} (h : Ats w u l) : Calls Try.prog 35 [u, .int .i64 k].toArray w (Ret (.int .i64 (findI l k)) w) := by
  haveI i0 := h.old
  haveI i1 := h.cs.old
  have IX : ∀ {g : Nat} w', Ats w' u l → w'.heap[g]? = some (.cells #[.int .i64 k] 3) → Calls Try.prog 50 [u, .func (.func 51) #[] [ptr g].toArray].toArray w' (Ret (.int .i64 (findI l k)) w') := fun w' h1 h2 => ixf_c w' h1 h2
  clear h
  refine fn_ret (N := _) Try.func35 rfl Try.ntmps35 Try.results35 (by simp) ?_
  simp only [initS, Nat.reduceAdd, Nat.zero_add]
  repeat' (first | (refine wlS ?_) | (refine wlB ?_) | (refine wlMF ?_) | ((with_reducible refine sel_call ?_); refine wl_rd rfl rfl (rd_call rfl rfl rfl (fun w hm => by with_reducible exact IX w (VwT.out w hm) (Has.sees hm))) ?_) | (refine wlE ?_) | (refine efSvao ?_; intro v oa ho) | (refine efBnn ?_; intro n hn) | (refine wl_skip rfl rfl ?_) | ((with_reducible refine wc_seq ?_); intro K hK) | (refine auC ?_) | (refine wc_cond rfl (fun hc => ?_) (fun hc => ?_)) | (refine wc_draw (by kernel_rfl) (by kernel_rfl) (by decide +kernel) ?_; intro w0 hw0 hm0; (try simp only [List.append_eq, List.cons_append, List.nil_append])) | (refine auP ?_) | ((refine auR ?_); clear hK K) | (refine auR ?_) | ((with_reducible refine hK _ _ ?_); clear hK K) | fail)
  first | refine end_ret (ResP.tmp rfl ResP.nil) ?_ | refine end_normal (ResP.tmp rfl ResP.nil) ?_
  first | rfl | (show _ = _; rfl) | (simp only [tupV, *]; done)
end Go.Proofs.Ytlpalhagndmpjaa
namespace Go.Proofs.Ytlpalhagndmpjaa
open Go.RowKit Go.ChangeShapes Go.WideShapes
set_option linter.unusedVariables false
set_option linter.unusedSimpArgs false
/-! ### Bulk -/
theorem bulk_one {H : Type} (d : DataW H) : 1 ≤ Rows.uptoBulk d := by
  cases d with
  | lit l => cases l <;> simp [Rows.uptoBulk]
  | _ => simp [Rows.uptoBulk]
theorem bulk_len {H : Type} : ∀ l : List (DataW H), l.length ≤ Rows.uptoBulkAll l
  | [] => Nat.zero_le _
  | d :: r => by have := bulk_one d; have := bulk_len r; simp only [Rows.uptoBulkAll, List.length_cons]; omega
theorem bulk_sum {H : Type} : ∀ l : List (DataW H), Rows.uptoBulkAll l = (l.map Rows.uptoBulk).sum
  | [] => rfl
  | d :: r => by simp only [Rows.uptoBulkAll, List.map_cons, List.sum_cons, bulk_sum r]
theorem bulk_slice {H : Type} (a b : List (DataW H)) : Rows.uptoBulkAll a + 1 ≤ Rows.uptoBulk (.slice a b) := by simp only [Rows.uptoBulk]; omega
theorem bulk_agg {H : Type} (a : List (DataW H)) : Rows.uptoBulk (.agg a) = Rows.uptoBulkAll a + 1 := by simp only [Rows.uptoBulk]
/-- Whatever is read as a 't' is so, and its bulk is the number's. -/
def Rdg (P : Program) (W : World) (t : TypeId) (F : List Value → Nat → Prop) : Prop :=
  ∀ (H : Type) (enc : TypeId × Value → H) fuel cs x, DataW.trod enc P W 0 (fun _ => true) true fuel t cs = some x → F cs (Rows.uptoBulk x.1)
section
variable {P : Program} {W : World} {t e : TypeId}
theorem Rdg.mono {F G : List Value → Nat → Prop} (h : Rdg P W t F) (hg : ∀ cs b, F cs b → G cs b) : Rdg P W t G := fun H enc fuel cs x hx => hg _ _ (h H enc fuel cs x hx)
theorem rdg_int {k : IntKind} (ht : P.underlying t = some (.int k)) : Rdg P W t fun cs b => ∃ z, cs = [.int k z] ∧ (Lit.int k z).wf = true := fun H enc fuel cs x hx => by
  obtain ⟨m, h1, h2, h3⟩ := DataW.trod_int ht hx
  exact ⟨m, h1, h3⟩
theorem spot_none {w : World} {a : Addr} {u : Value} (h : w.cell? a = some u) : a.spot = none := by
  simp only [World.cell?] at h
  split at h
  · cases hs : a.spot with
    | none => rfl
    | some x => simp [hs] at h
  · cases h
/-- A slice: its elements, each so read. -/
theorem rdg_slice {F : List Value → Nat → Prop} {k : Nat} (ht : P.underlying t = some (.slice e)) (hk : P.cellsOf e = k) (hpos : 0 < k) (hF : Rdg P W e F) :
    Rdg P W t fun cs b => ∃ v n, ∃ cc : List (List Value × Nat), cs = [v] ∧ cc.length = n ∧ (∀ c ∈ cc, F c.1 c.2 ∧ c.1.length = k) ∧ Cs W v n (cc.map (·.1)).flatten ∧ (cc.map (·.2)).sum + 1 ≤ b := fun H enc fuel cs x hx => by
  rcases DataW.trod_slice ht hx with ⟨rfl, rfl⟩ | ⟨a, len, cap, elems, rest, n, rfl, rfl, rfl, _, hl, hm, hlen, hel, _, _⟩
  · exact ⟨.slice none 0 0, 0, [], rfl, rfl, by simp, ⟨⟨none, 0, rfl, Nat.le_refl _, Nat.zero_le _, fun h => absurd h (by omega)⟩, fun j u h => by simp at h⟩, by simp [Rows.uptoBulk]⟩
  · have each : ∀ i, i < len → ∃ ci : List Value, W.cells? 0 (a.add (i * k)) k = some ci ∧ ∃ y, elems[i]? = some y ∧ DataW.trod enc P W 0 (fun _ => true) true n e ci = some y := fun i hi => by
      have h1 := hel i hi
      rw [hk, List.getElem?_eq_getElem (by omega), Option.bind_eq_some_iff] at h1
      obtain ⟨ci, h2, h3⟩ := h1
      exact ⟨ci, h2, elems[i]'(by omega), List.getElem?_eq_getElem (by omega), h3⟩
    let f : Nat → List Value := fun i => (W.cells? 0 (a.add (i * k)) k).getD []
    have hf : ∀ i, i < len → W.cells? 0 (a.add (i * k)) k = some (f i) := fun i hi => by
      obtain ⟨ci, h2, _⟩ := each i hi
      simp only [f, h2, Option.getD_some]
    have hfl : ∀ i, i < len → (f i).length = k := fun i hi => (World.cells?_some (hf i hi)).2.1
    refine ⟨.slice (some a) len cap, len, (List.range len).map fun i => (f i, Rows.uptoBulk ((elems.map (·.1)).getD i .nil)), rfl, by simp, ?_, ?_, ?_⟩
    · intro c hc
      obtain ⟨i, hi, rfl⟩ := List.mem_map.1 hc
      have hi := List.mem_range.1 hi
      refine ⟨?_, hfl i hi⟩
      obtain ⟨ci, h2, y, h3, h4⟩ := each i hi
      rw [hf i hi] at h2
      cases h2
      have : (elems.map (·.1)).getD i .nil = y.1 := by simp [List.getD, h3]
      dsimp only
      rw [this]
      exact hF H enc n _ y h4
    · have sp : 0 < len → a.spot = none := fun h0 => by
        have h1 := hf 0 h0
        rw [Nat.zero_mul] at h1
        have h2 := (World.cells?_some h1).2.2 0 hpos
        have hlt : 0 < (f 0).length := by rw [hfl 0 h0]; exact hpos
        rw [List.getElem?_eq_getElem hlt] at h2
        simpa [Addr.add] using spot_none h2
      have hfl' : (List.map (fun x => x.1) (List.map (fun i => (f i, Rows.uptoBulk ((elems.map (·.1)).getD i .nil))) (List.range len))).flatten = ((List.range len).map f).flatten := by rw [List.map_map]; rfl
      rw [hfl']
      refine ⟨⟨_, _, rfl, hl, hm, fun h0 => ?_⟩, fun j u hj => ?_⟩
      · obtain ⟨b, off, spot⟩ := a
        obtain rfl : spot = none := sp h0
        exact ⟨b, off, rfl⟩
      · have hfind : ∀ m, (∀ i, i < m → i < len) → ∀ j u, (((List.range m).map f).flatten)[j]? = some u → ∃ i, i < m ∧ i * k ≤ j ∧ j < i * k + k ∧ (f i)[j - i * k]? = some u := by
          intro m
          induction m with
          | zero => intro _ j u h; simp at h
          | succ m ih =>
            intro hm' j u h
            have hlm : (((List.range m).map f).flatten).length = m * k := by
              have : ∀ q, q ≤ m → (((List.range q).map f).flatten).length = q * k := fun q => by
                induction q with
                | zero => intro _; simp
                | succ q ihq => intro hq; rw [List.range_succ, List.map_append, List.flatten_append, List.length_append, ihq (by omega)]; simp [hfl q (hm' q (by omega)), Nat.succ_mul]
              exact this m (Nat.le_refl _)
            rw [List.range_succ, List.map_append, List.flatten_append] at h
            rcases Nat.lt_or_ge j (m * k) with hj | hj
            · rw [List.getElem?_append_left (by omega)] at h
              obtain ⟨i, h1, h2, h3, h4⟩ := ih (fun i hi => hm' i (by omega)) j u h
              exact ⟨i, by omega, h2, h3, h4⟩
            · rw [List.getElem?_append_right (by omega), hlm] at h
              simp only [List.map_cons, List.map_nil, List.flatten_cons, List.flatten_nil, List.append_nil] at h
              have hlt := (List.getElem?_eq_some_iff.1 h).1
              rw [hfl m (hm' m (by omega))] at hlt
              exact ⟨m, by omega, hj, by omega, h⟩
        obtain ⟨i, h1, h2, h3, h4⟩ := hfind len (fun i hi => hi) j u hj
        obtain ⟨b, off, spot⟩ := a
        obtain rfl : spot = none := sp (by omega)
        refine ⟨b, off, cap, rfl, ?_⟩
        have h5 := (World.cells?_some (hf i h1)).2.2 (j - i * k) (by omega)
        rw [Addr.add_mid, Addr.add_mid, h4] at h5
        rw [← h5]
        congr 2
        omega
    · have hb := bulk_slice (elems.map (·.1)) (rest.map (·.1))
      rw [bulk_sum] at hb
      have : (List.map (fun x => x.2) (List.map (fun i => (f i, Rows.uptoBulk ((elems.map (·.1)).getD i .nil))) (List.range len))) = (elems.map (·.1)).map Rows.uptoBulk := by
        rw [List.map_map]
        apply List.ext_getElem?
        intro i
        by_cases hi : i < len
        · simp [hi, hlen, List.getD]
        · simp [hi, hlen]
      rw [this]
      exact hb
/-- Bytes. -/
theorem rdg_bytes (ht : P.underlying t = some (.slice e)) (he : P.underlying e = some (.int .u8)) (hk : P.cellsOf e = 1) : Rdg P W t fun cs b => ∃ v n p, cs = [v] ∧ Cb W v n p ∧ n + 1 ≤ b := fun H enc fuel cs x hx => by
  obtain ⟨v, n, cc, h1, h2, h3, h4, h5⟩ := rdg_slice ht hk (by decide) (rdg_int he) H enc fuel cs x hx
  have hb : ∀ c ∈ cc, c.1 = [.int .u8 ((byteOf (c.1.headD undef) : Nat) : Int)] ∧ byteOf (c.1.headD undef) < 256 := fun c hc => by
    obtain ⟨⟨z, hz, hw⟩, _⟩ := h3 c hc
    simp [Lit.wf, IntKind.min, IntKind.max, IntKind.signed, IntKind.bits] at hw
    rw [hz]
    simp only [List.headD_cons, byteOf]
    refine ⟨by rw [Int.toNat_of_nonneg hw.1], by omega⟩
  have hfl : ∀ l : List (List Value × Nat), (∀ c ∈ l, c ∈ cc) → (l.map (·.1)).flatten = bl (l.map fun c => byteOf (c.1.headD undef)) := fun l => by
    induction l with
    | nil => intro _; rfl
    | cons c r ih => intro h; rw [List.map_cons, List.flatten_cons, ih fun d hd => h d (by simp [hd]), (hb c (h c (by simp))).1]; simp [bl, byteOf]
  have hsum : ∀ l : List (List Value × Nat), (∀ c ∈ l, c ∈ cc) → True := fun _ _ => trivial
  refine ⟨v, n, cc.map fun c => byteOf (c.1.headD undef), h1, ⟨by rw [← hfl cc fun _ h => h]; exact h4, ⟨by rw [List.length_map, h2], fun y hy => ?_⟩⟩, ?_⟩
  · obtain ⟨c, hc, rfl⟩ := List.mem_map.1 hy
    exact (hb c hc).2
  · rcases DataW.trod_slice ht hx with ⟨rfl, rfl⟩ | ⟨a, len, cap, elems, rest, m, rfl, rfl, rfl, _, hl, hm, hlen, hel, _, _⟩
    · obtain rfl : v = .slice none 0 0 := by simpa using h1.symm
      obtain ⟨_, _, hv, _⟩ := h4.ln.out
      injection hv with _ hn _
      subst hn
      simp [Rows.uptoBulk]
    · obtain ⟨_, _, hv, _⟩ := h4.ln.out
      have hv' : v = .slice (some a) len cap := by simpa using h1.symm
      rw [hv'] at hv
      injection hv with _ hn _
      subst hn
      have hb := bulk_slice (elems.map (·.1)) (rest.map (·.1))
      have := bulk_len (elems.map (·.1))
      simp only [List.length_map] at this
      dsimp only
      omega
theorem rdg_struct2 {f0 f1 : Field} {F0 F1 : List Value → Nat → Prop} (ht : P.underlying t = some (.struct #[f0, f1])) (h0 : Rdg P W f0.type F0) (h1 : Rdg P W f1.type F1) :
    Rdg P W t fun cs b => ∃ b0 b1, cs.length = P.cellsOf t ∧ F0 ((cs.drop f0.offset).take (P.cellsOf f0.type)) b0 ∧ F1 ((cs.drop f1.offset).take (P.cellsOf f1.type)) b1 ∧ b0 + b1 + 1 ≤ b := fun H enc fuel cs x hx => by
  obtain ⟨y0, y1, n, rfl, hl, e0, e1⟩ := trod_struct2 ht hx
  refine ⟨_, _, hl, h0 H enc n _ _ e0, h1 H enc n _ _ e1, ?_⟩
  rw [bulk_agg]
  simp only [Rows.uptoBulkAll]
  omega
/-- Of a struct the fields, each so read. -/
theorem rdg_struct {fs : Array Field} (ht : P.underlying t = some (.struct fs)) (F : Nat → List Value → Nat → Prop) (hF : ∀ i f, fs[i]? = some f → Rdg P W f.type (F i)) :
    Rdg P W t fun cs b => ∃ bs : List Nat, cs.length = P.cellsOf t ∧ bs.length = fs.size ∧ (∀ i f, fs[i]? = some f → F i ((cs.drop f.offset).take (P.cellsOf f.type)) (bs.getD i 0)) ∧ bs.sum + 1 ≤ b := fun H enc fuel cs x hx => by
  obtain ⟨xs, n, rfl, rfl, hl, hlen, hf⟩ := DataW.trod_struct ht hx
  refine ⟨xs.map fun y => Rows.uptoBulk y.1, hl, by simp [hlen], fun i f hi => ?_, ?_⟩
  · have h1 := hf i f hi
    have hlt : i < xs.length := by rw [hlen]; exact (Array.getElem?_eq_some_iff.1 hi).1
    rw [List.getElem?_eq_getElem hlt] at h1
    have := hF i f hi H enc n _ _ h1
    simpa [List.getD, hlt] using this
  · rw [bulk_agg, bulk_sum, List.map_map]
    exact Nat.le_refl _
end
section
variable {H : Type} {enc : TypeId × Value → H} {P : Program} {W : World}
/-- The top: one cell. -/
theorem open_cell {t : TypeId} {r : Reach} {b0 : Nat} {v : Value} {d : DataW H} {q : List MemPlace} {F : List Value → Nat → Prop} (hF : Rdg P W t F) (hv : v.cells = #[v]) (h : DataW.Trod enc P W 0 (fun _ => true) true t v d q) : F [v] (Rows.uptoBulk d) := by
  obtain ⟨fuel, hf⟩ := h
  have := hF H enc fuel _ _ hf
  rwa [hv] at this
theorem open_bl {t e : TypeId} {r : Reach} {b0 : Nat} {v : Value} {d : DataW H} {q : List MemPlace} (ht : P.underlying t = some (.slice e)) (he : P.underlying e = some (.int .u8)) (hk : P.cellsOf e = 1) (hv : Value.okWide P W r b0 t v) (h : DataW.Trod enc P W 0 (fun _ => true) true t v d q) :
    ∃ n p, Cb W v n p ∧ n + 1 ≤ Rows.uptoBulk d := by
  obtain ⟨a, len, cap, rfl⟩ := okWide_slice ht hv
  obtain ⟨v', n, p, h1, h2, h3⟩ := open_cell (r := r) (b0 := b0) (rdg_bytes ht he hk) rfl h
  cases h1
  exact ⟨n, p, h2, h3⟩
end
end Go.Proofs.Ytlpalhagndmpjaa
namespace Go.Proofs.Ytlpalhagndmpjaa
open Go.RowKit Go.ChangeShapes Go.WideShapes
set_option linter.unusedVariables false
set_option linter.unusedSimpArgs false
set_option maxRecDepth 100000
theorem match_snoc (l : List Att) {ask : List Att} {i : Nat} {x : Att} (h : ask[i]? = some x) : matchB l (ask.take (i + 1)) = (matchB l (ask.take i) && matchB l [x]) := by
  rw [List.take_add_one, h, match_app]; rfl
theorem match_split (l : List Att) {ask : List Att} {i : Nat} {x : Att} (h : ask[i]? = some x) : matchB l ask = (matchB l (ask.take i) && (matchB l [x] && matchB l (ask.drop (i + 1)))) := by
  have hi := (List.getElem?_eq_some_iff.1 h).1
  have e : ask.drop i = x :: ask.drop (i + 1) := by
    rw [List.drop_eq_getElem_cons hi]
    have := (List.getElem?_eq_some_iff.1 h).2
    rw [this]
  conv => lhs; rw [← List.take_append_drop i ask, match_app, e, match_cons]
theorem match_one_none {l : List Att} {x : Att} (h : l.findIdx? (fun y => y.1 == x.1) = none) : matchB l [x] = false := by
  simp only [matchB, List.all_cons, List.all_nil, Bool.and_true]
  rw [findIdx_find.2 h]
theorem match_one_some {l : List Att} {x y : Att} {j : Nat} (h : l.findIdx? (fun y => y.1 == x.1) = some j) (hy : l[j]? = some y) : matchB l [x] = (y.2.2 == x.2.2) := by
  simp only [matchB, List.all_cons, List.all_nil, Bool.and_true]
  obtain ⟨z, h1, h2⟩ := findIdx_find.1 j h
  rw [hy] at h1
  cases h1
  rw [h2]
set_option maxHeartbeats 8000000 in
theorem match_c (w : World) {u v : Value} {l ask : List Att} (hu : Ats w u l) (hv : Ats w v ask) : Calls Try.prog 15 [u, v].toArray w (Ret (.bool (matchB l ask)) w) := by
  haveI i0 := hu.old
  haveI i1 := hu.cs.old
  haveI i2 := hv.cs.old
  have hl63 : ask.length ≤ 9223372036854775807 := by obtain ⟨_, _, _, h1, h2, _⟩ := hv.cs.ln.out; simp only [maxLen] at h2; omega
  have hl64 : l.length ≤ 9223372036854775807 := by obtain ⟨_, _, _, h1, h2, _⟩ := hu.cs.ln.out; simp only [maxLen] at h2; omega
  have FC : ∀ {k : Int} w', Ats w' u l → Calls Try.prog 35 [u, .int .i64 k].toArray w' (Ret (.int .i64 (findI l k)) w') := fun w' h => find_c w' h
  obtain ⟨R, hR⟩ : ∃ R, R = matchB l ask := ⟨_, rfl⟩
  rw [← hR]
  refine fn_ret (N := _) Try.func15 rfl Try.ntmps15 Try.results15 (by simp) ?_
  simp only [initS, Nat.reduceAdd, Nat.zero_add]
  repeat' (first | (refine wlS ?_) | (refine wlB ?_) | (refine wlE ?_) | (refine efSvao ?_; intro v oa ho) | (refine efBnn ?_; intro n hn) | (refine efB ?_) | (refine efBS ?_) | (refine wl_skip rfl rfl ?_) | (refine wdS ?_) | (refine wdV ?_) | (refine wdB ?_) | (refine wdE ?_) | (refine wd_skip rfl rfl ?_) | ((with_reducible refine seld_nil ?_); refine wd_nil hm0 ?_; clear hm0 hw0) | ((with_reducible refine wc_seq ?_); intro K hK) | (refine auC ?_) | (refine wc_cond rfl (fun hc => ?_) (fun hc => ?_)) | (refine wc_draw (by kernel_rfl) (by kernel_rfl) (by decide +kernel) ?_; intro w0 hw0 hm0; (try simp only [List.append_eq, List.cons_append, List.nil_append])) | (refine auP ?_) | ((refine auR ?_); clear hK K) | (refine auR ?_) | ((with_reducible refine hK _ _ ?_); clear hK K) | fail)
  refine wc_loop (σ := Nat) (fun i => [(0, u), (8, v), (9, .int .i64 (ask.length : Int)), (10, .int .i64 (i : Int))]) (fun _ => [])
    (fun i => i ≤ ask.length ∧ matchB l (ask.take i) = true) (fun i => ask.length - i) 0 ⟨Nat.zero_le _, by simp [matchB]⟩ (Fits.of ⟨rfl, rfl, rfl, rfl, trivial⟩ .nil rfl) ?_
  rintro i ⟨hi, hm⟩
  by_cases hlt : i < ask.length
  · obtain ⟨x, hx⟩ : ∃ x, ask[i]? = some x := ⟨ask[i], List.getElem?_eq_getElem hlt⟩
    have hget := atsC_get hx
    have hsp := match_split l hx
    have hsn := match_snoc l hx
    rw [hm, Bool.true_and] at hsp hsn
    rw [← hR] at hsp
    have t1 : decide ((i : Int) < (ask.length : Int)) = true := decide_eq_true (by omega)
    have t2 : IntKind.i64.wrap ((i : Int) + 1) = ((i + 1 : Nat) : Int) := by rw [wrap_i64 _ (by omega) (by omega)]; omega
    have j1 : (i : Int) < (ask.length : Int) := by omega
    have bx := (hv.body _ (List.mem_of_getElem? hx)).old
    cases hf : l.findIdx? (fun y => y.1 == x.1) with
    | none =>
      have h1 := match_one_none hf
      rw [h1] at hsp
      have hRf : R = false := by rw [hsp]; rfl
      have FC1 := fun w' h => FC (k := x.1) w' h
      rw [findI, hf] at FC1
      dsimp only at FC1
      have t3 : decide ((-1 : Int) < 0) = true := rfl
      obtain ⟨z, vx, q⟩ := x
      dsimp only at *
      subst hRf
      clear FC hsp hsn h1 hf hu hv hR
      repeat' (first | (refine wlS ?_) | (refine wlB ?_) | ((with_reducible refine sel_call ?_); refine wl_rd rfl rfl (rd_call rfl rfl rfl (fun w hm => by with_reducible exact FC1 w (VwT.out w hm))) ?_) | (refine wlE ?_) | (refine efSvao ?_; intro v oa ho) | (refine efBnn ?_; intro n hn) | (refine efB ?_) | (refine efBS ?_) | (refine wl_skip rfl rfl ?_) | ((with_reducible refine wc_seq ?_); intro K hK) | (refine auC ?_) | (refine wc_cond rfl (fun hc => ?_) (fun hc => ?_)) | ((with_reducible refine wc_drawT (by kernel_rfl) ?_); (try simp only [List.append_eq, List.cons_append, List.nil_append, List.length_cons, List.length_nil, Nat.reduceAdd])) | ((with_reducible refine sel_wh ?_); (refine wh_if (by decide +kernel) ?_); first | (refine wh_take (lq := []) rfl rfl rfl rfl (by first | exact rvS | exact rvB | exact rvE) (Or.inl rfl) ?_) | (refine wh_takeL rfl rfl rfl rfl (by first | exact rvS | exact rvB | exact rvE) (by decide +kernel) ?_)) | (refine whS ?_; intro v hv hp) | ((with_reducible refine sel_wh ?_); first | (refine wh_pass rfl rfl rfl rfl ?_) | (refine wh_done rfl ?_) | (refine wh_all rfl ?_)) | ((with_reducible refine sel_rest ?_); first | exact rest_nil rfl | refine rest_cons rfl rfl ?_ ?_) | ((with_reducible refine sel_nx ?_); first | refine next_of ?_ | refine next_late (by decide +kernel) ?_) | (refine auP ?_) | ((refine auR ?_); clear hK K) | (refine auR ?_) | ((with_reducible refine hK _ _ ?_); clear hK K) | fail)
      first | refine end_ret (ResP.tmp rfl ResP.nil) ?_ | refine end_normal (ResP.tmp rfl ResP.nil) ?_
      first | rfl | (show _ = _; rfl) | (simp only [tupV, *]; done)
    | some j =>
      obtain ⟨y, hy, _⟩ := findIdx_find.1 j hf
      have h1 := match_one_some hf hy
      rw [h1] at hsp hsn
      have hjl := (List.getElem?_eq_some_iff.1 hy).1
      have by' := (hu.body _ (List.mem_of_getElem? hy)).old
      have hyv := atsC_val hy
      have FC1 := fun w' h => FC (k := x.1) w' h
      rw [findI, hf] at FC1
      dsimp only at FC1
      have t3 : decide ((j : Int) < 0) = false := decide_eq_false (by omega)
      have j2 : (j : Int) < (l.length : Int) := by omega
      obtain ⟨z, vx, q⟩ := x
      obtain ⟨z2, vy, r⟩ := y
      dsimp only at *
      by_cases hrq : (r == q) = true
      · rw [hrq] at hsn
        clear FC hsp h1 hf hu hv hR
        repeat' (first | (refine wlS ?_) | (refine wlB ?_) | ((with_reducible refine sel_call ?_); refine wl_rd rfl rfl (rd_call rfl rfl rfl (fun w hm => by with_reducible first | exact FC1 w (VwT.out w hm) | exact beq_r w (VwB.out w hm) (VwB.out w hm) (by with_reducible assumption))) ?_) | (refine wlE ?_) | (refine efSvao ?_; intro v oa ho) | (refine efBnn ?_; intro n hn) | (refine efB ?_) | (refine efBS ?_) | (refine wl_skip rfl rfl ?_) | ((with_reducible refine wc_seq ?_); intro K hK) | (refine auC ?_) | (refine wc_cond rfl (fun hc => ?_) (fun hc => ?_)) | ((with_reducible refine wc_drawT (by kernel_rfl) ?_); (try simp only [List.append_eq, List.cons_append, List.nil_append, List.length_cons, List.length_nil, Nat.reduceAdd])) | ((with_reducible refine sel_wh ?_); (refine wh_if (by decide +kernel) ?_); first | (refine wh_take (lq := []) rfl rfl rfl rfl (by first | exact rvS | exact rvB | exact rvE) (Or.inl rfl) ?_) | (refine wh_takeL rfl rfl rfl rfl (by first | exact rvS | exact rvB | exact rvE) (by decide +kernel) ?_)) | (refine whS ?_; intro v hv hp) | ((with_reducible refine sel_wh ?_); first | (refine wh_pass rfl rfl rfl rfl ?_) | (refine wh_done rfl ?_) | (refine wh_all rfl ?_)) | ((with_reducible refine sel_rest ?_); first | exact rest_nil rfl | refine rest_cons rfl rfl ?_ ?_) | ((with_reducible refine sel_nx ?_); first | refine next_of ?_ | refine next_late (by decide +kernel) ?_) | (refine auP ?_) | ((refine auR ?_); clear hK K) | (refine auR ?_) | ((with_reducible refine hK _ _ ?_); clear hK K) | fail)
        exact ⟨i + 1, ⟨hlt, hsn⟩, by omega, Fits.of ⟨rfl, rfl, rfl, rfl, trivial⟩ .nil rfl⟩
      · have hrq' : (r == q) = false := by simpa using hrq
        rw [hrq'] at hsp
        have hRf : R = false := by rw [hsp]; rfl
        subst hRf
        clear FC hsp hsn h1 hf hu hv hR hrq
        repeat' (first | (refine wlS ?_) | (refine wlB ?_) | ((with_reducible refine sel_call ?_); refine wl_rd rfl rfl (rd_call rfl rfl rfl (fun w hm => by with_reducible first | exact FC1 w (VwT.out w hm) | exact beq_r w (VwB.out w hm) (VwB.out w hm) (by with_reducible assumption))) ?_) | (refine wlE ?_) | (refine efSvao ?_; intro v oa ho) | (refine efBnn ?_; intro n hn) | (refine efB ?_) | (refine efBS ?_) | (refine wl_skip rfl rfl ?_) | ((with_reducible refine wc_seq ?_); intro K hK) | (refine auC ?_) | (refine wc_cond rfl (fun hc => ?_) (fun hc => ?_)) | ((with_reducible refine wc_drawT (by kernel_rfl) ?_); (try simp only [List.append_eq, List.cons_append, List.nil_append, List.length_cons, List.length_nil, Nat.reduceAdd])) | ((with_reducible refine sel_wh ?_); (refine wh_if (by decide +kernel) ?_); first | (refine wh_take (lq := []) rfl rfl rfl rfl (by first | exact rvS | exact rvB | exact rvE) (Or.inl rfl) ?_) | (refine wh_takeL rfl rfl rfl rfl (by first | exact rvS | exact rvB | exact rvE) (by decide +kernel) ?_)) | (refine whS ?_; intro v hv hp) | ((with_reducible refine sel_wh ?_); first | (refine wh_pass rfl rfl rfl rfl ?_) | (refine wh_done rfl ?_) | (refine wh_all rfl ?_)) | ((with_reducible refine sel_rest ?_); first | exact rest_nil rfl | refine rest_cons rfl rfl ?_ ?_) | ((with_reducible refine sel_nx ?_); first | refine next_of ?_ | refine next_late (by decide +kernel) ?_) | (refine auP ?_) | ((refine auR ?_); clear hK K) | (refine auR ?_) | ((with_reducible refine hK _ _ ?_); clear hK K) | fail)
        first | refine end_ret (ResP.tmp rfl ResP.nil) ?_ | refine end_normal (ResP.tmp rfl ResP.nil) ?_
        first | rfl | (show _ = _; rfl) | (simp only [tupV, *]; done)
  · obtain rfl : i = ask.length := by omega
    have t1 : decide ((ask.length : Int) < (ask.length : Int)) = false := decide_eq_false (by omega)
    rw [List.take_length] at hm
    have hRt : R = true := by rw [hR, hm]
    subst hRt
    clear FC hR hu hv
    repeat' (first | (refine wlS ?_) | (refine wlB ?_) | (refine wlE ?_) | (refine efSvao ?_; intro v oa ho) | (refine efBnn ?_; intro n hn) | (refine efB ?_) | (refine efBS ?_) | (refine wl_skip rfl rfl ?_) | (refine wdS ?_) | (refine wdV ?_) | (refine wdB ?_) | (refine wdE ?_) | (refine wd_skip rfl rfl ?_) | ((with_reducible refine seld_nil ?_); refine wd_nil hm0 ?_; clear hm0 hw0) | ((with_reducible refine wc_seq ?_); intro K hK) | (refine auC ?_) | (refine wc_cond rfl (fun hc => ?_) (fun hc => ?_)) | (refine wc_draw (by kernel_rfl) (by kernel_rfl) (by decide +kernel) ?_; intro w0 hw0 hm0; (try simp only [List.append_eq, List.cons_append, List.nil_append])) | (refine auP ?_) | ((refine auR ?_); clear hK K) | (refine auR ?_) | ((with_reducible refine hK _ _ ?_); clear hK K) | fail)
    first | refine end_ret (ResP.tmp rfl ResP.nil) ?_ | refine end_normal (ResP.tmp rfl ResP.nil) ?_
    first | rfl | (show _ = _; rfl) | (simp only [tupV, *]; done)
/-! ### What came in -/
section
variable {W : World}
theorem cells_att : Try.prog.cellsOf 29 = 2 := by kernel_rfl
theorem cells_u8a : Try.prog.cellsOf 5 = 1 := by kernel_rfl
theorem cells_inta : Try.prog.cellsOf 3 = 1 := by kernel_rfl
theorem cells_bsa : Try.prog.cellsOf 27 = 1 := by kernel_rfl
theorem rdg_bsa : Rdg Try.prog W 27 fun cs b => ∃ v n p, cs = [v] ∧ Cb W v n p ∧ n + 1 ≤ b := rdg_bytes (by kernel_rfl) (e := 5) (by kernel_rfl) cells_u8a
theorem rdg_att : Rdg Try.prog W 29 fun cs b => ∃ x : Att, cs = atC x ∧ Cb W x.2.1 x.2.2.length x.2.2 ∧ x.2.2.length + 2 ≤ b :=
  (rdg_struct2 Try.underlying29 (rdg_int (k := .i64) (by kernel_rfl)) rdg_bsa).mono fun cs b ⟨b0, b1, hl, h0, h1, hb⟩ => by
    rw [cells_att] at hl
    obtain ⟨c0, c1, rfl⟩ : ∃ c0 c1, cs = [c0, c1] := by
      match cs, hl with | [c0, c1], _ => exact ⟨c0, c1, rfl⟩
    dsimp only at h0 h1
    rw [cells_inta] at h0
    rw [cells_bsa] at h1
    obtain ⟨z, hz, hw⟩ := h0
    obtain ⟨v, n, p, hv, hc, hn⟩ := h1
    simp at hz hv
    subst hz; subst hv
    have hlen := hc.ok.len
    subst hlen
    exact ⟨(z, c1, p), rfl, hc, by dsimp only; omega⟩
theorem open_atts {r : Reach} {b0 : Nat} {v : Value} {H : Type} {enc : TypeId × Value → H} {d : DataW H} {q : List MemPlace} (hv : Value.okWide Try.prog W r b0 22 v) (h : DataW.Trod enc Try.prog W 0 (fun _ => true) true 22 v d q) :
    ∃ l : List Att, Ats W v l ∧ l.length + 1 ≤ Rows.uptoBulk d := by
  obtain ⟨a, len, cap, rfl⟩ := okWide_slice (e := 29) (by kernel_rfl) hv
  obtain ⟨v', n, cc, h1, h2, h3, h4, h5⟩ := open_cell (r := r) (b0 := b0) (rdg_slice (e := 29) (by kernel_rfl) cells_att (by decide) rdg_att) rfl h
  cases h1
  have key : ∀ l : List (List Value × Nat), (∀ c ∈ l, (∃ x : Att, c.1 = atC x ∧ Cb W x.2.1 x.2.2.length x.2.2 ∧ x.2.2.length + 2 ≤ c.2) ∧ c.1.length = 2) → ∃ its : List Att, (l.map (·.1)).flatten = atsC its ∧ its.length = l.length ∧ (∀ x ∈ its, Cb W x.2.1 x.2.2.length x.2.2) ∧ l.length ≤ (l.map (·.2)).sum := by
    intro l
    induction l with
    | nil => intro _; exact ⟨[], rfl, rfl, by simp, by simp⟩
    | cons c r ih =>
      intro h
      obtain ⟨its, e1, e2, e3, e4⟩ := ih fun d hd => h d (by simp [hd])
      obtain ⟨⟨x, f1, f2, f4⟩, _⟩ := h c (by simp)
      refine ⟨x :: its, ?_, by simp [e2], fun y hy => ?_, by simp only [List.map_cons, List.sum_cons, List.length_cons]; omega⟩
      · rw [List.map_cons, List.flatten_cons, e1, f1]; simp [atsC]
      · rcases List.mem_cons.1 hy with rfl | hy
        · exact f2
        · exact e3 y hy
  obtain ⟨its, e1, e2, e3, e4⟩ := key cc h3
  rw [e1] at h4
  refine ⟨its, ⟨?_, e3⟩, by omega⟩
  rw [e2, h2]; exact h4
end
end Go.Proofs.Ytlpalhagndmpjaa
namespace Go.Proofs.Ytlpalhagndmpjaa
open Go.RowKit
set_option linter.unusedVariables false
set_option linter.unusedSimpArgs false
set_option maxRecDepth 100000
/-- The kind and the bytes. -/
def abs (l : List Att) : List Ab := l.map fun x => (x.1, x.2.2)
set_option maxHeartbeats 8000000 in
theorem fits_c (w : World) (k : Int) {v : Value} {p : List Nat} (h : Cb w v p.length p) : Calls Try.prog 34 [.agg #[.int .i64 k, v]].toArray w (Ret (.bool (fitsB (k, p))) w) := by
  obtain ⟨pv, cv, rfl, _⟩ := h.cs.ln.out
  have i1 := h.old
  have hb := h.ok.by'
  obtain ⟨n, hn⟩ : ∃ n, n = p.length := ⟨_, rfl⟩
  rw [← hn] at i1 ⊢
  clear h
  by_cases k1 : k = 1
  · subst k1
    have e1 : ((1 : Int) == 1) = true := rfl
    by_cases h1 : n = 1
    · subst h1
      obtain ⟨b, rfl⟩ := List.length_eq_one_iff.1 hn.symm
      have q1 : (((1 : Nat) : Int) == 1) = true := rfl
      by_cases h2 : 1 ≤ b
      · have q2 : decide ((b : Int) ≥ 1) = true := decide_eq_true (by omega)
        by_cases h3 : b ≤ 4
        · have q3 : decide ((b : Int) ≤ 4) = true := decide_eq_true (by omega)
          have e : fitsB (1, [b]) = true := by simp [fitsB, h2, h3]
          rw [e]
          refine fn_ret (N := _) Try.func34 rfl Try.ntmps34 Try.results34 (by simp) ?_
          simp only [initS, Nat.reduceAdd, Nat.zero_add]
          repeat' (first | (refine wlS ?_) | (refine wlB ?_) | (refine wlE ?_) | (refine efSvao ?_; intro v oa ho) | (refine efBnn ?_; intro n hn) | (refine wl_skip rfl rfl ?_) | ((with_reducible refine wc_seq ?_); intro K hK) | (refine auC ?_) | (refine wc_cond rfl (fun hc => ?_) (fun hc => ?_)) | (refine wc_draw (by kernel_rfl) (by kernel_rfl) (by decide +kernel) ?_; intro w0 hw0 hm0; (try simp only [List.append_eq, List.cons_append, List.nil_append])) | (refine auP ?_) | ((refine auR ?_); clear hK K) | (refine auR ?_) | ((with_reducible refine hK _ _ ?_); clear hK K) | fail)
          first | refine end_ret (ResP.tmp rfl ResP.nil) ?_ | refine end_normal (ResP.tmp rfl ResP.nil) ?_
          first | rfl | (show _ = _; rfl) | (simp only [tupV, *]; done)
        · have q3 : decide ((b : Int) ≤ 4) = false := decide_eq_false (by omega)
          have e : fitsB (1, [b]) = false := by simp [fitsB, h2, h3]
          rw [e]
          refine fn_ret (N := _) Try.func34 rfl Try.ntmps34 Try.results34 (by simp) ?_
          simp only [initS, Nat.reduceAdd, Nat.zero_add]
          repeat' (first | (refine wlS ?_) | (refine wlB ?_) | (refine wlE ?_) | (refine efSvao ?_; intro v oa ho) | (refine efBnn ?_; intro n hn) | (refine wl_skip rfl rfl ?_) | ((with_reducible refine wc_seq ?_); intro K hK) | (refine auC ?_) | (refine wc_cond rfl (fun hc => ?_) (fun hc => ?_)) | (refine wc_draw (by kernel_rfl) (by kernel_rfl) (by decide +kernel) ?_; intro w0 hw0 hm0; (try simp only [List.append_eq, List.cons_append, List.nil_append])) | (refine auP ?_) | ((refine auR ?_); clear hK K) | (refine auR ?_) | ((with_reducible refine hK _ _ ?_); clear hK K) | fail)
          first | refine end_ret (ResP.tmp rfl ResP.nil) ?_ | refine end_normal (ResP.tmp rfl ResP.nil) ?_
          first | rfl | (show _ = _; rfl) | (simp only [tupV, *]; done)
      · have q2 : decide ((b : Int) ≥ 1) = false := decide_eq_false (by omega)
        have e : fitsB (1, [b]) = false := by simp [fitsB, h2]
        rw [e]
        refine fn_ret (N := _) Try.func34 rfl Try.ntmps34 Try.results34 (by simp) ?_
        simp only [initS, Nat.reduceAdd, Nat.zero_add]
        repeat' (first | (refine wlS ?_) | (refine wlB ?_) | (refine wlE ?_) | (refine efSvao ?_; intro v oa ho) | (refine efBnn ?_; intro n hn) | (refine wl_skip rfl rfl ?_) | ((with_reducible refine wc_seq ?_); intro K hK) | (refine auC ?_) | (refine wc_cond rfl (fun hc => ?_) (fun hc => ?_)) | (refine wc_draw (by kernel_rfl) (by kernel_rfl) (by decide +kernel) ?_; intro w0 hw0 hm0; (try simp only [List.append_eq, List.cons_append, List.nil_append])) | (refine auP ?_) | ((refine auR ?_); clear hK K) | (refine auR ?_) | ((with_reducible refine hK _ _ ?_); clear hK K) | fail)
        first | refine end_ret (ResP.tmp rfl ResP.nil) ?_ | refine end_normal (ResP.tmp rfl ResP.nil) ?_
        first | rfl | (show _ = _; rfl) | (simp only [tupV, *]; done)
    · have q1 : ((n : Int) == 1) = false := by simpa using (fun h : (n : Int) = 1 => h1 (by omega))
      have e : fitsB (1, p) = false := by simp [fitsB, ← hn, h1]
      rw [e]
      refine fn_ret (N := _) Try.func34 rfl Try.ntmps34 Try.results34 (by simp) ?_
      simp only [initS, Nat.reduceAdd, Nat.zero_add]
      repeat' (first | (refine wlS ?_) | (refine wlB ?_) | (refine wlE ?_) | (refine efSvao ?_; intro v oa ho) | (refine efBnn ?_; intro n hn) | (refine wl_skip rfl rfl ?_) | ((with_reducible refine wc_seq ?_); intro K hK) | (refine auC ?_) | (refine wc_cond rfl (fun hc => ?_) (fun hc => ?_)) | (refine wc_draw (by kernel_rfl) (by kernel_rfl) (by decide +kernel) ?_; intro w0 hw0 hm0; (try simp only [List.append_eq, List.cons_append, List.nil_append])) | (refine auP ?_) | ((refine auR ?_); clear hK K) | (refine auR ?_) | ((with_reducible refine hK _ _ ?_); clear hK K) | fail)
      first | refine end_ret (ResP.tmp rfl ResP.nil) ?_ | refine end_normal (ResP.tmp rfl ResP.nil) ?_
      first | rfl | (show _ = _; rfl) | (simp only [tupV, *]; done)
  have e1 : (k == 1) = false := by simpa using k1
  by_cases k2 : k = 2 ∨ k = 3
  · have e : fitsB (k, p) = decide (n ≤ 32) := by
      unfold fitsB
      rw [if_neg k1, if_pos k2, hn]
    rw [e]
    have q : decide ((n : Int) ≤ 32) = decide (n ≤ 32) := decide_eq_decide.2 (by omega)
    clear hb hn e
    generalize decide (n ≤ 32) = r at *
    rcases k2 with rfl | rfl
    · have e2 : ((2 : Int) == 2) = true := rfl
      clear e1
      refine fn_ret (N := _) Try.func34 rfl Try.ntmps34 Try.results34 (by simp) ?_
      simp only [initS, Nat.reduceAdd, Nat.zero_add]
      repeat' (first | (refine wlS ?_) | (refine wlB ?_) | (refine wlE ?_) | (refine efSvao ?_; intro v oa ho) | (refine efBnn ?_; intro n hn) | (refine wl_skip rfl rfl ?_) | ((with_reducible refine wc_seq ?_); intro K hK) | (refine auC ?_) | (refine wc_cond rfl (fun hc => ?_) (fun hc => ?_)) | (refine wc_draw (by kernel_rfl) (by kernel_rfl) (by decide +kernel) ?_; intro w0 hw0 hm0; (try simp only [List.append_eq, List.cons_append, List.nil_append])) | (refine auP ?_) | ((refine auR ?_); clear hK K) | (refine auR ?_) | ((with_reducible refine hK _ _ ?_); clear hK K) | fail)
      first | refine end_ret (ResP.tmp rfl ResP.nil) ?_ | refine end_normal (ResP.tmp rfl ResP.nil) ?_
      first | rfl | (show _ = _; rfl) | (simp only [tupV, *]; done)
    · have e2 : ((3 : Int) == 2) = false := rfl
      have e3 : ((3 : Int) == 3) = true := rfl
      clear e1
      refine fn_ret (N := _) Try.func34 rfl Try.ntmps34 Try.results34 (by simp) ?_
      simp only [initS, Nat.reduceAdd, Nat.zero_add]
      repeat' (first | (refine wlS ?_) | (refine wlB ?_) | (refine wlE ?_) | (refine efSvao ?_; intro v oa ho) | (refine efBnn ?_; intro n hn) | (refine wl_skip rfl rfl ?_) | ((with_reducible refine wc_seq ?_); intro K hK) | (refine auC ?_) | (refine wc_cond rfl (fun hc => ?_) (fun hc => ?_)) | (refine wc_draw (by kernel_rfl) (by kernel_rfl) (by decide +kernel) ?_; intro w0 hw0 hm0; (try simp only [List.append_eq, List.cons_append, List.nil_append])) | (refine auP ?_) | ((refine auR ?_); clear hK K) | (refine auR ?_) | ((with_reducible refine hK _ _ ?_); clear hK K) | fail)
      first | refine end_ret (ResP.tmp rfl ResP.nil) ?_ | refine end_normal (ResP.tmp rfl ResP.nil) ?_
      first | rfl | (show _ = _; rfl) | (simp only [tupV, *]; done)
  have e2 : (k == 2) = false := by simpa using (fun h : k = 2 => k2 (.inl h))
  have e3 : (k == 3) = false := by simpa using (fun h : k = 3 => k2 (.inr h))
  by_cases k4 : k = 4
  · have e : fitsB (k, p) = decide (n ≤ 64) := by
      unfold fitsB
      rw [if_neg k1, if_neg k2, if_pos k4, hn]
    rw [e]
    have q : decide ((n : Int) ≤ 64) = decide (n ≤ 64) := decide_eq_decide.2 (by omega)
    clear hb hn e
    generalize decide (n ≤ 64) = r at *
    have e4 : (k == 4) = true := by simpa using k4
    refine fn_ret (N := _) Try.func34 rfl Try.ntmps34 Try.results34 (by simp) ?_
    simp only [initS, Nat.reduceAdd, Nat.zero_add]
    repeat' (first | (refine wlS ?_) | (refine wlB ?_) | (refine wlE ?_) | (refine efSvao ?_; intro v oa ho) | (refine efBnn ?_; intro n hn) | (refine wl_skip rfl rfl ?_) | ((with_reducible refine wc_seq ?_); intro K hK) | (refine auC ?_) | (refine wc_cond rfl (fun hc => ?_) (fun hc => ?_)) | (refine wc_draw (by kernel_rfl) (by kernel_rfl) (by decide +kernel) ?_; intro w0 hw0 hm0; (try simp only [List.append_eq, List.cons_append, List.nil_append])) | (refine auP ?_) | ((refine auR ?_); clear hK K) | (refine auR ?_) | ((with_reducible refine hK _ _ ?_); clear hK K) | fail)
    first | refine end_ret (ResP.tmp rfl ResP.nil) ?_ | refine end_normal (ResP.tmp rfl ResP.nil) ?_
    first | rfl | (show _ = _; rfl) | (simp only [tupV, *]; done)
  have e4 : (k == 4) = false := by simpa using k4
  have e : fitsB (k, p) = decide (p.length = 1 ∧ p.getD 0 0 ≤ 1) := by
    unfold fitsB
    rw [if_neg k1, if_neg k2, if_neg k4]
  rw [e]
  by_cases h1 : n = 1
  · subst h1
    obtain ⟨b, rfl⟩ := List.length_eq_one_iff.1 hn.symm
    have q1 : (((1 : Nat) : Int) == 1) = true := rfl
    have e' : decide ([b].length = 1 ∧ [b].getD 0 0 ≤ 1) = decide ((b : Int) ≤ 1) := decide_eq_decide.2 (by simp; omega)
    rw [e']
    have q2 : decide ((b : Int) ≤ 1) = decide ((b : Int) ≤ 1) := rfl
    clear e e' hb hn
    refine fn_ret (N := _) Try.func34 rfl Try.ntmps34 Try.results34 (by simp) ?_
    simp only [initS, Nat.reduceAdd, Nat.zero_add]
    repeat' (first | (refine wlS ?_) | (refine wlB ?_) | (refine wlE ?_) | (refine efSvao ?_; intro v oa ho) | (refine efBnn ?_; intro n hn) | (refine wl_skip rfl rfl ?_) | ((with_reducible refine wc_seq ?_); intro K hK) | (refine auC ?_) | (refine wc_cond rfl (fun hc => ?_) (fun hc => ?_)) | (refine wc_draw (by kernel_rfl) (by kernel_rfl) (by decide +kernel) ?_; intro w0 hw0 hm0; (try simp only [List.append_eq, List.cons_append, List.nil_append])) | (refine auP ?_) | ((refine auR ?_); clear hK K) | (refine auR ?_) | ((with_reducible refine hK _ _ ?_); clear hK K) | fail)
    first | refine end_ret (ResP.tmp rfl ResP.nil) ?_ | refine end_normal (ResP.tmp rfl ResP.nil) ?_
    first | rfl | (show _ = _; rfl) | (simp only [tupV, *]; done)
  · have q1 : ((n : Int) == 1) = false := by simpa using (fun h : (n : Int) = 1 => h1 (by omega))
    have e' : decide (p.length = 1 ∧ p.getD 0 0 ≤ 1) = false := decide_eq_false (fun h => h1 (by omega))
    rw [e']
    clear e e' hb hn
    refine fn_ret (N := _) Try.func34 rfl Try.ntmps34 Try.results34 (by simp) ?_
    simp only [initS, Nat.reduceAdd, Nat.zero_add]
    repeat' (first | (refine wlS ?_) | (refine wlB ?_) | (refine wlE ?_) | (refine efSvao ?_; intro v oa ho) | (refine efBnn ?_; intro n hn) | (refine wl_skip rfl rfl ?_) | ((with_reducible refine wc_seq ?_); intro K hK) | (refine auC ?_) | (refine wc_cond rfl (fun hc => ?_) (fun hc => ?_)) | (refine wc_draw (by kernel_rfl) (by kernel_rfl) (by decide +kernel) ?_; intro w0 hw0 hm0; (try simp only [List.append_eq, List.cons_append, List.nil_append])) | (refine auP ?_) | ((refine auR ?_); clear hK K) | (refine auR ?_) | ((with_reducible refine hK _ _ ?_); clear hK K) | fail)
    first | refine end_ret (ResP.tmp rfl ResP.nil) ?_ | refine end_normal (ResP.tmp rfl ResP.nil) ?_
    first | rfl | (show _ = _; rfl) | (simp only [tupV, *]; done)
end Go.Proofs.Ytlpalhagndmpjaa
namespace Go.Proofs.Ytlpalhagndmpjaa
open Go.RowKit
set_option linter.unusedVariables false
set_option linter.unusedSimpArgs false
set_option maxRecDepth 100000
/-- Which were there. -/
def ths (S : List Int) : Array Value := ((List.range 19).map fun (i : Nat) => Value.bool (decide (((i : Nat) : Int) ∈ S))).toArray
theorem ths_get (S : List Int) {i : Nat} (h : i < 19) : (ths S)[i]? = some (.bool (decide ((i : Int) ∈ S))) := by simp [ths, h]
instance (S : List Int) : Cells (ths S) 19 := ⟨by simp [ths], by simp [ths, Value.oneCell']⟩
theorem ths_put (S : List Int) {i : Nat} (h : i < 19) : putC (ths S) i (.bool true) = ths ((i : Int) :: S) := by
  apply Array.ext
  · simp [putC, ths]
  · intro j h1 h2
    simp only [putC, ths, List.setIfInBounds_toArray, List.getElem_toArray, List.getElem_set, List.getElem_map, List.getElem_range, List.mem_cons]
    by_cases e : i = j
    · subst e; simp
    · have : ¬ (j : Int) = (i : Int) := by omega
      simp [e, this]
instance zc_ths : ZC Try.prog 56 (ths []) := ⟨by kernel_rfl⟩
attribute [irreducible] ths
set_option maxHeartbeats 16000000 in
theorem check_a (w : World) {v : Value} {l : List Att} (h : Ats w v l) : Calls Try.prog 13 [v].toArray w (Ret (.int .i64 (chkA (abs l))) w) := by
  have i1 := h.cs.old
  have hl : (abs l).length = l.length := by simp [abs]
  by_cases c1 : l.length > 24
  · have t1 : decide ((l.length : Int) > 24) = true := decide_eq_true (by omega)
    have e : chkA (abs l) = 2 := by unfold chkA; rw [hl, if_pos c1]
    rw [e]
    clear h
    refine fn_ret (N := _) Try.func13 rfl Try.ntmps13 Try.results13 (by simp) ?_
    simp only [initS, Nat.reduceAdd, Nat.zero_add]
    repeat' (first | (refine wlS ?_) | (refine wlB ?_) | (refine wlE ?_) | (refine efSvao ?_; intro v oa ho) | (refine efZCnn ?_; intro n hn) | (refine efBnn ?_; intro n hn) | (refine efB ?_) | (refine efBS ?_) | (refine wl_skip rfl rfl ?_) | ((with_reducible refine wc_seq ?_); intro K hK) | (refine auC ?_) | (refine wc_cond rfl (fun hc => ?_) (fun hc => ?_)) | (refine wc_draw (by kernel_rfl) (by kernel_rfl) (by decide +kernel) ?_; intro w0 hw0 hm0; (try simp only [List.append_eq, List.cons_append, List.nil_append])) | (refine auP ?_) | ((refine auR ?_); clear hK K) | (refine auR ?_) | ((with_reducible refine hK _ _ ?_); clear hK K) | fail)
    first | refine end_ret (ResP.tmp rfl ResP.nil) ?_ | refine end_normal (ResP.tmp rfl ResP.nil) ?_
    first | rfl | (show _ = _; rfl) | (simp only [tupV, *]; done)
  have t1 : decide ((l.length : Int) > 24) = false := decide_eq_false (by omega)
  have e0 : chkA (abs l) = chkF (abs l) [] := by unfold chkA; rw [hl, if_neg c1]
  rw [e0]
  clear e0
  obtain ⟨R, hR⟩ : ∃ R, R = chkF (abs l) [] := ⟨_, rfl⟩
  rw [← hR]
  obtain ⟨m, hm⟩ : ∃ m, m = l.length := ⟨_, rfl⟩
  rw [← hm] at i1 t1 c1
  refine fn_ret (N := _) Try.func13 rfl Try.ntmps13 Try.results13 (by simp) ?_
  simp only [initS, Nat.reduceAdd, Nat.zero_add]
  repeat' (first | (refine wlS ?_) | (refine wlB ?_) | (refine wlE ?_) | (refine efSvao ?_; intro v oa ho) | (refine efZCnn ?_; intro n hn) | (refine efBnn ?_; intro n hn) | (refine efB ?_) | (refine efBS ?_) | (refine wl_skip rfl rfl ?_) | ((with_reducible refine wc_seq ?_); intro K hK) | (refine auC ?_) | (refine wc_cond rfl (fun hc => ?_) (fun hc => ?_)) | (refine wc_draw (by kernel_rfl) (by kernel_rfl) (by decide +kernel) ?_; intro w0 hw0 hm0; (try simp only [List.append_eq, List.cons_append, List.nil_append])) | (refine auP ?_) | ((refine auR ?_); clear hK K) | (refine auR ?_) | ((with_reducible refine hK _ _ ?_); clear hK K) | fail)
  obtain ⟨n5, rfl⟩ : ∃ n5, n5 = n := ⟨n, rfl⟩
  refine wc_loop (σ := Nat × List Int) (fun x => [(2, .int .i64 0), (3, ptr n5), (9, v), (10, .int .i64 (m : Int)), (11, .int .i64 (x.1 : Int))])
    (fun x => [(n5, (ths x.2, 56))]) (fun x => x.1 ≤ m ∧ chkF ((abs l).drop x.1) x.2 = R) (fun x => m - x.1) (0, []) ⟨Nat.zero_le _, hR.symm⟩ (Fits.of ⟨rfl, rfl, rfl, rfl, rfl, trivial⟩ (SubL.refl _) rfl) ?_
  rintro ⟨i, s⟩ ⟨hi, hc⟩
  dsimp only at hi hc ⊢
  by_cases hlt : i < m
  · obtain ⟨⟨k, u, p⟩, hx⟩ : ∃ x, l[i]? = some x := ⟨l[i]'(by omega), List.getElem?_eq_getElem _⟩
    have hcb := h.body _ (List.mem_of_getElem? hx)
    dsimp only at hcb
    obtain ⟨pu, cu, rfl, _⟩ := hcb.cs.ln.out
    haveI i2 := hcb.old
    have hget := atsC_get hx
    dsimp only at hget
    have FC : ∀ w', Cb w' (.slice pu p.length cu) p.length p → Calls Try.prog 34 [.agg #[.int .i64 k, .slice pu p.length cu]].toArray w' (Ret (.bool (fitsB (k, p))) w') := fun w' h' => fits_c w' k h'
    have u1 : decide ((i : Int) < (m : Int)) = true := decide_eq_true (by omega)
    have u2 : IntKind.i64.wrap ((i : Int) + 1) = ((i + 1 : Nat) : Int) := by rw [wrap_i64 _ (by omega) (by omega)]; omega
    have j1 : (i : Int) < (m : Int) := by omega
    have hdr : (abs l).drop i = (k, p) :: (abs l).drop (i + 1) := by
      have hb : (abs l)[i]? = some (k, p) := by simp [abs, hx]
      rw [List.drop_eq_getElem_cons (List.getElem?_eq_some_iff.1 hb).1, (List.getElem?_eq_some_iff.1 hb).2]
    rw [hdr, chkF] at hc
    dsimp only at hc
    clear h hcb hdr hR hx
    by_cases d1 : k < 1
    · rw [if_pos (.inl d1)] at hc
      subst hc
      have s1 : decide (k < 1) = true := decide_eq_true d1
      repeat' (first | (refine wlS ?_) | (refine wlB ?_) | (refine wlE ?_) | (refine efSvao ?_; intro v oa ho) | (refine efZCnn ?_; intro n hn) | (refine efBnn ?_; intro n hn) | (refine efB ?_) | (refine efBS ?_) | (refine wl_skip rfl rfl ?_) | ((with_reducible refine wc_seq ?_); intro K hK) | (refine auC ?_) | (refine wc_cond rfl (fun hc => ?_) (fun hc => ?_)) | (refine wc_draw (by kernel_rfl) (by kernel_rfl) (by decide +kernel) ?_; intro w0 hw0 hm0; (try simp only [List.append_eq, List.cons_append, List.nil_append])) | (refine auP ?_) | ((refine auR ?_); clear hK K) | (refine auR ?_) | ((with_reducible refine hK _ _ ?_); clear hK K) | fail)
      first | refine end_ret (ResP.tmp rfl ResP.nil) ?_ | refine end_normal (ResP.tmp rfl ResP.nil) ?_
      first | rfl | (show _ = _; rfl) | (simp only [tupV, *]; done)
    have s1 : decide (k < 1) = false := decide_eq_false d1
    by_cases d2 : k > 18
    · rw [if_pos (.inr d2)] at hc
      subst hc
      have s2 : decide (k > 18) = true := decide_eq_true d2
      repeat' (first | (refine wlS ?_) | (refine wlB ?_) | (refine wlE ?_) | (refine efSvao ?_; intro v oa ho) | (refine efZCnn ?_; intro n hn) | (refine efBnn ?_; intro n hn) | (refine efB ?_) | (refine efBS ?_) | (refine wl_skip rfl rfl ?_) | ((with_reducible refine wc_seq ?_); intro K hK) | (refine auC ?_) | (refine wc_cond rfl (fun hc => ?_) (fun hc => ?_)) | (refine wc_draw (by kernel_rfl) (by kernel_rfl) (by decide +kernel) ?_; intro w0 hw0 hm0; (try simp only [List.append_eq, List.cons_append, List.nil_append])) | (refine auP ?_) | ((refine auR ?_); clear hK K) | (refine auR ?_) | ((with_reducible refine hK _ _ ?_); clear hK K) | fail)
      first | refine end_ret (ResP.tmp rfl ResP.nil) ?_ | refine end_normal (ResP.tmp rfl ResP.nil) ?_
      first | rfl | (show _ = _; rfl) | (simp only [tupV, *]; done)
    have s2 : decide (k > 18) = false := decide_eq_false d2
    rw [if_neg (by omega)] at hc
    by_cases d3 : fitsB (k, p) = false
    · rw [if_pos d3] at hc
      subst hc
      rw [d3] at FC
      repeat' (first | (refine wlS ?_) | (refine wlB ?_) | ((with_reducible refine sel_call ?_); refine wl_rd rfl rfl (rd_call rfl rfl rfl (fun w hm => by with_reducible exact FC w (VwB.out w hm))) ?_) | (refine wlE ?_) | (refine efSvao ?_; intro v oa ho) | (refine efZCnn ?_; intro n hn) | (refine efBnn ?_; intro n hn) | (refine efB ?_) | (refine efBS ?_) | (refine wl_skip rfl rfl ?_) | ((with_reducible refine wc_seq ?_); intro K hK) | (refine auC ?_) | (refine wc_cond rfl (fun hc => ?_) (fun hc => ?_)) | (refine wc_draw (by kernel_rfl) (by kernel_rfl) (by decide +kernel) ?_; intro w0 hw0 hm0; (try simp only [List.append_eq, List.cons_append, List.nil_append])) | (refine auP ?_) | ((refine auR ?_); clear hK K) | (refine auR ?_) | ((with_reducible refine hK _ _ ?_); clear hK K) | fail)
      first | refine end_ret (ResP.tmp rfl ResP.nil) ?_ | refine end_normal (ResP.tmp rfl ResP.nil) ?_
      first | rfl | (show _ = _; rfl) | (simp only [tupV, *]; done)
    have d3' : fitsB (k, p) = true := by simpa using d3
    rw [d3'] at FC
    rw [if_neg d3] at hc
    obtain ⟨j, rfl⟩ := Int.eq_ofNat_of_zero_le (show 0 ≤ k by omega)
    have hj : j < 19 := by omega
    have j2 : ((j : Nat) : Int) < ((19 : Nat) : Int) := by omega
    have g0 := ths_get s hj
    have hpt := ths_put s hj
    by_cases d4 : ((j : Nat) : Int) ∈ s
    · rw [if_pos d4] at hc
      subst hc
      rw [decide_eq_true d4] at g0
      repeat' (first | (refine wlS ?_) | (refine wlB ?_) | ((with_reducible refine sel_call ?_); refine wl_rd rfl rfl (rd_call rfl rfl rfl (fun w hm => by with_reducible exact FC w (VwB.out w hm))) ?_) | (refine wlE ?_) | (refine efSvao ?_; intro v oa ho) | (refine efZCnn ?_; intro n hn) | (refine efBnn ?_; intro n hn) | (refine efB ?_) | (refine efBS ?_) | (refine wl_skip rfl rfl ?_) | ((with_reducible refine wc_seq ?_); intro K hK) | (refine auC ?_) | (refine wc_cond rfl (fun hc => ?_) (fun hc => ?_)) | (refine wc_draw (by kernel_rfl) (by kernel_rfl) (by decide +kernel) ?_; intro w0 hw0 hm0; (try simp only [List.append_eq, List.cons_append, List.nil_append])) | (refine auP ?_) | ((refine auR ?_); clear hK K) | (refine auR ?_) | ((with_reducible refine hK _ _ ?_); clear hK K) | fail)
      first | refine end_ret (ResP.tmp rfl ResP.nil) ?_ | refine end_normal (ResP.tmp rfl ResP.nil) ?_
      first | rfl | (show _ = _; rfl) | (simp only [tupV, *]; done)
    · rw [if_neg d4] at hc
      rw [decide_eq_false d4] at g0
      repeat' (first | (refine wlS ?_) | (refine wlB ?_) | ((with_reducible refine sel_call ?_); refine wl_rd rfl rfl (rd_call rfl rfl rfl (fun w hm => by with_reducible exact FC w (VwB.out w hm))) ?_) | (refine wlE ?_) | (refine efSvao ?_; intro v oa ho) | (refine efZCnn ?_; intro n hn) | (refine efBnn ?_; intro n hn) | (refine efB ?_) | (refine efBS ?_) | (refine wl_skip rfl rfl ?_) | ((with_reducible refine wc_seq ?_); intro K hK) | (refine auC ?_) | (refine wc_cond rfl (fun hc => ?_) (fun hc => ?_)) | (refine wc_draw (by kernel_rfl) (by kernel_rfl) (by decide +kernel) ?_; intro w0 hw0 hm0; (try simp only [List.append_eq, List.cons_append, List.nil_append])) | (refine auP ?_) | ((refine auR ?_); clear hK K) | (refine auR ?_) | ((with_reducible refine hK _ _ ?_); clear hK K) | fail)
      exact ⟨(i + 1, (j : Int) :: s), ⟨hlt, hc⟩, by dsimp only; omega, Fits.of ⟨rfl, rfl, rfl, rfl, rfl, trivial⟩ (by repeat (first | exact SubL.nil | exact SubL.refl _ | refine SubL.skip ?_)) rfl⟩
  · obtain rfl : i = m := by omega
    have u1 : decide ((i : Int) < (i : Int)) = false := decide_eq_false (by omega)
    rw [List.drop_of_length_le (by rw [hl]; omega)] at hc
    obtain rfl : (0 : Int) = R := hc
    clear h
    repeat' (first | (refine wlS ?_) | (refine wlB ?_) | (refine wlE ?_) | (refine efSvao ?_; intro v oa ho) | (refine efBnn ?_; intro n hn) | (refine efB ?_) | (refine efBS ?_) | (refine wl_skip rfl rfl ?_) | ((with_reducible refine wc_seq ?_); intro K hK) | (refine auC ?_) | (refine wc_cond rfl (fun hc => ?_) (fun hc => ?_)) | (refine wc_draw (by kernel_rfl) (by kernel_rfl) (by decide +kernel) ?_; intro w0 hw0 hm0; (try simp only [List.append_eq, List.cons_append, List.nil_append])) | (refine auP ?_) | ((refine auR ?_); clear hK K) | (refine auR ?_) | ((with_reducible refine hK _ _ ?_); clear hK K) | fail)
    first | refine end_ret (ResP.tmp rfl ResP.nil) ?_ | refine end_normal (ResP.tmp rfl ResP.nil) ?_
    first | rfl | (show _ = _; rfl) | (simp only [tupV, *]; done)
end Go.Proofs.Ytlpalhagndmpjaa
namespace Go.Proofs.Ytlpalhagndmpjaa
open Go.RowKit
set_option linter.unusedVariables false
set_option linter.unusedSimpArgs false
set_option maxRecDepth 100000
instance hold_and {X : Cx} {l : Blks} {Φ Ψ : World → Prop} [h : Hold X l Φ] [h' : Hold X l Ψ] : Hold X l (fun w => Φ w ∧ Ψ w) := ⟨fun w hm => ⟨h.out w hm, h'.out w hm⟩⟩
/-- The values of attributes, the same in all worlds of which Ψ is told. -/
def BodF (Ψ : World → Prop) (l : List Att) : Prop := ∀ x ∈ l, (BL x.2.2.length x.2.2 ∧ Ln x.2.1 x.2.2.length) ∧ ∀ w, Ψ w → Cs w x.2.1 x.2.2.length (bl x.2.2)
theorem BodF.nil {Ψ : World → Prop} : BodF Ψ [] := fun x hx => by cases hx
theorem BodF.app {a b : Blks} {l m : List Att} (h : BodF (Hd a) l) (h' : BodF (Hd b) m) : BodF (Hd (a ++ b)) (l ++ m) := fun x hx => by
  rcases List.mem_append.1 hx with hx | hx
  · obtain ⟨h1, h3⟩ := h x hx; exact ⟨h1, fun w hw => h3 w hw.left⟩
  · obtain ⟨h1, h3⟩ := h' x hx; exact ⟨h1, fun w hw => h3 w hw.right⟩
theorem BodF.one {k : Int} {v : Value} {e n : Nat} {q : List Nat} {oa : Blks} (h : OwnB e v n q oa) : BodF (Hd oa) [(k, v, q)] := fun x hx => by
  simp only [List.mem_singleton] at hx
  subst hx
  obtain rfl : n = q.length := h.ok.len.symm
  exact ⟨⟨h.ok, h.own.ln⟩, fun w hw => h.own.cs.out w hw⟩
theorem BodF.perm {Ψ : World → Prop} {l m : List Att} (hp : m.Perm l) (h : BodF Ψ l) : BodF Ψ m := fun x hx => h x (hp.mem_iff.1 hx)
theorem BodF.one' {Ψ : World → Prop} {l : List Att} (h : BodF Ψ l) : ∀ x ∈ l, x.2.1.oneCell' = true := fun x hx => by
  obtain ⟨_, _, hv, _⟩ := (h x hx).1.2.out
  rw [hv]; rfl
theorem BodF.sub {Ψ : World → Prop} {l m : List Att} (hp : ∀ x ∈ m, x ∈ l) (h : BodF Ψ l) : BodF Ψ m := fun x hx => h x (hp x hx)
theorem Ats.bodF {W : World} {v : Value} {l : List Att} (h : Ats W v l) : BodF (Old W []) l := fun x hx => ⟨⟨(h.body x hx).ok, (h.body x hx).cs.ln⟩, fun w hw => (h.body x hx).cs.old.out w hw⟩
theorem AtF.mk' {Φ Ψ : World → Prop} {v : Value} {l : List Att} (h : CsF Φ v l.length (atsC l)) (h' : BodF Ψ l) : AtF (fun w => Φ w ∧ Ψ w) v l :=
  ⟨⟨h.ln, fun w hw => h.out w hw.1⟩, fun w hw => ⟨h.out w hw.1, fun x hx => ⟨(h' x hx).2 w hw.2, (h' x hx).1.1⟩⟩⟩
/-- Such a slice. -/
structure OwnT (v : Value) (l : List Att) (oa : Blks) : Prop where
  out : ∃ oo ob, (∀ q ∈ oo ++ ob, q ∈ oa) ∧ OwnL 29 2 v l.length (atsC l) oo ∧ BodF (Hd ob) l
theorem OwnT.cs {v : Value} {l : List Att} {oa : Blks} (h : OwnT v l oa) : CsF (Hd oa) v l.length (atsC l) := by
  obtain ⟨oo, ob, hs, h1, h2⟩ := h.out
  exact ⟨h1.ln, fun w hw => h1.cs.out w fun q hq => hw q (hs q (List.mem_append_left _ hq))⟩
theorem OwnT.bod {v : Value} {l : List Att} {oa : Blks} (h : OwnT v l oa) : BodF (Hd oa) l := by
  obtain ⟨oo, ob, hs, h1, h2⟩ := h.out
  exact fun x hx => ⟨(h2 x hx).1, fun w hw => (h2 x hx).2 w fun q hq => hw q (hs q (List.mem_append_right _ hq))⟩
theorem OwnT.atf {v : Value} {l : List Att} {oa : Blks} (h : OwnT v l oa) : AtF (Hd oa) v l :=
  ⟨h.cs, fun w hw => ⟨h.cs.out w hw, fun x hx => ⟨(h.bod x hx).2 w hw, (h.bod x hx).1.1⟩⟩⟩
theorem OwnT.nil : OwnT (.slice none 0 0) [] [] := ⟨[], [], fun q h => h, OwnL.nil _ _, BodF.nil⟩
theorem OwnT.ln {v : Value} {l : List Att} {oa : Blks} (h : OwnT v l oa) : Ln v l.length := h.atf.cs.ln
theorem abs_len (l : List Att) : (abs l).length = l.length := by simp [abs]
theorem abs_app (l m : List Att) : abs (l ++ m) = abs l ++ abs m := by simp [abs]
/-- What is normal. -/
structure IsNorm (m l : List Ab) : Prop where
  rises : Rises m
  perm : m.Perm l
theorem IsNorm.only {m m' l : List Ab} (h : IsNorm m l) (h' : IsNorm m' l) : m = m' := rises_only h.rises h'.rises (h.perm.trans h'.perm.symm)
end Go.Proofs.Ytlpalhagndmpjaa
namespace Go.Proofs.Ytlpalhagndmpjaa
open Go.RowKit
set_option linter.unusedVariables false
set_option linter.unusedSimpArgs false
/-- Segments: how many cells, and which. -/
abbrev Sg := List (Nat × Array Value)
def rwL (g : Sg) : List Value := (g.map fun s => s.2.toList).flatten
def rwA (g : Sg) : Array Value := (rwL g).toArray
def sumG : Sg → Nat
  | [] => 0
  | s :: r => s.1 + sumG r
/-- A segment of m cells. -/
class SegL (A : Array Value) (m : Nat) : Prop where
  size : A.size = m
  one : A.all (·.oneCell') = true
class SgOk (g : Sg) : Prop where
  out : ∀ s ∈ g, s.2.size = s.1 ∧ s.2.all (·.oneCell') = true
instance SgOk.nil : SgOk [] := ⟨fun _ h => by cases h⟩
instance SgOk.cons {A : Array Value} {m : Nat} {r : Sg} [h : SegL A m] [h' : SgOk r] : SgOk ((m, A) :: r) := ⟨fun s hs => by
  rcases List.mem_cons.1 hs with rfl | hs
  · exact ⟨h.size, h.one⟩
  · exact h'.out s hs⟩
theorem SgOk.head {s : Nat × Array Value} {r : Sg} (h : SgOk (s :: r)) : s.2.size = s.1 ∧ s.2.all (·.oneCell') = true := h.out s (by simp)
theorem SgOk.tail {s : Nat × Array Value} {r : Sg} (h : SgOk (s :: r)) : SgOk r := ⟨fun q hq => h.out q (by simp [hq])⟩
theorem rwL_cons (s : Nat × Array Value) (r : Sg) : rwL (s :: r) = s.2.toList ++ rwL r := rfl
theorem rwL_len : ∀ {g : Sg}, SgOk g → (rwL g).length = sumG g
  | [], _ => rfl
  | s :: r, h => by rw [rwL_cons, List.length_append, Array.length_toList, h.head.1, rwL_len h.tail]; rfl
theorem rw_size {g : Sg} (h : SgOk g) : (rwA g).size = sumG g := by rw [rwA, List.size_toArray, rwL_len h]
theorem rwL_one : ∀ {g : Sg}, SgOk g → (rwL g).all (·.oneCell') = true
  | [], _ => rfl
  | s :: r, h => by
    rw [rwL_cons, List.all_append, rwL_one h.tail, Bool.and_true]
    have := h.head.2
    rwa [← Array.all_toList] at this
theorem rw_one {g : Sg} (h : SgOk g) : (rwA g).all (·.oneCell') = true := by rw [rwA, List.all_toArray]; exact rwL_one h
def atL : Sg → Nat → Nat → Option (Array Value)
  | [], _, _ => none
  | s :: r, off, k => bif Nat.beq off 0 && Nat.beq k s.1 then some s.2 else bif Nat.ble s.1 off then atL r (off - s.1) k else none
def putG : Sg → Nat → Nat → Array Value → Option Sg
  | [], _, _, _ => none
  | s :: r, off, k, B => bif Nat.beq off 0 && Nat.beq k s.1 then some ((s.1, B) :: r) else bif Nat.ble s.1 off then (match putG r (off - s.1) k B with
    | some r' => some (s :: r')
    | none => none) else none
theorem atL_spec : ∀ {g : Sg} {off k : Nat} {B : Array Value}, SgOk g → atL g off k = some B → ((rwL g).drop off).take k = B.toList ∧ B.size = k ∧ off + k ≤ (rwL g).length
  | [], _, _, _, _, h => by cases h
  | s :: r, off, k, B, hok, h => by
    unfold atL at h
    have hs := hok.head.1
    by_cases h1 : (Nat.beq off 0 && Nat.beq k s.1) = true
    · rw [h1] at h
      simp only [cond_true, Option.some.injEq] at h
      subst h
      simp only [Bool.and_eq_true, Nat.beq_eq] at h1
      obtain ⟨rfl, rfl⟩ := h1
      refine ⟨?_, hs, by rw [rwL_cons, List.length_append, Array.length_toList, hs]; omega⟩
      rw [List.drop_zero, rwL_cons, List.take_append_of_le_length (by rw [Array.length_toList, hs]; exact Nat.le_refl _), List.take_of_length_le (by rw [Array.length_toList, hs]; exact Nat.le_refl _)]
    · rw [eq_false_of_ne_true h1, cond_false] at h
      by_cases h2 : Nat.ble s.1 off = true
      · rw [h2, cond_true] at h
        have hle := Nat.le_of_ble_eq_true h2
        obtain ⟨e1, e2, e3⟩ := atL_spec hok.tail h
        refine ⟨?_, e2, by rw [rwL_cons, List.length_append, Array.length_toList, hs]; omega⟩
        rw [rwL_cons, List.drop_append, Array.length_toList, hs, List.drop_of_length_le (by rw [Array.length_toList, hs]; exact hle), List.nil_append]
        exact e1
      · rw [eq_false_of_ne_true h2, cond_false] at h; cases h
theorem putG_spec : ∀ {g g' : Sg} {off k : Nat} {B : Array Value}, SgOk g → B.size = k → B.all (·.oneCell') = true → putG g off k B = some g' → putR (rwL g) off B.toList = rwL g' ∧ SgOk g' ∧ sumG g' = sumG g ∧ off + k ≤ sumG g
  | [], _, _, _, _, _, _, _, h => by cases h
  | s :: r, g', off, k, B, hok, hk, h1, h => by
    unfold putG at h
    have hs := hok.head.1
    by_cases c1 : (Nat.beq off 0 && Nat.beq k s.1) = true
    · rw [c1] at h
      simp only [cond_true, Option.some.injEq] at h
      subst h
      simp only [Bool.and_eq_true, Nat.beq_eq] at c1
      obtain ⟨rfl, rfl⟩ := c1
      refine ⟨?_, ⟨fun q hq => ?_⟩, rfl, by simp only [sumG]; omega⟩
      · unfold putR
        rw [rwL_cons, rwL_cons, List.take_zero, List.nil_append, Nat.zero_add, Array.length_toList, hk, List.drop_append, Array.length_toList, hs, List.drop_of_length_le (by rw [Array.length_toList, hs]; exact Nat.le_refl _), Nat.sub_self, List.drop_zero, List.nil_append]
      · rcases List.mem_cons.1 hq with rfl | hq
        · exact ⟨hk, h1⟩
        · exact hok.tail.out q hq
    · rw [eq_false_of_ne_true c1, cond_false] at h
      by_cases c2 : Nat.ble s.1 off = true
      · rw [c2, cond_true] at h
        have hle := Nat.le_of_ble_eq_true c2
        cases hp : putG r (off - s.1) k B with
        | none => rw [hp] at h; cases h
        | some r' =>
          rw [hp] at h
          simp only [Option.some.injEq] at h
          subst h
          obtain ⟨e1, e2, e3, e4⟩ := putG_spec hok.tail hk h1 hp
          refine ⟨?_, ⟨fun q hq => ?_⟩, by simp only [sumG, e3], by simp only [sumG]; omega⟩
          · rw [rwL_cons, rwL_cons, ← e1]
            unfold putR
            have e : s.2.toList.length = s.1 := by rw [Array.length_toList, hs]
            rw [List.take_append, e, List.take_of_length_le (by rw [e]; exact hle), List.drop_append, e, List.drop_of_length_le (by rw [e]; omega), List.nil_append, show off + B.toList.length - s.1 = off - s.1 + B.toList.length by omega, List.append_assoc, List.append_assoc, List.append_assoc]
          · rcases List.mem_cons.1 hq with rfl | hq
            · exact hok.head
            · exact e2.out q hq
      · rw [eq_false_of_ne_true c2, cond_false] at h; cases h
/-- A type's nought, in segments. -/
class ZG (P : Program) (t : Nat) (g : outParam Sg) : Prop where
  out : (P.info? t).bind (·.zero) = some (.agg (rwA g))
  ok : SgOk g
def bys (l : List Nat) : Array Value := (bl l).toArray
def w32 (l : List Nat) : Array Value := (l.map fun k : Nat => Value.int .u32 (k : Int)).toArray
theorem seg_bys {n : Nat} {l : List Nat} (h : l.length = n) : SegL (bys l) n := ⟨by simp [bys, bl_len, h], by simp [bys, bl, Value.oneCell']⟩
instance {l : List Nat} {i k : Nat} : PutC (bys l) i (.int .u8 (k : Int)) (bys (l.set i k)) := ⟨by simp [bys, putC, bl]⟩
theorem bys_get {l : List Nat} {i : Nat} (h : i < l.length) : (bys l)[i]? = some (.int .u8 ((l.getD i 0 : Nat) : Int)) := by simp [bys, bl, h, List.getD]
/-- Where a block stands. -/
class BlkAt (l : Blks) (n : Nat) (x : outParam (Array Value × TypeId)) : Prop where
  out : (n, x) ∈ l
instance {n : Nat} {x : Array Value × TypeId} {l : Blks} : BlkAt ((n, x) :: l) n x := ⟨List.mem_cons_self⟩
instance (priority := 900) {n : Nat} {x : Array Value × TypeId} {p : Nat × (Array Value × TypeId)} {l : Blks} [h : BlkAt l n x] : BlkAt (p :: l) n x := ⟨List.mem_cons_of_mem _ h.out⟩
instance (priority := 900) {n : Nat} {x : Array Value × TypeId} {ob l : Blks} [h : BlkAt l n x] : BlkAt (ob ++ l) n x := ⟨List.mem_append_right _ h.out⟩
class BLc (n : Nat) (p : List Nat) : Prop where
  out : BL n p
  small : n ≤ 1099511627776
instance {X : Cx} {l : Blks} {n k : Nat} {p : List Nat} {e : Nat} [h : BlkAt l n (bys p, e)] [h' : BLc k p] : VwB X l (.slice (some ⟨n, 0, none⟩) k k) k p := ⟨fun w hm => by
  have hg := hm.cls.now n (bys p) e (mu_mem_of h.out hm.nd)
  refine ⟨⟨⟨_, _, rfl, Nat.le_refl _, by have := h'.small; simp only [maxLen]; omega, fun _ => ⟨n, 0, rfl⟩⟩, fun j u hj => ⟨n, 0, k, rfl, ?_⟩⟩, h'.out⟩
  rw [cell_of_row w n (0 + j) (bys p) e _ hg, Nat.zero_add]
  simpa [bys] using hj⟩
theorem seg_w32 {n : Nat} {l : List Nat} (h : l.length = n) : SegL (w32 l) n := ⟨by simp [w32, h], by simp [w32, Value.oneCell']⟩
instance {k : IntKind} {z : Int} : SegL #[.int k z] 1 := ⟨rfl, by simp [Value.oneCell']⟩
instance {b : Bool} : SegL #[.bool b] 1 := ⟨rfl, by simp [Value.oneCell']⟩
theorem seg_rw {g : Sg} [h : SgOk g] {k : Nat} (hk : sumG g = k) : SegL (rwA g) k := ⟨by rw [rw_size h, hk], rw_one h⟩
section
variable {X : Cx} {s : Slots} {l : Blks} {o : Oper} {v : Value} {Q : Post} {ops : Array Oper} {r : List Oper}
theorem ld_sg {t b off k e : Nat} {g : Sg} {B : Array Value} [hu : KD X.P t true] [hs : SZ X.P t k] [hok : SgOk g] (hh : Has X l b (rwA g, e) := by first | (with_reducible assumption) | (refine Has.inn ?_; repeat (first | exact Inn.here | refine Inn.there ?_))) (ha : atL g off k = some B := by rfl) : Ld X l t b off (.agg B) := by
  obtain ⟨h1, h2, h3⟩ := atL_spec hok ha
  have := ld_row (X := X) (l := l) (t := t) (b := b) (off := off) (k := k) (c := rwA g) (cs := B.toList) hh (by rw [rwA]; exact h1) (by rw [Array.length_toList, h2])
  rwa [Array.toArray_toList] at this
theorem ld_sg1 {t b off e : Nat} {g : Sg} [hu : KD X.P t false] [hok : SgOk g] (hh : Has X l b (rwA g, e) := by first | (with_reducible assumption) | (refine Has.inn ?_; repeat (first | exact Inn.here | refine Inn.there ?_))) (ha : atL g off 1 = some #[v] := by rfl) : Ld X l t b off v := by
  obtain ⟨h1, h2, h3⟩ := atL_spec hok ha
  refine ld_cell (c := rwA g) hh ?_
  have := congrArg (·[0]?) h1
  simpa [rwA] using this
theorem ld_wholeG {t b k e : Nat} {g : Sg} [hu : KD X.P t true] [hs : SZ X.P t k] [hok : SgOk g] (hh : Has X l b (rwA g, e) := by first | (with_reducible assumption) | (refine Has.inn ?_; repeat (first | exact Inn.here | refine Inn.there ?_))) (hk : sumG g = k := by rfl) : Ld X l t b 0 (.agg (rwA g)) :=
  ld_whole hh (by rw [rw_size hok, hk])
theorem sv_sg {t k off b e : Nat} {x y : Operand} {g g' : Sg} {B : Array Value} {l' : Blks} (ho : o.op = .store t x y) (hx : val s x = some (.pointer (some ⟨b, off, none⟩))) (hy : val s y = some (.agg B))
    [hs : SZ X.P t k] [hok : SgOk g] [hB : SegL B k] (ha : At l b (rwA g, e) (rwA g', e) l' := by repeat (first | exact At.here | apply At.there)) (hp : putG g off k B = some g' := by rfl)  : Sv X s l o l' := by
  obtain ⟨h1, h2, h3, h4⟩ := putG_spec hok hB.size hB.one hp
  have hB' : Value.agg B = .agg B.toList.toArray := by rw [Array.toArray_toList]
  exact sv_row (cs := B.toList) (c := rwA g) (c' := rwL g') ho hx (by rw [hy, hB']) (hk := by rw [Array.length_toList, hB.size]) (h1 := by have := hB.one; rwa [← Array.all_toList] at this) (hc := by rw [rwA, ← h1]) ha (hlt := by rw [Array.length_toList, hB.size, rw_size hok]; exact h4)
theorem sv_sg1 {t off b e : Nat} {x y : Operand} {g g' : Sg} {l' : Blks} (ho : o.op = .store t x y) (hx : val s x = some (.pointer (some ⟨b, off, none⟩))) (hy : val s y = some v)
    [hs : SZ X.P t 1] [hok : SgOk g] [hB : SegL #[v] 1] (ha : At l b (rwA g, e) (rwA g', e) l' := by repeat (first | exact At.here | apply At.there)) (hp : putG g off 1 #[v] = some g' := by rfl)  : Sv X s l o l' := by
  obtain ⟨h1, h2, h3, h4⟩ := putG_spec hok hB.size hB.one hp
  have hv : v.oneCell' = true := by have := hB.one; simpa using this
  have hlt : off < (rwA g).size := by rw [rw_size hok]; omega
  refine sv_cell (c := rwA g) (c' := rwA g') ho hx hy hv ha (hc := ?_) (hlt := hlt)
  unfold putC rwA
  rw [← h1]
  unfold putR
  have hlt' : off < (rwL g).length := by rw [rwL_len hok]; omega
  simp only [List.setIfInBounds_toArray, List.length_cons, List.length_nil]
  congr 1
  rw [List.set_eq_take_append_cons_drop, if_pos hlt']
  simp
theorem sv_wholeG {t k b e : Nat} {x y : Operand} {g g' : Sg} {l' : Blks} (ho : o.op = .store t x y) (hx : val s x = some (.pointer (some ⟨b, 0, none⟩))) (hy : val s y = some (.agg (rwA g')))
    [hs : SZ X.P t k] [hok : SgOk g] [hok' : SgOk g'] (ha : At l b (rwA g, e) (rwA g', e) l' := by repeat (first | exact At.here | apply At.there)) (hk : sumG g' = k := by rfl) (hk' : sumG g = k := by rfl)  : Sv X s l o l' :=
  sv_whole ho hx hy (hk := by rw [rw_size hok', hk]) (h1 := rw_one hok') ha (hlt := by rw [rw_size hok, rw_size hok', hk, hk'])
theorem mk_allocG {t : Nat} {g : Sg} (ho : o.op = .alloc t) [hz : ZG X.P t g] : Mk X s o (rwA g) t ptr := by
  haveI : ZR X.P t (.agg (rwA g)) := ⟨hz.out⟩
  exact mk_alloc ho rfl
theorem rd_fieldG {t f fo ty k : Nat} {x : Operand} {g : Sg} {B : Array Value} (ho : o.op = .field t x f) (hx : val s x = some (.agg (rwA g))) [hf : FD X.P t f fo ty k] [hu : KD X.P ty true] [hs : SZ X.P ty k] [hok : SgOk g] (ha : atL g fo k = some B := by rfl) : RdV X s l o (.agg B) := by
  obtain ⟨h1, h2, h3⟩ := atL_spec hok ha
  refine rd_field ho hx fun w => ?_
  have := part_row (P := X.P) (t := ty) (off := fo) (cs := rwA g) (cs' := B.toList) (by rw [rwA]; exact h1) w
  rwa [Array.toArray_toList] at this
theorem rd_fieldG1 {t f fo ty k : Nat} {x : Operand} {g : Sg} (ho : o.op = .field t x f) (hx : val s x = some (.agg (rwA g))) [hf : FD X.P t f fo ty k] [hu : KD X.P ty false] [hok : SgOk g] (ha : atL g fo 1 = some #[v] := by rfl) : RdV X s l o v := by
  obtain ⟨h1, h2, h3⟩ := atL_spec hok ha
  refine rd_field ho hx fun w => part_cell ?_ w
  have := congrArg (·[0]?) h1
  simpa [rwA] using this
/-- Fields put into a nought. -/
def putsG (pl : List (Nat × Nat)) : Sg → List (Nat × Value) → Option Sg
  | g, [] => some g
  | g, (i, v) :: r => match pl[i]? with
    | none => none
    | some q => bif v.cells.size == q.2 then (match putG g q.1 q.2 v.cells with
      | some g' => putsG pl g' r
      | none => none) else none
theorem putsG_spec {pl : List (Nat × Nat)} : ∀ {vs : List (Nat × Value)} {g g' : Sg}, SgOk g → (∀ p ∈ vs, p.2.cells.all (·.oneCell') = true) → putsG pl g vs = some g' → fillC (fun i => pl[i]?) (rwL g) vs = some (rwL g') ∧ SgOk g'
  | [], g, g', hok, _, h => by cases h; exact ⟨rfl, hok⟩
  | (i, v) :: r, g, g', hok, h1, h => by
    unfold putsG at h
    unfold fillC
    cases hp : pl[i]? with
    | none => simp [hp] at h
    | some q =>
      simp only [hp] at h ⊢
      by_cases c : (v.cells.size == q.2) = true
      · rw [c, cond_true] at h
        cases hg : putG g q.1 q.2 v.cells with
        | none => rw [hg] at h; cases h
        | some g1 =>
          rw [hg] at h
          simp only at h
          obtain ⟨e1, e2, e3, e4⟩ := putG_spec hok (by simpa using c) (h1 (i, v) (by simp)) hg
          have hb : Nat.ble (q.1 + q.2) (rwL g).length = true := Nat.ble_eq_true_of_le (by rw [rwL_len hok]; exact e4)
          rw [c, hb, Bool.and_self, cond_true, e1]
          exact putsG_spec e2 (fun p hp => h1 p (by simp [hp])) h
      · rw [eq_false_of_ne_true c, cond_false] at h; cases h
theorem rd_buildG {t : Nat} {ps : Array (Nat × Operand)} {vs : List (Nat × Value)} {pl : List (Nat × Nat)} {g0 g : Sg} (ho : o.op = .build t ps) (hx : valsP s ps.toList = some vs) [ht : SP X.P t pl] [hz : ZG X.P t g0]
    (hc : putsG pl g0 vs = some g) (h1 : ∀ p ∈ vs, p.2.cells.all (·.oneCell') = true) : RdV X s l o (.agg (rwA g)) := by
  haveI : ZR X.P t (.agg (rwA g0)) := ⟨hz.out⟩
  exact rd_buildS ho hx (by rw [rwA]; exact (putsG_spec hz.ok h1 hc).1)
/-- One cell of a segment. -/
theorem ld_sgC {t b off e p m j : Nat} {g : Sg} {A : Array Value} [hu : KD X.P t false] [hok : SgOk g] (hh : Has X l b (rwA g, e) := by first | (with_reducible assumption) | (refine Has.inn ?_; repeat (first | exact Inn.here | refine Inn.there ?_))) (ha : atL g p m = some A := by rfl) (ho : p + j = off := by first | (with_reducible assumption) | rfl | omega) (hv : A[j]? = some v := by first | (with_reducible assumption)) : Ld X l t b off v := by
  obtain ⟨h1, h2, h3⟩ := atL_spec hok ha
  subst ho
  have hj : j < m := by rw [← h2]; exact (Array.getElem?_eq_some_iff.1 hv).1
  refine ld_cell (c := rwA g) hh ?_
  have := congrArg (·[j]?) h1
  simp only [List.getElem?_take_of_lt hj, List.getElem?_drop] at this
  rw [rwA, List.getElem?_toArray, this]
  simpa using hv
theorem sv_sgC {t off b e p m j : Nat} {x y : Operand} {g g' : Sg} {A A' : Array Value} {l' : Blks} (ho : o.op = .store t x y) (hx : val s x = some (.pointer (some ⟨b, off, none⟩))) (hy : val s y = some v)
    [hs : SZ X.P t 1] [hok : SgOk g] (h1 : v.oneCell' = true) (hat : At l b (rwA g, e) (rwA g', e) l' := by repeat (first | exact At.here | apply At.there)) (ha : atL g p m = some A := by rfl) (hof : p + j = off := by first | (with_reducible assumption) | rfl | omega) (hc : putC A j v = A' := by first | (with_reducible assumption) | exact PutC.out) (hj : j < m := by first | (with_reducible assumption) | omega)
    (hp : putG g p m A' = some g' := by rfl)  : Sv X s l o l' := by
  obtain ⟨e1, e2, e3⟩ := atL_spec hok ha
  subst hof; subst hc
  have hA : A.all (·.oneCell') = true := by
    rw [← Array.all_toList, ← e1, List.all_eq_true]
    intro q hq
    exact (List.all_eq_true.1 (rwL_one hok)) q (List.mem_of_mem_drop (List.mem_of_mem_take hq))
  have hB : SegL (putC A j v) m := ⟨by simp [putC, e2], by
    rw [← Array.all_toList, List.all_eq_true]
    intro q hq
    simp only [putC, Array.toList_setIfInBounds] at hq
    rcases List.mem_or_eq_of_mem_set hq with h | h
    · exact (List.all_eq_true.1 (by rw [Array.all_toList]; exact hA)) q h
    · rw [h]; exact h1⟩
  obtain ⟨f1, f2, f3, f4⟩ := putG_spec hok hB.size hB.one hp
  have hlen : A.toList.length = m := by rw [Array.length_toList, e2]
  refine sv_cell (c := rwA g) (c' := rwA g') ho hx hy h1 hat (hc := ?_) (hlt := by rw [rw_size hok]; omega)
  unfold putC rwA
  rw [← f1]
  unfold putR
  simp only [List.setIfInBounds_toArray]
  congr 1
  have hpl : p + j < (rwL g).length := by omega
  apply List.ext_getElem?
  intro i
  have hAi : ∀ k, k < m → A.toList[k]? = (rwL g)[p + k]? := fun k hk => by rw [← e1, List.getElem?_take_of_lt hk, List.getElem?_drop]
  have hlA : (A.toList.set j v).length = m := by rw [List.length_set, hlen]
  have htk : ((rwL g).take p).length = p := by rw [List.length_take]; omega
  simp only [putC, Array.toList_setIfInBounds]
  rw [hlA, List.getElem?_set]
  by_cases c1 : i < p
  · rw [if_neg (by omega), List.append_assoc, List.getElem?_append_left (by omega), List.getElem?_take_of_lt c1]
  · by_cases c2 : i < p + m
    · rw [List.append_assoc, List.getElem?_append_right (by omega), htk, List.getElem?_append_left (by omega), List.getElem?_set, hlen]
      by_cases c3 : j = i - p
      · rw [if_pos (by omega), if_pos c3, if_pos hpl, if_pos hj]
      · rw [if_neg (by omega), if_neg c3, hAi _ (by omega)]; congr 1; omega
    · rw [if_neg (by omega), List.append_assoc, List.getElem?_append_right (by omega), htk, List.getElem?_append_right (by omega), hlA, List.getElem?_drop]; congr 1; omega
end
end Go.Proofs.Ytlpalhagndmpjaa
