/- The walk over lists: what is known of slots and of blocks, with no world in sight. The core. -/
import Derived.Test.YtkendlnjaopbeaaGreatDoorMild
import Derived.Deep.MidRow
namespace Go.Proofs.YtkendlnjaopbeaaGreatDoor
open Go.RowKit
set_option linter.unusedVariables false
/-! ### What is known of slots -/
abbrev Slots := List (Nat × Value)
def look : Slots → Nat → Option Value
  | [], _ => none
  | (j, v) :: r, i => bif i == j then some v else look r i
def sput : Slots → Nat → Value → Slots
  | [], d, v => [(d, v)]
  | (j, u) :: r, d, v => bif d == j then (j, v) :: r else (j, u) :: sput r d v
def sputO (s : Slots) : Option Nat → Value → Slots
  | none, _ => s
  | some d, v => sput s d v
theorem look_cons (j : Nat) (v : Value) (r : Slots) (i : Nat) : look ((j, v) :: r) i = if i = j then some v else look r i := by
  show (bif i == j then some v else look r i) = _
  by_cases h : i = j
  · subst h; simp
  · have : (i == j) = false := by simpa using h
    simp [this, h]
theorem look_sput (s : Slots) (d : Nat) (v : Value) (i : Nat) : look (sput s d v) i = if i = d then some v else look s i := by
  induction s with
  | nil => unfold sput; rw [look_cons]
  | cons p r ih =>
    obtain ⟨j, u⟩ := p
    unfold sput
    by_cases h : d = j
    · subst h
      simp only [beq_self_eq_true, cond_true, look_cons]
      by_cases h' : i = d <;> simp [h']
    · have : (d == j) = false := by simpa using h
      simp only [this, cond_false, look_cons, ih]
      by_cases h' : i = d
      · subst h'; simp [h]
      · simp [h']
def val (s : Slots) : Operand → Option Value
  | .tmp t => look s t
  | .const v => some v
  | .global g => some (.pointer (some ⟨g, 0, none⟩))
  | .func f => some (.func (.func f) #[] #[])
def vals (s : Slots) : List Operand → Option (List Value)
  | [] => some []
  | x :: r => match val s x, vals s r with
    | some v, some vs => some (v :: vs)
    | _, _ => none
structure Env (N : Nat) (s : Slots) (a : Act) : Prop where
  size : a.tmps.size = N
  get : ∀ i v, look s i = some v → a.tmps[i]? = some v
  nodef : a.defers = []
theorem Env.eval {N : Nat} {s : Slots} {a : Act} (h : Env N s a) {x : Operand} {v : Value} (hv : val s x = some v) : a.eval x = v := by
  cases x with
  | tmp t => have := h.get t v hv; simp [Act.eval, this]
  | const u => cases hv; rfl
  | global g => cases hv; rfl
  | func f => cases hv; rfl
theorem Env.vals {N : Nat} {s : Slots} {a : Act} (h : Env N s a) : ∀ {l : List Operand} {vs : List Value}, vals s l = some vs → l.map a.eval = vs
  | [], vs, hv => by cases hv; rfl
  | x :: r, vs, hv => by
    unfold Proofs.YtkendlnjaopbeaaGreatDoor.vals at hv
    cases h1 : val s x with
    | none => simp [h1] at hv
    | some v =>
      cases h2 : Proofs.YtkendlnjaopbeaaGreatDoor.vals s r with
      | none => simp [h1, h2] at hv
      | some us =>
        simp only [h1, h2, Option.some.injEq] at hv
        subst hv
        simp [h.eval h1, h.vals h2]
def dOk (N : Nat) : Option Nat → Bool
  | none => true
  | some d => Nat.ble (d + 1) N
theorem Env.put {N : Nat} {s : Slots} {a : Act} (h : Env N s a) {dst : Option Nat} (hd : dOk N dst = true) (v : Value) : Env N (sputO s dst v) (a.put dst v) := by
  cases dst with
  | none => exact h
  | some d =>
    have hlt : d < N := Nat.le_of_ble_eq_true hd
    refine ⟨by simp [Act.put, h.size], fun i u hu => ?_, h.nodef⟩
    rw [sputO, look_sput] at hu
    by_cases hi : i = d
    · subst hi
      rw [if_pos rfl] at hu
      cases hu
      simp [Act.put, h.size, hlt]
    · rw [if_neg hi] at hu
      have := h.get i u hu
      simp only [Act.put]
      rw [Array.getElem?_setIfInBounds_ne (fun e => hi e.symm)]
      exact this
/-- What is known of fewer slots. -/
def SubS : Slots → Slots → Prop
  | [], _ => True
  | (i, v) :: r, s => look s i = some v ∧ SubS r s
theorem SubS.look {s' s : Slots} (h : SubS s' s) : ∀ i v, look s' i = some v → look s i = some v := by
  induction s' with
  | nil => intro i v hv; cases hv
  | cons p r ih =>
    obtain ⟨j, u⟩ := p
    intro i v hv
    rw [look_cons] at hv
    by_cases hi : i = j
    · subst hi; rw [if_pos rfl] at hv; cases hv; exact h.1
    · rw [if_neg hi] at hv; exact ih h.2 i v hv
theorem Env.sub {N : Nat} {s s' : Slots} {a : Act} (h : Env N s a) (hs : SubS s' s) : Env N s' a := ⟨h.size, fun i v hv => h.get i v (hs.look i v hv), h.nodef⟩
def eqb (a b : Bool) : Bool := match a, b with
  | true, true => true
  | false, false => true
  | _, _ => false
/-- Does the guard let it through? -/
def gd (s : Slots) (ops : Array Oper) (o : Oper) : Option Bool :=
  match o.guard with
  | none => some true
  | some (j, want) => match (ops[j]?).bind (·.dst) with
    | none => some false
    | some d => match look s d with
      | some (.bool b) => some (eqb b want)
      | some _ => some false
      | none => none
theorem gd_wanted {N : Nat} {s : Slots} {a : Act} {ops : Array Oper} {o : Oper} {g : Bool} (h : Env N s a) (hg : gd s ops o = some g) : Region.wanted o (yielded ops a.tmps) = g := by
  unfold gd at hg
  unfold Region.wanted
  cases hgu : o.guard with
  | none => simp only [hgu] at hg; cases hg; rfl
  | some p =>
    obtain ⟨j, want⟩ := p
    simp only [hgu] at hg ⊢
    unfold yielded
    cases hd : (ops[j]?).bind (·.dst) with
    | none => simp only [hd] at hg; cases hg; rfl
    | some d =>
      simp only [hd, Option.bind_some] at hg ⊢
      cases hl : look s d with
      | none => simp [hl] at hg
      | some v =>
        have := h.get d v hl
        rw [this]
        simp only [hl] at hg
        cases v <;> (try (cases hg; rfl))
        rename_i b
        cases hg
        cases b <;> cases want <;> rfl
/-! ### What is known of blocks -/
abbrev Blks := List (Nat × (Array Value × TypeId))
def mu : Blks → Mu
  | [] => .empty
  | (n, x) :: r => (mu r).put n x
abbrev keys (l : Blks) : List Nat := l.map (·.1)
inductive At : Blks → Nat → Array Value × TypeId → Array Value × TypeId → Blks → Prop
  | here {n : Nat} {x y : Array Value × TypeId} {r : Blks} : At ((n, x) :: r) n x y ((n, y) :: r)
  | there {p : Nat × (Array Value × TypeId)} {n : Nat} {x y : Array Value × TypeId} {r r' : Blks} (h : At r n x y r') : At (p :: r) n x y (p :: r')
theorem At.keys {l l' : Blks} {n : Nat} {x y : Array Value × TypeId} (h : At l n x y l') : keys l' = keys l := by
  induction h with
  | here => rfl
  | there _ ih => simpa using ih
theorem At.mem {l l' : Blks} {n : Nat} {x y : Array Value × TypeId} (h : At l n x y l') : n ∈ Proofs.YtkendlnjaopbeaaGreatDoor.keys l := by
  induction h with
  | here => simp
  | there _ ih => exact List.mem_cons_of_mem _ ih
theorem mu_none {l : Blks} {n : Nat} (h : n ∉ keys l) : (mu l).f n = none := by
  induction l with
  | nil => rfl
  | cons p r ih =>
    obtain ⟨m, x⟩ := p
    simp only [keys, List.map_cons, List.mem_cons, not_or] at h
    rw [mu, Mu.put_f, if_neg h.1]
    exact ih h.2
theorem mu_mem {l : Blks} {n : Nat} {x : Array Value × TypeId} (h : (mu l).f n = some x) : n ∈ keys l := by
  by_cases hm : n ∈ keys l
  · exact hm
  · rw [mu_none hm] at h; cases h
theorem mu_some {l : Blks} {n : Nat} (h : n ∈ keys l) : ∃ x, (mu l).f n = some x := by
  induction l with
  | nil => simp [keys] at h
  | cons p r ih =>
    obtain ⟨m, x⟩ := p
    rw [mu, Mu.put_f]
    by_cases hm : n = m
    · exact ⟨x, by rw [if_pos hm]⟩
    · rw [if_neg hm]
      simp only [keys, List.map_cons, List.mem_cons, hm, false_or] at h
      exact ih h
theorem mu_mem_of {l : Blks} {n : Nat} {x : Array Value × TypeId} (h : (n, x) ∈ l) (nd : (keys l).Nodup) : (mu l).f n = some x := by
  induction l with
  | nil => cases h
  | cons p r ih =>
    obtain ⟨m, y⟩ := p
    simp only [keys, List.map_cons, List.nodup_cons] at nd
    rw [mu, Mu.put_f]
    rcases List.mem_cons.1 h with h | h
    · cases h; rw [if_pos rfl]
    · have : n ∈ keys r := List.mem_map.2 ⟨_, h, rfl⟩
      rw [if_neg (fun e => nd.1 (by subst e; exact this))]
      exact ih h nd.2
theorem At.now {l l' : Blks} {n : Nat} {x y : Array Value × TypeId} (h : At l n x y l') (nd : (Proofs.YtkendlnjaopbeaaGreatDoor.keys l).Nodup) : (mu l).f n = some x := by
  induction h with
  | here => rw [mu, Mu.put_f, if_pos rfl]
  | there hr ih =>
    rename_i p n x y r r'
    simp only [Proofs.YtkendlnjaopbeaaGreatDoor.keys, List.map_cons, List.nodup_cons] at nd
    rw [mu, Mu.put_f, if_neg (fun e => nd.1 (by rw [← e]; exact hr.mem))]
    exact ih nd.2
theorem At.put {l l' : Blks} {n : Nat} {x y : Array Value × TypeId} (h : At l n x y l') (nd : (Proofs.YtkendlnjaopbeaaGreatDoor.keys l).Nodup) (k : Nat) : (mu l').f k = if k = n then some y else (mu l).f k := by
  induction h with
  | here =>
    rw [mu, Mu.put_f, mu, Mu.put_f]
    split <;> simp_all
  | there hr ih =>
    rename_i p n x y r r'
    simp only [Proofs.YtkendlnjaopbeaaGreatDoor.keys, List.map_cons, List.nodup_cons] at nd
    have hne : n ≠ p.1 := fun e => nd.1 (by rw [← e]; exact hr.mem)
    rw [mu, Mu.put_f, mu, Mu.put_f, ih nd.2]
    by_cases h1 : k = p.1
    · rw [if_pos h1, if_neg (fun e => hne (e.symm.trans h1)), if_pos h1]
    · rw [if_neg h1, if_neg h1]
inductive SubL : Blks → Blks → Prop
  | nil {l : Blks} : SubL [] l
  | keep {n : Nat} {x : Array Value × TypeId} {r' r : Blks} (h : SubL r' r) : SubL ((n, x) :: r') ((n, x) :: r)
  | skip {p : Nat × (Array Value × TypeId)} {r' r : Blks} (h : SubL r' r) : SubL r' (p :: r)
theorem SubL.refl : ∀ (l : Blks), SubL l l
  | [] => .nil
  | (_, _) :: r => .keep (SubL.refl r)
theorem SubL.skipA {r' r : Blks} (h : SubL r' r) : ∀ oa : Blks, SubL r' (oa ++ r)
  | [] => h
  | _ :: o => .skip (SubL.skipA h o)
theorem SubL.keepA {r' r : Blks} (h : SubL r' r) : ∀ oa : Blks, SubL (oa ++ r') (oa ++ r)
  | [] => h
  | (_, _) :: o => .keep (SubL.keepA h o)
theorem SubL.headA (r : Blks) : ∀ oa : Blks, SubL oa (oa ++ r)
  | [] => .nil
  | (_, _) :: o => .keep (SubL.headA r o)
theorem SubL.mem {l' l : Blks} (h : SubL l' l) : ∀ p ∈ l', p ∈ l := by
  induction h with
  | nil => intro p hp; cases hp
  | keep _ ih => intro p hp; rcases List.mem_cons.1 hp with h | h; exact h ▸ List.mem_cons_self; exact List.mem_cons_of_mem _ (ih p h)
  | skip _ ih => intro p hp; exact List.mem_cons_of_mem _ (ih p hp)
theorem SubL.nodup {l' l : Blks} (h : SubL l' l) (nd : (keys l).Nodup) : (keys l').Nodup := by
  induction h with
  | nil => simp
  | keep hr ih =>
    simp only [keys, List.map_cons, List.nodup_cons] at nd ⊢
    refine ⟨fun hm => nd.1 ?_, ih nd.2⟩
    obtain ⟨p, hp, he⟩ := List.mem_map.1 hm
    exact List.mem_map.2 ⟨p, hr.mem p hp, he⟩
  | skip _ ih => simp only [keys, List.map_cons, List.nodup_cons] at nd; exact ih nd.2
theorem mu_in {l : Blks} {n : Nat} {x : Array Value × TypeId} (h : (mu l).f n = some x) : (n, x) ∈ l := by
  induction l with
  | nil => cases h
  | cons p r ih =>
    obtain ⟨m, y⟩ := p
    rw [mu, Mu.put_f] at h
    by_cases hm : n = m
    · rw [if_pos hm] at h; cases h; subst hm; exact List.mem_cons_self
    · rw [if_neg hm] at h; exact List.mem_cons_of_mem _ (ih h)
/-! ### The state -/
structure Cx where
  P : Program
  W : World
  N : Nat
  own : List Nat
/-! What a block is: of cells; or, by great numbers in the place of the type, a map (even ones) or a map's iterator (odd ones). -/
def BIG : Nat := 4294967296
def unV : Value → Nat
  | .int _ i => i.toNat
  | _ => 0
def unE : Value → MapEntry
  | .agg c => ⟨c.getD 0 undef, c.getD 1 undef, unV (c.getD 2 undef)⟩
  | _ => ⟨undef, undef, 0⟩
def toObj (x : Array Value × TypeId) : Obj := bif Nat.blt x.2 BIG then .cells x.1 x.2 else
  bif (x.2 - BIG) % 2 == 0 then .map (x.1.map unE) ((x.2 - BIG) / 2) else
  .mapIter (some (unV (x.1.getD 0 undef))) (unV (x.1.getD 1 undef)) ((x.1.extract 2 x.1.size).map unV) ((x.2 - BIG) / 2)
theorem toObj_cells {c : Array Value} {t : Nat} (h : Nat.blt t BIG = true) : toObj (c, t) = .cells c t := by unfold toObj; rw [h]; rfl
/-- What of the world is known: blocks of 'own' may be written, and all that is new. -/
structure Msk (W : World) (own : List Nat) (μ : Mu) (w : World) : Prop where
  os : w.os = W.os
  tape : w.tape = W.tape
  output : w.output = W.output
  size : W.heap.size ≤ w.heap.size
  old : ∀ k, k < W.heap.size → k ∉ own → w.heap[k]? = W.heap[k]?
  now : ∀ k c t, μ.f k = some (c, t) → w.heap[k]? = some (toObj (c, t))
structure Mem (X : Cx) (l : Blks) (w : World) : Prop where
  nd : (keys l).Nodup
  cls : Msk X.W X.own (mu l) w
  fresh : ∀ n ∈ keys l, n < X.W.heap.size → n ∈ X.own
structure St (X : Cx) (s : Slots) (l : Blks) (a : Act) (w : World) : Prop where
  env : Env X.N s a
  mem : Mem X l w
theorem Mem.lt {X : Cx} {l : Blks} {w : World} (h : Mem X l w) {n : Nat} (hn : n ∈ keys l) : n < w.heap.size := by
  obtain ⟨x, hx⟩ := mu_some hn
  exact blk_lt (h.cls.now n x.1 x.2 hx)
/-- The block holds this. -/
def Has (X : Cx) (l : Blks) (n : Nat) (x : Array Value × TypeId) : Prop := ∀ w, Mem X l w → w.heap[n]? = some (.cells x.1 x.2)
theorem Has.at {X : Cx} {l l' : Blks} {n : Nat} {x y : Array Value × TypeId} (h : At l n x y l') (hb : Nat.blt x.2 BIG = true := by first | rfl | assumption) : Has X l n x := fun _ hm => (hm.cls.now n x.1 x.2 (h.now hm.nd)).trans (congrArg some (toObj_cells hb))
inductive Inn : Blks → Nat → Array Value × TypeId → Prop
  | here {n : Nat} {x : Array Value × TypeId} {r : Blks} (hb : Nat.blt x.2 BIG = true := by first | rfl | assumption) : Inn ((n, x) :: r) n x
  | there {p : Nat × (Array Value × TypeId)} {n : Nat} {x : Array Value × TypeId} {r : Blks} (h : Inn r n x) : Inn (p :: r) n x
theorem Inn.at {l : Blks} {n : Nat} {x : Array Value × TypeId} (h : Inn l n x) : At l n x x l := by
  induction h with
  | here => exact .here
  | there _ ih => exact .there ih
theorem Inn.big {l : Blks} {n : Nat} {x : Array Value × TypeId} (h : Inn l n x) : Nat.blt x.2 BIG = true := by
  induction h with
  | here hb => exact hb
  | there _ ih => exact ih
theorem Has.inn {X : Cx} {l : Blks} {n : Nat} {x : Array Value × TypeId} (h : Inn l n x) : Has X l n x := Has.at h.at h.big
/-- A block that stood when the call began, and that the call does not write. -/
theorem Has.old {X : Cx} {l : Blks} {n : Nat} {x : Array Value × TypeId} (h : X.W.heap[n]? = some (.cells x.1 x.2)) (ho : n ∉ X.own) : Has X l n x := fun w hm => by
  have hlt := blk_lt h
  rw [hm.cls.old n hlt ho]
  exact h
theorem Mem.sub' {X : Cx} {l l' : Blks} {w : World} (h : Mem X l w) (nd' : (keys l').Nodup) (hs : ∀ p ∈ l', p ∈ l) : Mem X l' w := by
  have hn : ∀ n x, (mu l').f n = some x → (mu l).f n = some x := fun n x hx => mu_mem_of (hs _ (mu_in hx)) h.nd
  refine ⟨nd', ⟨h.cls.os, h.cls.tape, h.cls.output, h.cls.size, h.cls.old, fun k c t hx => h.cls.now k c t (hn k _ hx)⟩, fun n hm => h.fresh n ?_⟩
  obtain ⟨p, hp, he⟩ := List.mem_map.1 hm
  exact List.mem_map.2 ⟨p, hs p hp, he⟩
theorem Mem.sub {X : Cx} {l l' : Blks} {w : World} (h : Mem X l w) (hs : SubL l' l) : Mem X l' w := h.sub' (hs.nodup h.nd) hs.mem
theorem Mem.sub0 {X : Cx} {l l' : Blks} {w : World} (h : Mem X l w) (hs : SubL l' l) (hk : X.own = X.own) : Mem X l' w := h.sub hs
theorem Mem.upd {X : Cx} {l l' : Blks} {w : World} {n : Nat} {c c' : Array Value} {t : TypeId} (h : Mem X l w) (ha : At l n (c, t) (c', t) l') (hb : Nat.blt t BIG = true := by first | rfl | assumption) : Mem X l' (w.setRow n c') := by
  have hg := (h.cls.now n c t (ha.now h.nd)).trans (congrArg some (toObj_cells hb))
  refine ⟨by rw [ha.keys]; exact h.nd, ⟨h.cls.os, h.cls.tape, h.cls.output, by simpa using h.cls.size, fun k hk hm => ?_, fun k d u hm => ?_⟩, fun k hk => h.fresh k (by rw [← ha.keys]; exact hk)⟩
  · rw [setRow_other w n k c' (fun e => hm (by subst e; exact h.fresh k ha.mem hk))]
    exact h.cls.old k hk hm
  · rw [ha.put h.nd k] at hm
    split at hm
    · rename_i he; cases hm; subst he; rw [toObj_cells hb]; exact setRow_heap w _ c c' t _ hg
    · rename_i hne
      rw [setRow_other w n k c' hne]; exact h.cls.now k d u hm
theorem nwO {w : World} {o : Obj} : (w.alloc o).heap[w.heap.size]? = some o := by show (w.heap.push _)[w.heap.size]? = _; simp
theorem hoO {w : World} {o x : Obj} {n : Nat} (h : w.heap[n]? = some x) : (w.alloc o).heap[n]? = some x := by
  have hlt := blk_lt h
  show (w.heap.push _)[n]? = _
  rw [Array.getElem?_push, if_neg (Nat.ne_of_lt hlt)]; exact h
/-- A new block, of whatever kind. -/
theorem Mem.newO {X : Cx} {l : Blks} {w : World} (h : Mem X l w) (y : Array Value × TypeId) : Mem X ((w.heap.size, y) :: l) (w.alloc (toObj y)) := by
  refine ⟨?_, ⟨h.cls.os, h.cls.tape, h.cls.output, by simp; have := h.cls.size; omega, fun k hk hm => ?_, fun k d u hm => ?_⟩, fun n hn hlt => ?_⟩
  · simp only [keys, List.map_cons, List.nodup_cons]
    exact ⟨fun hm => Nat.lt_irrefl _ (h.lt hm), h.nd⟩
  · have hlt : k < w.heap.size := Nat.lt_of_lt_of_le hk h.cls.size
    rw [← h.cls.old k hk hm]
    show (w.heap.push _)[k]? = _
    rw [Array.getElem?_push, if_neg (Nat.ne_of_lt hlt)]
  · rw [mu, Mu.put_f] at hm
    split at hm
    · rename_i he; cases hm; subst he; exact nwO
    · exact hoO (h.cls.now k d u hm)
  · simp only [keys, List.map_cons, List.mem_cons] at hn
    rcases hn with rfl | hn
    · have := h.cls.size; omega
    · exact h.fresh n hn hlt
theorem Mem.new {X : Cx} {l : Blks} {w : World} (h : Mem X l w) (c : Array Value) (t : TypeId) (hb : Nat.blt t BIG = true := by first | rfl | assumption) : Mem X ((w.heap.size, (c, t)) :: l) (w.alloc (.cells c t)) := by
  have h1 := h.newO (c, t)
  rwa [toObj_cells hb] at h1
theorem Mem.grow {X : Cx} {l : Blks} {w w' : World} (h : Mem X l w) (hb : Below w.heap.size w w') : Mem X l w' :=
  ⟨h.nd, ⟨hb.os.trans h.cls.os, hb.tape.trans h.cls.tape, hb.output.trans h.cls.output, Nat.le_trans h.cls.size hb.size, fun k hk hm => (hb.block k (Nat.lt_of_lt_of_le hk h.cls.size)).trans (h.cls.old k hk hm), fun k c t hm => (hb.block k (blk_lt (h.cls.now k c t hm))).trans (h.cls.now k c t hm)⟩, h.fresh⟩
/-! ### The walk -/
abbrev Post := Exit → Slots → Blks → Prop
def lift (X : Cx) (Q : Post) : Exit → Act → World → Prop := fun e a w => ∃ s l, St X s l a w ∧ Q e s l
def Wc (X : Cx) (c : Code) (Q : Post) (s : Slots) (l : Blks) : Prop := ∀ a w, St X s l a w → c.wp X.P (lift X Q) a w
def thenP (K : Slots → Blks → Prop) (Q : Post) : Post
  | .normal, s, l => K s l
  | e, s, l => Q e s l
def inB (id : Nat) (Q : Post) : Post
  | .exit i, s, l => if i = id then Q .normal s l else Q (.exit i) s l
  | e, s, l => Q e s l
section
variable {X : Cx} {Q : Post} {s : Slots} {l : Blks}
theorem Wc.mono {c : Code} {Q' : Post} (h : Wc X c Q s l) (hq : ∀ e s l, Q e s l → Q' e s l) : Wc X c Q' s l :=
  fun a w hs => wp_mono (h a w hs) fun e a' w' ⟨s', l', h1, h2⟩ => ⟨s', l', h1, hq _ _ _ h2⟩
theorem then_normal {K : Slots → Blks → Prop} (h : K s l) : thenP K Q .normal s l := h
theorem then_ret {K : Slots → Blks → Prop} (h : Q .ret s l) : thenP K Q .ret s l := h
theorem then_exit {K : Slots → Blks → Prop} {n : Nat} (h : Q (.exit n) s l) : thenP K Q (.exit n) s l := h
theorem inB_normal {n : Nat} (h : Q .normal s l) : inB n Q .normal s l := h
theorem inB_ret {n : Nat} (h : Q .ret s l) : inB n Q .ret s l := h
theorem inB_here {n : Nat} (h : Q .normal s l) : inB n Q (.exit n) s l := by unfold inB; simpa using h
theorem inB_out {n i : Nat} (hn : (i == n) = false) (h : Q (.exit i) s l) : inB n Q (.exit i) s l := by
  unfold inB
  have : ¬ i = n := by simpa using hn
  simpa [this] using h
theorem wc_seq {c d : Code} (h : ∀ K : Slots → Blks → Prop, (∀ s l, Wc X d Q s l → K s l) → Wc X c (thenP K Q) s l) : Wc X (.seq c d) Q s l := by
  intro a w hs
  refine wp_seq (wp_mono (h _ (fun _ _ h => h) a w hs) fun e a' w' ⟨s', l', h1, h2⟩ => ?_)
  cases e <;> first | exact h2 a' w' h1 | exact ⟨s', l', h1, h2⟩
theorem wc_skip (h : Q .normal s l) : Wc X .skip Q s l := fun a w hs => wp_skip ⟨s, l, hs, h⟩
theorem wc_label {n : Nat} (h : Q .normal s l) : Wc X (.label n) Q s l := fun a w hs => wp_label ⟨s, l, hs, h⟩
theorem wc_exit {n : Nat} (h : Q (.exit n) s l) : Wc X (.exit n) Q s l := fun a w hs => wp_exit ⟨s, l, hs, h⟩
theorem wc_ret (h : Q .ret s l) : Wc X .ret Q s l := fun a w hs => wp_ret ⟨s, l, hs, h⟩
theorem wc_block {id : Nat} {c : Code} (h : Wc X c (inB id Q) s l) : Wc X (.block id c) Q s l := fun a w hs =>
  wp_block (wp_mono (h a w hs) fun e a' w' ⟨s', l', h1, h2⟩ => by
    cases e with
    | exit i =>
      simp only [Exit.inBlock, inB] at h2 ⊢
      split
      · rename_i he; rw [if_pos he] at h2; exact ⟨s', l', h1, h2⟩
      · rename_i he; rw [if_neg he] at h2; exact ⟨s', l', h1, h2⟩
    | _ => exact ⟨s', l', h1, h2⟩)
theorem wc_true {c : Operand} {x y : Code} (hc : val s c = some (.bool true)) (h : Wc X x Q s l) : Wc X (.cond c x y) Q s l := fun a w hs => wp_cond_true (hs.env.eval hc) (h a w hs)
theorem wc_false {c : Operand} {x y : Code} (hc : val s c = some (.bool false)) (h : Wc X y Q s l) : Wc X (.cond c x y) Q s l := fun a w hs => wp_cond_false (hs.env.eval hc) (h a w hs)
theorem wc_cond {c : Operand} {x y : Code} {b : Bool} (hc : val s c = some (.bool b)) (ht : b = true → Wc X x Q s l) (hf : b = false → Wc X y Q s l) : Wc X (.cond c x y) Q s l := by
  cases b
  · exact wc_false hc (hf rfl)
  · exact wc_true hc (ht rfl)
theorem wc_sub {c : Code} {s' : Slots} {l' : Blks} (hs : SubS s' s) (hl : SubL l' l) (ho : X.own = X.own) (h : Wc X c Q s' l') : Wc X c Q s l := fun a w hst => h a w ⟨hst.env.sub hs, hst.mem.sub0 hl ho⟩
theorem wc_subS {c : Code} {s' : Slots} (hs : SubS s' s) (h : Wc X c Q s' l) : Wc X c Q s l := fun a w hst => h a w ⟨hst.env.sub hs, hst.mem⟩
/-- Up to what is not known. -/
structure Fits (X : Cx) (s' : Slots) (l' : Blks) (s : Slots) (l : Blks) : Prop where
  slots : SubS s' s
  blks : SubL l' l
theorem Fits.of {s' : Slots} {l' : Blks} (h1 : SubS s' s) (h2 : SubL l' l) (h3 : X.own = X.own) : Fits X s' l' s l := ⟨h1, h2⟩
theorem Fits.st {s' : Slots} {l' : Blks} {a : Act} {w : World} (h : Fits X s' l' s l) (hs : St X s l a w) : St X s' l' a w := ⟨hs.env.sub h.slots, hs.mem.sub h.blks⟩
theorem wc_loop {c : Code} {σ : Type} (S : σ → Slots) (L : σ → Blks) (ok : σ → Prop) (m : σ → Nat) (x0 : σ) (h0 : ok x0) (hf : Fits X (S x0) (L x0) s l)
    (round : ∀ x, ok x → Wc X c (thenP (fun s' l' => ∃ y, ok y ∧ m y < m x ∧ Fits X (S y) (L y) s' l') Q) (S x) (L x)) : Wc X (.loop c) Q s l := by
  intro a w hs b k cs
  have key : ∀ n x a w, m x = n → ok x → St X (S x) (L x) a w →
      ∃ e a' w', lift X Q e a' w' ∧ Arrives X.P (lone (b.at a (.code c :: .inLoop c :: k)) cs w) b k cs e a' w' := by
    intro n
    induction n using Nat.strongRecOn with
    | _ n ih =>
      intro x a w hn hok hst
      obtain ⟨e, a₁, w₁, hq, harr⟩ := round x hok a w hst b (.inLoop c :: k) cs
      obtain ⟨s', l', h1, h2⟩ := hq
      cases e with
      | normal =>
        obtain ⟨y, hy, hlt, hfy⟩ := h2
        obtain ⟨e₂, a₂, w₂, hq₂, harr₂⟩ := ih (m y) (hn ▸ hlt) y a₁ w₁ rfl hy (hfy.st h1)
        exact ⟨e₂, a₂, w₂, hq₂, .of_steps (Steps.trans harr (.one step_inLoop)) harr₂⟩
      | exit id => exact ⟨_, a₁, w₁, ⟨s', l', h1, h2⟩, .pass (x := .inLoop c) rfl (fun _ _ => .inl (by simp)) harr⟩
      | goto l => exact ⟨_, a₁, w₁, ⟨s', l', h1, h2⟩, .pass (x := .inLoop c) rfl (fun _ _ => .inl (by simp)) harr⟩
      | ret => exact ⟨_, a₁, w₁, ⟨s', l', h1, h2⟩, .pass (x := .inLoop c) rfl (fun _ _ => .inl (by simp)) harr⟩
      | panic ch => exact ⟨_, a₁, w₁, ⟨s', l', h1, h2⟩, .pass (x := .inLoop c) rfl (fun _ _ => .inl (by simp)) harr⟩
      | outgrown => exact ⟨_, a₁, w₁, ⟨s', l', h1, h2⟩, .pass (x := .inLoop c) rfl (fun _ _ => .inl (by simp)) harr⟩
  obtain ⟨e, a', w', hq, harr⟩ := key _ x0 a w rfl h0 (hf.st hs)
  exact ⟨e, a', w', hq, .of_steps (.one step_loop) harr⟩
/-- A loop of at most n rounds, round by round. -/
def Wr (X : Cx) (c : Code) (Q : Post) : Nat → Slots → Blks → Prop
  | 0, _, _ => False
  | n + 1, s, l => Wc X c (thenP (Wr X c Q n) Q) s l
theorem wc_rounds {c : Code} (n : Nat) (h : Wr X c Q n s l) : Wc X (.loop c) Q s l := by
  intro a w hs b k cs
  have key : ∀ n s l a w, Wr X c Q n s l → St X s l a w →
      ∃ e a' w', lift X Q e a' w' ∧ Arrives X.P (lone (b.at a (.code c :: .inLoop c :: k)) cs w) b k cs e a' w' := by
    intro n
    induction n with
    | zero => intro s l a w h; exact h.elim
    | succ n ih =>
      intro s l a w h hst
      obtain ⟨e, a₁, w₁, hq, harr⟩ := h a w hst b (.inLoop c :: k) cs
      obtain ⟨s', l', h1, h2⟩ := hq
      cases e with
      | normal =>
        obtain ⟨e₂, a₂, w₂, hq₂, harr₂⟩ := ih s' l' a₁ w₁ h2 h1
        exact ⟨e₂, a₂, w₂, hq₂, .of_steps (Steps.trans harr (.one step_inLoop)) harr₂⟩
      | exit id => exact ⟨_, a₁, w₁, ⟨s', l', h1, h2⟩, .pass (x := .inLoop c) rfl (fun _ _ => .inl (by simp)) harr⟩
      | goto l => exact ⟨_, a₁, w₁, ⟨s', l', h1, h2⟩, .pass (x := .inLoop c) rfl (fun _ _ => .inl (by simp)) harr⟩
      | ret => exact ⟨_, a₁, w₁, ⟨s', l', h1, h2⟩, .pass (x := .inLoop c) rfl (fun _ _ => .inl (by simp)) harr⟩
      | panic ch => exact ⟨_, a₁, w₁, ⟨s', l', h1, h2⟩, .pass (x := .inLoop c) rfl (fun _ _ => .inl (by simp)) harr⟩
      | outgrown => exact ⟨_, a₁, w₁, ⟨s', l', h1, h2⟩, .pass (x := .inLoop c) rfl (fun _ _ => .inl (by simp)) harr⟩
  obtain ⟨e, a', w', hq, harr⟩ := key n s l a w h hs
  exact ⟨e, a', w', hq, .of_steps (.one step_loop) harr⟩
theorem wr_succ {c : Code} {n : Nat} (h : ∀ K : Slots → Blks → Prop, (∀ s l, Wr X c Q n s l → K s l) → Wc X c (thenP K Q) s l) : Wr X c Q (n + 1) s l := h _ fun _ _ h => h
/-! ### The way in and out -/
def initS : List Value → Nat → Slots
  | [], _ => []
  | v :: r, i => (i, v) :: initS r (i + 1)
theorem look_initS : ∀ (vs : List Value) (k i : Nat) (v : Value), look (initS vs k) i = some v → k ≤ i ∧ vs[i - k]? = some v
  | [], _, _, _, h => by cases h
  | u :: r, k, i, v, h => by
    rw [initS, look_cons] at h
    by_cases hi : i = k
    · subst hi; rw [if_pos rfl] at h; cases h; simp
    · rw [if_neg hi] at h
      obtain ⟨h1, h2⟩ := look_initS r (k + 1) i v h
      refine ⟨by omega, ?_⟩
      rw [show i - k = (i - (k + 1)) + 1 by omega]
      simpa using h2
/-- What a function gives back: its results' slots. -/
def resV (s : Slots) : List ResultVar → Option (List Value)
  | [] => some []
  | .tmp t :: r => match look s t, resV s r with
    | some v, some vs => some (v :: vs)
    | _, _ => none
  | _ => none
def tupV : List Value → Value
  | [v] => v
  | vs => .tuple vs.toArray
def retP (X : Cx) (fn : Func) (R : Value → Blks → Prop) : Post
  | .normal, s, l | .ret, s, l => ∃ vs, resV s fn.results.toList = some vs ∧ R (tupV vs) l
  | _, _, _ => False
end
end Go.Proofs.YtkendlnjaopbeaaGreatDoor
