/- The walk over lists: regions that draw their order, in the order of the text. -/
import Derived.Test.YtkendlnjaopbeaaGreatDoorLwOps
namespace Go.Proofs.YtkendlnjaopbeaaGreatDoor
open Go.RowKit
set_option linter.unusedVariables false
set_option linter.unusedSimpArgs false
/-- What the region has made of the blocks. -/
structure Dr (X : Cx) (w0 : World) (l0 lc : Blks) (μ : Mu) (clean : Bool) : Prop where
  nd : (keys lc).Nodup
  ov : ∀ k, (mu lc).f k = match μ.f k with | some x => some x | none => (mu l0).f k
  cl : clean = true → ∀ k, k < w0.heap.size → μ.f k = none
  fr : ∀ n ∈ keys lc, n < X.W.heap.size → n ∈ X.own
  tb : ∀ k x, μ.f k = some x → Nat.blt x.2 BIG = true
/-- A region: how the world stood at its beginning, which operations read nothing that it writes, and what it may write. -/
structure Rg where
  w0 : World
  l0 : Blks
  sg : Oper → Bool
  wr : Wrt
def Wd (X : Cx) (G : Rg) (ops : Array Oper) (Q : Post) (r : List Oper) (s : Slots) (lc : Blks) (clean : Bool) : Prop :=
  ∀ a μ, Env X.N s a → Dr X G.w0 G.l0 lc μ clean → wpM X.P G.w0 G.sg G.wr ops (fun a' μ' => ∀ w', Cls G.w0 μ' w' → lift X Q .normal a' w') r a μ
section
variable {X : Cx} {G : Rg} {w0 : World} {l0 lc : Blks} {s : Slots} {o : Oper} {v : Value} {Q : Post} {ops : Array Oper} {r : List Oper} {clean : Bool}
theorem Dr.mem {μ : Mu} {w' : World} (h : Dr X w0 l0 lc μ clean) (hm : Mem X l0 w0) (hc : Cls w0 μ w') : Mem X lc w' := by
  refine ⟨h.nd, ⟨hc.os.trans hm.cls.os, hc.tape.trans hm.cls.tape, hc.output.trans hm.cls.output, Nat.le_trans hm.cls.size hc.size, fun k hk hx => ?_, fun k c t hx => ?_⟩, h.fr⟩
  · cases hμ : μ.f k with
    | some x =>
      have h1 := h.ov k
      rw [hμ] at h1
      exact absurd (h.fr k (mu_mem h1) hk) hx
    | none =>
      rw [hc.old k (Nat.lt_of_lt_of_le hk hm.cls.size) hμ]
      exact hm.cls.old k hk hx
  · rw [h.ov k] at hx
    cases hμ : μ.f k with
    | some x =>
      rw [hμ] at hx
      cases hx
      rw [toObj_cells (h.tb k _ hμ)]
      exact hc.now k c t hμ
    | none =>
      rw [hμ] at hx
      have h0 := hm.cls.now k c t hx
      rw [hc.old k (blk_lt h0) hμ]
      exact h0
theorem wc_draw {id : Nat} {l : Blks} (hm : X.P.follows .mixedOrders = true) (hB : textB .any r.toArray = true) (hP : passB sg0 .any r.toArray = true)
    (h : ∀ w0, X.W.heap.size ≤ w0.heap.size → Mem X l w0 → Wd X ⟨w0, l, sg0, Wr0⟩ r.toArray Q r s l true) : Wc X (.region id r.toArray true) Q s l := fun a w hs =>
  wp_region_mild hm hB hP (h w hs.mem.cls.size hs.mem a .empty hs.env ⟨hs.mem.nd, fun k => rfl, fun _ _ _ => rfl, hs.mem.fresh, fun k x h => by cases h⟩)
theorem wd_nil (hm : Mem X G.l0 G.w0) (h : Q .normal s lc) : Wd X G ops Q [] s lc clean := fun a μ he hd => wpM_nil fun w' hc => ⟨s, lc, ⟨he, hd.mem hm hc⟩, h⟩
theorem wd_skip {s' : Slots} (hg : gd s ops o = some false) (hd : dOk X.N o.dst = true) (h : Wd X G ops Q r s' lc clean) (hs' : sputO s o.dst undef = s' := by (try dsimp only [sputO, sput, Nat.reduceBEq, cond_true, cond_false, beq_self_eq_true]); first | done | exact rfl) : Wd X G ops Q (o :: r) s lc clean := fun a μ he hdr => by
  subst hs'
  exact wpM_skip (gd_wanted he hg) (h _ μ (he.put hd _) hdr)
theorem wd_move {s' : Slots} {x : Operand} (hg : gd s ops o = some true) (hd : dOk X.N o.dst = true) (ho : o.op = .move x) (hx : val s x = some v) (h : Wd X G ops Q r s' lc clean) (hs' : sputO s o.dst v = s' := by (try dsimp only [sputO, sput, Nat.reduceBEq, cond_true, cond_false, beq_self_eq_true]); first | done | exact rfl) : Wd X G ops Q (o :: r) s lc clean := fun a μ he hdr => by
  subst hs'
  exact wpM_plain (gd_wanted he hg) (by unfold opKind; rw [ho]) (by rw [ho]; simp only [plainVal, he.eval hx]) (h _ μ (he.put hd _) hdr)
theorem wd_assign {s' : Slots} {x : Operand} (hg : gd s ops o = some true) (hd : dOk X.N o.dst = true) (ho : o.op = .assign x) (hx : val s x = some v) (h : Wd X G ops Q r s' lc clean) (hs' : sputO s o.dst v = s' := by (try dsimp only [sputO, sput, Nat.reduceBEq, cond_true, cond_false, beq_self_eq_true]); first | done | exact rfl) : Wd X G ops Q (o :: r) s lc clean := fun a μ he hdr => by
  subst hs'
  exact wpM_plain (gd_wanted he hg) (by unfold opKind; rw [ho]) (by rw [ho]; simp only [plainVal, he.eval hx]) (h _ μ (he.put hd _) hdr)
theorem wd_extract {s' : Slots} {x : Operand} {k : Nat} {vs : Array Value} (hg : gd s ops o = some true) (hd : dOk X.N o.dst = true) (ho : o.op = .extract x k) (hx : val s x = some (.tuple vs)) (h : Wd X G ops Q r s' lc clean) (hv : vs[k]? = some v := by first | (with_reducible assumption) | ((try simp only [List.getElem?_toArray, List.getElem?_cons_zero, List.getElem?_cons_succ]); first | done | exact rfl)) (hs' : sputO s o.dst v = s' := by (try dsimp only [sputO, sput, Nat.reduceBEq, cond_true, cond_false, beq_self_eq_true]); first | done | exact rfl) : Wd X G ops Q (o :: r) s lc clean := fun a μ he hdr => by
  subst hs'
  exact wpM_plain (gd_wanted he hg) (by unfold opKind; rw [ho]) (by rw [ho]; simp only [plainVal, he.eval hx]; exact hv) (h _ μ (he.put hd _) hdr)
/-- An operation that reads at most: what it reads stands at the region's beginning. -/
theorem wd_rd {s' : Slots} (hm : Mem X G.l0 G.w0) (hcl : clean = true) (hk : opKind G.sg o = .mild) (hg : gd s ops o = some true) (hd : dOk X.N o.dst = true) (hr : Rd X s G.l0 o v) (h : Wd X G ops Q r s' lc clean) (hs' : sputO s o.dst v = s' := by (try dsimp only [sputO, sput, Nat.reduceBEq, cond_true, cond_false, beq_self_eq_true]); first | done | exact rfl) : Wd X G ops Q (o :: r) s lc clean := fun a μ he hdr => by
  subst hs'
  exact wpM_mild' (gd_wanted he hg) hk (hdr.cl hcl) (fun x => hr a x.to he (hm.grow x.below)) (h _ μ (he.put hd _) hdr)
theorem wdv {s' : Slots} (hm : Mem X G.l0 G.w0) (hcl : clean = true) (hk : opKind G.sg o = .mild) (hg : gd s ops o = some true) (hd : dOk X.N o.dst = true) (hr : RdV X s G.l0 o v) (h : Wd X G ops Q r s' lc clean) (hs' : sputO s o.dst v = s' := by (try dsimp only [sputO, sput, Nat.reduceBEq, cond_true, cond_false, beq_self_eq_true]); first | done | exact rfl) : Wd X G ops Q (o :: r) s lc clean := wd_rd hm hcl hk hg hd (RdV.rd hr) h hs'
/-! ### Regions in which a read may be overtaken by a write: what is written is said beforehand -/
def blkOf (s : Slots) (t : Nat) : Nat := match look s t with
  | some (.pointer (some a)) => a.block
  | _ => 0
def sgOf (o : Oper) : Bool := match o.op with
  | .call _ => false
  | _ => true
def mayT (ts : List Nat) (o : Oper) (t : Nat) : Bool := match o.op with
  | .store _ (.tmp u) _ => u == t || !ts.contains u
  | .store _ _ _ => true
  | _ => false
def waitsB (ops : Array Oper) (oj oi : Oper) : Bool := match oi.op with
  | .load _ _ => oj.after.any fun e => Region.binds .any e && (match ops[e.on]? with | some q => q.dst == oi.dst | none => false)
  | _ => false
def lateB (ts : List Nat) (ops : Array Oper) (oi : Oper) (t : Nat) : Bool := ops.any fun oj => mayT ts oj t && !waitsB ops oj oi
/-- The variables 'ts' are written; a store that waits for a read does not come ahead of it. -/
def wrT (ts : List Nat) (s : Slots) (ops : Array Oper) : Wrt := ⟨fun o k => k ∈ (ts.filter (lateB ts ops o)).map (blkOf s), fun o k => k ∈ (ts.filter (mayT ts o)).map (blkOf s)⟩
def okW (ops : Array Oper) : Bool := (List.range ops.size).all fun i => (List.range ops.size).all fun j => match ops[i]?, ops[j]? with
  | some oi, some oj => !waitsB ops oj oi || oj.after.any (fun e => Region.binds .any e && e.on == i)
  | _, _ => true
theorem wrT_ok {sg : Oper → Bool} {ts : List Nat} (h : okW ops = true) : WrOk sg (wrT ts s ops) .any ops := by
  intro i j oi oj hi hj _ _ hno n hn
  simp only [okW, List.all_eq_true, List.mem_range] at h
  have h1 := h i (Array.getElem?_eq_some_iff.1 hi).1 j (Array.getElem?_eq_some_iff.1 hj).1
  simp only [hi, hj, Bool.or_eq_true, Bool.not_eq_true'] at h1
  have h2 : waitsB ops oj oi = false := by
    rcases h1 with h1 | h1
    · exact h1
    · obtain ⟨e, he, hb⟩ := Array.any_eq_true'.1 h1
      simp only [Bool.and_eq_true, beq_iff_eq] at hb
      exact absurd hb.2 (hno e he hb.1)
  simp only [wrT, List.mem_map, List.mem_filter] at hn ⊢
  obtain ⟨t, ⟨ht, hm⟩, rfl⟩ := hn
  exact ⟨t, ⟨ht, Array.any_eq_true'.2 ⟨oj, Array.mem_of_getElem? hj, by rw [hm, h2]; rfl⟩⟩, rfl⟩
theorem wrT_sub {ts : List Nat} {k : Nat} (h : (wrT ts s ops).r o k) : k ∈ ts.map (blkOf s) := by
  simp only [wrT, List.mem_map, List.mem_filter] at h ⊢
  obtain ⟨t, ⟨ht, _⟩, rfl⟩ := h
  exact ⟨t, ht, rfl⟩
def allT : List Nat → (Nat → Prop) → Prop
  | [], _ => True
  | t :: l, p => p t ∧ allT l p
def exT : List Nat → (Nat → Prop) → Prop
  | [], _ => False
  | t :: l, p => p t ∨ exT l p
theorem allT_nil {p : Nat → Prop} : allT [] p := trivial
theorem allT_cons {p : Nat → Prop} {t : Nat} {l : List Nat} (h : p t) (k : allT l p) : allT (t :: l) p := ⟨h, k⟩
theorem allT_mem {p : Nat → Prop} : ∀ {l : List Nat}, allT l p → ∀ t ∈ l, p t
  | [], _, t, ht => by cases ht
  | u :: l, h, t, ht => by
    rcases List.mem_cons.1 ht with rfl | ht
    · exact h.1
    · exact allT_mem h.2 t ht
theorem exT_mem {p : Nat → Prop} : ∀ {l : List Nat}, exT l p → ∃ t ∈ l, p t
  | [], h => h.elim
  | u :: l, h => by
    rcases h with h | h
    · exact ⟨u, List.mem_cons_self, h⟩
    · obtain ⟨t, ht, hp⟩ := exT_mem h
      exact ⟨t, List.mem_cons_of_mem _ ht, hp⟩
class InC (l : Blks) (n : Nat) : Prop where
  out : n ∈ keys l
instance InC.here {n : Nat} {x : Array Value × TypeId} {l : Blks} : InC ((n, x) :: l) n := ⟨by simp [keys]⟩
instance (priority := 900) InC.there {n : Nat} {y : Nat × Array Value × TypeId} {l : Blks} [h : InC l n] : InC (y :: l) n := ⟨by
  have := h.out
  simp only [keys, List.map_cons, List.mem_cons]
  exact .inr this⟩
/-- Two blocks that stand at different places. -/
class Two (l : Blks) (a b : Nat) : Prop where
  out : (keys l).Nodup → a ≠ b
instance Two.left {a b : Nat} {x : Array Value × TypeId} {l : Blks} [h : InC l b] : Two ((a, x) :: l) a b := ⟨fun nd e => by
  simp only [keys, List.map_cons, List.nodup_cons] at nd
  exact nd.1 (e ▸ h.out)⟩
instance Two.right {a b : Nat} {x : Array Value × TypeId} {l : Blks} [h : InC l a] : Two ((b, x) :: l) a b := ⟨fun nd e => by
  simp only [keys, List.map_cons, List.nodup_cons] at nd
  exact nd.1 (e ▸ h.out)⟩
instance (priority := 900) Two.skip {a b : Nat} {y : Nat × Array Value × TypeId} {l : Blks} [h : Two l a b] : Two (y :: l) a b := ⟨fun nd => by
  simp only [keys, List.map_cons, List.nodup_cons] at nd
  exact h.out nd.2⟩
theorem Two.ne {l : Blks} {a b : Nat} [h : Two l a b] (nd : (keys l).Nodup) : a ≠ b := h.out nd
theorem not_late {ts : List Nat} {b : Nat} (h : allT ts fun t => lateB ts ops o t = false ∨ blkOf s t ≠ b) : ¬ (wrT ts s ops).r o b := by
  intro h1
  simp only [wrT, List.mem_map, List.mem_filter] at h1
  obtain ⟨t, ⟨ht, hl⟩, rfl⟩ := h1
  rcases allT_mem h t ht with h2 | h2
  · rw [h2] at hl; cases hl
  · exact h2 rfl
theorem st_in {ts : List Nat} {b : Nat} (h : exT ts fun t => mayT ts o t = true ∧ blkOf s t = b) : (wrT ts s ops).s o b := by
  obtain ⟨t, ht, hm, rfl⟩ := exT_mem h
  simp only [wrT, List.mem_map, List.mem_filter]
  exact ⟨t, ⟨ht, hm⟩, rfl⟩
theorem wc_drawS {id : Nat} {l : Blks} (ts : List Nat) (hm : X.P.follows .mixedOrders = true) (hB : textB .any r.toArray = true) (hP : passB sgOf .any r.toArray = true) (hW : okW r.toArray = true)
    (h : ∀ w0, X.W.heap.size ≤ w0.heap.size → Mem X l w0 → Wd X ⟨w0, l, sgOf, wrT ts s r.toArray⟩ r.toArray Q r s l true) : Wc X (.region id r.toArray true) Q s l := fun a w hs =>
  wp_region_gen sgOf (wrT ts s r.toArray) (wrT_ok hW) hm hB hP (h w hs.mem.cls.size hs.mem a .empty hs.env ⟨hs.mem.nd, fun k => rfl, fun _ _ _ => rfl, hs.mem.fresh, fun k x h => by cases h⟩)
theorem Rch.mem {lp : Blks} {x : World} {W0 : Nat → Prop} (hr : Rch G.w0 W0 x) (hm : Mem X G.l0 G.w0) (hfr : ∀ k, W0 k → X.W.heap.size ≤ k) (hs : SubL lp G.l0) (ho : X.own = []) (hno : ∀ k ∈ keys lp, ¬ W0 k) : Mem X lp x := by
  have h1 := hm.sub hs
  refine ⟨h1.nd, ⟨hr.os.trans h1.cls.os, hr.tape.trans h1.cls.tape, hr.output.trans h1.cls.output, Nat.le_trans h1.cls.size hr.size, fun k hk hx => ?_, fun k c t hx => ?_⟩, h1.fresh⟩
  · rw [hr.old k (Nat.lt_of_lt_of_le hk h1.cls.size) (fun hw => by have := hfr k hw; omega)]
    exact h1.cls.old k hk hx
  · have h2 := h1.cls.now k c t hx
    rw [hr.old k (blk_lt h2) (hno k (mu_mem hx))]
    exact h2
theorem Inn.sub {l : Blks} {n : Nat} {x : Array Value × TypeId} (h : Inn l n x) : SubL [(n, x)] l := by
  induction h with
  | here => exact .keep .nil
  | there _ ih => exact .skip ih
theorem wd_pure {s' : Slots} (hm : Mem X G.l0 G.w0) (ho : X.own = []) (hk : opKind G.sg o = .plain) (hg : gd s ops o = some true) (hd : dOk X.N o.dst = true) (hr : RdV X s [] o v) (h : Wd X G ops Q r s' lc clean) (hfr : ∀ k, G.wr.r o k → X.W.heap.size ≤ k := by intro k hk; replace hk := wrT_sub hk; simp only [List.map_cons, List.map_nil, List.mem_cons, List.not_mem_nil, or_false] at hk; dsimp only [blkOf, look, Nat.reduceBEq, cond_true, cond_false, beq_self_eq_true] at hk; dsimp only; (try dsimp only at *); omega) (hs' : sputO s o.dst v = s' := by (try dsimp only [sputO, sput, Nat.reduceBEq, cond_true, cond_false, beq_self_eq_true]); first | done | exact rfl) : Wd X G ops Q (o :: r) s lc clean := fun a μ he hdr => by
  subst hs'
  exact wpM_pv (gd_wanted he hg) hk (fun x hx => hr a x he (hx.mem hm hfr .nil ho (fun k hk => by simp at hk))) (h _ μ (he.put hd _) hdr)
theorem wd_ld {s' : Slots} {t b off : Nat} {x : Operand} {y : Array Value × TypeId} (hm : Mem X G.l0 G.w0) (ho : X.own = []) (hk : opKind G.sg o = .plain) (hg : gd s ops o = some true) (hd : dOk X.N o.dst = true) (hop : o.op = .load t x) (hx : val s x = some (.pointer (some ⟨b, off, none⟩))) (hin : Inn G.l0 b y)
    (hr : Ld X [(b, y)] t b off v) (h : Wd X G ops Q r s' lc clean) (hfr : ∀ k, G.wr.r o k → X.W.heap.size ≤ k := by intro k hk; replace hk := wrT_sub hk; simp only [List.map_cons, List.map_nil, List.mem_cons, List.not_mem_nil, or_false] at hk; dsimp only [blkOf, look, Nat.reduceBEq, cond_true, cond_false, beq_self_eq_true] at hk; dsimp only; (try dsimp only at *); omega) (hnw : ¬ G.wr.r o b := by refine not_late ?_; repeat (first | exact allT_nil | refine allT_cons (by first | (refine Or.inr ?_; dsimp only [blkOf, look, Nat.reduceBEq, cond_true, cond_false, beq_self_eq_true]; exact Two.ne hm0.nd) | (refine Or.inl ?_; kernel_rfl)) ?_)) (hs' : sputO s o.dst v = s' := by (try dsimp only [sputO, sput, Nat.reduceBEq, cond_true, cond_false, beq_self_eq_true]); first | done | exact rfl) : Wd X G ops Q (o :: r) s lc clean := fun a μ he hdr => by
  subst hs'
  have hsub : SubL [(b, y)] G.l0 := hin.sub
  exact wpM_pv (gd_wanted he hg) hk (fun z hz => rd_load hop hx hr a z he (hz.mem hm hfr hsub ho (fun k hk => by simp at hk; subst hk; exact hnw))) (h _ μ (he.put hd _) hdr)
theorem wd_alloc {t : Nat} {z : Value} {c : Array Value} {s' : Nat → Slots} (hm : Mem X G.l0 G.w0) (hg : gd s ops o = some true) (hd : dOk X.N o.dst = true) (ho : o.op = .alloc t) [hz : ZR X.P t z]
    (h : ∀ n, X.W.heap.size ≤ n → G.w0.heap.size ≤ n → Wd X G ops Q r (s' n) ((n, (c, t)) :: lc) clean) (hc : z.cells = c := by (try dsimp only [Value.cells]); first | done | exact rfl) (hs' : ∀ n, sputO s o.dst (ptr n) = s' n := by intro _; (try dsimp only [sputO, sput, Nat.reduceBEq, cond_true, cond_false, beq_self_eq_true]); first | done | exact rfl) (hb : Nat.blt t BIG = true := by first | rfl | assumption) : Wd X G ops Q (o :: r) s lc clean := fun a μ he hdr => by
  obtain rfl : (fun n => sputO s o.dst (ptr n)) = s' := funext hs'
  subst hc
  have hz' : zeroCells X.P t = some z.cells := by unfold zeroCells; rw [hz.out]; rfl
  refine wpM_alloc (gd_wanted he hg) ho hz' (fun n hn hf => h n (Nat.le_trans hm.cls.size hn) hn _ _ (he.put hd _) ?_)
  have h0 : (mu G.l0).f n = none := mu_none fun hk => by have := hm.lt hk; omega
  have hc0 : (mu lc).f n = none := by rw [hdr.ov n, hf]; exact h0
  have hnk : n ∉ keys lc := fun hk => by obtain ⟨x, hx⟩ := mu_some hk; rw [hx] at hc0; cases hc0
  refine ⟨?_, fun k => ?_, fun hcl k hk => ?_, fun k hk hlt => ?_, fun k x hx => ?_⟩
  · simp only [keys, List.map_cons, List.nodup_cons]; exact ⟨hnk, hdr.nd⟩
  · rw [mu, Mu.put_f, Mu.put_f]
    by_cases hk : k = n
    · rw [if_pos hk, if_pos hk]
    · rw [if_neg hk, if_neg hk]; exact hdr.ov k
  · rw [Mu.put_f, if_neg (by omega)]; exact hdr.cl hcl k hk
  · simp only [keys, List.map_cons, List.mem_cons] at hk
    rcases hk with rfl | hk
    · have := hm.cls.size; omega
    · exact hdr.fr k hk hlt
  · rw [Mu.put_f] at hx
    split at hx
    · cases hx; exact hb
    · exact hdr.tb k x hx
theorem Dr.cur {μ : Mu} {lc' : Blks} {n : Nat} {x y : Array Value × TypeId} (h : Dr X w0 l0 lc μ clean) (hm : Mem X l0 w0) (ha : At lc n x y lc') (hb : Nat.blt x.2 BIG = true) : cur w0 μ n = some x := by
  have h1 := ha.now h.nd
  rw [h.ov n] at h1
  unfold Proofs.YtkendlnjaopbeaaGreatDoor.cur
  cases hμ : μ.f n with
  | some z => rw [hμ] at h1; exact h1
  | none =>
    rw [hμ] at h1
    have := hm.cls.now n x.1 x.2 h1
    dsimp only
    rw [this, toObj_cells hb]
    rfl
theorem Dr.put {μ : Mu} {lc' : Blks} {n : Nat} {x y : Array Value × TypeId} (h : Dr X w0 l0 lc μ clean) (ha : At lc n x y lc') (clean' : Bool) (hc : clean' = true → clean = true ∧ w0.heap.size ≤ n) (hb : Nat.blt y.2 BIG = true) : Dr X w0 l0 lc' (μ.put n y) clean' := by
  refine ⟨by rw [ha.keys]; exact h.nd, fun k => ?_, fun hcl k hk => ?_, fun k hk => h.fr k (by rw [← ha.keys]; exact hk), fun k z hz => ?_⟩
  · rw [ha.put h.nd k, Mu.put_f]
    by_cases hk : k = n
    · rw [if_pos hk, if_pos hk]
    · rw [if_neg hk, if_neg hk]; exact h.ov k
  · obtain ⟨h1, h2⟩ := hc hcl
    rw [Mu.put_f, if_neg (by omega)]
    exact h.cl h1 k hk
  · rw [Mu.put_f] at hz
    split at hz
    · cases hz; exact hb
    · exact h.tb k z hz
theorem wd_cell {s' : Slots} {t : Nat} {x y : Operand} {b off : Nat} {c c' : Array Value} {e : Nat} {lc' : Blks} {clean' : Bool} (hm : Mem X G.l0 G.w0) (hg : gd s ops o = some true) (hd : dOk X.N o.dst = true) (ho : o.op = .store t x y) (hx : val s x = some (.pointer (some ⟨b, off, none⟩))) (hy : val s y = some v)
    (h1 : v.oneCell' = true) [hs : SZ X.P t 1] (hcl : clean' = true → clean = true ∧ G.w0.heap.size ≤ b) (h : Wd X G ops Q r s' lc' clean') (ha : At lc b (c, e) (c', e) lc' := by repeat (first | exact At.here | apply At.there)) (hc : putC c off v = c' := by first | (with_reducible assumption) | exact PutC.out | (dsimp only [putC, List.setIfInBounds_toArray, List.set_cons_zero, List.set_cons_succ]; done) | rfl | (simp only [putC, List.setIfInBounds_toArray, List.set_cons_zero, List.set_cons_succ]; rfl)) (hlt : off < c.size := by simp only [Cells.size, List.size_toArray, List.length_cons, List.length_nil, Nat.reduceAdd]; first | done | omega) (hfr : fresh ops o = true → G.w0.heap.size ≤ b := by first | (intro _; assumption) | (exact notFresh (by kernel_rfl))) (hwr : b < G.w0.heap.size → G.wr.s o b := by first | (intro _; trivial) | (intro hlt; exfalso; (try dsimp only at *); omega) | (intro _; refine st_in ?_; dsimp only [exT]; repeat (first | exact Or.inl ⟨by decide +kernel, rfl⟩ | refine Or.inr ?_))) (hs' : sputO s o.dst undef = s' := by (try dsimp only [sputO, sput, Nat.reduceBEq, cond_true, cond_false, beq_self_eq_true]); first | done | exact rfl) (hb : Nat.blt e BIG = true := by first | rfl | assumption) : Wd X G ops Q (o :: r) s lc clean := fun a μ he hdr => by
  subst hs'
  subst hc
  exact wpG_cell (gd_wanted he hg) ho (he.eval hx) (he.eval hy) (hdr.cur hm ha hb) hs.out h1 hlt hfr hwr (h _ _ (he.put hd _) (hdr.put ha clean' hcl hb))
/-- A store of a whole variable. -/
theorem wd_row {s' : Slots} {t k : Nat} {x y : Operand} {b : Nat} {c cs : Array Value} {e : Nat} {lc' : Blks} {clean' : Bool} (hm : Mem X G.l0 G.w0) (hg : gd s ops o = some true) (hd : dOk X.N o.dst = true) (ho : o.op = .store t x y) (hx : val s x = some (.pointer (some ⟨b, 0, none⟩))) (hy : val s y = some (.agg cs))
 [hs : SZ X.P t k] (hcl : clean' = true → clean = true ∧ G.w0.heap.size ≤ b) (h : Wd X G ops Q r s' lc' clean') (h1 : cs.all (·.oneCell') = true := by first | exact Cells.one | rfl | (simp only [List.all_toArray, List.all_cons, List.all_nil, One.out, Bool.and_true]; done) | (simp [Value.oneCell']; done)) (hk : cs.size = k := by first | exact Cells.size | rfl) (ha : At lc b (c, e) (cs, e) lc' := by repeat (first | exact At.here | apply At.there)) (hlt : c.size = cs.size := by first | rfl | (simp only [Cells.size]; first | done | rfl)) (hfr : fresh ops o = true → G.w0.heap.size ≤ b := by first | (intro _; assumption) | (exact notFresh (by kernel_rfl))) (hwr : b < G.w0.heap.size → G.wr.s o b := by first | (intro _; trivial) | (intro hlt; exfalso; (try dsimp only at *); omega) | (intro _; refine st_in ?_; dsimp only [exT]; repeat (first | exact Or.inl ⟨by decide +kernel, rfl⟩ | refine Or.inr ?_))) (hs' : sputO s o.dst undef = s' := by (try dsimp only [sputO, sput, Nat.reduceBEq, cond_true, cond_false, beq_self_eq_true]); first | done | exact rfl) (hb : Nat.blt e BIG = true := by first | rfl | assumption) : Wd X G ops Q (o :: r) s lc clean := fun a μ he hdr => by
  subst hs'
  exact wpG_row (gd_wanted he hg) ho (he.eval hx) (he.eval hy) (hdr.cur hm ha hb) (by rw [hs.out, hk]) hlt h1 hfr hwr (h _ _ (he.put hd _) (hdr.put ha clean' hcl hb))
end
section
variable {X : Cx} {G : Rg} {lc : Blks} {clean : Bool} {s : Slots} {Q : Post} {ops : Array Oper} {r : List Oper} {d : Option Tmp} {ty : TypeId} {p : String} {af : Array Edge} {g : Option (Nat × Bool)}
theorem seld_nil (h : Wd X G ops Q [] s lc clean) : Wd X G ops Q [] s lc clean := h
theorem seld_move {x : Operand} (h : Wd X G ops Q (⟨d, .move x, ty, p, af, g⟩ :: r) s lc clean) : Wd X G ops Q (⟨d, .move x, ty, p, af, g⟩ :: r) s lc clean := h
theorem seld_assign {x : Operand} (h : Wd X G ops Q (⟨d, .assign x, ty, p, af, g⟩ :: r) s lc clean) : Wd X G ops Q (⟨d, .assign x, ty, p, af, g⟩ :: r) s lc clean := h
theorem seld_pick {x y z : Operand} (h : Wd X G ops Q (⟨d, .pick x y z, ty, p, af, g⟩ :: r) s lc clean) : Wd X G ops Q (⟨d, .pick x y z, ty, p, af, g⟩ :: r) s lc clean := h
theorem seld_alloc {t : Nat} (h : Wd X G ops Q (⟨d, .alloc t, ty, p, af, g⟩ :: r) s lc clean) : Wd X G ops Q (⟨d, .alloc t, ty, p, af, g⟩ :: r) s lc clean := h
theorem seld_box {t : Nat} {x : Operand} (h : Wd X G ops Q (⟨d, .box t x, ty, p, af, g⟩ :: r) s lc clean) : Wd X G ops Q (⟨d, .box t x, ty, p, af, g⟩ :: r) s lc clean := h
theorem seld_build {t : Nat} {ps : Array (Nat × Operand)} (h : Wd X G ops Q (⟨d, .build t ps, ty, p, af, g⟩ :: r) s lc clean) : Wd X G ops Q (⟨d, .build t ps, ty, p, af, g⟩ :: r) s lc clean := h
theorem seld_bslice {t n : Nat} {ps : Array (Nat × Operand)} (h : Wd X G ops Q (⟨d, .buildSlice t n ps, ty, p, af, g⟩ :: r) s lc clean) : Wd X G ops Q (⟨d, .buildSlice t n ps, ty, p, af, g⟩ :: r) s lc clean := h
theorem seld_load {t : Nat} {x : Operand} (h : Wd X G ops Q (⟨d, .load t x, ty, p, af, g⟩ :: r) s lc clean) : Wd X G ops Q (⟨d, .load t x, ty, p, af, g⟩ :: r) s lc clean := h
theorem seld_store {t : Nat} {x y : Operand} (h : Wd X G ops Q (⟨d, .store t x y, ty, p, af, g⟩ :: r) s lc clean) : Wd X G ops Q (⟨d, .store t x y, ty, p, af, g⟩ :: r) s lc clean := h
theorem seld_nilc {x : Operand} (h : Wd X G ops Q (⟨d, .nilCheck x, ty, p, af, g⟩ :: r) s lc clean) : Wd X G ops Q (⟨d, .nilCheck x, ty, p, af, g⟩ :: r) s lc clean := h
theorem seld_unop {o : UnOp} {t : Nat} {x : Operand} (h : Wd X G ops Q (⟨d, .unOp o t x, ty, p, af, g⟩ :: r) s lc clean) : Wd X G ops Q (⟨d, .unOp o t x, ty, p, af, g⟩ :: r) s lc clean := h
theorem seld_conv {a b : Nat} {x : Operand} (h : Wd X G ops Q (⟨d, .convert a b x, ty, p, af, g⟩ :: r) s lc clean) : Wd X G ops Q (⟨d, .convert a b x, ty, p, af, g⟩ :: r) s lc clean := h
theorem seld_fieldA {t f : Nat} {x : Operand} (h : Wd X G ops Q (⟨d, .fieldAddr t x f, ty, p, af, g⟩ :: r) s lc clean) : Wd X G ops Q (⟨d, .fieldAddr t x f, ty, p, af, g⟩ :: r) s lc clean := h
theorem seld_field {t f : Nat} {x : Operand} (h : Wd X G ops Q (⟨d, .field t x f, ty, p, af, g⟩ :: r) s lc clean) : Wd X G ops Q (⟨d, .field t x f, ty, p, af, g⟩ :: r) s lc clean := h
theorem seld_indexA {t : Nat} {x y : Operand} (h : Wd X G ops Q (⟨d, .indexAddr t x y, ty, p, af, g⟩ :: r) s lc clean) : Wd X G ops Q (⟨d, .indexAddr t x y, ty, p, af, g⟩ :: r) s lc clean := h
theorem seld_index {t : Nat} {x y : Operand} (h : Wd X G ops Q (⟨d, .index t x y, ty, p, af, g⟩ :: r) s lc clean) : Wd X G ops Q (⟨d, .index t x y, ty, p, af, g⟩ :: r) s lc clean := h
theorem seld_extract {x : Operand} {k : Nat} (h : Wd X G ops Q (⟨d, .extract x k, ty, p, af, g⟩ :: r) s lc clean) : Wd X G ops Q (⟨d, .extract x k, ty, p, af, g⟩ :: r) s lc clean := h
theorem seld_call {c : Call} (h : Wd X G ops Q (⟨d, .call c, ty, p, af, g⟩ :: r) s lc clean) : Wd X G ops Q (⟨d, .call c, ty, p, af, g⟩ :: r) s lc clean := h
theorem seld_slice {t : Nat} {x : Operand} {a b c : Option Operand} (h : Wd X G ops Q (⟨d, .slice t x a b c, ty, p, af, g⟩ :: r) s lc clean) : Wd X G ops Q (⟨d, .slice t x a b c, ty, p, af, g⟩ :: r) s lc clean := h
theorem seld_mslice {t : Nat} {x y : Operand} (h : Wd X G ops Q (⟨d, .makeSlice t x y, ty, p, af, g⟩ :: r) s lc clean) : Wd X G ops Q (⟨d, .makeSlice t x y, ty, p, af, g⟩ :: r) s lc clean := h
theorem seld_bin {o : BinOp} {t yt : Nat} {x y : Operand} (h : Wd X G ops Q (⟨d, .binOp o t x y yt, ty, p, af, g⟩ :: r) s lc clean) : Wd X G ops Q (⟨d, .binOp o t x y yt, ty, p, af, g⟩ :: r) s lc clean := h
theorem seld_b_add {t yt : Nat} {x y : Operand} (h : Wd X G ops Q (⟨d, .binOp .add t x y yt, ty, p, af, g⟩ :: r) s lc clean) : Wd X G ops Q (⟨d, .binOp .add t x y yt, ty, p, af, g⟩ :: r) s lc clean := h
theorem seld_b_sub {t yt : Nat} {x y : Operand} (h : Wd X G ops Q (⟨d, .binOp .sub t x y yt, ty, p, af, g⟩ :: r) s lc clean) : Wd X G ops Q (⟨d, .binOp .sub t x y yt, ty, p, af, g⟩ :: r) s lc clean := h
theorem seld_b_mul {t yt : Nat} {x y : Operand} (h : Wd X G ops Q (⟨d, .binOp .mul t x y yt, ty, p, af, g⟩ :: r) s lc clean) : Wd X G ops Q (⟨d, .binOp .mul t x y yt, ty, p, af, g⟩ :: r) s lc clean := h
theorem seld_b_quo {t yt : Nat} {x y : Operand} (h : Wd X G ops Q (⟨d, .binOp .quo t x y yt, ty, p, af, g⟩ :: r) s lc clean) : Wd X G ops Q (⟨d, .binOp .quo t x y yt, ty, p, af, g⟩ :: r) s lc clean := h
theorem seld_b_rem {t yt : Nat} {x y : Operand} (h : Wd X G ops Q (⟨d, .binOp .rem t x y yt, ty, p, af, g⟩ :: r) s lc clean) : Wd X G ops Q (⟨d, .binOp .rem t x y yt, ty, p, af, g⟩ :: r) s lc clean := h
theorem seld_b_and {t yt : Nat} {x y : Operand} (h : Wd X G ops Q (⟨d, .binOp .and t x y yt, ty, p, af, g⟩ :: r) s lc clean) : Wd X G ops Q (⟨d, .binOp .and t x y yt, ty, p, af, g⟩ :: r) s lc clean := h
theorem seld_b_or {t yt : Nat} {x y : Operand} (h : Wd X G ops Q (⟨d, .binOp .or t x y yt, ty, p, af, g⟩ :: r) s lc clean) : Wd X G ops Q (⟨d, .binOp .or t x y yt, ty, p, af, g⟩ :: r) s lc clean := h
theorem seld_b_xor {t yt : Nat} {x y : Operand} (h : Wd X G ops Q (⟨d, .binOp .xor t x y yt, ty, p, af, g⟩ :: r) s lc clean) : Wd X G ops Q (⟨d, .binOp .xor t x y yt, ty, p, af, g⟩ :: r) s lc clean := h
theorem seld_b_andNot {t yt : Nat} {x y : Operand} (h : Wd X G ops Q (⟨d, .binOp .andNot t x y yt, ty, p, af, g⟩ :: r) s lc clean) : Wd X G ops Q (⟨d, .binOp .andNot t x y yt, ty, p, af, g⟩ :: r) s lc clean := h
theorem seld_b_shl {t yt : Nat} {x y : Operand} (h : Wd X G ops Q (⟨d, .binOp .shl t x y yt, ty, p, af, g⟩ :: r) s lc clean) : Wd X G ops Q (⟨d, .binOp .shl t x y yt, ty, p, af, g⟩ :: r) s lc clean := h
theorem seld_b_shr {t yt : Nat} {x y : Operand} (h : Wd X G ops Q (⟨d, .binOp .shr t x y yt, ty, p, af, g⟩ :: r) s lc clean) : Wd X G ops Q (⟨d, .binOp .shr t x y yt, ty, p, af, g⟩ :: r) s lc clean := h
theorem seld_b_eql {t yt : Nat} {x y : Operand} (h : Wd X G ops Q (⟨d, .binOp .eql t x y yt, ty, p, af, g⟩ :: r) s lc clean) : Wd X G ops Q (⟨d, .binOp .eql t x y yt, ty, p, af, g⟩ :: r) s lc clean := h
theorem seld_b_neq {t yt : Nat} {x y : Operand} (h : Wd X G ops Q (⟨d, .binOp .neq t x y yt, ty, p, af, g⟩ :: r) s lc clean) : Wd X G ops Q (⟨d, .binOp .neq t x y yt, ty, p, af, g⟩ :: r) s lc clean := h
theorem seld_b_lss {t yt : Nat} {x y : Operand} (h : Wd X G ops Q (⟨d, .binOp .lss t x y yt, ty, p, af, g⟩ :: r) s lc clean) : Wd X G ops Q (⟨d, .binOp .lss t x y yt, ty, p, af, g⟩ :: r) s lc clean := h
theorem seld_b_leq {t yt : Nat} {x y : Operand} (h : Wd X G ops Q (⟨d, .binOp .leq t x y yt, ty, p, af, g⟩ :: r) s lc clean) : Wd X G ops Q (⟨d, .binOp .leq t x y yt, ty, p, af, g⟩ :: r) s lc clean := h
theorem seld_b_gtr {t yt : Nat} {x y : Operand} (h : Wd X G ops Q (⟨d, .binOp .gtr t x y yt, ty, p, af, g⟩ :: r) s lc clean) : Wd X G ops Q (⟨d, .binOp .gtr t x y yt, ty, p, af, g⟩ :: r) s lc clean := h
theorem seld_b_geq {t yt : Nat} {x y : Operand} (h : Wd X G ops Q (⟨d, .binOp .geq t x y yt, ty, p, af, g⟩ :: r) s lc clean) : Wd X G ops Q (⟨d, .binOp .geq t x y yt, ty, p, af, g⟩ :: r) s lc clean := h
end
theorem wdT {p q : Prop} (k : q) (h : Box q → p := by refine fun k => ?_; (with_reducible refine seld_store ?_); first | (refine wd_row (clean' := true) (by assumption) rfl rfl rfl rfl rfl (fun _ => ⟨rfl, by assumption⟩) ?_; exact k.out) | (refine wd_cell (clean' := true) (by assumption) rfl rfl rfl rfl rfl rfl (fun _ => ⟨rfl, by assumption⟩) ?_; exact k.out) | (refine wd_row (clean' := false) (by assumption) rfl rfl rfl rfl rfl (by intro h; cases h) ?_; exact k.out) | (refine wd_cell (clean' := false) (by assumption) rfl rfl rfl rfl rfl rfl (by intro h; cases h) ?_; exact k.out) | fail) : p := h ⟨k⟩
theorem wdTO {p q : Prop} (k : q) (h : Box q → p := by refine fun k => ?_; (with_reducible refine seld_store ?_); first | (refine wd_cell (clean' := true) (by assumption) rfl rfl rfl rfl rfl One.out (fun _ => ⟨rfl, by assumption⟩) ?_; exact k.out) | (refine wd_cell (clean' := false) (by assumption) rfl rfl rfl rfl rfl One.out (by intro h; cases h) ?_; exact k.out) | fail) : p := h ⟨k⟩
theorem wdV {p q : Prop} (k : q) (h : Box q → p := by refine fun k => ?_; first | ((with_reducible refine seld_move ?_); refine wd_move rfl rfl rfl rfl ?_; exact k.out) | ((with_reducible refine seld_assign ?_); refine wd_assign rfl rfl rfl rfl ?_; exact k.out) | ((with_reducible refine seld_extract ?_); refine wd_extract rfl rfl rfl rfl ?_; exact k.out) | fail) : p := h ⟨k⟩
theorem wdS {p q : Prop} (k : q) (h : Box q → p := by refine fun k => ?_; first | ((with_reducible refine seld_indexA ?_); refine wdv (by assumption) rfl rfl rfl rfl (rd_ixO rfl rfl rfl) ?_; exact k.out) | ((with_reducible refine seld_fieldA ?_); refine wdv (by assumption) rfl rfl rfl rfl (rd_fdO rfl rfl) ?_; exact k.out) | ((with_reducible refine seld_load ?_); first | (refine wdv (by assumption) rfl rfl rfl rfl (rd_load rfl rfl ld_O) ?_; exact k.out) | (refine wdv (by assumption) rfl rfl rfl rfl (rd_load rfl rfl ld_OR) ?_; exact k.out)) | ((with_reducible refine seld_call ?_); refine wdv (by assumption) rfl rfl rfl rfl (rd_lenO rfl rfl rfl rfl rfl) ?_; exact k.out) | ((with_reducible refine seld_build ?_); refine wdv (by assumption) rfl rfl rfl rfl (rd_buildO rfl rfl rfl rfl rfl) ?_; exact k.out) | ((with_reducible refine seld_slice ?_); first | (refine wdv (by assumption) rfl rfl rfl rfl (rd_slA (lo := 0) rfl rfl rfl rfl rfl rfl) ?_; exact k.out) | (refine wdv (by assumption) rfl rfl rfl rfl (rd_slA rfl rfl rfl rfl rfl rfl) ?_; exact k.out)) | ((with_reducible refine seld_conv ?_); refine wdv (by assumption) rfl rfl rfl rfl (rd_convS rfl rfl) ?_; exact k.out) | ((with_reducible refine seld_b_eql ?_); refine wdv (by assumption) rfl rfl rfl rfl (rd_eqlS rfl rfl rfl) ?_; exact k.out) | fail) : p := h ⟨k⟩
theorem wdDG {p q : Prop} (k : q) (h : Box q → p := by refine fun k => ?_; first | ((with_reducible refine seld_load ?_); refine wdv (by assumption) rfl rfl rfl rfl (rd_load rfl rfl ld_D) ?_; exact k.out) | fail) : p := h ⟨k⟩
theorem wdG {p q : Prop} (k : q) (h : Box q → p := by refine fun k => ?_; first | ((with_reducible refine seld_load ?_); first | (refine wdv (by assumption) rfl rfl rfl rfl (rd_load rfl rfl ld_wholeG) ?_; exact k.out) | (refine wdv (by assumption) rfl rfl rfl rfl (rd_load rfl rfl ld_sg) ?_; exact k.out) | (refine wdv (by assumption) rfl rfl rfl rfl (rd_load rfl rfl ld_sg1) ?_; exact k.out)) | ((with_reducible refine seld_field ?_); first | (refine wdv (by assumption) rfl rfl rfl rfl (rd_fieldG rfl rfl) ?_; exact k.out) | (refine wdv (by assumption) rfl rfl rfl rfl (rd_fieldG1 rfl rfl) ?_; exact k.out)) | ((with_reducible refine seld_build ?_); refine wdv (by assumption) rfl rfl rfl rfl (rd_buildH rfl rfl) ?_; exact k.out) | fail) : p := h ⟨k⟩
theorem wdAF0 {p q : Prop} (k : q) (h : Box q → p := by refine fun k => ?_; first | ((with_reducible refine seld_call ?_); refine wdv (by assumption) rfl rfl rfl rfl (rd_append00 rfl rfl rfl) ?_; exact k.out) | fail) : p := h ⟨k⟩
theorem wdBZ {p q : Prop} (k : q) (h : Box q → p := by refine fun k => ?_; first | ((with_reducible refine seld_build ?_); refine wdv (by assumption) rfl rfl rfl rfl (rd_buildZ rfl rfl) ?_; exact k.out) | fail) : p := h ⟨k⟩
theorem wdIXP {p q : Prop} (k : q) (h : Box q → p := by refine fun k => ?_; first | ((with_reducible refine seld_indexA ?_); refine wdv (by assumption) rfl rfl rfl rfl (rd_ixP rfl rfl rfl) ?_; exact k.out) | fail) : p := h ⟨k⟩
theorem wdR {p q : Prop} (k : q) (h : Box q → p := by refine fun k => ?_; first | ((with_reducible refine seld_load ?_); refine wdv (by assumption) rfl rfl rfl rfl (rd_load rfl rfl ld_num) ?_; exact k.out) | ((with_reducible refine seld_build ?_); first | (refine wdv (by assumption) rfl rfl rfl rfl (rd_build2 rfl rfl) ?_; exact k.out) | (refine wdv (by assumption) rfl rfl rfl rfl (rd_build2y rfl rfl) ?_; exact k.out) | (refine wdv (by assumption) rfl rfl rfl rfl (rd_build2x rfl rfl) ?_; exact k.out) | (refine wdv (by assumption) rfl rfl rfl rfl (rd_build20 rfl rfl) ?_; exact k.out) | (refine wdv (by assumption) rfl rfl rfl rfl (rd_build4 rfl rfl) ?_; exact k.out)) | fail) : p := h ⟨k⟩
theorem wdB {p q : Prop} (k : q) (h : Box q → p := by refine fun k => ?_; first | ((with_reducible refine seld_load ?_); first | (refine wdv (by assumption) rfl rfl rfl rfl (rd_load rfl rfl (ld_whole)) ?_; exact k.out) | (refine wdv (by assumption) rfl rfl rfl rfl (rd_load rfl rfl (ld_cell)) ?_; exact k.out) | (refine wdv (by assumption) rfl rfl rfl rfl (rd_load rfl rfl (ld_row)) ?_; exact k.out)) | ((with_reducible refine seld_indexA ?_); first | (refine wdv (by assumption) rfl rfl rfl rfl (rd_ixA rfl rfl rfl) ?_; exact k.out) | (refine wdv (by assumption) rfl rfl rfl rfl (rd_ixS rfl rfl rfl) ?_; exact k.out)) | ((with_reducible refine seld_fieldA ?_); refine wdv (by assumption) rfl rfl rfl rfl (rd_fdA rfl rfl) ?_; exact k.out) | ((with_reducible refine seld_nilc ?_); refine wdv (by assumption) rfl rfl rfl rfl (rd_nilP rfl rfl) ?_; exact k.out) | ((with_reducible refine seld_pick ?_); refine wdv (by assumption) rfl rfl rfl rfl (rd_pick rfl rfl rfl rfl rfl) ?_; exact k.out) | ((with_reducible refine seld_b_lss ?_); refine wdv (by assumption) rfl rfl rfl rfl (rd_cm rfl rfl rfl rfl) ?_; exact k.out) | ((with_reducible refine seld_b_leq ?_); refine wdv (by assumption) rfl rfl rfl rfl (rd_cm rfl rfl rfl rfl) ?_; exact k.out) | ((with_reducible refine seld_b_gtr ?_); refine wdv (by assumption) rfl rfl rfl rfl (rd_cm rfl rfl rfl rfl) ?_; exact k.out) | ((with_reducible refine seld_b_geq ?_); refine wdv (by assumption) rfl rfl rfl rfl (rd_cm rfl rfl rfl rfl) ?_; exact k.out) | ((with_reducible refine seld_b_eql ?_); first | (refine wdv (by assumption) rfl rfl rfl rfl (rd_cm rfl rfl rfl rfl) ?_; exact k.out) | (refine wdv (by assumption) rfl rfl rfl rfl (rd_eqlB rfl rfl rfl (by first | with_reducible assumption | rfl)) ?_; exact k.out)) | ((with_reducible refine seld_b_neq ?_); refine wdv (by assumption) rfl rfl rfl rfl (rd_cm rfl rfl rfl rfl) ?_; exact k.out) | ((with_reducible refine seld_b_add ?_); refine wdv (by assumption) rfl rfl rfl rfl (rd_ar rfl rfl rfl rfl) ?_; exact k.out) | ((with_reducible refine seld_b_sub ?_); refine wdv (by assumption) rfl rfl rfl rfl (rd_ar rfl rfl rfl rfl) ?_; exact k.out) | ((with_reducible refine seld_b_mul ?_); refine wdv (by assumption) rfl rfl rfl rfl (rd_ar rfl rfl rfl rfl) ?_; exact k.out) | ((with_reducible refine seld_b_and ?_); refine wdv (by assumption) rfl rfl rfl rfl (rd_bw rfl rfl rfl rfl) ?_; exact k.out) | ((with_reducible refine seld_b_or ?_); refine wdv (by assumption) rfl rfl rfl rfl (rd_bw rfl rfl rfl rfl) ?_; exact k.out) | ((with_reducible refine seld_b_xor ?_); refine wdv (by assumption) rfl rfl rfl rfl (rd_bw rfl rfl rfl rfl) ?_; exact k.out) | ((with_reducible refine seld_b_andNot ?_); refine wdv (by assumption) rfl rfl rfl rfl (rd_bw rfl rfl rfl rfl) ?_; exact k.out) | ((with_reducible refine seld_b_shl ?_); refine wdv (by assumption) rfl rfl rfl rfl (rd_shl rfl rfl rfl) ?_; exact k.out) | ((with_reducible refine seld_b_shr ?_); refine wdv (by assumption) rfl rfl rfl rfl (rd_shr rfl rfl rfl) ?_; exact k.out) | ((with_reducible refine seld_b_quo ?_); refine wdv (by assumption) rfl rfl rfl rfl (rd_quo rfl rfl rfl) ?_; exact k.out) | ((with_reducible refine seld_b_rem ?_); refine wdv (by assumption) rfl rfl rfl rfl (rd_rem rfl rfl rfl) ?_; exact k.out) | ((with_reducible refine seld_index ?_); refine wdv (by assumption) rfl rfl rfl rfl (rd_index (k := 0) rfl rfl rfl) ?_; exact k.out) | ((with_reducible refine seld_conv ?_); refine wdv (by assumption) rfl rfl rfl rfl (rd_conv rfl rfl) ?_; exact k.out) | ((with_reducible refine seld_unop ?_); first | (refine wdv (by assumption) rfl rfl rfl rfl (rd_not rfl rfl) ?_; exact k.out) | (refine wdv (by assumption) rfl rfl rfl rfl (rd_neg rfl rfl) ?_; exact k.out) | (refine wdv (by assumption) rfl rfl rfl rfl (rd_inv rfl rfl) ?_; exact k.out)) | fail) : p := h ⟨k⟩
theorem wdEQ {p q : Prop} (k : q) (h : Box q → p := by refine fun k => ?_; first | ((with_reducible refine seld_b_eql ?_); refine wdv (by assumption) rfl rfl rfl rfl (rd_eqlV rfl rfl rfl (eqNu (by first | with_reducible assumption | with_reducible exact decide_eq_true rfl) (by first | (with_reducible assumption) | (with_reducible exact SmT.out) | decide) (by first | (with_reducible assumption) | (with_reducible exact SmT.out) | decide))) ?_; exact k.out) | ((with_reducible refine seld_b_neq ?_); refine wdv (by assumption) rfl rfl rfl rfl (rd_neqV rfl rfl rfl (eqNu (by first | with_reducible assumption | with_reducible exact decide_eq_true rfl) (by first | (with_reducible assumption) | (with_reducible exact SmT.out) | decide) (by first | (with_reducible assumption) | (with_reducible exact SmT.out) | decide))) ?_; exact k.out) | fail) : p := h ⟨k⟩
theorem wdNL {p q : Prop} (k : q) (h : Box q → p := by refine fun k => ?_; first | ((with_reducible refine seld_build ?_); refine wdv (by assumption) rfl rfl rfl rfl (rd_cast (rd_buildA rfl rfl) (by first | exact nu_l0 | exact nu_l1 | exact nu_l2 | exact nu_l3 | exact nu_l5 | exact nu_l7 | exact nu_l8 | exact nu_l9 | exact nu_l19 | exact nu_l38 | exact nu_l121665 | exact wi_l0 | exact wi_l3 | exact wi_l7 | exact wi_l15)) ?_; exact k.out) | fail) : p := h ⟨k⟩
theorem wdO {p q : Prop} (k : q) (h : Box q → p := by refine fun k => ?_; first | ((with_reducible refine seld_load ?_); refine wdv (by assumption) rfl rfl rfl rfl (rd_load rfl rfl (ld_old (by with_reducible assumption))) ?_; exact k.out) | fail) : p := h ⟨k⟩
theorem wdPN {p q : Prop} (k : q) (h : Box q → p := by refine fun k => ?_; first | ((with_reducible refine seld_b_eql ?_); refine wdv (by assumption) rfl rfl rfl rfl (rd_eqlP rfl rfl rfl ptr_nil) ?_; exact k.out) | ((with_reducible refine seld_b_neq ?_); refine wdv (by assumption) rfl rfl rfl rfl (rd_neqP rfl rfl rfl ptr_nil) ?_; exact k.out) | fail) : p := h ⟨k⟩
theorem wdPNN {p q : Prop} (k : q) (h : Box q → p := by refine fun k => ?_; first | ((with_reducible refine seld_b_eql ?_); refine wdv (by assumption) rfl rfl rfl rfl (rd_eqlPN rfl rfl rfl ptr_nil2) ?_; exact k.out) | fail) : p := h ⟨k⟩
theorem wdBI {p q : Prop} (k : q) (h : Box q → p := by refine fun k => ?_; first | ((with_reducible refine seld_build ?_); refine wdv (by assumption) rfl rfl rfl rfl (rd_buildI rfl rfl) ?_; exact k.out) | fail) : p := h ⟨k⟩
theorem wdMIN {p q : Prop} (k : q) (h : Box q → p := by refine fun k => ?_; first | ((with_reducible refine seld_call ?_); refine wdv (by assumption) rfl rfl rfl rfl (rd_min rfl rfl rfl rfl rfl) ?_; exact k.out) | fail) : p := h ⟨k⟩
theorem wdNB {p q : Prop} (k : q) (h : Box q → p := by refine fun k => ?_; first | ((with_reducible refine seld_b_neq ?_); refine wdv (by assumption) rfl rfl rfl rfl (rd_neqB rfl rfl rfl (by with_reducible assumption)) ?_; exact k.out) | fail) : p := h ⟨k⟩
theorem wdMF {p q : Prop} (k : q) (h : Box q → p := by refine fun k => ?_; first | ((with_reducible refine seld_makeFunc ?_); refine wdv (by assumption) rfl rfl rfl rfl (rd_mkfun rfl rfl) ?_; exact k.out) | fail) : p := h ⟨k⟩
theorem wdE {p q : Prop} (k : q) (h : Box q → p := by refine fun k => ?_; first | ((with_reducible refine seld_build ?_); first | (refine wdv (by assumption) rfl rfl rfl rfl (rd_buildA rfl rfl) ?_; exact k.out) | (refine wdv (by assumption) rfl rfl rfl rfl (rd_buildS rfl rfl) ?_; exact k.out)) | ((with_reducible refine seld_call ?_); refine wdv (by assumption) rfl rfl rfl rfl (rd_lenS rfl rfl rfl rfl rfl) ?_; exact k.out) | fail) : p := h ⟨k⟩
end Go.Proofs.YtkendlnjaopbeaaGreatDoor
