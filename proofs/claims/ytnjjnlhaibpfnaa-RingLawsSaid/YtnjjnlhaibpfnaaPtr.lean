/- Calls that give a pointer to what they have made; reads through a pointer to what was there. -/
import Derived.Test.YtnjjnlhaibpfnaaLwDraw
import Derived.Test.YtnjjnlhaibpfnaaRow
namespace Go.Proofs.Ytnjjnlhaibpfnaa
open Go.RowKit
set_option linter.unusedVariables false
set_option linter.unusedSimpArgs false
/-- One new block is told of; all below is as it was. -/
def RetN (mk : Nat → Value) (c : Array Value) (t : Nat) (w : World) (e : Ending) (w' : World) : Prop :=
  ∃ n, w.heap.size ≤ n ∧ e = .returned (mk n) ∧ w'.heap[n]? = some (.cells c t) ∧ Below w.heap.size w w'
theorem Inn.key {l : Blks} {n : Nat} {x : Array Value × TypeId} (h : Inn l n x) : n ∈ keys l := by
  induction h with
  | here => simp [keys]
  | there _ ih => simp only [keys, List.map_cons, List.mem_cons] at ih ⊢; exact .inr ih
theorem fn_new {P : Program} {f : Nat} {fn : Func} {c : Code} {vs : List Value} {W : World} {N : Nat} {mk : Nat → Value} {cs : Array Value} {t : Nat} (hf : P.funcs[f]? = some fn) (hb : fn.body = some c) (hN : fn.ntmps = N) {rs : List ResultVar} (hrs : fn.results = rs.toArray) (hl : vs.length ≤ N)
    (h : Wc ⟨P, W, N, []⟩ c (endP ⟨P, W, N, []⟩ rs fun u l => ∃ n, u = mk n ∧ Inn l n (cs, t)) (initS vs 0) []) : Calls P f vs.toArray W (RetN mk cs t W) :=
  (fn_calls hf hb hN hrs hl Mem.init h).mono fun e w' ⟨u, l, he, ⟨n, hu, hi⟩, hm⟩ => by
    refine ⟨n, ?_, by rw [he, hu], Has.inn hi w' hm, hm.below rfl⟩
    rcases Nat.lt_or_ge n W.heap.size with h | h
    · exact absurd (hm.fresh n hi.key h) (by simp)
    · exact h
section
variable {X : Cx} {s : Slots} {l : Blks} {o : Oper} {v : Value} {Q : Post} {ops : Array Oper} {r : List Oper}
theorem Mem.add {w' : World} {n : Nat} {c : Array Value} {t : Nat} (h : Mem X l w') (hn : n ∉ keys l) (hs : X.W.heap.size ≤ n) (hg : w'.heap[n]? = some (.cells c t)) : Mem X ((n, (c, t)) :: l) w' := by
  refine ⟨?_, ⟨h.cls.os, h.cls.tape, h.cls.output, h.cls.size, fun k hk hm => ?_, fun k d u hm => ?_⟩, fun k hk hlt => ?_⟩
  · simp only [keys, List.map_cons, List.nodup_cons]; exact ⟨hn, h.nd⟩
  · rw [mu, Mu.put_f, if_neg (by omega)] at hm
    exact h.cls.old k hk hm
  · rw [mu, Mu.put_f] at hm
    split at hm
    · rename_i he; cases hm; subst he; exact hg
    · exact h.cls.now k d u hm
  · simp only [keys, List.map_cons, List.mem_cons] at hk
    rcases hk with rfl | hk
    · omega
    · exact h.fresh k hk hlt
theorem wl_newP {c : Call} {f : Nat} {vs : List Value} {cs : Array Value} {t : Nat} {mk : Nat → Value} {s' : Nat → Slots} (hg : gd s ops o = some true) (hd : dOk X.N o.dst = true) (ho : o.op = .call c) (hc : c.callee = .value (.func f)) (ha : vals s c.args.toList = some vs)
    (hC : ∀ w, Calls X.P f vs.toArray w (RetN mk cs t w)) (h : ∀ n, X.W.heap.size ≤ n → Wl X ops Q r (s' n) ((n, (cs, t)) :: l)) (hk : callOk X.P f = true := by kernel_rfl) (hs' : ∀ n, sputO s o.dst (mk n) = s' n := by intro _; (try dsimp only [sputO, sput, Nat.reduceBEq, cond_true, cond_false, beq_self_eq_true]); first | done | exact rfl) : Wl X ops Q (o :: r) s l := fun a w hs => by
  obtain rfl : (fun n => sputO s o.dst (mk n)) = s' := funext hs'
  have hw := gd_wanted hs.env hg
  unfold wpList
  rw [if_pos hw]
  refine .inl ?_
  unfold Oper.wp
  rw [run_op_call ho hc hs.env ha, run_enter hk]
  refine (hC w).mono fun e w' ⟨n, hn, he, hh, hb⟩ => ?_
  subst he
  refine h n (Nat.le_trans hs.mem.cls.size hn) _ _ ⟨hs.env.put hd _, (hs.mem.grow hb).add (fun hk' => ?_) (Nat.le_trans hs.mem.cls.size hn) hh⟩
  have := hs.mem.lt hk'
  omega
theorem Has.oldE {n : Nat} {c : Array Value} {e : Nat} (h : X.W.heap[n]? = some (.cells c e)) (ho : X.own = [] := by rfl) : Has X l n (c, e) := Has.old h (by rw [ho]; simp)
theorem Has.see {n : Nat} {c : Array Value} {e : Nat} {w : World} (hm : Mem X l w) (h : Inn l n (c, e) := by repeat (first | exact Inn.here | refine Inn.there ?_)) : w.heap[n]? = some (.cells c e) := Has.inn h w hm
end
section
variable {X : Cx} {s : Slots} {l : Blks} {o : Oper}
theorem rd_eqlP {t yt n : Nat} {x y : Operand} (ho : o.op = .binOp .eql t x y yt) (hx : val s x = some (ptr n)) (hy : val s y = some (.pointer none))
    (q : ∀ w : World, (Op.equalIn 10000 t (ptr n) (.pointer none)).run X.P w = .ok false w) (hg : X.P.eqGuardType X.P.depth t = false := by kernel_rfl) : RdV X s l o (.bool false) :=
  rd_val fun e w he hm => by
    simp only [execOp, ho, he.eval hx, he.eval hy, eqGuard]
    simp [run_eql w rfl (q w), hg]
theorem rd_neqP {t yt n : Nat} {x y : Operand} (ho : o.op = .binOp .neq t x y yt) (hx : val s x = some (ptr n)) (hy : val s y = some (.pointer none))
    (q : ∀ w : World, (Op.equalIn 10000 t (ptr n) (.pointer none)).run X.P w = .ok false w) (hg : X.P.eqGuardType X.P.depth t = false := by kernel_rfl) : RdV X s l o (.bool true) :=
  rd_val fun e w he hm => by
    simp only [execOp, ho, he.eval hx, he.eval hy, eqGuard]
    simp [run_neq w rfl (q w), hg]
end
theorem old_of {W w : World} {n : Nat} {o : Obj} (hb : Below W.heap.size W w) (h : W.heap[n]? = some o) : w.heap[n]? = some o := (hb.block n (blk_lt h)).trans h
/-! ### Rows of numbers with one cell behind -/
def rowI (L : List Nat) (i : Nat) : Array Value := rowC L ++ #[.int .u64 (i : Int)]
theorem rowI_size (L : List Nat) (i : Nat) : (rowI L i).size = 4 * L.length + 1 := by unfold rowI; simp [rowC_size]
section
variable {X : Cx} {l : Blks}
theorem numAt_len : ∀ (L : List Nat) (off x : Nat), numAt L off = some x → off + 4 ≤ 4 * L.length
  | [], _, _, h => by cases h
  | _ :: r, 0, _, _ => by simp only [List.length_cons]; omega
  | _ :: r, n + 4, x, h => by
    have := numAt_len r n x h
    simp only [List.length_cons]; omega
  | _ :: _, 1, _, h => by cases h
  | _ :: _, 2, _, h => by cases h
  | _ :: _, 3, _, h => by cases h
theorem ld_numI {t b off : Nat} {L : List Nat} {i x e : Nat} [hu : KD X.P t true] [hs : SZ X.P t 4] (hh : Has X l b (rowI L i, e)) (hv : numAt L off = some x := by rfl) : Ld X l t b off (nu x) := by
  have hlen := numAt_len L off x hv
  have h1 : ((rowI L i).toList.drop off).take 4 = (numC x).toList := by
    rw [← numAt_part L off x hv]
    unfold rowI
    have hsz : (rowC L).toList.length = 4 * L.length := by rw [Array.length_toList, rowC_size]
    rw [Array.toList_append, List.drop_append, List.take_append_of_le_length (by rw [List.length_drop, hsz]; omega)]
  have := ld_row (X := X) (l := l) (t := t) (b := b) (off := off) (k := 4) (cs := (numC x).toList) hh h1 (numC_len x)
  simpa using this
theorem ld_cellI {t b off : Nat} {L : List Nat} {i e : Nat} [hu : KD X.P t false] (hh : Has X l b (rowI L i, e)) (ho : off = 4 * L.length := by rfl) : Ld X l t b off (.int .u64 (i : Int)) :=
  ld_cell hh (by
    subst ho
    unfold rowI
    rw [Array.getElem?_append_right (by rw [rowC_size]; exact Nat.le_refl _), rowC_size, Nat.sub_self]
    rfl)
end
end Go.Proofs.Ytnjjnlhaibpfnaa
