/- Attributes: kinds and values; find and Match, walked. -/
import Derived.Test.YtpcockfnljdilaaLwH
import Derived.Test.YtpcockfnljdilaaTyS
import Derived.Test.YtpcockfnljdilaaSl
import Derived.Test.YtpcockfnljdilaaBeq
import Derived.Test.YtpcockfnljdilaaSee
namespace Go.Proofs.Ytpcockfnljdilaa
open Go.RowKit
set_option linter.unusedVariables false
set_option linter.unusedSimpArgs false
set_option maxRecDepth 100000
section
variable {X : Cx} {s : Slots} {l : Blks} {o : Oper} {v : Value}
/-- A function's value with what it has caught. -/
theorem rd_mkfun {f : Nat} {cs : Array Operand} {us : List Value} (ho : o.op = .makeFunc (.func f) #[] cs) (hu : vals s cs.toList = some us) : RdV X s l o (.func (.func f) #[] us.toArray) := rd_val fun a w he hm => by
  have h := he.vals hu
  have h2 : cs.map a.eval = us.toArray := by rw [← h]; simp [← Array.toList_map]
  have h3 : Array.map a.eval (#[] : Array Operand) = #[] := by simp
  simp only [execOp, ho, Instr.makeFunc, h2, h3, Sem.run_bind, Sem.run_pure, Result.andThen_ok]
/-- A call of such a value. -/
theorem rd_callc {c : Call} {f : Nat} {y : Operand} {us vs : List Value} (ho : o.op = .call c) (hc : c.callee = .value y) (hy : val s y = some (.func (.func f) #[] us.toArray)) (ha : vals s c.args.toList = some vs)
    (h : ∀ w, Mem X l w → Calls X.P f (vs ++ us).toArray w (Ret v w)) (hk : callOk X.P f = true := by kernel_rfl) : Rd X s l o v := fun a w he hm => by
  have h1 := he.vals ha
  have h2 : c.args.map a.eval = vs.toArray := by rw [← h1]; simp [← Array.toList_map]
  have e : (execOp a.eval o).run X.P w = (callFunc f (vs ++ us).toArray).run X.P w := by
    simp only [execOp, ho, resolve, hc, h2, he.eval hy, Deferred.ofValue]
    simp [invoke]
  rw [e, run_enter hk]
  exact ⟨rfl, h w hm⟩
end
section
variable {X : Cx} {Q : Post} {s : Slots} {l : Blks} {ops : Array Oper} {r : List Oper} {d : Option Tmp} {ty : TypeId} {p : String} {af : Array Edge} {g : Option (Nat × Bool)}
theorem sel_makeFunc {f : Fn} {a b : Array Operand} (h : Wl X ops Q (⟨d, .makeFunc f a b, ty, p, af, g⟩ :: r) s l) : Wl X ops Q (⟨d, .makeFunc f a b, ty, p, af, g⟩ :: r) s l := h
end
/-- An attribute: its kind, its value's slice, the bytes. -/
abbrev Att := Int × Value × List Nat
def atC (x : Att) : List Value := [.int .i64 x.1, x.2.1]
def atsC (l : List Att) : List Value := (l.map atC).flatten
theorem atsC_len : ∀ l : List Att, (atsC l).length = l.length * 2
  | [] => rfl
  | x :: r => by
    have := atsC_len r
    unfold atsC at this ⊢
    simp only [List.map_cons, List.flatten_cons, List.length_append, this, List.length_cons, atC, List.length_nil]; omega
theorem atsC_app (a b : List Att) : atsC (a ++ b) = atsC a ++ atsC b := by simp [atsC]
theorem atsC_get : ∀ {l : List Att} {i : Nat} {x : Att}, l[i]? = some x → ((atsC l).drop (i * 2)).take 2 = [.int .i64 x.1, x.2.1]
  | [], _, _, h => by simp at h
  | y :: r, 0, x, h => by
    simp only [List.getElem?_cons_zero, Option.some.injEq] at h
    subst h
    simp [atsC, atC]
  | y :: r, i + 1, x, h => by
    rw [List.getElem?_cons_succ] at h
    have ih := atsC_get h
    rw [show (i + 1) * 2 = 2 + i * 2 by omega, ← List.drop_drop]
    have : (atsC (y :: r)).drop 2 = atsC r := by simp [atsC, atC]
    rw [this]
    exact ih
theorem atsC_val {l : List Att} {i : Nat} {x : Att} (h : l[i]? = some x) : (atsC l)[i * 2 + 1]? = some x.2.1 := by
  have := congrArg (·[1]?) (atsC_get h)
  simpa using this
/-- A slice of attributes in a world. -/
structure Ats (w : World) (v : Value) (l : List Att) : Prop where
  cs : Cs w v l.length (atsC l)
  body : ∀ x ∈ l, Cb w x.2.1 x.2.2.length x.2.2
theorem Ats.below {w w' : World} {v : Value} {l : List Att} (h : Ats w v l) (hb : Below w.heap.size w w') : Ats w' v l := ⟨h.cs.below hb, fun x hx => (h.body x hx).below hb⟩
/-- The same in all worlds of which Φ is told. -/
class AtF (Φ : outParam (World → Prop)) (v : Value) (l : outParam (List Att)) : Prop where
  cs : CsF Φ v l.length (atsC l)
  out : ∀ w, Φ w → Ats w v l
theorem Ats.old {W : World} {v : Value} {l : List Att} (h : Ats W v l) : AtF (Old W []) v l := ⟨h.cs.old, fun w ho =>
  ⟨h.cs.old.out w ho, fun x hx => ⟨(h.body x hx).cs.old.out w ho, (h.body x hx).ok⟩⟩⟩
class VwT (X : Cx) (l : Blks) (v : Value) (ts : outParam (List Att)) : Prop where
  out : ∀ w, Mem X l w → Ats w v ts
instance {X : Cx} {l : Blks} {Φ : World → Prop} {v : Value} {ts : List Att} [h : AtF Φ v ts] [h' : Hold X l Φ] : VwT X l v ts := ⟨fun w hm => h.out w (h'.out w hm)⟩
/-- The first of a kind. -/
def findN (k : Int) : List Att → Nat → Option Nat
  | [], _ => none
  | x :: r, i => if x.1 = k then some i else findN k r (i + 1)
def findI (l : List Att) (k : Int) : Int := match l.findIdx? (fun x => x.1 == k) with
  | some i => (i : Int)
  | none => -1
def matchB (l ask : List Att) : Bool := ask.all fun x => match l.find? (fun y => y.1 == x.1) with
  | some y => y.2.2 == x.2.2
  | none => false
theorem match_nil (l : List Att) : matchB l [] = true := rfl
theorem match_app (l a b : List Att) : matchB l (a ++ b) = (matchB l a && matchB l b) := by simp [matchB, List.all_append]
theorem match_cons (l : List Att) (x : Att) (r : List Att) : matchB l (x :: r) = (matchB l [x] && matchB l r) := match_app l [x] r
theorem match_trans {l a b : List Att} (h1 : matchB l a = true) (h2 : matchB a b = true) : matchB l b = true := by
  unfold matchB at *
  rw [List.all_eq_true] at *
  intro x hx
  have h3 := h2 x hx
  cases hy : a.find? (fun y => y.1 == x.1) with
  | none => rw [hy] at h3; cases h3
  | some y =>
    rw [hy] at h3
    have hk : y.1 = x.1 := by simpa using List.find?_some hy
    have h4 := h1 y (List.mem_of_find?_eq_some hy)
    rw [hk] at h4
    cases hz : l.find? (fun z => z.1 == x.1) with
    | none => rw [hz] at h4; cases h4
    | some z =>
      rw [hz] at h4
      dsimp only at h3 h4 ⊢
      rw [beq_iff_eq] at *
      rw [h4, h3]
theorem findIdx_find {l : List Att} {k : Int} : (∀ i, l.findIdx? (fun x => x.1 == k) = some i → ∃ y, l[i]? = some y ∧ l.find? (fun x => x.1 == k) = some y) ∧ (l.findIdx? (fun x => x.1 == k) = none → l.find? (fun x => x.1 == k) = none) := by
  induction l with
  | nil => exact ⟨fun i h => by simp at h, fun _ => rfl⟩
  | cons x r ih =>
    by_cases hx : (x.1 == k) = true
    · refine ⟨fun i h => ?_, fun h => ?_⟩
      · rw [List.findIdx?_cons, hx] at h
        simp only [if_true, Option.some.injEq] at h
        subst h
        exact ⟨x, rfl, by rw [List.find?_cons, hx]⟩
      · rw [List.findIdx?_cons, hx] at h; simp at h
    · have hx' : (x.1 == k) = false := by simpa using hx
      refine ⟨fun i h => ?_, fun h => ?_⟩
      · rw [List.findIdx?_cons, hx'] at h
        simp only [Bool.false_eq_true, if_false, Option.map_eq_some_iff] at h
        obtain ⟨j, hj, rfl⟩ := h
        obtain ⟨y, h1, h2⟩ := ih.1 j hj
        exact ⟨y, by simpa using h1, by rw [List.find?_cons, hx']; exact h2⟩
      · rw [List.findIdx?_cons, hx'] at h
        simp only [Bool.false_eq_true, if_false, Option.map_eq_none_iff] at h
        rw [List.find?_cons, hx']; exact ih.2 h
set_option maxHeartbeats 2000000 in
/-- Is it of this kind? -/
theorem isk_c (w : World) {g : Nat} {k z : Int} {v : Value} [One v] (h : w.heap[g]? = some (.cells #[.int .i64 k] 3)) : Calls Try.prog 51 [.agg #[.int .i64 z, v], ptr g].toArray w (Ret (.bool (z == k)) w) := by
  have hc : w.cell? ⟨g, 0, none⟩ = some (.int .i64 k) := by simp [World.cell?, h]
  clear h
  refine fn_ret (N := _) Try.func51 rfl Try.ntmps51 Try.results51 (by simp) ?_
  simp only [initS, Nat.reduceAdd, Nat.zero_add]
  repeat' (first | (with_reducible refine then_normal ?_) | ((with_reducible refine then_ret ?_); clear hK K) | ((with_reducible refine then_exit ?_); clear hK K) | (with_reducible refine then_exit ?_) | (with_reducible refine then_ret ?_) | (with_reducible refine inB_normal ?_) | (with_reducible refine inB_ret ?_) | (with_reducible refine inB_here ?_) | (with_reducible refine inB_out (by decide) ?_) | ((with_reducible refine hK _ _ ?_); clear hK K) | ((with_reducible refine sel_fieldA ?_); first | refine wl_rd rfl rfl (RdV.rd (rd_fdO rfl rfl)) ?_ | refine wl_rd rfl rfl (RdV.rd (rd_fdA rfl rfl)) ?_) | ((with_reducible refine sel_load ?_); first | refine wl_rd rfl rfl (RdV.rd (rd_load rfl rfl ld_O)) ?_ | refine wl_rd rfl rfl (RdV.rd (rd_load rfl rfl ld_OR)) ?_ | refine wl_rd rfl rfl (RdV.rd (rd_load rfl rfl (ld_whole))) ?_ | refine wl_rd rfl rfl (RdV.rd (rd_load rfl rfl (ld_cell))) ?_ | refine wl_rd rfl rfl (RdV.rd (rd_load rfl rfl (ld_row))) ?_ | refine wl_rd rfl rfl (RdV.rd (rd_load rfl rfl (ld_old (by with_reducible assumption)))) ?_) | ((with_reducible refine sel_b_eql ?_); first | refine wl_rd rfl rfl (RdV.rd (rd_eqlS rfl rfl rfl)) ?_ | refine wl_rd rfl rfl (RdV.rd (rd_cm rfl rfl rfl rfl)) ?_ | refine wl_rd rfl rfl (RdV.rd (rd_eqlB rfl rfl rfl (by first | with_reducible assumption | rfl))) ?_) | ((with_reducible refine sel_assign ?_); first | refine wl_rd rfl rfl (RdV.rd (rd_assign rfl rfl)) ?_) | ((with_reducible refine sel_box ?_); first | (refine wl_new rfl rfl (mk_box rfl rfl) ?_; intro n hn)) | (refine wl_skip rfl rfl ?_) | ((with_reducible refine wc_seq ?_); intro K hK) | ((with_reducible refine wc_region ?_); (try simp only [List.append_eq, List.cons_append, List.nil_append])) | (with_reducible refine wc_block ?_) | (with_reducible refine wc_skip ?_) | (with_reducible refine wc_exit ?_) | (with_reducible refine wc_ret ?_) | (with_reducible refine wc_label ?_) | ((with_reducible refine sel_cond ?_); first | refine wc_true rfl ?_ | refine wc_false rfl ?_ | refine wc_cond rfl (fun hc => ?_) (fun hc => ?_)) | (with_reducible refine wl_nil ?_))
  first | refine end_ret (ResP.tmp rfl ResP.nil) ?_ | refine end_normal (ResP.tmp rfl ResP.nil) ?_
  first | rfl | (show _ = _; rfl) | (simp only [tupV, *]; done)
set_option maxHeartbeats 4000000 in
theorem ixf_c (w : World) {u : Value} {l : List Att} {g : Nat} {k : Int} (h : Ats w u l) (hg : w.heap[g]? = some (.cells #[.int .i64 k] 3)) :
    Calls Try.prog 50 [u, .func (.func 51) #[] [ptr g].toArray].toArray w (Ret (.int .i64 (findI l k)) w) := by
  have i0 := h.cs.old
  have IK : ∀ {z : Int} {v : Value} [One v] w', Below w.heap.size w w' → Calls Try.prog 51 ([Value.agg #[.int .i64 z, v]] ++ [ptr g]).toArray w' (Ret (.bool (z == k)) w') := fun {z v} _ w' hb => isk_c w' (by rw [hb.block g (blk_lt hg)]; exact hg)
  have hl63 : l.length ≤ 9223372036854775807 := by obtain ⟨_, _, _, h1, h2, _⟩ := h.cs.ln.out; simp only [maxLen] at h2; omega
  have one : ∀ x ∈ l, One x.2.1 := fun x hx => by
    haveI : Ln x.2.1 x.2.2.length := (h.body x hx).cs.ln
    exact inferInstance
  clear h hg
  refine fn_ret (N := _) Try.func50 rfl Try.ntmps50 Try.results50 (by simp) ?_
  simp only [initS, Nat.reduceAdd, Nat.zero_add]
  repeat' (first | (with_reducible refine then_normal ?_) | ((with_reducible refine then_ret ?_); clear hK K) | ((with_reducible refine then_exit ?_); clear hK K) | (with_reducible refine then_exit ?_) | (with_reducible refine then_ret ?_) | (with_reducible refine inB_normal ?_) | (with_reducible refine inB_ret ?_) | (with_reducible refine inB_here ?_) | (with_reducible refine inB_out (by decide) ?_) | ((with_reducible refine hK _ _ ?_); clear hK K) | ((with_reducible refine sel_indexA ?_); first | refine wl_rd rfl rfl (RdV.rd (rd_ixO rfl rfl rfl)) ?_ | refine wl_rd rfl rfl (RdV.rd (rd_ixA rfl rfl rfl)) ?_ | refine wl_rd rfl rfl (RdV.rd (rd_ixS rfl rfl rfl)) ?_) | ((with_reducible refine sel_load ?_); first | refine wl_rd rfl rfl (RdV.rd (rd_load rfl rfl ld_O)) ?_ | refine wl_rd rfl rfl (RdV.rd (rd_load rfl rfl ld_OR)) ?_ | refine wl_rd rfl rfl (RdV.rd (rd_load rfl rfl (ld_whole))) ?_ | refine wl_rd rfl rfl (RdV.rd (rd_load rfl rfl (ld_cell))) ?_ | refine wl_rd rfl rfl (RdV.rd (rd_load rfl rfl (ld_row))) ?_) | ((with_reducible refine sel_call ?_); first | (refine wl_appendB rfl rfl rfl rfl rfl ?_; intro v oa ho) | (refine wl_appendO rfl rfl rfl rfl rfl ?_; intro v oa ho) | refine wl_rd rfl rfl (RdV.rd (rd_lenO rfl rfl rfl rfl rfl)) ?_ | refine wl_rd rfl rfl (RdV.rd (rd_lenS rfl rfl rfl rfl rfl)) ?_) | ((with_reducible refine sel_move ?_); first | refine wl_rd rfl rfl (RdV.rd (rd_move rfl rfl)) ?_) | ((with_reducible refine sel_assign ?_); first | refine wl_rd rfl rfl (RdV.rd (rd_assign rfl rfl)) ?_) | ((with_reducible refine sel_b_lss ?_); first | refine wl_rd rfl rfl (RdV.rd (rd_cm rfl rfl rfl rfl)) ?_) | ((with_reducible refine sel_b_add ?_); first | refine wl_rd rfl rfl (RdV.rd (rd_ar rfl rfl rfl rfl)) ?_) | (refine wl_skip rfl rfl ?_) | ((with_reducible refine wc_seq ?_); intro K hK) | ((with_reducible refine wc_region ?_); (try simp only [List.append_eq, List.cons_append, List.nil_append])) | (with_reducible refine wc_block ?_) | (with_reducible refine wc_skip ?_) | (with_reducible refine wc_exit ?_) | (with_reducible refine wc_ret ?_) | (with_reducible refine wc_label ?_) | ((with_reducible refine sel_cond ?_); first | refine wc_true rfl ?_ | refine wc_false rfl ?_ | refine wc_cond rfl (fun hc => ?_) (fun hc => ?_)) | (with_reducible refine wl_nil ?_))
  refine wc_loop (σ := Nat) (fun i => [(0, u), (1, .func (.func 51) #[] [ptr g].toArray), (7, .int .i64 (l.length : Int)), (8, .int .i64 (i : Int))]) (fun _ => [])
    (fun i => i ≤ l.length ∧ ∀ j x, j < i → l[j]? = some x → (x.1 == k) = false) (fun i => l.length - i) 0 ⟨Nat.zero_le _, fun j x hj => absurd hj (by omega)⟩ (Fits.of ⟨rfl, rfl, rfl, rfl, trivial⟩ .nil rfl) ?_
  rintro i ⟨hi, hno⟩
  by_cases hlt : i < l.length
  · obtain ⟨⟨z, v, q⟩, hx⟩ : ∃ x, l[i]? = some x := ⟨l[i], List.getElem?_eq_getElem hlt⟩
    have hget := atsC_get hx
    have t1 : decide ((i : Int) < (l.length : Int)) = true := decide_eq_true (by omega)
    have t2 : IntKind.i64.wrap ((i : Int) + 1) = ((i + 1 : Nat) : Int) := by rw [wrap_i64 _ (by omega) (by omega)]; omega
    have j1 : (i : Int) < (l.length : Int) := by omega
    haveI : One v := one _ (List.mem_of_getElem? hx)
    dsimp only at hget
    by_cases hz : (z == k) = true
    · have IK1 := fun w' hb => IK (z := z) (v := v) w' hb
      rw [hz] at IK1
      have hf : findI l k = (i : Int) := by
        have : l.findIdx? (fun x => x.1 == k) = some i := by
          rw [List.findIdx?_eq_some_iff_getElem]
          refine ⟨hlt, ?_, fun j hj => ?_⟩
          · have := (List.getElem?_eq_some_iff.1 hx).2; rw [this]; exact hz
          · have := hno j _ hj (List.getElem?_eq_getElem (by omega)); simpa using this
        rw [findI, this]
      rw [hf]
      clear IK hno one
      repeat' (first | (with_reducible refine then_normal ?_) | ((with_reducible refine then_ret ?_); clear hK K) | ((with_reducible refine then_exit ?_); clear hK K) | (with_reducible refine then_exit ?_) | (with_reducible refine then_ret ?_) | (with_reducible refine inB_normal ?_) | (with_reducible refine inB_ret ?_) | (with_reducible refine inB_here ?_) | (with_reducible refine inB_out (by decide) ?_) | ((with_reducible refine hK _ _ ?_); clear hK K) | ((with_reducible refine sel_indexA ?_); first | refine wl_rd rfl rfl (RdV.rd (rd_ixO rfl rfl rfl)) ?_ | refine wl_rd rfl rfl (RdV.rd (rd_ixA rfl rfl rfl)) ?_ | refine wl_rd rfl rfl (RdV.rd (rd_ixS rfl rfl rfl)) ?_) | ((with_reducible refine sel_load ?_); first | refine wl_rd rfl rfl (RdV.rd (rd_load rfl rfl ld_O)) ?_ | refine wl_rd rfl rfl (RdV.rd (rd_load rfl rfl ld_OR)) ?_ | refine wl_rd rfl rfl (RdV.rd (rd_load rfl rfl (ld_whole))) ?_ | refine wl_rd rfl rfl (RdV.rd (rd_load rfl rfl (ld_cell))) ?_ | refine wl_rd rfl rfl (RdV.rd (rd_load rfl rfl (ld_row))) ?_) | ((with_reducible refine sel_call ?_); first | (refine wl_appendB rfl rfl rfl rfl rfl ?_; intro v oa ho) | (refine wl_appendO rfl rfl rfl rfl rfl ?_; intro v oa ho) | refine wl_rd rfl rfl (rd_callc rfl rfl rfl rfl (fun w hm => by with_reducible exact IK1 w (hm.below rfl))) ?_ | refine wl_rd rfl rfl (RdV.rd (rd_lenO rfl rfl rfl rfl rfl)) ?_ | refine wl_rd rfl rfl (RdV.rd (rd_lenS rfl rfl rfl rfl rfl)) ?_) | ((with_reducible refine sel_move ?_); first | refine wl_rd rfl rfl (RdV.rd (rd_move rfl rfl)) ?_) | ((with_reducible refine sel_assign ?_); first | refine wl_rd rfl rfl (RdV.rd (rd_assign rfl rfl)) ?_) | ((with_reducible refine sel_b_lss ?_); first | refine wl_rd rfl rfl (RdV.rd (rd_cm rfl rfl rfl rfl)) ?_) | ((with_reducible refine sel_b_add ?_); first | refine wl_rd rfl rfl (RdV.rd (rd_ar rfl rfl rfl rfl)) ?_) | (refine wl_skip rfl rfl ?_) | ((with_reducible refine wc_seq ?_); intro K hK) | ((with_reducible refine wc_region ?_); (try simp only [List.append_eq, List.cons_append, List.nil_append])) | (with_reducible refine wc_block ?_) | (with_reducible refine wc_skip ?_) | (with_reducible refine wc_exit ?_) | (with_reducible refine wc_ret ?_) | (with_reducible refine wc_label ?_) | ((with_reducible refine sel_cond ?_); first | refine wc_true rfl ?_ | refine wc_false rfl ?_ | refine wc_cond rfl (fun hc => ?_) (fun hc => ?_)) | (with_reducible refine wl_nil ?_))
      first | refine end_ret (ResP.tmp rfl ResP.nil) ?_ | refine end_normal (ResP.tmp rfl ResP.nil) ?_
      first | rfl | (show _ = _; rfl) | (simp only [tupV, *]; done)
    · have hz' : (z == k) = false := by simpa using hz
      have IK1 := fun w' hb => IK (z := z) (v := v) w' hb
      rw [hz'] at IK1
      clear IK
      repeat' (first | (with_reducible refine then_normal ?_) | ((with_reducible refine then_ret ?_); clear hK K) | ((with_reducible refine then_exit ?_); clear hK K) | (with_reducible refine then_exit ?_) | (with_reducible refine then_ret ?_) | (with_reducible refine inB_normal ?_) | (with_reducible refine inB_ret ?_) | (with_reducible refine inB_here ?_) | (with_reducible refine inB_out (by decide) ?_) | ((with_reducible refine hK _ _ ?_); clear hK K) | ((with_reducible refine sel_indexA ?_); first | refine wl_rd rfl rfl (RdV.rd (rd_ixO rfl rfl rfl)) ?_ | refine wl_rd rfl rfl (RdV.rd (rd_ixA rfl rfl rfl)) ?_ | refine wl_rd rfl rfl (RdV.rd (rd_ixS rfl rfl rfl)) ?_) | ((with_reducible refine sel_load ?_); first | refine wl_rd rfl rfl (RdV.rd (rd_load rfl rfl ld_O)) ?_ | refine wl_rd rfl rfl (RdV.rd (rd_load rfl rfl ld_OR)) ?_ | refine wl_rd rfl rfl (RdV.rd (rd_load rfl rfl (ld_whole))) ?_ | refine wl_rd rfl rfl (RdV.rd (rd_load rfl rfl (ld_cell))) ?_ | refine wl_rd rfl rfl (RdV.rd (rd_load rfl rfl (ld_row))) ?_) | ((with_reducible refine sel_call ?_); first | (refine wl_appendB rfl rfl rfl rfl rfl ?_; intro v oa ho) | (refine wl_appendO rfl rfl rfl rfl rfl ?_; intro v oa ho) | refine wl_rd rfl rfl (rd_callc rfl rfl rfl rfl (fun w hm => by with_reducible exact IK1 w (hm.below rfl))) ?_ | refine wl_rd rfl rfl (RdV.rd (rd_lenO rfl rfl rfl rfl rfl)) ?_ | refine wl_rd rfl rfl (RdV.rd (rd_lenS rfl rfl rfl rfl rfl)) ?_) | ((with_reducible refine sel_move ?_); first | refine wl_rd rfl rfl (RdV.rd (rd_move rfl rfl)) ?_) | ((with_reducible refine sel_assign ?_); first | refine wl_rd rfl rfl (RdV.rd (rd_assign rfl rfl)) ?_) | ((with_reducible refine sel_b_lss ?_); first | refine wl_rd rfl rfl (RdV.rd (rd_cm rfl rfl rfl rfl)) ?_) | ((with_reducible refine sel_b_add ?_); first | refine wl_rd rfl rfl (RdV.rd (rd_ar rfl rfl rfl rfl)) ?_) | (refine wl_skip rfl rfl ?_) | ((with_reducible refine wc_seq ?_); intro K hK) | ((with_reducible refine wc_region ?_); (try simp only [List.append_eq, List.cons_append, List.nil_append])) | (with_reducible refine wc_block ?_) | (with_reducible refine wc_skip ?_) | (with_reducible refine wc_exit ?_) | (with_reducible refine wc_ret ?_) | (with_reducible refine wc_label ?_) | ((with_reducible refine sel_cond ?_); first | refine wc_true rfl ?_ | refine wc_false rfl ?_ | refine wc_cond rfl (fun hc => ?_) (fun hc => ?_)) | (with_reducible refine wl_nil ?_))
      refine ⟨i + 1, ⟨hlt, fun j x hj hjx => ?_⟩, by omega, Fits.of ⟨rfl, rfl, rfl, rfl, trivial⟩ .nil rfl⟩
      rcases Nat.lt_or_ge j i with h1 | h1
      · exact hno j x h1 hjx
      · obtain rfl : j = i := by omega
        rw [hx] at hjx
        cases hjx
        exact hz'
  · obtain rfl : i = l.length := by omega
    have t1 : decide ((l.length : Int) < (l.length : Int)) = false := decide_eq_false (by omega)
    have hf : findI l k = -1 := by
      have : l.findIdx? (fun x => x.1 == k) = none := by
        rw [List.findIdx?_eq_none_iff]
        intro x hx
        obtain ⟨j, hj, he⟩ := List.mem_iff_getElem.1 hx
        exact hno j x hj (by rw [List.getElem?_eq_getElem hj, he])
      rw [findI, this]
    rw [hf]
    clear IK hno one
    repeat' (first | (with_reducible refine then_normal ?_) | ((with_reducible refine then_ret ?_); clear hK K) | ((with_reducible refine then_exit ?_); clear hK K) | (with_reducible refine then_exit ?_) | (with_reducible refine then_ret ?_) | (with_reducible refine inB_normal ?_) | (with_reducible refine inB_ret ?_) | (with_reducible refine inB_here ?_) | (with_reducible refine inB_out (by decide) ?_) | ((with_reducible refine hK _ _ ?_); clear hK K) | ((with_reducible refine sel_indexA ?_); first | refine wl_rd rfl rfl (RdV.rd (rd_ixO rfl rfl rfl)) ?_ | refine wl_rd rfl rfl (RdV.rd (rd_ixA rfl rfl rfl)) ?_ | refine wl_rd rfl rfl (RdV.rd (rd_ixS rfl rfl rfl)) ?_) | ((with_reducible refine sel_load ?_); first | refine wl_rd rfl rfl (RdV.rd (rd_load rfl rfl ld_O)) ?_ | refine wl_rd rfl rfl (RdV.rd (rd_load rfl rfl ld_OR)) ?_ | refine wl_rd rfl rfl (RdV.rd (rd_load rfl rfl (ld_whole))) ?_ | refine wl_rd rfl rfl (RdV.rd (rd_load rfl rfl (ld_cell))) ?_ | refine wl_rd rfl rfl (RdV.rd (rd_load rfl rfl (ld_row))) ?_) | ((with_reducible refine sel_call ?_); first | (refine wl_appendB rfl rfl rfl rfl rfl ?_; intro v oa ho) | (refine wl_appendO rfl rfl rfl rfl rfl ?_; intro v oa ho) | refine wl_rd rfl rfl (RdV.rd (rd_lenO rfl rfl rfl rfl rfl)) ?_ | refine wl_rd rfl rfl (RdV.rd (rd_lenS rfl rfl rfl rfl rfl)) ?_) | ((with_reducible refine sel_move ?_); first | refine wl_rd rfl rfl (RdV.rd (rd_move rfl rfl)) ?_) | ((with_reducible refine sel_assign ?_); first | refine wl_rd rfl rfl (RdV.rd (rd_assign rfl rfl)) ?_) | ((with_reducible refine sel_b_lss ?_); first | refine wl_rd rfl rfl (RdV.rd (rd_cm rfl rfl rfl rfl)) ?_) | ((with_reducible refine sel_b_add ?_); first | refine wl_rd rfl rfl (RdV.rd (rd_ar rfl rfl rfl rfl)) ?_) | (refine wl_skip rfl rfl ?_) | ((with_reducible refine wc_seq ?_); intro K hK) | ((with_reducible refine wc_region ?_); (try simp only [List.append_eq, List.cons_append, List.nil_append])) | (with_reducible refine wc_block ?_) | (with_reducible refine wc_skip ?_) | (with_reducible refine wc_exit ?_) | (with_reducible refine wc_ret ?_) | (with_reducible refine wc_label ?_) | ((with_reducible refine sel_cond ?_); first | refine wc_true rfl ?_ | refine wc_false rfl ?_ | refine wc_cond rfl (fun hc => ?_) (fun hc => ?_)) | (with_reducible refine wl_nil ?_))
    first | refine end_ret (ResP.tmp rfl ResP.nil) ?_ | refine end_normal (ResP.tmp rfl ResP.nil) ?_
    first | rfl | (show _ = _; rfl) | (simp only [tupV, *]; done)
set_option maxHeartbeats 2000000 in
theorem find_c (w : World) {u : Value} {l : List Att} {k : Int} (h : Ats w u l) : Calls Try.prog 37 [u, .int .i64 k].toArray w (Ret (.int .i64 (findI l k)) w) := by
  haveI i0 := h.old
  haveI i1 := h.cs.old
  have IX : ∀ {g : Nat} w', Ats w' u l → w'.heap[g]? = some (.cells #[.int .i64 k] 3) → Calls Try.prog 50 [u, .func (.func 51) #[] [ptr g].toArray].toArray w' (Ret (.int .i64 (findI l k)) w') := fun w' h1 h2 => ixf_c w' h1 h2
  clear h
  refine fn_ret (N := _) Try.func37 rfl Try.ntmps37 Try.results37 (by simp) ?_
  simp only [initS, Nat.reduceAdd, Nat.zero_add]
  repeat' (first | (with_reducible refine then_normal ?_) | ((with_reducible refine then_ret ?_); clear hK K) | ((with_reducible refine then_exit ?_); clear hK K) | (with_reducible refine then_exit ?_) | (with_reducible refine then_ret ?_) | (with_reducible refine inB_normal ?_) | (with_reducible refine inB_ret ?_) | (with_reducible refine inB_here ?_) | (with_reducible refine inB_out (by decide) ?_) | ((with_reducible refine hK _ _ ?_); clear hK K) | ((with_reducible refine sel_call ?_); first | (refine wl_appendB rfl rfl rfl rfl rfl ?_; intro v oa ho) | (refine wl_appendO rfl rfl rfl rfl rfl ?_; intro v oa ho) | refine wl_rd rfl rfl (rd_call rfl rfl rfl (fun w hm => by with_reducible exact IX w (VwT.out w hm) (Has.sees hm))) ?_ | refine wl_rd rfl rfl (RdV.rd (rd_lenO rfl rfl rfl rfl rfl)) ?_ | refine wl_rd rfl rfl (RdV.rd (rd_lenS rfl rfl rfl rfl rfl)) ?_) | ((with_reducible refine sel_move ?_); first | refine wl_rd rfl rfl (RdV.rd (rd_move rfl rfl)) ?_) | ((with_reducible refine sel_assign ?_); first | refine wl_rd rfl rfl (RdV.rd (rd_assign rfl rfl)) ?_) | ((with_reducible refine sel_makeFunc ?_); first | refine wl_rd rfl rfl (RdV.rd (rd_mkfun rfl rfl)) ?_) | ((with_reducible refine sel_box ?_); first | (refine wl_new rfl rfl (mk_box rfl rfl) ?_; intro n hn)) | (refine wl_skip rfl rfl ?_) | ((with_reducible refine wc_seq ?_); intro K hK) | ((with_reducible refine wc_region ?_); (try simp only [List.append_eq, List.cons_append, List.nil_append])) | (with_reducible refine wc_block ?_) | (with_reducible refine wc_skip ?_) | (with_reducible refine wc_exit ?_) | (with_reducible refine wc_ret ?_) | (with_reducible refine wc_label ?_) | ((with_reducible refine sel_cond ?_); first | refine wc_true rfl ?_ | refine wc_false rfl ?_ | refine wc_cond rfl (fun hc => ?_) (fun hc => ?_)) | (with_reducible refine wl_nil ?_))
  first | refine end_ret (ResP.tmp rfl ResP.nil) ?_ | refine end_normal (ResP.tmp rfl ResP.nil) ?_
  first | rfl | (show _ = _; rfl) | (simp only [tupV, *]; done)
end Go.Proofs.Ytpcockfnljdilaa
