/- Equality told by a fact about the values; a slice against nil. slices.Clone of bytes, walked. -/
import Derived.Test.YtkbgkobbadjpnaaDoorOwnOps
import Derived.Test.YtkbgkobbadjpnaaDoorLwH
import Derived.Test.YtkbgkobbadjpnaaDoorTyS
import Derived.Test.YtkbgkobbadjpnaaDoorSeeAll
namespace Go.Proofs.YtkbgkobbadjpnaaDoor
open Go.RowKit
set_option linter.unusedVariables false
section
variable {X : Cx} {s : Slots} {l : Blks} {o : Oper}
theorem rd_eqlG {t yt : Nat} {x y : Operand} {p : Option Addr} {n c : Nat} {v : Value} {r : Bool} (ho : o.op = .binOp .eql t x y yt) (hx : val s x = some (.slice p n c)) (hy : val s y = some v)
    (q : ∀ w : World, (binOp .eql t (.slice p n c) v).run X.P w = .ok (.bool r) w) : RdV X s l o (.bool r) :=
  rd_val fun e w he hm => by
    simp only [execOp, ho, he.eval hx, he.eval hy, eqGuard]
    simp [q w]
theorem rd_neqG {t yt : Nat} {x y : Operand} {p : Option Addr} {n c : Nat} {v : Value} {r : Bool} (ho : o.op = .binOp .neq t x y yt) (hx : val s x = some (.slice p n c)) (hy : val s y = some v)
    (q : ∀ w : World, (binOp .neq t (.slice p n c) v).run X.P w = .ok (.bool r) w) : RdV X s l o (.bool r) :=
  rd_val fun e w he hm => by
    simp only [execOp, ho, he.eval hx, he.eval hy, eqGuard]
    simp [q w]
end
theorem sl_nil {P : Program} {t e : Nat} (h : P.underlying t = some (.slice e)) {p : Option Addr} {n c : Nat} (w : World) : (binOp .eql t (.slice p n c) (.slice none 0 0)).run P w = .ok (.bool p.isNone) w := by
  refine run_eql (r := p.isNone) w rfl ?_
  rw [show (10000 : Nat) = 9999 + 1 from rfl, Op.equalIn, Sem.run_bind, run_underlying h]
  cases p <;> rfl
theorem sl_nonil {P : Program} {t e : Nat} (h : P.underlying t = some (.slice e)) {p : Option Addr} {n c : Nat} (w : World) : (binOp .neq t (.slice p n c) (.slice none 0 0)).run P w = .ok (.bool (!p.isNone)) w := by
  refine run_neq (r := p.isNone) w rfl ?_
  rw [show (10000 : Nat) = 9999 + 1 from rfl, Op.equalIn, Sem.run_bind, run_underlying h]
  cases p <;> rfl
end Go.Proofs.YtkbgkobbadjpnaaDoor
namespace Go.Proofs.YtkbgkobbadjpnaaDoor
open Go.RowKit
set_option linter.unusedVariables false
set_option linter.unusedSimpArgs false
set_option maxRecDepth 100000 in
set_option maxHeartbeats 4000000 in
theorem clone_b (w : World) {v : Value} {m : Nat} {p : List Nat} (h : Cb w v m p) (hm : m ≤ 1099511627776) :
    Calls Tryd.prog 25 [v].toArray w (RetO (fun u => u) (fun u oa => OwnB 5 u m p oa) w) := by
  have i1 := h.old
  obtain ⟨q, c, rfl, h1, h2, h3⟩ := h.cs.ln.out
  cases q with
  | none =>
    have hm0 : m = 0 := by
      rcases Nat.eq_zero_or_pos m with h0 | h0
      · exact h0
      · obtain ⟨_, _, hh⟩ := h3 h0; cases hh
    have hd0 : p = [] := List.eq_nil_of_length_eq_zero (by rw [h.ok.len, hm0])
    have E : ∀ w', (binOp .eql 23 (.slice none m c) (.slice none 0 0)).run Tryd.prog w' = .ok (.bool true) w' := fun w' => sl_nil (e := 5) (by kernel_rfl) w'
    clear h h3
    subst hm0; subst hd0
    refine fn_own (N := _) Tryd.func25 rfl Tryd.ntmps25 Tryd.results25 (by simp) ?_
    simp only [initS, Nat.reduceAdd, Nat.zero_add]
    repeat' (first | (refine wlS ?_) | (refine wlB ?_) | ((with_reducible refine sel_b_eql ?_); refine wv rfl rfl (rd_eqlG rfl rfl rfl (by with_reducible exact E)) ?_) | (refine wlE ?_) | (refine efSvao ?_; intro v oa ho) | (refine wl_skip rfl rfl ?_) | ((with_reducible refine wc_seq ?_); intro K hK) | (refine auC ?_) | (refine wc_cond rfl (fun hc => ?_) (fun hc => ?_)) | (refine wc_draw (by kernel_rfl) (by kernel_rfl) (by decide +kernel) ?_; intro w0 hw0 hm0; (try simp only [List.append_eq, List.cons_append, List.nil_append])) | (refine auP ?_) | ((refine auR ?_); clear hK K) | (refine auR ?_) | ((with_reducible refine hK _ _ ?_); clear hK K) | fail)
    first | refine end_ret (ResP.tmp rfl ResP.nil) ?_ | refine end_normal (ResP.tmp rfl ResP.nil) ?_
    (try dsimp only [tupV])
    exact ⟨_, _, rfl, ⟨OwnL.nil _ _, BL.nil⟩, .nil⟩
  | some a =>
    have E : ∀ w', (binOp .eql 23 (.slice (some a) m c) (.slice none 0 0)).run Tryd.prog w' = .ok (.bool false) w' := fun w' => sl_nil (e := 5) (by kernel_rfl) w'
    have hok := h.ok
    have hbl : (bl p).length = m * 1 := by rw [bl_len, h.ok.len, Nat.mul_one]
    clear h h3
    refine fn_own (N := _) Tryd.func25 rfl Tryd.ntmps25 Tryd.results25 (by simp) ?_
    simp only [initS, Nat.reduceAdd, Nat.zero_add]
    repeat' (first | (refine wlS ?_) | (refine wlB ?_) | ((with_reducible refine sel_b_eql ?_); refine wv rfl rfl (rd_eqlG rfl rfl rfl (by with_reducible exact E)) ?_) | (refine wlE ?_) | (refine efSvao ?_; intro v oa ho) | (refine wl_skip rfl rfl ?_) | ((with_reducible refine wc_seq ?_); intro K hK) | (refine auC ?_) | (refine wc_cond rfl (fun hc => ?_) (fun hc => ?_)) | (refine wc_draw (by kernel_rfl) (by kernel_rfl) (by decide +kernel) ?_; intro w0 hw0 hm0; (try simp only [List.append_eq, List.cons_append, List.nil_append])) | (refine auP ?_) | ((refine auR ?_); clear hK K) | (refine auR ?_) | ((with_reducible refine hK _ _ ?_); clear hK K) | fail)
    first | refine end_ret (ResP.tmp rfl ResP.nil) ?_ | refine end_normal (ResP.tmp rfl ResP.nil) ?_
    (try dsimp only [tupV])
    first
    | exact ⟨_, _, rfl, by simpa using ho, SubL.refl _⟩
    | exact ⟨_, _, rfl, ⟨by simpa using ho, hok⟩, SubL.refl _⟩
end Go.Proofs.YtkbgkobbadjpnaaDoor
