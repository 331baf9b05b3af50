/- Calls that write blocks which they are given. -/
import Derived.Test.YtglbnbdeoenilaaSeg
namespace Go.Proofs.Ytglbnbdeoenilaa
open Go.RowKit
set_option linter.unusedVariables false
set_option linter.unusedSimpArgs false
/-- What is made of the blocks oa: one value and what it stands on are told of; all else below is as it was. -/
def RetU {T : Type} (mk : T → Value) (oa : Blks) (Φ : T → Blks → Prop) (w : World) (e : Ending) (w' : World) : Prop := ∃ x oa', e = .returned (mk x) ∧ Φ x oa' ∧ Upd w oa w' oa'
theorem Mem.initO {P : Program} {W : World} {N : Nat} {oa : Blks} (nd : (keys oa).Nodup) (hd : Hd oa W) : Mem ⟨P, W, N, keys oa⟩ oa W :=
  ⟨nd, ⟨rfl, rfl, rfl, Nat.le_refl _, fun _ _ _ => rfl, fun k c t h => hd (k, (c, t)) (mu_in h)⟩, fun _ h _ => h⟩
theorem Mem.toUpd {P : Program} {W w : World} {N : Nat} {oa oa' : Blks} (hm : Mem ⟨P, W, N, keys oa⟩ oa' w) : Upd W oa w oa' :=
  ⟨hm.cls.os, hm.cls.tape, hm.cls.output, hm.cls.size, fun k hk hn => hm.cls.old k hk hn, hm.nd, fun p hp => hm.cls.now p.1 p.2.1 p.2.2 (mu_mem_of hp hm.nd), fun n hn => by
    rcases Nat.lt_or_ge n W.heap.size with h | h
    · exact .inl (hm.fresh n hn h)
    · exact .inr h⟩
theorem fn_upd {T : Type} {mk : T → Value} {oa : Blks} {Φ : T → Blks → Prop} {P : Program} {f : Nat} {fn : Func} {c : Code} {vs : List Value} {W : World} {N : Nat} (hf : P.funcs[f]? = some fn) (hb : fn.body = some c) (hN : fn.ntmps = N) {rs : List ResultVar} (hrs : fn.results = rs.toArray) (hl : vs.length ≤ N)
    (nd : (keys oa).Nodup) (hd : Hd oa W) (h : Wc ⟨P, W, N, keys oa⟩ c (endP ⟨P, W, N, keys oa⟩ rs fun u l => ∃ x oa', u = mk x ∧ Φ x oa' ∧ SubL oa' l) (initS vs 0) oa) : Calls P f vs.toArray W (RetU mk oa Φ W) :=
  (fn_calls hf hb hN hrs hl (Mem.initO nd hd) h).mono fun e w' ⟨u, l, he, ⟨x, oa', hu, hφ, hs⟩, hm⟩ => ⟨x, oa', by rw [he, hu], hφ, (hm.sub hs).toUpd⟩
/-- What came in and is none of the blocks that may be written. -/
theorem Cs.oldX {W : World} {v : Value} {n : Nat} {xs : List Value} {own : List Nat} (h : Cs W v n xs) (ha : elB v ∉ own) : CsF (Old W own) v n xs := ⟨h.ln, fun w ho => h.stay fun b off cap hv hlt => ho b hlt (by subst hv; exact ha)⟩
theorem Cb.oldX {W : World} {v : Value} {n : Nat} {p : List Nat} {own : List Nat} (h : Cb W v n p) (ha : elB v ∉ own) : CsB (Old W own) v n p := ⟨h.cs.oldX ha, h.ok⟩
section
variable {X : Cx} {s : Slots} {l : Blks} {o : Oper} {v : Value} {Q : Post} {ops : Array Oper} {r : List Oper}
theorem Mem.hd {w : World} {oa : Blks} {f : Blks → Blks} (hm : Mem X l w) [hs : Seg l oa f] : Hd oa w := fun p hp => by
  obtain ⟨pre, post, rfl, _⟩ := hs.out
  exact hm.cls.now p.1 p.2.1 p.2.2 (mu_mem_of (by simp [hp]) hm.nd)
theorem wl_updO {T : Type} {mk : T → Value} {oa : Blks} {Φ : T → Blks → Prop} {c : Call} {fi : Nat} {vs : List Value} {f : Blks → Blks} {s' : T → Slots} (hg : gd s ops o = some true) (hd : dOk X.N o.dst = true) (ho : o.op = .call c) (hc : c.callee = .value (.func fi)) (ha : vals s c.args.toList = some vs)
    (hC : ∀ w, Mem X l w → Hd oa w → Calls X.P fi vs.toArray w (RetU mk oa Φ w)) [hf : Seg l oa f] (h : ∀ x oa', Φ x oa' → Wl X ops Q r (s' x) (f oa')) (hk : callOk X.P fi = true := by kernel_rfl)
    (hs' : ∀ x, sputO s o.dst (mk x) = s' x := by intro _; (try dsimp only [sputO, sput, Nat.reduceBEq, cond_true, cond_false, beq_self_eq_true]); first | done | exact rfl) : Wl X ops Q (o :: r) s l := fun a w hst => by
  obtain rfl : (fun x => sputO s o.dst (mk x)) = s' := funext hs'
  have hw := gd_wanted hst.env hg
  unfold wpList
  rw [if_pos hw]
  refine .inl ?_
  unfold Oper.wp
  rw [run_op_call ho hc hst.env ha, run_enter hk]
  refine (hC w hst.mem hst.mem.hd).mono fun e w' ⟨x, oa', he, hφ, hup⟩ => ?_
  subst he
  exact h x oa' hφ _ _ ⟨hst.env.put hd _, hup.mem hst.mem⟩
/-- The same with one block, which stays where it is. -/
def RetP {T : Type} (mk : T → Value) (n : Nat) (c : Array Value) (t : TypeId) (Φ : T → Array Value → Prop) (w : World) (e : Ending) (w' : World) : Prop := ∃ x c', e = .returned (mk x) ∧ Φ x c' ∧ Upd w [(n, (c, t))] w' [(n, (c', t))]
theorem fn_updP {T : Type} {mk : T → Value} {n : Nat} {cs : Array Value} {t : TypeId} {Φ : T → Array Value → Prop} {P : Program} {f : Nat} {fn : Func} {c : Code} {vs : List Value} {W : World} {N : Nat} (hf : P.funcs[f]? = some fn) (hb : fn.body = some c) (hN : fn.ntmps = N) {rs : List ResultVar} (hrs : fn.results = rs.toArray) (hl : vs.length ≤ N)
    (hd : W.heap[n]? = some (.cells cs t)) (h : Wc ⟨P, W, N, [n]⟩ c (endP ⟨P, W, N, [n]⟩ rs fun u l => ∃ x c', u = mk x ∧ Φ x c' ∧ SubL [(n, (c', t))] l) (initS vs 0) [(n, (cs, t))]) : Calls P f vs.toArray W (RetP mk n cs t Φ W) :=
  (fn_calls hf hb hN hrs hl (Mem.initO (oa := [(n, (cs, t))]) (by simp [keys]) (hd_one hd)) h).mono fun e w' ⟨u, l, he, ⟨x, c', hu, hφ, hs⟩, hm⟩ => ⟨x, c', by rw [he, hu], hφ, (hm.sub hs).toUpd⟩
theorem At.ex {n : Nat} {x : Array Value × TypeId} (y : Array Value × TypeId) {l l' : Blks} (h : At l n x y l') : ∃ pre post, l = pre ++ ((n, x) :: post) ∧ l' = pre ++ ((n, y) :: post) := by
  induction h with
  | here => exact ⟨[], _, rfl, rfl⟩
  | there _ ih =>
    obtain ⟨pre, post, h1, h2⟩ := ih
    exact ⟨_ :: pre, post, by rw [h1]; rfl, by rw [h2]; rfl⟩
theorem wl_updP {T : Type} {mk : T → Value} {n : Nat} {cs : Array Value} {t : TypeId} {Φ : T → Array Value → Prop} {c : Call} {fi : Nat} {vs : List Value} {l' : Array Value → Blks} {s' : T → Slots} (hg : gd s ops o = some true) (hd : dOk X.N o.dst = true) (ho : o.op = .call c) (hc : c.callee = .value (.func fi)) (ha : vals s c.args.toList = some vs)
    (hC : ∀ w, Mem X l w → w.heap[n]? = some (.cells cs t) → Calls X.P fi vs.toArray w (RetP mk n cs t Φ w)) (h : ∀ x c', Φ x c' → Wl X ops Q r (s' x) (l' c')) (hk : callOk X.P fi = true := by kernel_rfl)
    (hat : ∀ c', At l n (cs, t) (c', t) (l' c') := by intro _; repeat (first | exact At.here | apply At.there))
    (hs' : ∀ x, sputO s o.dst (mk x) = s' x := by intro _; (try dsimp only [sputO, sput, Nat.reduceBEq, cond_true, cond_false, beq_self_eq_true]); first | done | exact rfl) : Wl X ops Q (o :: r) s l := fun a w hst => by
  obtain rfl : (fun x => sputO s o.dst (mk x)) = s' := funext hs'
  have hw := gd_wanted hst.env hg
  unfold wpList
  rw [if_pos hw]
  refine .inl ?_
  unfold Oper.wp
  rw [run_op_call ho hc hst.env ha, run_enter hk]
  refine (hC w hst.mem (Has.at (hat cs) w hst.mem)).mono fun e w' ⟨x, c', he, hφ, hup⟩ => ?_
  subst he
  refine h x c' hφ _ _ ⟨hst.env.put hd _, ?_⟩
  obtain ⟨pre, post, e1, e2⟩ := At.ex _ (hat c')
  haveI : Seg l [(n, (cs, t))] (fun o => pre ++ (o ++ post)) := ⟨pre, post, by rw [e1]; rfl, fun _ => rfl⟩
  have := hup.mem hst.mem
  rw [e2]
  exact this
end
end Go.Proofs.Ytglbnbdeoenilaa
