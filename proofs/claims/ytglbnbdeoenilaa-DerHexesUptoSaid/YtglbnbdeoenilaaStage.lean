/- Calls that write blocks of the walk's own, seen from a world in which none of these was. -/
import Derived.Test.YtglbnbdeoenilaaCut
import Derived.Test.YtglbnbdeoenilaaSee
import Derived.Test.YtglbnbdeoenilaaReads2
namespace Go.Proofs.Ytglbnbdeoenilaa
open Go.RowKit
set_option linter.unusedVariables false
set_option maxRecDepth 100000
set_option linter.unusedSimpArgs false
theorem Msk.belowO {w0 W w : World} {own : List Nat} {m : Mu} (h : Msk W own m w) (hb : Below w0.heap.size w0 W) (hf : ∀ k ∈ own, w0.heap.size ≤ k) : Below w0.heap.size w0 w :=
  ⟨h.os.trans hb.os, h.tape.trans hb.tape, h.output.trans hb.output, Nat.le_trans hb.size h.size, fun k hk => by
    rw [h.old k (Nat.lt_of_lt_of_le hk hb.size) (fun hin => absurd (hf k hin) (by omega))]
    exact hb.block k hk⟩
theorem Mem.belowO {P : Program} {w0 W w : World} {N : Nat} {own : List Nat} {l : Blks} (h : Mem ⟨P, W, N, own⟩ l w) (hb : Below w0.heap.size w0 W) (hf : ∀ k ∈ own, w0.heap.size ≤ k) : Below w0.heap.size w0 w := h.cls.belowO hb hf
theorem Mem.freshS {P : Program} {W w : World} {N : Nat} {l oa : Blks} {f : Blks → Blks} (h : Mem ⟨P, W, N, []⟩ l w) [hs : Seg l oa f] : ∀ k ∈ keys oa, W.heap.size ≤ k := fun k hk => by
  obtain ⟨pre, post, rfl, _⟩ := hs.out
  rcases Nat.lt_or_ge k W.heap.size with h1 | h1
  · have := h.fresh k (by simp only [keys_app, List.mem_append]; exact .inr (.inl hk)) h1
    cases this
  · exact h1
theorem Mem.freshO {P : Program} {w0 W w : World} {N : Nat} {own : List Nat} {l oa : Blks} {f : Blks → Blks} (h : Mem ⟨P, W, N, own⟩ l w) (hb : Below w0.heap.size w0 W) (hf : ∀ k ∈ own, w0.heap.size ≤ k) [hs : Seg l oa f] : ∀ k ∈ keys oa, w0.heap.size ≤ k := fun k hk => by
  obtain ⟨pre, post, rfl, _⟩ := hs.out
  rcases Nat.lt_or_ge k W.heap.size with h1 | h1
  · exact hf k (h.fresh k (by simp only [keys_app, List.mem_append]; exact .inr (.inl hk)) h1)
  · exact Nat.le_trans hb.size h1
theorem Mem.freshK {P : Program} {W w : World} {N : Nat} {l : Blks} (h : Mem ⟨P, W, N, []⟩ l w) {n : Nat} {x : Array Value × TypeId} (hi : Inn l n x := by repeat (first | exact Inn.here | apply Inn.there | apply Inn.skipA)) : W.heap.size ≤ n := by
  rcases Nat.lt_or_ge n W.heap.size with h1 | h1
  · have := h.fresh n hi.at.mem h1
    cases this
  · exact h1
theorem Mem.ndS {X : Cx} {w : World} {l oa : Blks} {f : Blks → Blks} (h : Mem X l w) [hs : Seg l oa f] : (keys oa).Nodup := by
  obtain ⟨pre, post, rfl, _⟩ := hs.out
  have := h.nd
  simp only [keys_app, List.nodup_append] at this
  exact this.2.1.1
theorem Cs.nl {W : World} {v : Value} {n : Nat} {xs : List Value} (h : Cs W v n xs) (hx : xs ≠ []) : elB v < W.heap.size := by
  cases xs with
  | nil => exact absurd rfl hx
  | cons y r =>
    obtain ⟨b, off, cap, rfl, hc⟩ := h.cell 0 y rfl
    exact World.block_lt_of_cell? _ _ hc
theorem Cs.oldY {W : World} {v : Value} {n : Nat} {xs : List Value} {own : List Nat} (h : Cs W v n xs) (ha : xs ≠ [] → elB v ∉ own) : CsF (Old W own) v n xs := by
  by_cases hx : xs = []
  · subst hx
    exact ⟨h.ln, fun w _ => ⟨h.ln, fun j u hj => by simp at hj⟩⟩
  · exact h.oldX (ha hx)
theorem Cs.oldB {w0 W : World} {v : Value} {n : Nat} {xs : List Value} {own : List Nat} (h : Cs w0 v n xs) (hb : Below w0.heap.size w0 W) (hf : ∀ k ∈ own, w0.heap.size ≤ k) : CsF (Old W own) v n xs :=
  (h.below hb).oldY fun hx hin => by
    have := h.nl hx
    have := hf _ hin
    omega
theorem Cb.oldB {w0 W : World} {v : Value} {n : Nat} {p : List Nat} {own : List Nat} (h : Cb w0 v n p) (hb : Below w0.heap.size w0 W) (hf : ∀ k ∈ own, w0.heap.size ≤ k) : CsB (Old W own) v n p := ⟨h.cs.oldB hb hf, h.ok⟩
theorem cell_of {w : World} {n j : Nat} {c : Array Value} {t : TypeId} {v : Value} (h : w.heap[n]? = some (.cells c t)) (hv : c[j]? = some v) : w.cell? ⟨n, j, none⟩ = some v := by
  simp [World.cell?, h, hv]
theorem rw_cell {g : Sg} [hok : SgOk g] {off : Nat} {v : Value} (ha : atL g off 1 = some #[v]) : (rwA g)[off]? = some v := by
  obtain ⟨h1, h2, h3⟩ := atL_spec hok ha
  have := congrArg (·[0]?) h1
  simpa [rwA] using this
/-- What an updating call makes, told of one block that stays and of others. -/
def RetPO {T : Type} (mk : T → Value) (n : Nat) (c : Array Value) (t : TypeId) (Φ : T → Array Value → Blks → Prop) (w : World) (e : Ending) (w' : World) : Prop :=
  ∃ x c' oa', e = .returned (mk x) ∧ Φ x c' oa' ∧ Upd w [(n, (c, t))] w' ((n, (c', t)) :: oa')
theorem fn_updPO {T : Type} {mk : T → Value} {n : Nat} {cs : Array Value} {t : TypeId} {Φ : T → Array Value → Blks → Prop} {P : Program} {f : Nat} {fn : Func} {c : Code} {vs : List Value} {W : World} {N : Nat} (hf : P.funcs[f]? = some fn) (hb : fn.body = some c) (hN : fn.ntmps = N) {rs : List ResultVar} (hrs : fn.results = rs.toArray) (hl : vs.length ≤ N)
    (hd : W.heap[n]? = some (.cells cs t)) (h : Wc ⟨P, W, N, [n]⟩ c (endP ⟨P, W, N, [n]⟩ rs fun u l => ∃ x c' oa', u = mk x ∧ Φ x c' oa' ∧ SubL ((n, (c', t)) :: oa') l) (initS vs 0) [(n, (cs, t))]) : Calls P f vs.toArray W (RetPO mk n cs t Φ W) :=
  (fn_calls hf hb hN hrs hl (Mem.initO (oa := [(n, (cs, t))]) (by simp [keys]) (hd_one hd)) h).mono fun e w' ⟨u, l, he, ⟨x, c', oa', hu, hφ, hs⟩, hm⟩ => ⟨x, c', oa', by rw [he, hu], hφ, (hm.sub hs).toUpd⟩
section
variable {X : Cx} {s : Slots} {l : Blks} {o : Oper} {v : Value} {Q : Post} {ops : Array Oper} {r : List Oper}
theorem wl_updPO {T : Type} {mk : T → Value} {n : Nat} {cs : Array Value} {t : TypeId} {Φ : T → Array Value → Blks → Prop} {c : Call} {fi : Nat} {vs : List Value} {l' : Array Value → Blks} {f : Array Value → Blks → Blks} {s' : T → Slots} (hg : gd s ops o = some true) (hd : dOk X.N o.dst = true) (ho : o.op = .call c) (hc : c.callee = .value (.func fi)) (ha : vals s c.args.toList = some vs)
    (hC : ∀ w, Mem X l w → w.heap[n]? = some (.cells cs t) → Calls X.P fi vs.toArray w (RetPO mk n cs t Φ w))
    (hat : ∀ c', At l n (cs, t) (c', t) (l' c') := by intro _; repeat (first | exact At.here | apply At.there | apply At.skipA)) [hf : ∀ c', Snoc (l' c') (f c')] (h : ∀ x c' oa', Φ x c' oa' → Wl X ops Q r (s' x) (f c' oa')) (hk : callOk X.P fi = true := by kernel_rfl)
    (hs' : ∀ x, sputO s o.dst (mk x) = s' x := by intro _; (try dsimp only [sputO, sput, Nat.reduceBEq, cond_true, cond_false, beq_self_eq_true]); first | done | exact rfl) : Wl X ops Q (o :: r) s l := fun a w hst => by
  obtain rfl : (fun x => sputO s o.dst (mk x)) = s' := funext hs'
  have hw := gd_wanted hst.env hg
  unfold wpList
  rw [if_pos hw]
  refine .inl ?_
  unfold Oper.wp
  rw [run_op_call ho hc hst.env ha, run_enter hk]
  refine (hC w hst.mem (Has.at (hat cs) w hst.mem)).mono fun e w' ⟨x, c', oa', he, hφ, hup⟩ => ?_
  subst he
  refine h x c' oa' hφ _ _ ⟨hst.env.put hd _, ?_⟩
  obtain ⟨pre, post, e1, e2⟩ := At.ex _ (hat c')
  haveI : Seg l [(n, (cs, t))] (fun o => pre ++ (o ++ post)) := ⟨pre, post, by rw [e1]; rfl, fun _ => rfl⟩
  have := hup.mem hst.mem
  rw [(hf c').out, e2]
  refine this.perm ?_
  rw [List.append_assoc]
  refine List.Perm.append_left pre ?_
  rw [List.cons_append, List.cons_append]
  exact (List.perm_append_comm).cons _
end
end Go.Proofs.Ytglbnbdeoenilaa
