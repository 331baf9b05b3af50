/- BELLARE, GARAY, RABIN: what is verified one by one is verified at once. The plain law; texts and signatures as they are gathered. -/
import Derived.Test.YtkbgkobbadjpnaaDoorSignB
import Derived.Test.YtkbgkobbadjpnaaDoorSigns
import Derived.Test.YtkbgkobbadjpnaaDoorRecM
namespace Go.Proofs.YtkbgkobbadjpnaaDoor
open Go.RowKit
attribute [local irreducible] rwA bys iw
set_option linter.unusedVariables false
set_option linter.unusedSimpArgs false
set_option maxRecDepth 100000
theorem batch_law {es : List Sgn} (h : ∀ e ∈ es, e.T = Pt.base.times e.s) (ws : List Nat) : ∀ i, i ≤ es.length → Pt.base.times (bsum (es.map (·.s)) ws i) = ball (es.map (·.T)) ws i
  | 0, _ => pt_times_zero base_on
  | i + 1, hi => by
    have hlt : i < es.length := hi
    have e1 : bsum (es.map (·.s)) ws (i + 1) = sadd (bsum (es.map (·.s)) ws i) (smul (ws.getD i 0) es[i].s) := by
      show sadd _ (smul (ws.getD i 0) ((es.map (·.s)).getD i 0)) = _
      simp [List.getD, hlt]
    have e2 : ball (es.map (·.T)) ws (i + 1) = (ball (es.map (·.T)) ws i).add (es[i].T.times (ws.getD i 0)) := by
      show (ball _ _ _).add (((es.map (·.T)).getD i Pt.zero).times (ws.getD i 0)) = _
      simp [List.getD, hlt]
    rw [e1, e2, times_saddB, times_smulB, batch_law h ws i (by omega), h _ (List.getElem_mem hlt)]
/-- A seed's signature of a text, its bytes in block b. -/
def sgnOf (seed : Nat) (tv : Value) (n : Nat) (p : List Nat) (b : Nat) : Sgn := ⟨pubS seed, basP (rS seed p), sS seed p, tv, n, p, .slice (some ⟨b, 0, none⟩) 64 64⟩
/-- What of one is known: its text came in, its signature stands in 'os'. -/
structure BtOk (w0 : World) (os : Blks) (e : Sgn) : Prop where
  k : e.k < T256
  f : e.f < T256
  s : e.s < T256
  ok : clOk e.k e.f e.s
  n : e.n ≤ 1048576
  law : e.T = Pt.base.times e.s
  tv : Cb w0 e.tv e.n e.p
  one : e.sv.oneCell' = true
  sv : ∀ w, Hd os w → Cb w e.sv 64 (lb e.f ++ lb e.s)
theorem BtOk.more {w0 : World} {os : Blks} {e : Sgn} (h : BtOk w0 os e) (p : Nat × (Array Value × TypeId)) : BtOk w0 (p :: os) e :=
  ⟨h.k, h.f, h.s, h.ok, h.n, h.law, h.tv, h.one, fun w hd => h.sv w fun q hq => hd q (List.mem_cons_of_mem _ hq)⟩
theorem cb_arr {w : World} {b k e : Nat} {p : List Nat} (hg : w.heap[b]? = some (.cells (bys p) e)) (h' : BLc k p) : Cb w (.slice (some ⟨b, 0, none⟩) k k) k p := by
  refine ⟨⟨⟨_, _, rfl, Nat.le_refl _, by have := h'.small; simp only [maxLen]; omega, fun _ => ⟨b, 0, rfl⟩⟩, fun j u hj => ⟨b, 0, k, rfl, ?_⟩⟩, h'.out⟩
  rw [cell_of_row w b (0 + j) (bys p) e _ hg, Nat.zero_add]
  simpa [bys] using hj
theorem bt_new {w0 : World} {os : Blks} {seed : Nat} {tv : Value} {n : Nat} {p : List Nat} (b : Nat) (ht : Cb w0 tv n p) (hn : n ≤ 1048576) : BtOk w0 ((b, (bys (sigL seed p), 43)) :: os) (sgnOf seed tv n p b) :=
  ⟨basP_lt _, basP_lt _, sS_lt _ _, sig_cl seed p (sS_L _ _), hn, sig_tP seed p, ht, rfl, fun w hd => cb_arr (p := sigL seed p) (hd _ List.mem_cons_self) inferInstance⟩
/-- All that is gathered. -/
structure BtAll (w0 : World) (os : Blks) (lv : Value) (ol : Blks) (es : List Sgn) : Prop where
  ok : ∀ e ∈ es, BtOk w0 os e
  own : ∃ qs : List SgV, qs.map (·.1) = es.map (fun e => (e.k, e.tv, e.sv)) ∧ OwnL 57 34 lv es.length (recs sgE qs) ol
theorem BtAll.nil (w0 : World) : BtAll w0 [] (.slice none 0 0) [] [] := ⟨(fun e he => by cases he), [], rfl, OwnL.nil _ _⟩
theorem BtAll.ats {w0 w : World} {os : Blks} {lv : Value} {ol : Blks} {es : List Sgn} (h : BtAll w0 os lv ol es) (hb : Below w0.heap.size w0 w) (ho : Hd os w) (hl : Hd ol w) : SgnsAt w lv es := by
  obtain ⟨qs, h1, h2⟩ := h.own
  haveI := h2
  exact ⟨⟨qs, h1, (OwnL.cs (h := h2)).out w hl⟩, fun e he => by
    have := h.ok e he
    exact ⟨this.k, this.f, this.s, this.ok, this.n, this.tv.below hb, this.sv w ho⟩⟩
end Go.Proofs.YtkbgkobbadjpnaaDoor
