/- Arguments that are slices of slices of bytes, and slices of integers. -/
import Derived.Test.YtglbnbdeoenilaaReads
namespace Go.Proofs.Ytglbnbdeoenilaa
open Go.RowKit Go.ChangeShapes Go.WideShapes
set_option linter.unusedVariables false
set_option linter.unusedSimpArgs false
/-- Each of these reads as the bytes named. -/
def Els (w : World) : List Value → List (List Nat) → Prop
  | [], [] => True
  | x :: xs, q :: qs => Cb w x q.length q ∧ Els w xs qs
  | _, _ => False
theorem Els.len {w : World} : ∀ {xs : List Value} {qs : List (List Nat)}, Els w xs qs → qs.length = xs.length
  | [], [], _ => rfl
  | _ :: _, _ :: _, h => by rw [List.length_cons, List.length_cons, Els.len h.2]
theorem Els.at {w : World} : ∀ {xs : List Value} {qs : List (List Nat)} {i : Nat}, Els w xs qs → i < xs.length → ∃ x q, xs[i]? = some x ∧ qs[i]? = some q ∧ Cb w x q.length q
  | x :: _, q :: _, 0, h, _ => ⟨x, q, rfl, rfl, h.1⟩
  | _ :: _, _ :: _, i + 1, h, hi => by
    obtain ⟨x, q, h1, h2, h3⟩ := Els.at (i := i) h.2 (by simpa using hi)
    exact ⟨x, q, by simpa using h1, by simpa using h2, h3⟩
theorem Els.below {w w' : World} (hb : Below w.heap.size w w') : ∀ {xs : List Value} {qs : List (List Nat)}, Els w xs qs → Els w' xs qs
  | [], [], _ => trivial
  | _ :: _, _ :: _, h => ⟨h.1.below hb, Els.below hb h.2⟩
theorem Els.app {w : World} : ∀ {xs ys : List Value} {qs rs : List (List Nat)}, Els w xs qs → Els w ys rs → Els w (xs ++ ys) (qs ++ rs)
  | [], _, [], _, _, h => h
  | _ :: _, _, _ :: _, _, h, h' => ⟨h.1, Els.app h.2 h'⟩
theorem Els.one {w : World} : ∀ {xs : List Value} {qs : List (List Nat)}, Els w xs qs → ∀ y ∈ xs, y.oneCell' = true
  | [], [], _, y, hy => by cases hy
  | x :: _, _ :: _, h, y, hy => by
    rcases List.mem_cons.1 hy with rfl | hy
    · obtain ⟨_, _, hv, _⟩ := h.1.cs.ln.out
      rw [hv]; rfl
    · exact Els.one h.2 y hy
theorem Els.take {w : World} (k : Nat) : ∀ {xs : List Value} {qs : List (List Nat)}, Els w xs qs → Els w (xs.take k) (qs.take k) := by
  induction k with
  | zero => intro xs qs _; simp [Els]
  | succ k ih =>
    intro xs qs h
    match xs, qs, h with
    | [], [], _ => trivial
    | _ :: _, _ :: _, h => exact ⟨h.1, ih h.2⟩
theorem Els.drop {w : World} (k : Nat) : ∀ {xs : List Value} {qs : List (List Nat)}, Els w xs qs → Els w (xs.drop k) (qs.drop k) := by
  induction k with
  | zero => intro xs qs h; exact h
  | succ k ih =>
    intro xs qs h
    match xs, qs, h with
    | [], [], h => exact h
    | _ :: _, _ :: _, h => exact ih h.2
/-- A slice of slices of bytes. -/
structure Cll (w : World) (v : Value) (n : Nat) (xs : List Value) (qs : List (List Nat)) : Prop where
  cs : Cs w v n xs
  len : xs.length = n
  el : Els w xs qs
theorem Cll.below {w w' : World} {v : Value} {n : Nat} {xs : List Value} {qs : List (List Nat)} (h : Cll w v n xs qs) (hb : Below w.heap.size w w') : Cll w' v n xs qs := ⟨h.cs.below hb, h.len, Els.below hb h.el⟩
section
variable {P : Program} {W : World} {t e e' : TypeId}
theorem rdg_bll (ht : P.underlying t = some (.slice e)) (hk : P.cellsOf e = 1) (ht' : P.underlying e = some (.slice e')) (he : P.underlying e' = some (.int .u8)) (hk' : P.cellsOf e' = 1) :
    Rdg P W t fun cs b => ∃ v n xs qs, cs = [v] ∧ Cll W v n xs qs ∧ qs.length + (qs.map List.length).sum + 1 ≤ b := fun H enc fuel cs x hx => by
  obtain ⟨v, n, cc, h1, h2, h3, h4, h5⟩ := rdg_slice ht hk (by decide) (rdg_bytes ht' he hk') H enc fuel cs x hx
  have hgo : ∀ l : List (List Value × Nat), (∀ c ∈ l, c ∈ cc) → ∃ xs qs, (l.map (·.1)).flatten = xs ∧ xs.length = l.length ∧ Els W xs qs ∧ qs.length + (qs.map List.length).sum ≤ (l.map (·.2)).sum := fun l => by
    induction l with
    | nil => intro _; exact ⟨[], [], rfl, rfl, trivial, by simp⟩
    | cons c r ih =>
      intro h
      obtain ⟨xs, qs, e1, e2, e3, e4⟩ := ih fun d hd => h d (by simp [hd])
      obtain ⟨⟨y, m, p, f1, f2, f3⟩, _⟩ := h3 c (h c (by simp))
      refine ⟨y :: xs, p :: qs, by rw [List.map_cons, List.flatten_cons, e1, f1]; rfl, by simp [e2], ⟨by rw [f2.ok.len]; exact f2, e3⟩, ?_⟩
      have := f2.ok.len
      simp only [List.map_cons, List.sum_cons, List.length_cons]
      omega
  obtain ⟨xs, qs, e1, e2, e3, e4⟩ := hgo cc fun _ h => h
  rw [e1] at h4
  exact ⟨v, n, xs, qs, h1, ⟨h4, by rw [e2, h2], e3⟩, by omega⟩
theorem rdg_ints (ht : P.underlying t = some (.slice e)) (he : P.underlying e = some (.int .i64)) (hk : P.cellsOf e = 1) :
    Rdg P W t fun cs b => ∃ v n, ∃ zs : List Int, cs = [v] ∧ Cs W v n (zs.map (Value.int .i64)) ∧ zs.length = n ∧ (∀ z ∈ zs, -9223372036854775808 ≤ z ∧ z < 9223372036854775808) ∧ n + 1 ≤ b := fun H enc fuel cs x hx => by
  have hb : Rdg P W e fun cs b => (∃ z, cs = [.int .i64 z] ∧ (Lit.int .i64 z).wf = true) ∧ 1 ≤ b := fun H enc fuel cs x hx => ⟨rdg_int he H enc fuel cs x hx, bulk_one _⟩
  obtain ⟨v, n, cc, h1, h2, h3, h4, h5⟩ := rdg_slice ht hk (by decide) hb H enc fuel cs x hx
  have hgo : ∀ l : List (List Value × Nat), (∀ c ∈ l, c ∈ cc) → ∃ zs : List Int, (l.map (·.1)).flatten = zs.map (Value.int .i64) ∧ zs.length = l.length ∧ (∀ z ∈ zs, -9223372036854775808 ≤ z ∧ z < 9223372036854775808) ∧ l.length ≤ (l.map (·.2)).sum := fun l => by
    induction l with
    | nil => intro _; exact ⟨[], rfl, rfl, by simp, by simp⟩
    | cons c r ih =>
      intro h
      obtain ⟨zs, e1, e2, e3, e4⟩ := ih fun d hd => h d (by simp [hd])
      obtain ⟨⟨⟨z, f1, f2⟩, f3⟩, _⟩ := h3 c (h c (by simp))
      simp [Lit.wf, IntKind.min, IntKind.max, IntKind.signed, IntKind.bits] at f2
      refine ⟨z :: zs, by rw [List.map_cons, List.flatten_cons, e1, f1]; rfl, by simp [e2], fun y hy => ?_, by simp only [List.map_cons, List.sum_cons, List.length_cons]; omega⟩
      rcases List.mem_cons.1 hy with rfl | hy
      · omega
      · exact e3 y hy
  obtain ⟨zs, e1, e2, e3, e4⟩ := hgo cc fun _ h => h
  rw [e1] at h4
  exact ⟨v, n, zs, h1, h4, by rw [e2, h2], e3, by omega⟩
end
section
variable {H : Type} {enc : TypeId × Value → H} {P : Program} {W : World}
theorem open_bll' {t e e' : TypeId} {r : Reach} {b0 : Nat} {v : Value} {d : DataW H} {q : List MemPlace} (ht : P.underlying t = some (.slice e)) (hk : P.cellsOf e = 1) (ht' : P.underlying e = some (.slice e')) (he : P.underlying e' = some (.int .u8)) (hk' : P.cellsOf e' = 1) (hv : Value.okWide P W r b0 t v) (h : DataW.Trod enc P W 0 (fun _ => true) true t v d q) :
    ∃ x : Nat × List Value × List (List Nat), Cll W v x.1 x.2.1 x.2.2 ∧ x.2.2.length + (x.2.2.map List.length).sum + 1 ≤ Rows.uptoBulk d := by
  obtain ⟨a, len, cap, rfl⟩ := okWide_slice ht hv
  obtain ⟨v', n, xs, qs, h1, h2, h3⟩ := open_cell (r := r) (b0 := b0) (rdg_bll ht hk ht' he hk') rfl h
  cases h1
  exact ⟨(n, xs, qs), h2, h3⟩
theorem open_ints' {t e : TypeId} {r : Reach} {b0 : Nat} {v : Value} {d : DataW H} {q : List MemPlace} (ht : P.underlying t = some (.slice e)) (he : P.underlying e = some (.int .i64)) (hk : P.cellsOf e = 1) (hv : Value.okWide P W r b0 t v) (h : DataW.Trod enc P W 0 (fun _ => true) true t v d q) :
    ∃ zs : List Int, (Cs W v zs.length (zs.map (Value.int .i64)) ∧ ∀ z ∈ zs, -9223372036854775808 ≤ z ∧ z < 9223372036854775808) ∧ zs.length + 1 ≤ Rows.uptoBulk d := by
  obtain ⟨a, len, cap, rfl⟩ := okWide_slice ht hv
  obtain ⟨v', n, zs, h1, h2, h3, h4, h5⟩ := open_cell (r := r) (b0 := b0) (rdg_ints ht he hk) rfl h
  cases h1
  subst h3
  exact ⟨zs, ⟨h2, h4⟩, h5⟩
end
theorem hold_old {P : Program} {W w : World} {N : Nat} (hb : Below W.heap.size W w) (l : Blks) : Hold ⟨P, w, N, []⟩ l (Old W []) :=
  ⟨fun w' hm k hk _ => (hm.cls.old k (Nat.lt_of_lt_of_le hk hb.size) (by simp)).trans (hb.block k hk)⟩
end Go.Proofs.Ytglbnbdeoenilaa
