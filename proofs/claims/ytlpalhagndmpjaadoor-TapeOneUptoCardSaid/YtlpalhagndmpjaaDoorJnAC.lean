/- What arguments are that came in, with how much they hold: shapes built out of shapes. Arguments that are slices of slices of bytes, and slices of integers. A slice of slices of bytes, of the walk's own. Slices of digests of 32 bytes. Calls that write blocks which they are given. The beginning of a slice of the walk's own is again one. A block of one's own, seen in a world. Calls that write blocks of the walk's own, seen from a world in which none of these was. The package tape, walked: mark. mac.Same, walked. mac.Same of two slices of bytes. Equality told by a fact about the values; a slice against nil. slices.Clone of bytes, walked. der.length and der.First, walked. der.First, walked. -/
import Derived.Test.YtlpalhagndmpjaaDoorRows
import Derived.Test.YtlpalhagndmpjaaDoorOwnB
import Derived.ChangeSlices
import Derived.OpenShut
import Derived.WideShapes
import Derived.DataReads
import Derived.ChangeSame
import Derived.Test.YtlpalhagndmpjaaDoorJnAB
import Derived.Test.YtlpalhagndmpjaaDoorJnAA
import Derived.Test.YtlpalhagndmpjaaDoorLwH
import Derived.Test.YtlpalhagndmpjaaDoorTy
import Derived.Test.YtlpalhagndmpjaaDoorOwnOps
import Derived.Test.YtlpalhagndmpjaaDoorTyS
namespace Go.Proofs.YtlpalhagndmpjaaDoor
open Go.RowKit Go.ChangeShapes Go.WideShapes
set_option linter.unusedVariables false
set_option linter.unusedSimpArgs false
/-! ### Bulk -/
theorem bulk_one {H : Type} (d : DataW H) : 1 ≤ Rows.uptoBulk d := by
  cases d with
  | lit l => cases l <;> simp [Rows.uptoBulk]
  | _ => simp [Rows.uptoBulk]
theorem bulk_len {H : Type} : ∀ l : List (DataW H), l.length ≤ Rows.uptoBulkAll l
  | [] => Nat.zero_le _
  | d :: r => by have := bulk_one d; have := bulk_len r; simp only [Rows.uptoBulkAll, List.length_cons]; omega
theorem bulk_sum {H : Type} : ∀ l : List (DataW H), Rows.uptoBulkAll l = (l.map Rows.uptoBulk).sum
  | [] => rfl
  | d :: r => by simp only [Rows.uptoBulkAll, List.map_cons, List.sum_cons, bulk_sum r]
theorem bulk_slice {H : Type} (a b : List (DataW H)) : Rows.uptoBulkAll a + 1 ≤ Rows.uptoBulk (.slice a b) := by simp only [Rows.uptoBulk]; omega
theorem bulk_agg {H : Type} (a : List (DataW H)) : Rows.uptoBulk (.agg a) = Rows.uptoBulkAll a + 1 := by simp only [Rows.uptoBulk]
/-- Whatever is read as a 't' is so, and its bulk is the number's. -/
def Rdg (P : Program) (W : World) (t : TypeId) (F : List Value → Nat → Prop) : Prop :=
  ∀ (H : Type) (enc : TypeId × Value → H) fuel cs x, DataW.trod enc P W 0 (fun _ => true) true fuel t cs = some x → F cs (Rows.uptoBulk x.1)
section
variable {P : Program} {W : World} {t e : TypeId}
theorem Rdg.mono {F G : List Value → Nat → Prop} (h : Rdg P W t F) (hg : ∀ cs b, F cs b → G cs b) : Rdg P W t G := fun H enc fuel cs x hx => hg _ _ (h H enc fuel cs x hx)
theorem rdg_int {k : IntKind} (ht : P.underlying t = some (.int k)) : Rdg P W t fun cs b => ∃ z, cs = [.int k z] ∧ (Lit.int k z).wf = true := fun H enc fuel cs x hx => by
  obtain ⟨m, h1, h2, h3⟩ := DataW.trod_int ht hx
  exact ⟨m, h1, h3⟩
theorem spot_none {w : World} {a : Addr} {u : Value} (h : w.cell? a = some u) : a.spot = none := by
  simp only [World.cell?] at h
  split at h
  · cases hs : a.spot with
    | none => rfl
    | some x => simp [hs] at h
  · cases h
/-- A slice: its elements, each so read. -/
theorem rdg_slice {F : List Value → Nat → Prop} {k : Nat} (ht : P.underlying t = some (.slice e)) (hk : P.cellsOf e = k) (hpos : 0 < k) (hF : Rdg P W e F) :
    Rdg P W t fun cs b => ∃ v n, ∃ cc : List (List Value × Nat), cs = [v] ∧ cc.length = n ∧ (∀ c ∈ cc, F c.1 c.2 ∧ c.1.length = k) ∧ Cs W v n (cc.map (·.1)).flatten ∧ (cc.map (·.2)).sum + 1 ≤ b := fun H enc fuel cs x hx => by
  rcases DataW.trod_slice ht hx with ⟨rfl, rfl⟩ | ⟨a, len, cap, elems, rest, n, rfl, rfl, rfl, _, hl, hm, hlen, hel, _, _⟩
  · exact ⟨.slice none 0 0, 0, [], rfl, rfl, by simp, ⟨⟨none, 0, rfl, Nat.le_refl _, Nat.zero_le _, fun h => absurd h (by omega)⟩, fun j u h => by simp at h⟩, by simp [Rows.uptoBulk]⟩
  · have each : ∀ i, i < len → ∃ ci : List Value, W.cells? 0 (a.add (i * k)) k = some ci ∧ ∃ y, elems[i]? = some y ∧ DataW.trod enc P W 0 (fun _ => true) true n e ci = some y := fun i hi => by
      have h1 := hel i hi
      rw [hk, List.getElem?_eq_getElem (by omega), Option.bind_eq_some_iff] at h1
      obtain ⟨ci, h2, h3⟩ := h1
      exact ⟨ci, h2, elems[i]'(by omega), List.getElem?_eq_getElem (by omega), h3⟩
    let f : Nat → List Value := fun i => (W.cells? 0 (a.add (i * k)) k).getD []
    have hf : ∀ i, i < len → W.cells? 0 (a.add (i * k)) k = some (f i) := fun i hi => by
      obtain ⟨ci, h2, _⟩ := each i hi
      simp only [f, h2, Option.getD_some]
    have hfl : ∀ i, i < len → (f i).length = k := fun i hi => (World.cells?_some (hf i hi)).2.1
    refine ⟨.slice (some a) len cap, len, (List.range len).map fun i => (f i, Rows.uptoBulk ((elems.map (·.1)).getD i .nil)), rfl, by simp, ?_, ?_, ?_⟩
    · intro c hc
      obtain ⟨i, hi, rfl⟩ := List.mem_map.1 hc
      have hi := List.mem_range.1 hi
      refine ⟨?_, hfl i hi⟩
      obtain ⟨ci, h2, y, h3, h4⟩ := each i hi
      rw [hf i hi] at h2
      cases h2
      have : (elems.map (·.1)).getD i .nil = y.1 := by simp [List.getD, h3]
      dsimp only
      rw [this]
      exact hF H enc n _ y h4
    · have sp : 0 < len → a.spot = none := fun h0 => by
        have h1 := hf 0 h0
        rw [Nat.zero_mul] at h1
        have h2 := (World.cells?_some h1).2.2 0 hpos
        have hlt : 0 < (f 0).length := by rw [hfl 0 h0]; exact hpos
        rw [List.getElem?_eq_getElem hlt] at h2
        simpa [Addr.add] using spot_none h2
      have hfl' : (List.map (fun x => x.1) (List.map (fun i => (f i, Rows.uptoBulk ((elems.map (·.1)).getD i .nil))) (List.range len))).flatten = ((List.range len).map f).flatten := by rw [List.map_map]; rfl
      rw [hfl']
      refine ⟨⟨_, _, rfl, hl, hm, fun h0 => ?_⟩, fun j u hj => ?_⟩
      · obtain ⟨b, off, spot⟩ := a
        obtain rfl : spot = none := sp h0
        exact ⟨b, off, rfl⟩
      · have hfind : ∀ m, (∀ i, i < m → i < len) → ∀ j u, (((List.range m).map f).flatten)[j]? = some u → ∃ i, i < m ∧ i * k ≤ j ∧ j < i * k + k ∧ (f i)[j - i * k]? = some u := by
          intro m
          induction m with
          | zero => intro _ j u h; simp at h
          | succ m ih =>
            intro hm' j u h
            have hlm : (((List.range m).map f).flatten).length = m * k := by
              have : ∀ q, q ≤ m → (((List.range q).map f).flatten).length = q * k := fun q => by
                induction q with
                | zero => intro _; simp
                | succ q ihq => intro hq; rw [List.range_succ, List.map_append, List.flatten_append, List.length_append, ihq (by omega)]; simp [hfl q (hm' q (by omega)), Nat.succ_mul]
              exact this m (Nat.le_refl _)
            rw [List.range_succ, List.map_append, List.flatten_append] at h
            rcases Nat.lt_or_ge j (m * k) with hj | hj
            · rw [List.getElem?_append_left (by omega)] at h
              obtain ⟨i, h1, h2, h3, h4⟩ := ih (fun i hi => hm' i (by omega)) j u h
              exact ⟨i, by omega, h2, h3, h4⟩
            · rw [List.getElem?_append_right (by omega), hlm] at h
              simp only [List.map_cons, List.map_nil, List.flatten_cons, List.flatten_nil, List.append_nil] at h
              have hlt := (List.getElem?_eq_some_iff.1 h).1
              rw [hfl m (hm' m (by omega))] at hlt
              exact ⟨m, by omega, hj, by omega, h⟩
        obtain ⟨i, h1, h2, h3, h4⟩ := hfind len (fun i hi => hi) j u hj
        obtain ⟨b, off, spot⟩ := a
        obtain rfl : spot = none := sp (by omega)
        refine ⟨b, off, cap, rfl, ?_⟩
        have h5 := (World.cells?_some (hf i h1)).2.2 (j - i * k) (by omega)
        rw [Addr.add_mid, Addr.add_mid, h4] at h5
        rw [← h5]
        congr 2
        omega
    · have hb := bulk_slice (elems.map (·.1)) (rest.map (·.1))
      rw [bulk_sum] at hb
      have : (List.map (fun x => x.2) (List.map (fun i => (f i, Rows.uptoBulk ((elems.map (·.1)).getD i .nil))) (List.range len))) = (elems.map (·.1)).map Rows.uptoBulk := by
        rw [List.map_map]
        apply List.ext_getElem?
        intro i
        by_cases hi : i < len
        · simp [hi, hlen, List.getD]
        · simp [hi, hlen]
      rw [this]
      exact hb
/-- Bytes. -/
theorem rdg_bytes (ht : P.underlying t = some (.slice e)) (he : P.underlying e = some (.int .u8)) (hk : P.cellsOf e = 1) : Rdg P W t fun cs b => ∃ v n p, cs = [v] ∧ Cb W v n p ∧ n + 1 ≤ b := fun H enc fuel cs x hx => by
  obtain ⟨v, n, cc, h1, h2, h3, h4, h5⟩ := rdg_slice ht hk (by decide) (rdg_int he) H enc fuel cs x hx
  have hb : ∀ c ∈ cc, c.1 = [.int .u8 ((byteOf (c.1.headD undef) : Nat) : Int)] ∧ byteOf (c.1.headD undef) < 256 := fun c hc => by
    obtain ⟨⟨z, hz, hw⟩, _⟩ := h3 c hc
    simp [Lit.wf, IntKind.min, IntKind.max, IntKind.signed, IntKind.bits] at hw
    rw [hz]
    simp only [List.headD_cons, byteOf]
    refine ⟨by rw [Int.toNat_of_nonneg hw.1], by omega⟩
  have hfl : ∀ l : List (List Value × Nat), (∀ c ∈ l, c ∈ cc) → (l.map (·.1)).flatten = bl (l.map fun c => byteOf (c.1.headD undef)) := fun l => by
    induction l with
    | nil => intro _; rfl
    | cons c r ih => intro h; rw [List.map_cons, List.flatten_cons, ih fun d hd => h d (by simp [hd]), (hb c (h c (by simp))).1]; simp [bl, byteOf]
  have hsum : ∀ l : List (List Value × Nat), (∀ c ∈ l, c ∈ cc) → True := fun _ _ => trivial
  refine ⟨v, n, cc.map fun c => byteOf (c.1.headD undef), h1, ⟨by rw [← hfl cc fun _ h => h]; exact h4, ⟨by rw [List.length_map, h2], fun y hy => ?_⟩⟩, ?_⟩
  · obtain ⟨c, hc, rfl⟩ := List.mem_map.1 hy
    exact (hb c hc).2
  · rcases DataW.trod_slice ht hx with ⟨rfl, rfl⟩ | ⟨a, len, cap, elems, rest, m, rfl, rfl, rfl, _, hl, hm, hlen, hel, _, _⟩
    · obtain rfl : v = .slice none 0 0 := by simpa using h1.symm
      obtain ⟨_, _, hv, _⟩ := h4.ln.out
      injection hv with _ hn _
      subst hn
      simp [Rows.uptoBulk]
    · obtain ⟨_, _, hv, _⟩ := h4.ln.out
      have hv' : v = .slice (some a) len cap := by simpa using h1.symm
      rw [hv'] at hv
      injection hv with _ hn _
      subst hn
      have hb := bulk_slice (elems.map (·.1)) (rest.map (·.1))
      have := bulk_len (elems.map (·.1))
      simp only [List.length_map] at this
      dsimp only
      omega
theorem rdg_struct2 {f0 f1 : Field} {F0 F1 : List Value → Nat → Prop} (ht : P.underlying t = some (.struct #[f0, f1])) (h0 : Rdg P W f0.type F0) (h1 : Rdg P W f1.type F1) :
    Rdg P W t fun cs b => ∃ b0 b1, cs.length = P.cellsOf t ∧ F0 ((cs.drop f0.offset).take (P.cellsOf f0.type)) b0 ∧ F1 ((cs.drop f1.offset).take (P.cellsOf f1.type)) b1 ∧ b0 + b1 + 1 ≤ b := fun H enc fuel cs x hx => by
  obtain ⟨y0, y1, n, rfl, hl, e0, e1⟩ := trod_struct2 ht hx
  refine ⟨_, _, hl, h0 H enc n _ _ e0, h1 H enc n _ _ e1, ?_⟩
  rw [bulk_agg]
  simp only [Rows.uptoBulkAll]
  omega
/-- Of a struct the fields, each so read. -/
theorem rdg_struct {fs : Array Field} (ht : P.underlying t = some (.struct fs)) (F : Nat → List Value → Nat → Prop) (hF : ∀ i f, fs[i]? = some f → Rdg P W f.type (F i)) :
    Rdg P W t fun cs b => ∃ bs : List Nat, cs.length = P.cellsOf t ∧ bs.length = fs.size ∧ (∀ i f, fs[i]? = some f → F i ((cs.drop f.offset).take (P.cellsOf f.type)) (bs.getD i 0)) ∧ bs.sum + 1 ≤ b := fun H enc fuel cs x hx => by
  obtain ⟨xs, n, rfl, rfl, hl, hlen, hf⟩ := DataW.trod_struct ht hx
  refine ⟨xs.map fun y => Rows.uptoBulk y.1, hl, by simp [hlen], fun i f hi => ?_, ?_⟩
  · have h1 := hf i f hi
    have hlt : i < xs.length := by rw [hlen]; exact (Array.getElem?_eq_some_iff.1 hi).1
    rw [List.getElem?_eq_getElem hlt] at h1
    have := hF i f hi H enc n _ _ h1
    simpa [List.getD, hlt] using this
  · rw [bulk_agg, bulk_sum, List.map_map]
    exact Nat.le_refl _
end
section
variable {H : Type} {enc : TypeId × Value → H} {P : Program} {W : World}
/-- The top: one cell. -/
theorem open_cell {t : TypeId} {r : Reach} {b0 : Nat} {v : Value} {d : DataW H} {q : List MemPlace} {F : List Value → Nat → Prop} (hF : Rdg P W t F) (hv : v.cells = #[v]) (h : DataW.Trod enc P W 0 (fun _ => true) true t v d q) : F [v] (Rows.uptoBulk d) := by
  obtain ⟨fuel, hf⟩ := h
  have := hF H enc fuel _ _ hf
  rwa [hv] at this
theorem open_bl {t e : TypeId} {r : Reach} {b0 : Nat} {v : Value} {d : DataW H} {q : List MemPlace} (ht : P.underlying t = some (.slice e)) (he : P.underlying e = some (.int .u8)) (hk : P.cellsOf e = 1) (hv : Value.okWide P W r b0 t v) (h : DataW.Trod enc P W 0 (fun _ => true) true t v d q) :
    ∃ n p, Cb W v n p ∧ n + 1 ≤ Rows.uptoBulk d := by
  obtain ⟨a, len, cap, rfl⟩ := okWide_slice ht hv
  obtain ⟨v', n, p, h1, h2, h3⟩ := open_cell (r := r) (b0 := b0) (rdg_bytes ht he hk) rfl h
  cases h1
  exact ⟨n, p, h2, h3⟩
end
end Go.Proofs.YtlpalhagndmpjaaDoor
namespace Go.Proofs.YtlpalhagndmpjaaDoor
open Go.RowKit Go.ChangeShapes Go.WideShapes
set_option linter.unusedVariables false
set_option linter.unusedSimpArgs false
/-- Each of these reads as the bytes named. -/
def Els (w : World) : List Value → List (List Nat) → Prop
  | [], [] => True
  | x :: xs, q :: qs => Cb w x q.length q ∧ Els w xs qs
  | _, _ => False
theorem Els.len {w : World} : ∀ {xs : List Value} {qs : List (List Nat)}, Els w xs qs → qs.length = xs.length
  | [], [], _ => rfl
  | _ :: _, _ :: _, h => by rw [List.length_cons, List.length_cons, Els.len h.2]
theorem Els.at {w : World} : ∀ {xs : List Value} {qs : List (List Nat)} {i : Nat}, Els w xs qs → i < xs.length → ∃ x q, xs[i]? = some x ∧ qs[i]? = some q ∧ Cb w x q.length q
  | x :: _, q :: _, 0, h, _ => ⟨x, q, rfl, rfl, h.1⟩
  | _ :: _, _ :: _, i + 1, h, hi => by
    obtain ⟨x, q, h1, h2, h3⟩ := Els.at (i := i) h.2 (by simpa using hi)
    exact ⟨x, q, by simpa using h1, by simpa using h2, h3⟩
theorem Els.below {w w' : World} (hb : Below w.heap.size w w') : ∀ {xs : List Value} {qs : List (List Nat)}, Els w xs qs → Els w' xs qs
  | [], [], _ => trivial
  | _ :: _, _ :: _, h => ⟨h.1.below hb, Els.below hb h.2⟩
theorem Els.app {w : World} : ∀ {xs ys : List Value} {qs rs : List (List Nat)}, Els w xs qs → Els w ys rs → Els w (xs ++ ys) (qs ++ rs)
  | [], _, [], _, _, h => h
  | _ :: _, _, _ :: _, _, h, h' => ⟨h.1, Els.app h.2 h'⟩
theorem Els.one {w : World} : ∀ {xs : List Value} {qs : List (List Nat)}, Els w xs qs → ∀ y ∈ xs, y.oneCell' = true
  | [], [], _, y, hy => by cases hy
  | x :: _, _ :: _, h, y, hy => by
    rcases List.mem_cons.1 hy with rfl | hy
    · obtain ⟨_, _, hv, _⟩ := h.1.cs.ln.out
      rw [hv]; rfl
    · exact Els.one h.2 y hy
theorem Els.take {w : World} (k : Nat) : ∀ {xs : List Value} {qs : List (List Nat)}, Els w xs qs → Els w (xs.take k) (qs.take k) := by
  induction k with
  | zero => intro xs qs _; simp [Els]
  | succ k ih =>
    intro xs qs h
    match xs, qs, h with
    | [], [], _ => trivial
    | _ :: _, _ :: _, h => exact ⟨h.1, ih h.2⟩
theorem Els.drop {w : World} (k : Nat) : ∀ {xs : List Value} {qs : List (List Nat)}, Els w xs qs → Els w (xs.drop k) (qs.drop k) := by
  induction k with
  | zero => intro xs qs h; exact h
  | succ k ih =>
    intro xs qs h
    match xs, qs, h with
    | [], [], h => exact h
    | _ :: _, _ :: _, h => exact ih h.2
/-- A slice of slices of bytes. -/
structure Cll (w : World) (v : Value) (n : Nat) (xs : List Value) (qs : List (List Nat)) : Prop where
  cs : Cs w v n xs
  len : xs.length = n
  el : Els w xs qs
theorem Cll.below {w w' : World} {v : Value} {n : Nat} {xs : List Value} {qs : List (List Nat)} (h : Cll w v n xs qs) (hb : Below w.heap.size w w') : Cll w' v n xs qs := ⟨h.cs.below hb, h.len, Els.below hb h.el⟩
section
variable {P : Program} {W : World} {t e e' : TypeId}
theorem rdg_bll (ht : P.underlying t = some (.slice e)) (hk : P.cellsOf e = 1) (ht' : P.underlying e = some (.slice e')) (he : P.underlying e' = some (.int .u8)) (hk' : P.cellsOf e' = 1) :
    Rdg P W t fun cs b => ∃ v n xs qs, cs = [v] ∧ Cll W v n xs qs ∧ qs.length + (qs.map List.length).sum + 1 ≤ b := fun H enc fuel cs x hx => by
  obtain ⟨v, n, cc, h1, h2, h3, h4, h5⟩ := rdg_slice ht hk (by decide) (rdg_bytes ht' he hk') H enc fuel cs x hx
  have hgo : ∀ l : List (List Value × Nat), (∀ c ∈ l, c ∈ cc) → ∃ xs qs, (l.map (·.1)).flatten = xs ∧ xs.length = l.length ∧ Els W xs qs ∧ qs.length + (qs.map List.length).sum ≤ (l.map (·.2)).sum := fun l => by
    induction l with
    | nil => intro _; exact ⟨[], [], rfl, rfl, trivial, by simp⟩
    | cons c r ih =>
      intro h
      obtain ⟨xs, qs, e1, e2, e3, e4⟩ := ih fun d hd => h d (by simp [hd])
      obtain ⟨⟨y, m, p, f1, f2, f3⟩, _⟩ := h3 c (h c (by simp))
      refine ⟨y :: xs, p :: qs, by rw [List.map_cons, List.flatten_cons, e1, f1]; rfl, by simp [e2], ⟨by rw [f2.ok.len]; exact f2, e3⟩, ?_⟩
      have := f2.ok.len
      simp only [List.map_cons, List.sum_cons, List.length_cons]
      omega
  obtain ⟨xs, qs, e1, e2, e3, e4⟩ := hgo cc fun _ h => h
  rw [e1] at h4
  exact ⟨v, n, xs, qs, h1, ⟨h4, by rw [e2, h2], e3⟩, by omega⟩
theorem rdg_ints (ht : P.underlying t = some (.slice e)) (he : P.underlying e = some (.int .i64)) (hk : P.cellsOf e = 1) :
    Rdg P W t fun cs b => ∃ v n, ∃ zs : List Int, cs = [v] ∧ Cs W v n (zs.map (Value.int .i64)) ∧ zs.length = n ∧ (∀ z ∈ zs, -9223372036854775808 ≤ z ∧ z < 9223372036854775808) ∧ n + 1 ≤ b := fun H enc fuel cs x hx => by
  have hb : Rdg P W e fun cs b => (∃ z, cs = [.int .i64 z] ∧ (Lit.int .i64 z).wf = true) ∧ 1 ≤ b := fun H enc fuel cs x hx => ⟨rdg_int he H enc fuel cs x hx, bulk_one _⟩
  obtain ⟨v, n, cc, h1, h2, h3, h4, h5⟩ := rdg_slice ht hk (by decide) hb H enc fuel cs x hx
  have hgo : ∀ l : List (List Value × Nat), (∀ c ∈ l, c ∈ cc) → ∃ zs : List Int, (l.map (·.1)).flatten = zs.map (Value.int .i64) ∧ zs.length = l.length ∧ (∀ z ∈ zs, -9223372036854775808 ≤ z ∧ z < 9223372036854775808) ∧ l.length ≤ (l.map (·.2)).sum := fun l => by
    induction l with
    | nil => intro _; exact ⟨[], rfl, rfl, by simp, by simp⟩
    | cons c r ih =>
      intro h
      obtain ⟨zs, e1, e2, e3, e4⟩ := ih fun d hd => h d (by simp [hd])
      obtain ⟨⟨⟨z, f1, f2⟩, f3⟩, _⟩ := h3 c (h c (by simp))
      simp [Lit.wf, IntKind.min, IntKind.max, IntKind.signed, IntKind.bits] at f2
      refine ⟨z :: zs, by rw [List.map_cons, List.flatten_cons, e1, f1]; rfl, by simp [e2], fun y hy => ?_, by simp only [List.map_cons, List.sum_cons, List.length_cons]; omega⟩
      rcases List.mem_cons.1 hy with rfl | hy
      · omega
      · exact e3 y hy
  obtain ⟨zs, e1, e2, e3, e4⟩ := hgo cc fun _ h => h
  rw [e1] at h4
  exact ⟨v, n, zs, h1, h4, by rw [e2, h2], e3, by omega⟩
end
section
variable {H : Type} {enc : TypeId × Value → H} {P : Program} {W : World}
theorem open_bll' {t e e' : TypeId} {r : Reach} {b0 : Nat} {v : Value} {d : DataW H} {q : List MemPlace} (ht : P.underlying t = some (.slice e)) (hk : P.cellsOf e = 1) (ht' : P.underlying e = some (.slice e')) (he : P.underlying e' = some (.int .u8)) (hk' : P.cellsOf e' = 1) (hv : Value.okWide P W r b0 t v) (h : DataW.Trod enc P W 0 (fun _ => true) true t v d q) :
    ∃ x : Nat × List Value × List (List Nat), Cll W v x.1 x.2.1 x.2.2 ∧ x.2.2.length + (x.2.2.map List.length).sum + 1 ≤ Rows.uptoBulk d := by
  obtain ⟨a, len, cap, rfl⟩ := okWide_slice ht hv
  obtain ⟨v', n, xs, qs, h1, h2, h3⟩ := open_cell (r := r) (b0 := b0) (rdg_bll ht hk ht' he hk') rfl h
  cases h1
  exact ⟨(n, xs, qs), h2, h3⟩
theorem open_ints' {t e : TypeId} {r : Reach} {b0 : Nat} {v : Value} {d : DataW H} {q : List MemPlace} (ht : P.underlying t = some (.slice e)) (he : P.underlying e = some (.int .i64)) (hk : P.cellsOf e = 1) (hv : Value.okWide P W r b0 t v) (h : DataW.Trod enc P W 0 (fun _ => true) true t v d q) :
    ∃ zs : List Int, (Cs W v zs.length (zs.map (Value.int .i64)) ∧ ∀ z ∈ zs, -9223372036854775808 ≤ z ∧ z < 9223372036854775808) ∧ zs.length + 1 ≤ Rows.uptoBulk d := by
  obtain ⟨a, len, cap, rfl⟩ := okWide_slice ht hv
  obtain ⟨v', n, zs, h1, h2, h3, h4, h5⟩ := open_cell (r := r) (b0 := b0) (rdg_ints ht he hk) rfl h
  cases h1
  subst h3
  exact ⟨zs, ⟨h2, h4⟩, h5⟩
end
theorem hold_old {P : Program} {W w : World} {N : Nat} (hb : Below W.heap.size W w) (l : Blks) : Hold ⟨P, w, N, []⟩ l (Old W []) :=
  ⟨fun w' hm k hk _ => (hm.cls.old k (Nat.lt_of_lt_of_le hk hb.size) (by simp)).trans (hb.block k hk)⟩
end Go.Proofs.YtlpalhagndmpjaaDoor
namespace Go.Proofs.YtlpalhagndmpjaaDoor
open Go.RowKit
set_option linter.unusedVariables false
set_option maxRecDepth 100000
/-- Slices of bytes, the same in all worlds of which Φ is told. -/
class IsLL (Φ : outParam (World → Prop)) (v : Value) (qs : outParam (List (List Nat))) : Prop where
  cs : ∃ xs, xs.length = qs.length ∧ CsF Φ v qs.length xs ∧ ∀ w, Φ w → Els w xs qs
theorem IsLL.out {Φ : World → Prop} {v : Value} {qs : List (List Nat)} (h : IsLL Φ v qs) {w : World} (hw : Φ w) : ∃ xs, Cll w v qs.length xs qs := by
  obtain ⟨xs, h1, h2, h3⟩ := h.cs
  exact ⟨xs, h2.out w hw, h1, h3 w hw⟩
theorem IsLL.ln {Φ : World → Prop} {v : Value} {qs : List (List Nat)} (h : IsLL Φ v qs) : Ln v qs.length := by
  obtain ⟨xs, _, h2, _⟩ := h.cs
  exact h2.ln
class VwL (X : Cx) (l : Blks) (v : Value) (qs : outParam (List (List Nat))) : Prop where
  out : ∀ w, Mem X l w → ∃ xs, Cll w v qs.length xs qs
instance {X : Cx} {l : Blks} {Φ : World → Prop} {v : Value} {qs : List (List Nat)} [h : IsLL Φ v qs] [h' : Hold X l Φ] : VwL X l v qs := ⟨fun w hm => h.out (h'.out w hm)⟩
theorem Els.stay {W w : World} (ho : Old W [] w) : ∀ {xs : List Value} {qs : List (List Nat)}, Els W xs qs → Els w xs qs
  | [], [], _ => trivial
  | _ :: _, _ :: _, h => ⟨⟨h.1.cs.old.out w ho, h.1.ok⟩, Els.stay ho h.2⟩
theorem Cll.old {W : World} {v : Value} {n : Nat} {xs : List Value} {qs : List (List Nat)} (h : Cll W v n xs qs) : IsLL (Old W []) v qs := by
  obtain rfl : n = qs.length := by rw [h.el.len, h.len]
  exact ⟨xs, h.len, h.cs.old, fun w ho => Els.stay ho h.el⟩
/-- What they read, in blocks of the walk's own. -/
def BodL (xs : List Value) (qs : List (List Nat)) (ob : Blks) : Prop := xs.length = qs.length ∧ ∀ w, Hd ob w → Els w xs qs
theorem BodL.nil : BodL [] [] [] := ⟨rfl, fun _ _ => trivial⟩
theorem BodL.app {xs ys : List Value} {qs rs : List (List Nat)} {a b : Blks} (h : BodL xs qs a) (h' : BodL ys rs b) : BodL (xs ++ ys) (qs ++ rs) (a ++ b) :=
  ⟨by rw [List.length_append, List.length_append, h.1, h'.1], fun w hw => Els.app (h.2 w hw.left) (h'.2 w hw.right)⟩
theorem BodL.one {v : Value} {e : Nat} {q : List Nat} {oa : Blks} {n : Nat} (h : OwnB e v n q oa) : BodL [v] [q] oa := by
  obtain rfl : n = q.length := h.ok.len.symm
  exact ⟨rfl, fun w hw => ⟨⟨h.own.cs.out w hw, h.ok⟩, trivial⟩⟩
/-- Such a slice. -/
structure OwnLL (e : Nat) (v : Value) (qs : List (List Nat)) (oa : Blks) : Prop where
  out : ∃ oo ob xs, oa = oo ++ ob ∧ OwnL e 1 v qs.length xs oo ∧ BodL xs qs ob
theorem OwnLL.is {e : Nat} {v : Value} {qs : List (List Nat)} {oa : Blks} (h : OwnLL e v qs oa) : IsLL (Hd oa) v qs := by
  obtain ⟨oo, ob, xs, rfl, h1, h2⟩ := h.out
  exact ⟨xs, h2.1, ⟨h1.ln, fun w hw => h1.cs.out w hw.left⟩, fun w hw => h2.2 w hw.right⟩
theorem OwnLL.nil (e : Nat) : OwnLL e (.slice none 0 0) [] [] := ⟨[], [], [], rfl, OwnL.nil _ _, BodL.nil⟩
end Go.Proofs.YtlpalhagndmpjaaDoor
namespace Go.Proofs.YtlpalhagndmpjaaDoor
open Go.RowKit
set_option linter.unusedVariables false
set_option linter.unusedSimpArgs false
/-- Digests as cells. -/
def dgs (ds : List (List Nat)) : List Value := (ds.map bl).flatten
def Dgo (ds : List (List Nat)) : Prop := ∀ d ∈ ds, d.length = 32 ∧ ∀ x ∈ d, x < 256
theorem dgs_app (a b : List (List Nat)) : dgs (a ++ b) = dgs a ++ dgs b := by simp [dgs]
theorem dgs_len : ∀ {ds : List (List Nat)}, Dgo ds → (dgs ds).length = ds.length * 32
  | [], _ => rfl
  | d :: r, h => by
    have := dgs_len (ds := r) fun x hx => h x (by simp [hx])
    rw [dgs, List.map_cons, List.flatten_cons, List.length_append, bl_len, (h d (by simp)).1, ← dgs, this, List.length_cons]; omega
theorem dgs_drop : ∀ {ds : List (List Nat)} (k : Nat), Dgo ds → (dgs ds).drop (k * 32) = dgs (ds.drop k)
  | [], k, _ => by simp [dgs]
  | d :: r, 0, _ => by simp
  | d :: r, k + 1, h => by
    have := dgs_drop (ds := r) k fun x hx => h x (by simp [hx])
    rw [List.drop_succ_cons, ← this, dgs, List.map_cons, List.flatten_cons, ← dgs, List.drop_append, bl_len, (h d (by simp)).1, List.drop_of_length_le (by rw [bl_len, (h d (by simp)).1]; omega), List.nil_append]
    congr 1; omega
theorem dgs_take : ∀ {ds : List (List Nat)} (k : Nat), Dgo ds → (dgs ds).take (k * 32) = dgs (ds.take k)
  | [], k, _ => by simp [dgs]
  | d :: r, 0, _ => by simp [dgs]
  | d :: r, k + 1, h => by
    have := dgs_take (ds := r) k fun x hx => h x (by simp [hx])
    rw [List.take_succ_cons, dgs, List.map_cons, List.flatten_cons, ← dgs, List.take_append, bl_len, (h d (by simp)).1, List.take_of_length_le (by rw [bl_len, (h d (by simp)).1]; omega), show (k + 1) * 32 - 32 = k * 32 by omega, this]
    rfl
theorem Dgo.drop {ds : List (List Nat)} (h : Dgo ds) (k : Nat) : Dgo (ds.drop k) := fun d hd => h d (List.mem_of_mem_drop hd)
theorem Dgo.take {ds : List (List Nat)} (h : Dgo ds) (k : Nat) : Dgo (ds.take k) := fun d hd => h d (List.mem_of_mem_take hd)
theorem Dgo.app {a b : List (List Nat)} (h : Dgo a) (h' : Dgo b) : Dgo (a ++ b) := fun d hd => (List.mem_append.1 hd).elim (h d) (h' d)
theorem dgs_get {ds : List (List Nat)} {i : Nat} {d : List Nat} (h : Dgo ds) (hd : ds[i]? = some d) : ((dgs ds).drop (i * 32)).take 32 = bl d := by
  have hi := (List.getElem?_eq_some_iff.1 hd).1
  rw [dgs_drop i h, show 32 = 1 * 32 from rfl, dgs_take 1 (h.drop i), List.drop_eq_getElem_cons hi, List.take_succ_cons, List.take_zero]
  have := (List.getElem?_eq_some_iff.1 hd).2
  simp [dgs, this]
/-- What a slice of digests reads in a world. -/
structure Cd (w : World) (v : Value) (n : Nat) (ds : List (List Nat)) : Prop where
  cs : Cs w v n (dgs ds)
  len : ds.length = n
  ok : Dgo ds
class CsD (Φ : outParam (World → Prop)) (v : Value) (n : outParam Nat) (ds : outParam (List (List Nat))) : Prop where
  cs : CsF Φ v n (dgs ds)
  len : ds.length = n
  ok : Dgo ds
instance CsD.csf {Φ : World → Prop} {v : Value} {n : Nat} {ds : List (List Nat)} [h : CsD Φ v n ds] : CsF Φ v n (dgs ds) := h.cs
class OwnD (v : Value) (n : outParam Nat) (ds : outParam (List (List Nat))) (oa : outParam Blks) : Prop where
  own : OwnL 40 32 v n (dgs ds) oa
  len : ds.length = n
  ok : Dgo ds
instance OwnD.csd {v : Value} {n : Nat} {ds : List (List Nat)} {oa : Blks} [h : OwnD v n ds oa] : CsD (Hd oa) v n ds := ⟨h.own.cs, h.len, h.ok⟩
instance CsD.nil : CsD (Hd []) (.slice none 0 0) 0 [] := ⟨inferInstance, rfl, by intro d hd; cases hd⟩
theorem OwnD.nil : OwnD (.slice none 0 0) 0 [] [] := ⟨OwnL.nil _ _, rfl, by intro d hd; cases hd⟩
instance : OwnD (.slice none 0 0) 0 [] [] := OwnD.nil
theorem Cd.old {W : World} {v : Value} {n : Nat} {ds : List (List Nat)} (h : Cd W v n ds) : CsD (Old W []) v n ds := ⟨h.cs.old, h.len, h.ok⟩
theorem Cd.below {w w' : World} {v : Value} {n : Nat} {ds : List (List Nat)} (h : Cd w v n ds) (hb : Below w.heap.size w w') : Cd w' v n ds := ⟨h.cs.below hb, h.len, h.ok⟩
class VwD (X : Cx) (l : Blks) (v : Value) (n : outParam Nat) (ds : outParam (List (List Nat))) : Prop where
  out : ∀ w, Mem X l w → Cd w v n ds
instance {X : Cx} {l : Blks} {Φ : World → Prop} {v : Value} {n : Nat} {ds : List (List Nat)} [h : CsD Φ v n ds] [h' : Hold X l Φ] : VwD X l v n ds := ⟨fun w hm => ⟨h.cs.out w (h'.out w hm), h.len, h.ok⟩⟩
section
variable {X : Cx} {s : Slots} {l : Blks} {o : Oper} {v : Value} {Q : Post} {ops : Array Oper} {r : List Oper}
theorem bl_bys (d : List Nat) : (bl d).toArray = bys d := by simp [bys]
theorem ld_D {t n i : Nat} {u : Value} {ds : List (List Nat)} {d : List Nat} [hu : KD X.P t true] [hs : SZ X.P t 32] [hv : VwD X l u n ds] (hd : ds[i]? = some d := by with_reducible assumption) : Ld X l t (elB u) (elO u + i * 32) (.agg (bys d)) := fun w hm => by
  have h := hv.out w hm
  haveI : Vw X l u n (dgs ds) := ⟨fun w hm => (hv.out w hm).cs⟩
  have hne : bl d ≠ [] := by
    have := (h.ok d (List.mem_of_getElem? hd)).1
    intro e
    have := bl_len d
    rw [e] at this
    simp at this
    omega
  have := ld_OR (X := X) (l := l) (t := t) (k := 32) (u := u) (j := i * 32) (cs := bl d) (xs := dgs ds) (dgs_get h.ok hd) (by rw [bl_len, (h.ok d (List.mem_of_getElem? hd)).1]) hne w hm
  rwa [bl_bys] at this
theorem wl_subD {t e n n' lo hi : Nat} {x : Operand} {ol oh : Option Operand} {Φ : World → Prop} {ds ds' : List (List Nat)} {s' : Value → Slots} (hg : gd s ops o = some true) (hd : dOk X.N o.dst = true) (ho : o.op = .slice t x ol oh none) (hx : val s x = some v)
    [ht : UT X.P t (.slice e)] [hs : SZ X.P e 32] {la ha : Int} [hv : CsD Φ v n ds] (hl : loV s ol = some la) (hh : hiV s n oh = some ha) (hnl : la = (lo : Int)) (hnh : ha = (hi : Int))
    (h : ∀ v', CsD Φ v' n' ds' → Part v v' (lo * 32) n' → Wl X ops Q r (s' v') l)
    (h1 : lo ≤ hi := by first | (with_reducible assumption) | omega) (h2 : hi ≤ n := by first | (with_reducible assumption) | omega)
    (hn : hi - lo = n' := by first | (with_reducible assumption) | rfl) (hxs : (ds.drop lo).take (hi - lo) = ds' := by first | (with_reducible assumption) | rfl)
    (hs' : ∀ v', sputO s o.dst v' = s' v' := by intro _; (try dsimp only [sputO, sput, Nat.reduceBEq, cond_true, cond_false, beq_self_eq_true]); first | done | exact rfl) : Wl X ops Q (o :: r) s l := by
  haveI := hv.cs
  subst hn; subst hxs
  refine wl_sub (xs' := dgs ((ds.drop lo).take (hi - lo))) hg hd ho hx hl hh hnl hnh (fun v' h3 h4 => h v' ⟨h3, ?_, (hv.ok.drop lo).take _⟩ h4) h1 h2 rfl (by rw [dgs_drop lo hv.ok, dgs_take _ (hv.ok.drop lo)]) hs'
  rw [List.length_take, List.length_drop, hv.len]; omega
theorem wl_appendD {x y : Operand} {t bytes n m : Nat} {z : Array Value} {u : Value} {ds es : List (List Nat)} {oa : Blks} {f : Blks → Blks} {s' : Value → Slots}
    (hg : gd s ops o = some true) (hd : dOk X.N o.dst = true) (hop : o.op = .call { callee := .builtin .append, args := #[x, y], argTypes := #[t, t] })
    (hx : val s x = some v) (hy : val s y = some u) [ht : UT X.P t (.slice 40)] [hei : EI X.P 40 32 bytes z] [hown : OwnD v n ds oa] [hseg : Seg l oa f] [hu : VwD X l u m es]
    (h : ∀ v' oa', OwnD v' (n + m) (ds ++ es) oa' → Wl X ops Q r (s' v') (f oa'))
    (h63 : (n + m) * bytes ≤ 1152921504606846976 ∧ n + m ≤ 1152921504606846976 ∧ (n + m) * bytes ≤ 140737488355328 := by (refine ⟨?_, ?_, ?_⟩ <;> omega))
    (hs' : ∀ v', sputO s o.dst v' = s' v' := by intro _; (try dsimp only [sputO, sput, Nat.reduceBEq, cond_true, cond_false, beq_self_eq_true]); first | done | exact rfl) : Wl X ops Q (o :: r) s l := fun ac w hst => by
  haveI := hown.own
  have hq := hu.out w hst.mem
  haveI : Vw X l u m (dgs es) := ⟨fun w hm => (hu.out w hm).cs⟩
  exact wl_appendO (ys := dgs es) hg hd hop hx hy (fun v' oa' ho => h v' oa' ⟨ho, by rw [List.length_append, hown.len, hq.len], hown.ok.app hq.ok⟩) (by rw [dgs_len hq.ok, hq.len]) (fun y hy => by
    obtain ⟨a, ha, hy⟩ := List.mem_flatten.1 hy
    obtain ⟨d, _, rfl⟩ := List.mem_map.1 ha
    exact bl_one d y hy) h63 (dgs_app _ _).symm hs' ac w hst
theorem wl_bsliceD {t bytes : Nat} {z : Array Value} {ps : Array (Nat × Operand)} {d : List Nat} {f : Blks → Blks} {s' : Value → Slots}
    (hg : gd s ops o = some true) (hd : dOk X.N o.dst = true) (hop : o.op = .buildSlice t 1 ps) (hx : valsP s ps.toList = some [(0, .agg (bys d))]) [ht : UT X.P t (.slice 40)] [hei : EI X.P 40 32 bytes z] [hf : Snoc l f] [hnb : NBy d 32]
    (h : ∀ v' oa', OwnD v' 1 [d] oa' → Wl X ops Q r (s' v') (f oa')) (hby : ∀ x ∈ d, x < 256)
    (hs' : ∀ v', sputO s o.dst v' = s' v' := by intro _; (try dsimp only [sputO, sput, Nat.reduceBEq, cond_true, cond_false, beq_self_eq_true]); first | done | exact rfl) : Wl X ops Q (o :: r) s l := by
  refine wl_bslice (k := 32) (xs := dgs [d]) hg hd hop hx (fun v' oa' ho => h v' oa' ⟨ho, rfl, fun e he => ?_⟩) rfl ?_ rfl (by decide) ?_ hs'
  · simp only [List.mem_singleton] at he
    subst he
    exact ⟨hnb.out, hby⟩
  · simp only [List.all_cons, List.all_nil, Bool.and_true, Value.cells, beq_iff_eq]
    simp [bys, bl_len, hnb.out]
  · simp [Value.cells, bys, dgs]
end
section
variable {X : Cx} {G : Hg} {s : Slots} {b : Blks} {v : Value} {Q : Post} {l : List Nat} {fuel : Nat}
theorem wh_subD {i : Nat} {oi : Oper} {r : List Oper} {lp : Blks} {late : List Nat} {t e n n' lo hi : Nat} {x : Operand} {ol oh : Option Operand} {Φ : World → Prop} {p p' : List (List Nat)} {s' : Value → Slots} (hpk : pickS steadyB r idx l = some i) (hi' : opAt r i = some oi) (hg : gd s r.toArray oi = some true) (hd : dOk X.N oi.dst = true) (ho : oi.op = .slice t x ol oh none) (hx : val s x = some v)
    [ht : UT X.P t (.slice e)] [hs : SZ X.P e 32] {la ha : Int} [hv : CsD Φ v n p] (hl : loV s ol = some la) (hh : hiV s n oh = some ha) (hnl : la = (lo : Int)) (hnh : ha = (hi : Int))
    (h : ∀ v', CsD Φ v' n' p' → Part v v' (lo * 32) n' → Wh X ⟨r.toArray, lp, late⟩ Q fuel (i :: l) (s' v') b)
    (h1 : lo ≤ hi := by first | (with_reducible assumption) | omega) (h2 : hi ≤ n := by first | (with_reducible assumption) | omega)
    (hn : hi - lo = n' := by first | (with_reducible assumption) | rfl) (hxs : (p.drop lo).take (hi - lo) = p' := by first | (with_reducible assumption) | rfl)
    (hs' : ∀ v', sputO s oi.dst v' = s' v' := by intro _; (try dsimp only [sputO, sput, Nat.reduceBEq, cond_true, cond_false, beq_self_eq_true]); first | done | exact rfl)
    (hr : (Region.ready .any r.toArray (arrOf r.toArray.size l)).contains i = true := by kernel_rfl) (hns : Region.noSelect r.toArray = true := by kernel_rfl) (hf : Region.free .any r.toArray (arrOf r.toArray.size l) i = true := by kernel_rfl)
    (hn' : memB i late = false := by kernel_rfl) : Wh X ⟨r.toArray, lp, late⟩ Q (fuel + 1) l s b := by
  obtain rfl : (fun v' => sputO s oi.dst v') = s' := funext hs'
  subst hn; subst hxs
  obtain ⟨v', h3, h4, h5⟩ := sub_ex (xs' := dgs ((p.drop lo).take (hi - lo))) ho hx ht hs hv.cs hl hh hnl hnh h1 h2 rfl (by rw [dgs_drop lo hv.ok, dgs_take _ (hv.ok.drop lo)])
  exact wh_take hpk hi' hg hd h3 (.inl rfl) (h v' ⟨h4, by rw [List.length_take, List.length_drop, hv.len]; omega, (hv.ok.drop lo).take _⟩ h5) rfl hr hns hf hn'
end
end Go.Proofs.YtlpalhagndmpjaaDoor
namespace Go.Proofs.YtlpalhagndmpjaaDoor
open Go.RowKit
set_option linter.unusedVariables false
set_option linter.unusedSimpArgs false
/-- What is made of the blocks oa: one value and what it stands on are told of; all else below is as it was. -/
def RetU {T : Type} (mk : T → Value) (oa : Blks) (Φ : T → Blks → Prop) (w : World) (e : Ending) (w' : World) : Prop := ∃ x oa', e = .returned (mk x) ∧ Φ x oa' ∧ Upd w oa w' oa'
theorem Mem.initO {P : Program} {W : World} {N : Nat} {oa : Blks} (nd : (keys oa).Nodup) (hd : Hd oa W) : Mem ⟨P, W, N, keys oa⟩ oa W :=
  ⟨nd, ⟨rfl, rfl, rfl, Nat.le_refl _, fun _ _ _ => rfl, fun k c t h => hd (k, (c, t)) (mu_in h)⟩, fun _ h _ => h⟩
theorem Mem.toUpd {P : Program} {W w : World} {N : Nat} {oa oa' : Blks} (hm : Mem ⟨P, W, N, keys oa⟩ oa' w) : Upd W oa w oa' :=
  ⟨hm.cls.os, hm.cls.tape, hm.cls.output, hm.cls.size, fun k hk hn => hm.cls.old k hk hn, hm.nd, fun p hp => hm.cls.now p.1 p.2.1 p.2.2 (mu_mem_of hp hm.nd), fun n hn => by
    rcases Nat.lt_or_ge n W.heap.size with h | h
    · exact .inl (hm.fresh n hn h)
    · exact .inr h⟩
theorem fn_upd {T : Type} {mk : T → Value} {oa : Blks} {Φ : T → Blks → Prop} {P : Program} {f : Nat} {fn : Func} {c : Code} {vs : List Value} {W : World} {N : Nat} (hf : P.funcs[f]? = some fn) (hb : fn.body = some c) (hN : fn.ntmps = N) {rs : List ResultVar} (hrs : fn.results = rs.toArray) (hl : vs.length ≤ N)
    (nd : (keys oa).Nodup) (hd : Hd oa W) (h : Wc ⟨P, W, N, keys oa⟩ c (endP ⟨P, W, N, keys oa⟩ rs fun u l => ∃ x oa', u = mk x ∧ Φ x oa' ∧ SubL oa' l) (initS vs 0) oa) : Calls P f vs.toArray W (RetU mk oa Φ W) :=
  (fn_calls hf hb hN hrs hl (Mem.initO nd hd) h).mono fun e w' ⟨u, l, he, ⟨x, oa', hu, hφ, hs⟩, hm⟩ => ⟨x, oa', by rw [he, hu], hφ, (hm.sub hs).toUpd⟩
/-- What came in and is none of the blocks that may be written. -/
theorem Cs.oldX {W : World} {v : Value} {n : Nat} {xs : List Value} {own : List Nat} (h : Cs W v n xs) (ha : elB v ∉ own) : CsF (Old W own) v n xs := ⟨h.ln, fun w ho => h.stay fun b off cap hv hlt => ho b hlt (by subst hv; exact ha)⟩
theorem Cb.oldX {W : World} {v : Value} {n : Nat} {p : List Nat} {own : List Nat} (h : Cb W v n p) (ha : elB v ∉ own) : CsB (Old W own) v n p := ⟨h.cs.oldX ha, h.ok⟩
section
variable {X : Cx} {s : Slots} {l : Blks} {o : Oper} {v : Value} {Q : Post} {ops : Array Oper} {r : List Oper}
theorem Mem.hd {w : World} {oa : Blks} {f : Blks → Blks} (hm : Mem X l w) [hs : Seg l oa f] : Hd oa w := fun p hp => by
  obtain ⟨pre, post, rfl, _⟩ := hs.out
  exact hm.cls.now p.1 p.2.1 p.2.2 (mu_mem_of (by simp [hp]) hm.nd)
theorem wl_updO {T : Type} {mk : T → Value} {oa : Blks} {Φ : T → Blks → Prop} {c : Call} {fi : Nat} {vs : List Value} {f : Blks → Blks} {s' : T → Slots} (hg : gd s ops o = some true) (hd : dOk X.N o.dst = true) (ho : o.op = .call c) (hc : c.callee = .value (.func fi)) (ha : vals s c.args.toList = some vs)
    (hC : ∀ w, Mem X l w → Hd oa w → Calls X.P fi vs.toArray w (RetU mk oa Φ w)) [hf : Seg l oa f] (h : ∀ x oa', Φ x oa' → Wl X ops Q r (s' x) (f oa')) (hk : callOk X.P fi = true := by kernel_rfl)
    (hs' : ∀ x, sputO s o.dst (mk x) = s' x := by intro _; (try dsimp only [sputO, sput, Nat.reduceBEq, cond_true, cond_false, beq_self_eq_true]); first | done | exact rfl) : Wl X ops Q (o :: r) s l := fun a w hst => by
  obtain rfl : (fun x => sputO s o.dst (mk x)) = s' := funext hs'
  have hw := gd_wanted hst.env hg
  unfold wpList
  rw [if_pos hw]
  refine .inl ?_
  unfold Oper.wp
  rw [run_op_call ho hc hst.env ha, run_enter hk]
  refine (hC w hst.mem hst.mem.hd).mono fun e w' ⟨x, oa', he, hφ, hup⟩ => ?_
  subst he
  exact h x oa' hφ _ _ ⟨hst.env.put hd _, hup.mem hst.mem⟩
/-- The same with one block, which stays where it is. -/
def RetP {T : Type} (mk : T → Value) (n : Nat) (c : Array Value) (t : TypeId) (Φ : T → Array Value → Prop) (w : World) (e : Ending) (w' : World) : Prop := ∃ x c', e = .returned (mk x) ∧ Φ x c' ∧ Upd w [(n, (c, t))] w' [(n, (c', t))]
theorem fn_updP {T : Type} {mk : T → Value} {n : Nat} {cs : Array Value} {t : TypeId} {Φ : T → Array Value → Prop} {P : Program} {f : Nat} {fn : Func} {c : Code} {vs : List Value} {W : World} {N : Nat} (hf : P.funcs[f]? = some fn) (hb : fn.body = some c) (hN : fn.ntmps = N) {rs : List ResultVar} (hrs : fn.results = rs.toArray) (hl : vs.length ≤ N)
    (hd : W.heap[n]? = some (.cells cs t)) (h : Wc ⟨P, W, N, [n]⟩ c (endP ⟨P, W, N, [n]⟩ rs fun u l => ∃ x c', u = mk x ∧ Φ x c' ∧ SubL [(n, (c', t))] l) (initS vs 0) [(n, (cs, t))]) : Calls P f vs.toArray W (RetP mk n cs t Φ W) :=
  (fn_calls hf hb hN hrs hl (Mem.initO (oa := [(n, (cs, t))]) (by simp [keys]) (hd_one hd)) h).mono fun e w' ⟨u, l, he, ⟨x, c', hu, hφ, hs⟩, hm⟩ => ⟨x, c', by rw [he, hu], hφ, (hm.sub hs).toUpd⟩
theorem At.ex {n : Nat} {x : Array Value × TypeId} (y : Array Value × TypeId) {l l' : Blks} (h : At l n x y l') : ∃ pre post, l = pre ++ ((n, x) :: post) ∧ l' = pre ++ ((n, y) :: post) := by
  induction h with
  | here => exact ⟨[], _, rfl, rfl⟩
  | there _ ih =>
    obtain ⟨pre, post, h1, h2⟩ := ih
    exact ⟨_ :: pre, post, by rw [h1]; rfl, by rw [h2]; rfl⟩
theorem wl_updP {T : Type} {mk : T → Value} {n : Nat} {cs : Array Value} {t : TypeId} {Φ : T → Array Value → Prop} {c : Call} {fi : Nat} {vs : List Value} {l' : Array Value → Blks} {s' : T → Slots} (hg : gd s ops o = some true) (hd : dOk X.N o.dst = true) (ho : o.op = .call c) (hc : c.callee = .value (.func fi)) (ha : vals s c.args.toList = some vs)
    (hC : ∀ w, Mem X l w → w.heap[n]? = some (.cells cs t) → Calls X.P fi vs.toArray w (RetP mk n cs t Φ w)) (h : ∀ x c', Φ x c' → Wl X ops Q r (s' x) (l' c')) (hk : callOk X.P fi = true := by kernel_rfl)
    (hat : ∀ c', At l n (cs, t) (c', t) (l' c') := by intro _; repeat (first | exact At.here | apply At.there))
    (hs' : ∀ x, sputO s o.dst (mk x) = s' x := by intro _; (try dsimp only [sputO, sput, Nat.reduceBEq, cond_true, cond_false, beq_self_eq_true]); first | done | exact rfl) : Wl X ops Q (o :: r) s l := fun a w hst => by
  obtain rfl : (fun x => sputO s o.dst (mk x)) = s' := funext hs'
  have hw := gd_wanted hst.env hg
  unfold wpList
  rw [if_pos hw]
  refine .inl ?_
  unfold Oper.wp
  rw [run_op_call ho hc hst.env ha, run_enter hk]
  refine (hC w hst.mem (Has.at (hat cs) w hst.mem)).mono fun e w' ⟨x, c', he, hφ, hup⟩ => ?_
  subst he
  refine h x c' hφ _ _ ⟨hst.env.put hd _, ?_⟩
  obtain ⟨pre, post, e1, e2⟩ := At.ex _ (hat c')
  haveI : Seg l [(n, (cs, t))] (fun o => pre ++ (o ++ post)) := ⟨pre, post, by rw [e1]; rfl, fun _ => rfl⟩
  have := hup.mem hst.mem
  rw [e2]
  exact this
end
end Go.Proofs.YtlpalhagndmpjaaDoor
namespace Go.Proofs.YtlpalhagndmpjaaDoor
open Go.RowKit
set_option linter.unusedVariables false
set_option maxRecDepth 100000
set_option linter.unusedSimpArgs false
instance {p : Nat × (Array Value × TypeId)} {oa r : Blks} : Seg (p :: (oa ++ r)) (p :: oa) (fun o => o ++ r) := ⟨[], r, rfl, fun _ => rfl⟩
theorem OwnL.cut {e k : Nat} {n hi cap : Nat} {p : Option Addr} {xs : List Value} {oa : Blks} (h : OwnL e k (.slice p n cap) n xs oa) (h2 : hi ≤ n) : OwnL e k (sliced p 0 hi cap k) hi (xs.take (hi * k)) oa := by
  have hl := h.len
  refine ⟨?_, ?_⟩
  · rw [List.length_take, hl, Nat.min_eq_left (Nat.mul_le_mul_right _ h2)]
  · rcases h.out with ⟨hv, h0, ho⟩ | ⟨g, c, cur, hv, hnc, hcm, hcs, htake, ho⟩
    · injection hv with e1 e2 e3
      subst e1; subst e2; subst e3
      obtain rfl : hi = 0 := by omega
      exact .inl ⟨by simp [sliced], rfl, ho⟩
    · injection hv with e1 e2 e3
      subst e1; subst e3
      refine .inr ⟨g, cap, cur, ?_, by omega, hcm, hcs, ?_, ho⟩
      · unfold sliced
        by_cases hc : cap = 0
        · simp [hc]
        · simp [hc, Addr.add_mid]
      · rw [← htake, List.take_take, Nat.min_eq_left (Nat.mul_le_mul_right _ h2)]
section
variable {X : Cx} {s : Slots} {l : Blks} {o : Oper} {v : Value} {Q : Post} {ops : Array Oper} {r : List Oper}
theorem cut_ex {t e k n hi : Nat} {x : Operand} {ol oh : Option Operand} {xs : List Value} {oa : Blks} (ho : o.op = .slice t x ol oh none) (hx : val s x = some v)
    (ht : UT X.P t (.slice e)) (hs : SZ X.P e k) {la ha : Int} (hv : OwnL e k v n xs oa) (hl : loV s ol = some la) (hh : hiV s n oh = some ha) (hnl : la = 0) (hnh : ha = (hi : Int))
    (h2 : hi ≤ n) : ∃ v', RdV X s [] o v' ∧ OwnL e k v' hi (xs.take (hi * k)) oa := by
  subst hnl
  rw [hnh] at hh
  obtain ⟨p, cap, rfl, h3, h4, h5⟩ := hv.ln.out
  refine ⟨sliced p 0 hi cap k, fun ac w he hm => ?_, hv.cut h2⟩
  have hr := run_sub (P := X.P) (w := w) he (p := p) (lo := 0) ht.out hs hl hh (Nat.zero_le _) h2 h3
  simp only [execOp, ho, he.eval hx, Sem.run_bind, Option.map_none]
  rw [show (Instr.sliceAt t (Value.slice p n cap) (Option.map ac.eval ol) (Option.map ac.eval oh) none).run X.P w = _ from hr]
  simp
theorem wl_cutD {t n hi : Nat} {x : Operand} {ol oh : Option Operand} {ds ds' : List (List Nat)} {oa : Blks} {s' : Value → Slots} (hg : gd s ops o = some true) (hd : dOk X.N o.dst = true) (ho : o.op = .slice t x ol oh none) (hx : val s x = some v)
    [ht : UT X.P t (.slice 40)] [hs : SZ X.P 40 32] {la ha : Int} [hv : OwnD v n ds oa] (hl : loV s ol = some la) (hh : hiV s n oh = some ha) (hnl : la = 0) (hnh : ha = (hi : Int))
    (h : ∀ v', OwnD v' hi ds' oa → Wl X ops Q r (s' v') l)
    (h2 : hi ≤ n := by first | (with_reducible assumption) | omega) (hxs : ds.take hi = ds' := by first | (with_reducible assumption) | rfl)
    (hs' : ∀ v', sputO s o.dst v' = s' v' := by intro _; (try dsimp only [sputO, sput, Nat.reduceBEq, cond_true, cond_false, beq_self_eq_true]); first | done | exact rfl) : Wl X ops Q (o :: r) s l := by
  obtain rfl : (fun v' => sputO s o.dst v') = s' := funext hs'
  subst hxs
  obtain ⟨v', h3, h4⟩ := cut_ex ho hx ht hs hv.own hl hh hnl hnh h2
  exact wl_rd hg hd (RdV.rd fun a w he hm => h3 a w he (hm.sub .nil)) (h v' ⟨by rw [dgs_take hi hv.ok] at h4; exact h4, by rw [List.length_take, hv.len]; omega, hv.ok.take _⟩) rfl
end
section
variable {X : Cx} {G : Hg} {s : Slots} {b : Blks} {v : Value} {Q : Post} {l : List Nat} {fuel : Nat}
theorem wh_cutD {i : Nat} {oi : Oper} {r : List Oper} {lp : Blks} {late : List Nat} {t n hi : Nat} {x : Operand} {ol oh : Option Operand} {ds ds' : List (List Nat)} {oa : Blks} {s' : Value → Slots} (hpk : pickS steadyB r idx l = some i) (hi' : opAt r i = some oi) (hg : gd s r.toArray oi = some true) (hd : dOk X.N oi.dst = true) (ho : oi.op = .slice t x ol oh none) (hx : val s x = some v)
    [ht : UT X.P t (.slice 40)] [hs : SZ X.P 40 32] {la ha : Int} [hv : OwnD v n ds oa] (hl : loV s ol = some la) (hh : hiV s n oh = some ha) (hnl : la = 0) (hnh : ha = (hi : Int))
    (h : ∀ v', OwnD v' hi ds' oa → Wh X ⟨r.toArray, lp, late⟩ Q fuel (i :: l) (s' v') b)
    (h2 : hi ≤ n := by first | (with_reducible assumption) | omega) (hxs : ds.take hi = ds' := by first | (with_reducible assumption) | rfl)
    (hs' : ∀ v', sputO s oi.dst v' = s' v' := by intro _; (try dsimp only [sputO, sput, Nat.reduceBEq, cond_true, cond_false, beq_self_eq_true]); first | done | exact rfl)
    (hr : (Region.ready .any r.toArray (arrOf r.toArray.size l)).contains i = true := by kernel_rfl) (hns : Region.noSelect r.toArray = true := by kernel_rfl) (hf : Region.free .any r.toArray (arrOf r.toArray.size l) i = true := by kernel_rfl)
    (hn' : memB i late = false := by kernel_rfl) : Wh X ⟨r.toArray, lp, late⟩ Q (fuel + 1) l s b := by
  obtain rfl : (fun v' => sputO s oi.dst v') = s' := funext hs'
  subst hxs
  obtain ⟨v', h3, h4⟩ := cut_ex ho hx ht hs hv.own hl hh hnl hnh h2
  exact wh_take hpk hi' hg hd h3 (.inl rfl) (h v' ⟨by rw [dgs_take hi hv.ok] at h4; exact h4, by rw [List.length_take, hv.len]; omega, hv.ok.take _⟩) rfl hr hns hf hn'
end
end Go.Proofs.YtlpalhagndmpjaaDoor
namespace Go.Proofs.YtlpalhagndmpjaaDoor
open Go.RowKit
set_option linter.unusedVariables false
set_option linter.unusedSimpArgs false
theorem At.skipA {n : Nat} {x y : Array Value × TypeId} {r r' : Blks} (h : At r n x y r') : ∀ ob : Blks, At (ob ++ r) n x y (ob ++ r')
  | [] => h
  | _ :: o => .there (At.skipA h o)
theorem Inn.skipA {n : Nat} {x : Array Value × TypeId} {r : Blks} (h : Inn r n x) : ∀ ob : Blks, Inn (ob ++ r) n x
  | [] => h
  | _ :: o => .there (Inn.skipA h o)
theorem Has.sees {X : Cx} {l : Blks} {n : Nat} {c : Array Value} {e : Nat} {w : World} (hm : Mem X l w) (h : Inn l n (c, e) := by repeat (first | exact Inn.here | apply Inn.there | apply Inn.skipA)) : w.heap[n]? = some (.cells c e) := Has.inn h w hm
end Go.Proofs.YtlpalhagndmpjaaDoor
namespace Go.Proofs.YtlpalhagndmpjaaDoor
open Go.RowKit
set_option linter.unusedVariables false
set_option maxRecDepth 100000
set_option linter.unusedSimpArgs false
theorem Msk.belowO {w0 W w : World} {own : List Nat} {m : Mu} (h : Msk W own m w) (hb : Below w0.heap.size w0 W) (hf : ∀ k ∈ own, w0.heap.size ≤ k) : Below w0.heap.size w0 w :=
  ⟨h.os.trans hb.os, h.tape.trans hb.tape, h.output.trans hb.output, Nat.le_trans hb.size h.size, fun k hk => by
    rw [h.old k (Nat.lt_of_lt_of_le hk hb.size) (fun hin => absurd (hf k hin) (by omega))]
    exact hb.block k hk⟩
theorem Mem.belowO {P : Program} {w0 W w : World} {N : Nat} {own : List Nat} {l : Blks} (h : Mem ⟨P, W, N, own⟩ l w) (hb : Below w0.heap.size w0 W) (hf : ∀ k ∈ own, w0.heap.size ≤ k) : Below w0.heap.size w0 w := h.cls.belowO hb hf
theorem Mem.freshS {P : Program} {W w : World} {N : Nat} {l oa : Blks} {f : Blks → Blks} (h : Mem ⟨P, W, N, []⟩ l w) [hs : Seg l oa f] : ∀ k ∈ keys oa, W.heap.size ≤ k := fun k hk => by
  obtain ⟨pre, post, rfl, _⟩ := hs.out
  rcases Nat.lt_or_ge k W.heap.size with h1 | h1
  · have := h.fresh k (by simp only [keys_app, List.mem_append]; exact .inr (.inl hk)) h1
    cases this
  · exact h1
theorem Mem.freshO {P : Program} {w0 W w : World} {N : Nat} {own : List Nat} {l oa : Blks} {f : Blks → Blks} (h : Mem ⟨P, W, N, own⟩ l w) (hb : Below w0.heap.size w0 W) (hf : ∀ k ∈ own, w0.heap.size ≤ k) [hs : Seg l oa f] : ∀ k ∈ keys oa, w0.heap.size ≤ k := fun k hk => by
  obtain ⟨pre, post, rfl, _⟩ := hs.out
  rcases Nat.lt_or_ge k W.heap.size with h1 | h1
  · exact hf k (h.fresh k (by simp only [keys_app, List.mem_append]; exact .inr (.inl hk)) h1)
  · exact Nat.le_trans hb.size h1
theorem Mem.freshK {P : Program} {W w : World} {N : Nat} {l : Blks} (h : Mem ⟨P, W, N, []⟩ l w) {n : Nat} {x : Array Value × TypeId} (hi : Inn l n x := by repeat (first | exact Inn.here | apply Inn.there | apply Inn.skipA)) : W.heap.size ≤ n := by
  rcases Nat.lt_or_ge n W.heap.size with h1 | h1
  · have := h.fresh n hi.at.mem h1
    cases this
  · exact h1
theorem Mem.ndS {X : Cx} {w : World} {l oa : Blks} {f : Blks → Blks} (h : Mem X l w) [hs : Seg l oa f] : (keys oa).Nodup := by
  obtain ⟨pre, post, rfl, _⟩ := hs.out
  have := h.nd
  simp only [keys_app, List.nodup_append] at this
  exact this.2.1.1
theorem Cs.nl {W : World} {v : Value} {n : Nat} {xs : List Value} (h : Cs W v n xs) (hx : xs ≠ []) : elB v < W.heap.size := by
  cases xs with
  | nil => exact absurd rfl hx
  | cons y r =>
    obtain ⟨b, off, cap, rfl, hc⟩ := h.cell 0 y rfl
    exact World.block_lt_of_cell? _ _ hc
theorem Cs.oldY {W : World} {v : Value} {n : Nat} {xs : List Value} {own : List Nat} (h : Cs W v n xs) (ha : xs ≠ [] → elB v ∉ own) : CsF (Old W own) v n xs := by
  by_cases hx : xs = []
  · subst hx
    exact ⟨h.ln, fun w _ => ⟨h.ln, fun j u hj => by simp at hj⟩⟩
  · exact h.oldX (ha hx)
theorem Cs.oldB {w0 W : World} {v : Value} {n : Nat} {xs : List Value} {own : List Nat} (h : Cs w0 v n xs) (hb : Below w0.heap.size w0 W) (hf : ∀ k ∈ own, w0.heap.size ≤ k) : CsF (Old W own) v n xs :=
  (h.below hb).oldY fun hx hin => by
    have := h.nl hx
    have := hf _ hin
    omega
theorem Cb.oldB {w0 W : World} {v : Value} {n : Nat} {p : List Nat} {own : List Nat} (h : Cb w0 v n p) (hb : Below w0.heap.size w0 W) (hf : ∀ k ∈ own, w0.heap.size ≤ k) : CsB (Old W own) v n p := ⟨h.cs.oldB hb hf, h.ok⟩
theorem cell_of {w : World} {n j : Nat} {c : Array Value} {t : TypeId} {v : Value} (h : w.heap[n]? = some (.cells c t)) (hv : c[j]? = some v) : w.cell? ⟨n, j, none⟩ = some v := by
  simp [World.cell?, h, hv]
theorem rw_cell {g : Sg} [hok : SgOk g] {off : Nat} {v : Value} (ha : atL g off 1 = some #[v]) : (rwA g)[off]? = some v := by
  obtain ⟨h1, h2, h3⟩ := atL_spec hok ha
  have := congrArg (·[0]?) h1
  simpa [rwA] using this
/-- What an updating call makes, told of one block that stays and of others. -/
def RetPO {T : Type} (mk : T → Value) (n : Nat) (c : Array Value) (t : TypeId) (Φ : T → Array Value → Blks → Prop) (w : World) (e : Ending) (w' : World) : Prop :=
  ∃ x c' oa', e = .returned (mk x) ∧ Φ x c' oa' ∧ Upd w [(n, (c, t))] w' ((n, (c', t)) :: oa')
theorem fn_updPO {T : Type} {mk : T → Value} {n : Nat} {cs : Array Value} {t : TypeId} {Φ : T → Array Value → Blks → Prop} {P : Program} {f : Nat} {fn : Func} {c : Code} {vs : List Value} {W : World} {N : Nat} (hf : P.funcs[f]? = some fn) (hb : fn.body = some c) (hN : fn.ntmps = N) {rs : List ResultVar} (hrs : fn.results = rs.toArray) (hl : vs.length ≤ N)
    (hd : W.heap[n]? = some (.cells cs t)) (h : Wc ⟨P, W, N, [n]⟩ c (endP ⟨P, W, N, [n]⟩ rs fun u l => ∃ x c' oa', u = mk x ∧ Φ x c' oa' ∧ SubL ((n, (c', t)) :: oa') l) (initS vs 0) [(n, (cs, t))]) : Calls P f vs.toArray W (RetPO mk n cs t Φ W) :=
  (fn_calls hf hb hN hrs hl (Mem.initO (oa := [(n, (cs, t))]) (by simp [keys]) (hd_one hd)) h).mono fun e w' ⟨u, l, he, ⟨x, c', oa', hu, hφ, hs⟩, hm⟩ => ⟨x, c', oa', by rw [he, hu], hφ, (hm.sub hs).toUpd⟩
section
variable {X : Cx} {s : Slots} {l : Blks} {o : Oper} {v : Value} {Q : Post} {ops : Array Oper} {r : List Oper}
theorem wl_updPO {T : Type} {mk : T → Value} {n : Nat} {cs : Array Value} {t : TypeId} {Φ : T → Array Value → Blks → Prop} {c : Call} {fi : Nat} {vs : List Value} {l' : Array Value → Blks} {f : Array Value → Blks → Blks} {s' : T → Slots} (hg : gd s ops o = some true) (hd : dOk X.N o.dst = true) (ho : o.op = .call c) (hc : c.callee = .value (.func fi)) (ha : vals s c.args.toList = some vs)
    (hC : ∀ w, Mem X l w → w.heap[n]? = some (.cells cs t) → Calls X.P fi vs.toArray w (RetPO mk n cs t Φ w))
    (hat : ∀ c', At l n (cs, t) (c', t) (l' c') := by intro _; repeat (first | exact At.here | apply At.there | apply At.skipA)) [hf : ∀ c', Snoc (l' c') (f c')] (h : ∀ x c' oa', Φ x c' oa' → Wl X ops Q r (s' x) (f c' oa')) (hk : callOk X.P fi = true := by kernel_rfl)
    (hs' : ∀ x, sputO s o.dst (mk x) = s' x := by intro _; (try dsimp only [sputO, sput, Nat.reduceBEq, cond_true, cond_false, beq_self_eq_true]); first | done | exact rfl) : Wl X ops Q (o :: r) s l := fun a w hst => by
  obtain rfl : (fun x => sputO s o.dst (mk x)) = s' := funext hs'
  have hw := gd_wanted hst.env hg
  unfold wpList
  rw [if_pos hw]
  refine .inl ?_
  unfold Oper.wp
  rw [run_op_call ho hc hst.env ha, run_enter hk]
  refine (hC w hst.mem (Has.at (hat cs) w hst.mem)).mono fun e w' ⟨x, c', oa', he, hφ, hup⟩ => ?_
  subst he
  refine h x c' oa' hφ _ _ ⟨hst.env.put hd _, ?_⟩
  obtain ⟨pre, post, e1, e2⟩ := At.ex _ (hat c')
  haveI : Seg l [(n, (cs, t))] (fun o => pre ++ (o ++ post)) := ⟨pre, post, by rw [e1]; rfl, fun _ => rfl⟩
  have := hup.mem hst.mem
  rw [(hf c').out, e2]
  refine this.perm ?_
  rw [List.append_assoc]
  refine List.Perm.append_left pre ?_
  rw [List.cons_append, List.cons_append]
  exact (List.perm_append_comm).cons _
end
end Go.Proofs.YtlpalhagndmpjaaDoor
namespace Go.Proofs.YtlpalhagndmpjaaDoor
open Go.RowKit
attribute [local irreducible] rwA bys iw
set_option linter.unusedVariables false
set_option maxRecDepth 100000
set_option linter.unusedSimpArgs false
/-- A reader as a row. -/
abbrev sgR (kv : Value) (last : List Nat) (rv : Value) (n : Nat) : Sg := [(1, #[kv]), (32, bys last), (1, #[rv]), (1, #[.int .i64 (n : Int)])]
instance (priority := 500) seg_oneT {v : Value} [h : One v] : SegL #[v] 1 := ⟨rfl, by simp [h.out]⟩
instance {key last rec : List Nat} : NBy (mkT key last rec) 32 := ⟨mkT_len _ _ _⟩
instance {key last rec : List Nat} : ByL (mkT key last rec) := ⟨mkT_byte _ _ _⟩
theorem rw_cellJ {g : Sg} [hok : SgOk g] {off k j : Nat} {A : Array Value} {v : Value} (ha : atL g off k = some A) (hv : A[j]? = some v) : (rwA g)[off + j]? = some v := by
  obtain ⟨h1, h2, h3⟩ := atL_spec hok ha
  have hj : j < k := by rw [← h2]; exact (Array.getElem?_eq_some_iff.1 hv).1
  have := congrArg (·[j]?) h1
  simp only [List.getElem?_take_of_lt hj, List.getElem?_drop] at this
  rw [rwA, List.getElem?_toArray, this]
  simpa using hv
theorem cb_seg {w : World} {b off k : Nat} {g : Sg} [hok : SgOk g] {t : TypeId} {l : List Nat} [hn : NBy l k] [hb : ByL l] (hg : w.heap[b]? = some (.cells (rwA g) t)) (ha : atL g off k = some (bys l)) (hk : k ≤ maxLen) : Cb w (.slice (some ⟨b, off, none⟩) k k) k l :=
  ⟨⟨⟨_, _, rfl, Nat.le_refl _, hk, fun _ => ⟨b, off, rfl⟩⟩, fun j u hj => ⟨b, off, k, rfl, cell_of hg (rw_cellJ ha (by rw [bys, List.getElem?_toArray]; exact hj))⟩⟩, hn.out, hb.out⟩
set_option maxHeartbeats 4000000 in
theorem mark_t (w : World) (hT : Tab w) (w' : World) (hb : Below w.heap.size w w') {g n : Nat} {kv rv : Value} {key last : List Nat} {at' : Nat} [hl : NBy last 32] [hl' : ByL last] [h1 : One kv] [h2 : One rv] (hg : w'.heap[g]? = some (.cells (rwA (sgR kv last rv at')) 42))
    (hk : Cb w' kv n key) {v : Value} {m : Nat} {p : List Nat} (hq : Cb w' v m p) : Calls Tryd.prog 15 [ptr g, v].toArray w' (Ret (.agg (bys (mkT key last p))) w') := by
  have NG := mnew_g w' (hT.below hb)
  have WG := mwrite_g w' (hT.below hb)
  have SG := msum_g w' (hT.below hb)
  have i1 := hk.old
  have i2 := hq.old
  haveI : ByL key := ⟨hk.ok.by'⟩
  haveI : ByL p := ⟨hq.ok.by'⟩
  have c0 : w'.cell? ⟨g, 0, none⟩ = some kv := cell_of hg (rw_cell rfl)
  have i3 : CsB (Old w' []) (.slice (some ⟨g, 1, none⟩) 32 32) 32 last := (cb_seg (off := 1) hg rfl (by decide)).old
  rw [mkT_def]
  clear hT hb hg hk hq
  refine fn_ret (N := _) Tryd.func15 rfl Tryd.ntmps15 Tryd.results15 (by simp) ?_
  simp only [initS, Nat.reduceAdd, Nat.zero_add]
  repeat' (first | (refine efZCnn ?_; intro n hn) | (refine efBnn ?_; intro n hn) | (refine wl_skip rfl rfl ?_) | (refine wdS ?_) | (refine wdV ?_) | (refine wdB ?_) | (refine wdO ?_) | ((with_reducible refine seld_call ?_); refine wd_rd hm0 rfl rfl rfl rfl (rd_call rfl rfl rfl (fun w hm => by with_reducible first | exact NG w (hm.below rfl) (VwB.out w hm) | exact WG w (hm.below rfl) (VwB.out w hm) | exact SG w (hm.below rfl))) ?_) | (refine wdE ?_) | (refine wdT ?_) | (refine wdTO ?_) | (refine wd_skip rfl rfl ?_) | ((with_reducible refine seld_nil ?_); refine wd_nil hm0 ?_; clear hm0 hw0) | ((with_reducible refine wc_seq ?_); intro K hK) | (refine auC ?_) | (refine wc_cond rfl (fun hc => ?_) (fun hc => ?_)) | (refine wc_draw (by kernel_rfl) (by kernel_rfl) (by decide +kernel) ?_; intro w0 hw0 hm0; (try simp only [List.append_eq, List.cons_append, List.nil_append])) | (refine auP ?_) | ((refine auR ?_); clear hK K) | (refine auR ?_) | ((with_reducible refine hK _ _ ?_); clear hK K) | fail)
  first | refine end_ret (ResP.cell rfl ld_whole ResP.nil) ?_ | refine end_normal (ResP.cell rfl ld_whole ResP.nil) ?_
  first | rfl | (show _ = _; rfl) | (simp only [tupV, *]; done)
end Go.Proofs.YtlpalhagndmpjaaDoor
namespace Go.Proofs.YtlpalhagndmpjaaDoor.MacSameWalk
open Go.RowKit
set_option linter.unusedVariables false
set_option linter.unusedSimpArgs false
/-- The first k bytes are alike. -/
def Like (k : Nat) (f g : Nat → Nat) : Prop := ∀ i, i < k → f i = g i
theorem like_succ {k : Nat} {f g : Nat → Nat} : Like (k + 1) f g ↔ Like k f g ∧ f k = g k := by
  constructor
  · exact fun h => ⟨fun i hi => h i (by omega), h k (by omega)⟩
  · rintro ⟨h1, h2⟩ i hi
    by_cases h : i = k
    · subst h; exact h2
    · exact h1 i (by omega)
def dif (n m k : Nat) (f g : Nat → Nat) : Nat := match k with
  | 0 => n ^^^ m
  | k + 1 => dif n m k f g ||| (f k ^^^ g k)
theorem dif_lt {n m : Nat} {f g : Nat → Nat} (hn : n < 9223372036854775808) (hm : m < 9223372036854775808) (hf : ∀ i, f i < 256) (hg : ∀ i, g i < 256) : ∀ k, dif n m k f g < 9223372036854775808
  | 0 => xor63 hn hm
  | k + 1 => or63 (dif_lt hn hm hf hg k) (by have := Nat.xor_lt_two_pow (n := 8) (hf k) (hg k); omega)
theorem dif_zero {n m : Nat} {f g : Nat → Nat} : ∀ k, dif n m k f g = 0 ↔ n = m ∧ Like k f g
  | 0 => by rw [dif, xor_nought]; exact ⟨fun h => ⟨h, fun i hi => by omega⟩, fun h => h.1⟩
  | k + 1 => by rw [dif, Nat.or_eq_zero_iff, dif_zero k, xor_nought, like_succ, and_assoc]
instance {k : Nat} {f g : Nat → Nat} : Decidable (Like k f g) := inferInstanceAs (Decidable (∀ i, i < k → f i = g i))
def same (n m : Nat) (f g : Nat → Nat) : Bool := decide (n = m ∧ Like (min n m) f g)
set_option maxRecDepth 100000 in
set_option maxHeartbeats 2000000 in
theorem same_mac (p : Option Addr) (n cap : Nat) (f : Nat → Nat) (q : Option Addr) (m cap' : Nat) (g : Nat → Nat) (w : World) (h1 : Sl w p n f) (h2 : Sl w q m g) :
    Calls Tryd.prog 19 [.slice p n cap, .slice q m cap'].toArray w (Ret (.bool (same n m f g)) w) := by
  have hx := xor_int h1.small h2.small
  have hmin : (if (m : Int) < (n : Int) then (m : Int) else (n : Int)) = ((min n m : Nat) : Int) := by split <;> omega
  have hs1 := h1.small
  refine fn_ret (N := _) Tryd.func19 rfl Tryd.ntmps19 Tryd.results19 (by simp) ?_
  simp only [initS, Nat.reduceAdd, Nat.zero_add]
  repeat' (first | (refine wlB ?_) | (refine wlMIN ?_) | (refine wlE ?_) | (refine wl_skip rfl rfl ?_) | (refine wdV ?_) | (refine wdB ?_) | (refine wd_skip rfl rfl ?_) | ((with_reducible refine seld_nil ?_); refine wd_nil hm0 ?_; clear hm0 hw0) | ((with_reducible refine wc_seq ?_); intro K hK) | (refine auC ?_) | (refine wc_cond rfl (fun hc => ?_) (fun hc => ?_)) | (refine wc_draw (by kernel_rfl) (by kernel_rfl) (by decide +kernel) ?_; intro w0 hw0 hm0; (try simp only [List.append_eq, List.cons_append, List.nil_append])) | (refine auP ?_) | ((refine auR ?_); clear hK K) | (refine auR ?_) | ((with_reducible refine hK _ _ ?_); clear hK K) | fail)
  refine wc_loop (σ := Nat) (fun k => [(0, .slice p n cap), (1, .slice q m cap'), (5, .int .i64 (dif n m k f g : Nat)), (16, .int .i64 (min n m : Nat)), (17, .int .i64 (k : Int))]) (fun _ => [])
    (fun k => k ≤ min n m) (fun k => min n m - k) 0 (Nat.zero_le _) (Fits.of ⟨rfl, rfl, rfl, rfl, rfl, trivial⟩ .nil rfl) ?_
  intro k hk
  by_cases hlt : k < min n m
  · have t1 : decide ((k : Int) < ((min n m : Nat) : Int)) = true := decide_eq_true (by omega)
    obtain ⟨b, off, rfl, c1⟩ := h1.cell k (by omega)
    obtain ⟨b', off', rfl, c2⟩ := h2.cell k (by omega)
    have hxo := xor_u8 (h1.byte k) (h2.byte k)
    have hcv : IntKind.i64.wrap ((f k ^^^ g k : Nat) : Int) = ((f k ^^^ g k : Nat) : Int) := wrap_i64 _ (by omega) (by have := Nat.xor_lt_two_pow (n := 8) (h1.byte k) (h2.byte k); omega)
    have hor : bits .or .i64 (dif n m k f g : Nat) ((f k ^^^ g k : Nat) : Int) = ((dif n m (k + 1) f g : Nat) : Int) := or_int (dif_lt h1.small h2.small h1.byte h2.byte k) (by have := Nat.xor_lt_two_pow (n := 8) (h1.byte k) (h2.byte k); omega)
    have hk1 : IntKind.i64.wrap ((k : Int) + 1) = ((k + 1 : Nat) : Int) := wrap_i64 _ (by omega) (by omega)
    have l1 : (k : Int) < (n : Int) := by omega
    have l2 : (k : Int) < (m : Int) := by omega
    clear hx hmin hs1 hk
    repeat' (first | (refine wlB ?_) | (refine wlE ?_) | (refine wl_skip rfl rfl ?_) | (refine wdV ?_) | (refine wdB ?_) | (refine wdO ?_) | (refine wd_skip rfl rfl ?_) | ((with_reducible refine seld_nil ?_); refine wd_nil hm0 ?_; clear hm0 hw0) | ((with_reducible refine wc_seq ?_); intro K hK) | (refine auC ?_) | (refine wc_cond rfl (fun hc => ?_) (fun hc => ?_)) | (refine wc_draw (by kernel_rfl) (by kernel_rfl) (by decide +kernel) ?_; intro w0 hw0 hm0; (try simp only [List.append_eq, List.cons_append, List.nil_append])) | (refine auP ?_) | ((refine auR ?_); clear hK K) | (refine auR ?_) | ((with_reducible refine hK _ _ ?_); clear hK K) | fail)
    exact ⟨k + 1, hlt, by omega, Fits.of ⟨rfl, rfl, rfl, rfl, rfl, trivial⟩ .nil rfl⟩
  · obtain rfl : k = min n m := by omega
    have t1 : decide (((min n m : Nat) : Int) < ((min n m : Nat) : Int)) = false := decide_eq_false (by omega)
    have hq : ((((dif n m (min n m) f g : Nat) : Int)) == 0) = same n m f g := by
      unfold same
      rw [Bool.eq_iff_iff, decide_eq_true_iff, ← dif_zero]
      simp
    clear hx hmin hs1 hk hlt
    repeat' (first | (refine wlB ?_) | (refine wlE ?_) | (refine wl_skip rfl rfl ?_) | (refine wdV ?_) | (refine wdB ?_) | (refine wd_skip rfl rfl ?_) | ((with_reducible refine seld_nil ?_); refine wd_nil hm0 ?_; clear hm0 hw0) | ((with_reducible refine wc_seq ?_); intro K hK) | (refine auC ?_) | (refine wc_cond rfl (fun hc => ?_) (fun hc => ?_)) | (refine wc_draw (by kernel_rfl) (by kernel_rfl) (by decide +kernel) ?_; intro w0 hw0 hm0; (try simp only [List.append_eq, List.cons_append, List.nil_append])) | (refine auP ?_) | ((refine auR ?_); clear hK K) | (refine auR ?_) | ((with_reducible refine hK _ _ ?_); clear hK K) | fail)
    first | refine end_ret (ResP.tmp rfl ResP.nil) ?_ | refine end_normal (ResP.tmp rfl ResP.nil) ?_
    first | rfl | (show _ = _; rfl) | (simp only [tupV, *]; done)
end Go.Proofs.YtlpalhagndmpjaaDoor.MacSameWalk
namespace Go.Proofs.YtlpalhagndmpjaaDoor
open Go.RowKit
set_option linter.unusedVariables false
set_option linter.unusedSimpArgs false
theorem Cb.sl {w : World} {p : Option Addr} {n cap : Nat} {l : List Nat} (h : Cb w (.slice p n cap) n l) : Sl w p n (fun i => l.getD i 0) := by
  obtain ⟨q, c, hv, h1, h2, h3⟩ := h.cs.ln.out
  injection hv with e1 e2 e3
  subst e1; subst e3
  refine ⟨by simp only [maxLen] at h2; omega, fun i => ?_, fun i hi => ?_⟩
  · show l.getD i 0 < 256
    rw [List.getD_eq_getElem?_getD]
    cases hx : l[i]? with
    | none => simp
    | some x => exact h.ok.by' x (List.mem_of_getElem? hx)
  · obtain ⟨b, off, cap', hv, hc⟩ := h.cs.cell i _ (bl_get (l := l) (i := i) (by rw [h.ok.len]; exact hi))
    injection hv with e1 e2 e3
    exact ⟨b, off, e1, hc⟩
instance (priority := 700) {v : Value} {oa : Blks} [h : OwnL 5 1 v 0 [] oa] : OwnB 5 v 0 [] oa := ⟨h, BL.nil⟩
/-- mac.Same of two slices. -/
theorem same_g (w : World) {v u : Value} {n m : Nat} {p q : List Nat} {r : Bool} (hv : Cb w v n p) (hu : Cb w u m q) (hr : (p == q) = r) : Calls Tryd.prog 19 [v, u].toArray w (Ret (.bool r) w) := by
  obtain ⟨pv, cv, rfl, _, _, _⟩ := hv.cs.ln.out
  obtain ⟨pu, cu, rfl, _, _, _⟩ := hu.cs.ln.out
  have := MacSameWalk.same_mac pv n cv _ pu m cu _ w hv.sl hu.sl
  rwa [show MacSameWalk.same n m (fun i => p.getD i 0) (fun i => q.getD i 0) = r by
    rw [← hr, Bool.eq_iff_iff, MacSameWalk.same, decide_eq_true_iff, beq_iff_eq]
    have h1 := hv.ok.len
    have h2 := hu.ok.len
    constructor
    · rintro ⟨e, hl⟩
      refine List.ext_getElem (by omega) fun i a b => ?_
      have := hl i (by omega)
      simpa [List.getD, a, b] using this
    · rintro rfl
      exact ⟨by omega, fun i _ => rfl⟩] at this
end Go.Proofs.YtlpalhagndmpjaaDoor
namespace Go.Proofs.YtlpalhagndmpjaaDoor
open Go.RowKit
set_option linter.unusedVariables false
section
variable {X : Cx} {s : Slots} {l : Blks} {o : Oper}
theorem rd_eqlG {t yt : Nat} {x y : Operand} {p : Option Addr} {n c : Nat} {v : Value} {r : Bool} (ho : o.op = .binOp .eql t x y yt) (hx : val s x = some (.slice p n c)) (hy : val s y = some v)
    (q : ∀ w : World, (binOp .eql t (.slice p n c) v).run X.P w = .ok (.bool r) w) : RdV X s l o (.bool r) :=
  rd_val fun e w he hm => by
    simp only [execOp, ho, he.eval hx, he.eval hy, eqGuard]
    simp [q w]
theorem rd_neqG {t yt : Nat} {x y : Operand} {p : Option Addr} {n c : Nat} {v : Value} {r : Bool} (ho : o.op = .binOp .neq t x y yt) (hx : val s x = some (.slice p n c)) (hy : val s y = some v)
    (q : ∀ w : World, (binOp .neq t (.slice p n c) v).run X.P w = .ok (.bool r) w) : RdV X s l o (.bool r) :=
  rd_val fun e w he hm => by
    simp only [execOp, ho, he.eval hx, he.eval hy, eqGuard]
    simp [q w]
end
theorem sl_nil {P : Program} {t e : Nat} (h : P.underlying t = some (.slice e)) {p : Option Addr} {n c : Nat} (w : World) : (binOp .eql t (.slice p n c) (.slice none 0 0)).run P w = .ok (.bool p.isNone) w := by
  refine run_eql (r := p.isNone) w rfl ?_
  rw [show (10000 : Nat) = 9999 + 1 from rfl, Op.equalIn, Sem.run_bind, run_underlying h]
  cases p <;> rfl
theorem sl_nonil {P : Program} {t e : Nat} (h : P.underlying t = some (.slice e)) {p : Option Addr} {n c : Nat} (w : World) : (binOp .neq t (.slice p n c) (.slice none 0 0)).run P w = .ok (.bool (!p.isNone)) w := by
  refine run_neq (r := p.isNone) w rfl ?_
  rw [show (10000 : Nat) = 9999 + 1 from rfl, Op.equalIn, Sem.run_bind, run_underlying h]
  cases p <;> rfl
end Go.Proofs.YtlpalhagndmpjaaDoor
namespace Go.Proofs.YtlpalhagndmpjaaDoor
open Go.RowKit
set_option linter.unusedVariables false
set_option linter.unusedSimpArgs false
set_option maxRecDepth 100000 in
set_option maxHeartbeats 4000000 in
theorem clone_b (w : World) {v : Value} {m : Nat} {p : List Nat} (h : Cb w v m p) (hm : m ≤ 1099511627776) :
    Calls Tryd.prog 17 [v].toArray w (RetO (fun u => u) (fun u oa => OwnB 5 u m p oa) w) := by
  have i1 := h.old
  obtain ⟨q, c, rfl, h1, h2, h3⟩ := h.cs.ln.out
  cases q with
  | none =>
    have hm0 : m = 0 := by
      rcases Nat.eq_zero_or_pos m with h0 | h0
      · exact h0
      · obtain ⟨_, _, hh⟩ := h3 h0; cases hh
    have hd0 : p = [] := List.eq_nil_of_length_eq_zero (by rw [h.ok.len, hm0])
    have E : ∀ w', (binOp .eql 22 (.slice none m c) (.slice none 0 0)).run Tryd.prog w' = .ok (.bool true) w' := fun w' => sl_nil (e := 5) (by kernel_rfl) w'
    clear h h3
    subst hm0; subst hd0
    refine fn_own (N := _) Tryd.func17 rfl Tryd.ntmps17 Tryd.results17 (by simp) ?_
    simp only [initS, Nat.reduceAdd, Nat.zero_add]
    repeat' (first | (refine wlS ?_) | (refine wlB ?_) | ((with_reducible refine sel_b_eql ?_); refine wv rfl rfl (rd_eqlG rfl rfl rfl (by with_reducible exact E)) ?_) | (refine wlE ?_) | (refine efSvao ?_; intro v oa ho) | (refine wl_skip rfl rfl ?_) | ((with_reducible refine wc_seq ?_); intro K hK) | (refine auC ?_) | (refine wc_cond rfl (fun hc => ?_) (fun hc => ?_)) | (refine wc_draw (by kernel_rfl) (by kernel_rfl) (by decide +kernel) ?_; intro w0 hw0 hm0; (try simp only [List.append_eq, List.cons_append, List.nil_append])) | (refine auP ?_) | ((refine auR ?_); clear hK K) | (refine auR ?_) | ((with_reducible refine hK _ _ ?_); clear hK K) | fail)
    first | refine end_ret (ResP.tmp rfl ResP.nil) ?_ | refine end_normal (ResP.tmp rfl ResP.nil) ?_
    (try dsimp only [tupV])
    exact ⟨_, _, rfl, ⟨OwnL.nil _ _, BL.nil⟩, .nil⟩
  | some a =>
    have E : ∀ w', (binOp .eql 22 (.slice (some a) m c) (.slice none 0 0)).run Tryd.prog w' = .ok (.bool false) w' := fun w' => sl_nil (e := 5) (by kernel_rfl) w'
    have hok := h.ok
    have hbl : (bl p).length = m * 1 := by rw [bl_len, h.ok.len, Nat.mul_one]
    clear h h3
    refine fn_own (N := _) Tryd.func17 rfl Tryd.ntmps17 Tryd.results17 (by simp) ?_
    simp only [initS, Nat.reduceAdd, Nat.zero_add]
    repeat' (first | (refine wlS ?_) | (refine wlB ?_) | ((with_reducible refine sel_b_eql ?_); refine wv rfl rfl (rd_eqlG rfl rfl rfl (by with_reducible exact E)) ?_) | (refine wlE ?_) | (refine efSvao ?_; intro v oa ho) | (refine wl_skip rfl rfl ?_) | ((with_reducible refine wc_seq ?_); intro K hK) | (refine auC ?_) | (refine wc_cond rfl (fun hc => ?_) (fun hc => ?_)) | (refine wc_draw (by kernel_rfl) (by kernel_rfl) (by decide +kernel) ?_; intro w0 hw0 hm0; (try simp only [List.append_eq, List.cons_append, List.nil_append])) | (refine auP ?_) | ((refine auR ?_); clear hK K) | (refine auR ?_) | ((with_reducible refine hK _ _ ?_); clear hK K) | fail)
    first | refine end_ret (ResP.tmp rfl ResP.nil) ?_ | refine end_normal (ResP.tmp rfl ResP.nil) ?_
    (try dsimp only [tupV])
    first
    | exact ⟨_, _, rfl, by simpa using ho, SubL.refl _⟩
    | exact ⟨_, _, rfl, ⟨by simpa using ho, hok⟩, SubL.refl _⟩
end Go.Proofs.YtlpalhagndmpjaaDoor
namespace Go.Proofs.YtlpalhagndmpjaaDoor
open Go.RowKit
set_option linter.unusedVariables false
set_option maxRecDepth 100000
set_option linter.unusedSimpArgs false
theorem or_i64 {a b : Nat} (ha : a < 4294967296) (hb : b < 4294967296) : bits .or .i64 (a : Int) (b : Int) = ((a ||| b : Nat) : Int) := by
  have hx : a ||| b < 4294967296 := Nat.or_lt_two_pow (n := 32) ha hb
  have h1 : (BitVec.ofInt 64 (a : Int)).toNat = a := by
    rw [BitVec.ofInt_natCast, BitVec.toNat_ofNat]; exact Nat.mod_eq_of_lt (by omega)
  have h2 : (BitVec.ofInt 64 (b : Int)).toNat = b := by
    rw [BitVec.ofInt_natCast, BitVec.toNat_ofNat]; exact Nat.mod_eq_of_lt (by omega)
  show IntKind.i64.wrap ((BitVec.ofInt 64 (a : Int) ||| BitVec.ofInt 64 (b : Int)).toNat : Int) = _
  rw [BitVec.toNat_or, h1, h2]
  exact wrap_i64 _ (by omega) (by omega)
theorem or_byte {b c : Nat} (hb : b < 256) (hc : c < 256) : bits .or .i64 ((b * 256 : Nat) : Int) (c : Int) = ((b * 256 + c : Nat) : Int) := by
  rw [or_i64 (by omega) (by omega)]
  have := Nat.shiftLeft_add_eq_or_of_lt (i := 8) (show c < 2 ^ 8 by omega) b
  rw [Nat.shiftLeft_eq] at this
  rw [← this]
def lenV (x : Nat × Nat × Nat) : Value := .tuple #[.int .i64 (x.2.1 : Int), .int .i64 (x.2.2 : Int), .int .i64 (x.1 : Int)]
set_option maxHeartbeats 4000000 in
theorem len_c (w : World) {v : Value} {m : Nat} {p : List Nat} (h : Cb w v m p) : Calls Tryd.prog 23 [v].toArray w (Ret (lenV (lenD p)) w) := by
  have i0 := h.old
  have hpl := h.ok.len
  have hpb := h.ok.by'
  have hmm : m ≤ maxLen := by obtain ⟨_, _, _, h1, h2, _⟩ := i0.cs.ln.out; omega
  simp only [maxLen] at hmm
  clear h
  revert i0 hpl hpb
  refine lenD_ways (M := fun p => CsB (Old w []) v m p → p.length = m → (∀ x ∈ p, x < 256) → Calls Tryd.prog 23 [v].toArray w (Ret (lenV (lenD p)) w)) ?_ ?_ ?_ ?_ ?_ ?_ ?_ ?_ p
  · rintro i0 rfl -
    have t1 : (((([] : List Nat).length : Nat) : Int) == 0) = true := rfl
    refine fn_ret (N := _) Tryd.func23 rfl Tryd.ntmps23 Tryd.results23 (by simp) ?_
    simp only [initS, Nat.reduceAdd, Nat.zero_add]
    repeat' (first | (refine wlS ?_) | (refine wlB ?_) | (refine wlE ?_) | (refine efSvao ?_; intro v oa ho) | (refine wl_skip rfl rfl ?_) | (refine wdS ?_) | (refine wdV ?_) | (refine wdB ?_) | (refine wd_skip rfl rfl ?_) | ((with_reducible refine seld_nil ?_); refine wd_nil hm0 ?_; clear hm0 hw0) | ((with_reducible refine wc_seq ?_); intro K hK) | (refine auC ?_) | (refine wc_cond rfl (fun hc => ?_) (fun hc => ?_)) | (refine wc_draw (by kernel_rfl) (by kernel_rfl) (by decide +kernel) ?_; intro w0 hw0 hm0; (try simp only [List.append_eq, List.cons_append, List.nil_append])) | (refine auP ?_) | ((refine auR ?_); clear hK K) | (refine auR ?_) | ((with_reducible refine hK _ _ ?_); clear hK K) | fail)
    first | refine end_ret (ResP.tmp rfl (ResP.tmp rfl (ResP.tmp rfl ResP.nil))) ?_ | refine end_normal (ResP.tmp rfl (ResP.tmp rfl (ResP.tmp rfl ResP.nil))) ?_
    first | rfl | (show _ = _; rfl) | (simp only [tupV, *]; done)
  · intro k r hk i0 hl hb
    simp only [List.length_cons] at hl
    have t1 : ((m : Int) == 0) = false := by simp only [beq_eq_false_iff_ne, ne_eq]; omega
    have g0 : (bl (k :: r))[0]? = some (.int .u8 (k : Int)) := rfl
    have j0 : 0 < m := by omega
    have t2 : decide ((k : Int) < 128) = true := decide_eq_true (by omega)
    have t3 : IntKind.i64.wrap (k : Int) = (k : Int) := wrap_i64 _ (by omega) (by omega)
    rw [lenD_a hk]
    refine fn_ret (N := _) Tryd.func23 rfl Tryd.ntmps23 Tryd.results23 (by simp) ?_
    simp only [initS, Nat.reduceAdd, Nat.zero_add]
    repeat' (first | (refine wlS ?_) | (refine wlB ?_) | (refine wlE ?_) | (refine efSvao ?_; intro v oa ho) | (refine wl_skip rfl rfl ?_) | (refine wdS ?_) | (refine wdV ?_) | (refine wdB ?_) | (refine wd_skip rfl rfl ?_) | ((with_reducible refine seld_nil ?_); refine wd_nil hm0 ?_; clear hm0 hw0) | ((with_reducible refine wc_seq ?_); intro K hK) | (refine auC ?_) | (refine wc_cond rfl (fun hc => ?_) (fun hc => ?_)) | (refine wc_draw (by kernel_rfl) (by kernel_rfl) (by decide +kernel) ?_; intro w0 hw0 hm0; (try simp only [List.append_eq, List.cons_append, List.nil_append])) | (refine auP ?_) | ((refine auR ?_); clear hK K) | (refine auR ?_) | ((with_reducible refine hK _ _ ?_); clear hK K) | fail)
    first | refine end_ret (ResP.tmp rfl (ResP.tmp rfl (ResP.tmp rfl ResP.nil))) ?_ | refine end_normal (ResP.tmp rfl (ResP.tmp rfl (ResP.tmp rfl ResP.nil))) ?_
    first | rfl | (show _ = _; rfl) | (simp only [tupV, *]; done)
  · intro k r hk i0 hl hb
    have hk8 := hb k (by simp)
    simp only [List.length_cons] at hl
    have t1 : ((m : Int) == 0) = false := by simp only [beq_eq_false_iff_ne, ne_eq]; omega
    have g0 : (bl (k :: r))[0]? = some (.int .u8 (k : Int)) := rfl
    have j0 : 0 < m := by omega
    have t2 : decide ((k : Int) < 128) = false := decide_eq_false (by omega)
    rw [lenD_b hk]
    by_cases c : k = 128
    · have t3 : ((k : Int) == 128) = true := by rw [c]; rfl
      refine fn_ret (N := _) Tryd.func23 rfl Tryd.ntmps23 Tryd.results23 (by simp) ?_
      simp only [initS, Nat.reduceAdd, Nat.zero_add]
      repeat' (first | (refine wlS ?_) | (refine wlB ?_) | (refine wlE ?_) | (refine efSvao ?_; intro v oa ho) | (refine wl_skip rfl rfl ?_) | (refine wdS ?_) | (refine wdV ?_) | (refine wdB ?_) | (refine wd_skip rfl rfl ?_) | ((with_reducible refine seld_nil ?_); refine wd_nil hm0 ?_; clear hm0 hw0) | ((with_reducible refine wc_seq ?_); intro K hK) | (refine auC ?_) | (refine wc_cond rfl (fun hc => ?_) (fun hc => ?_)) | (refine wc_draw (by kernel_rfl) (by kernel_rfl) (by decide +kernel) ?_; intro w0 hw0 hm0; (try simp only [List.append_eq, List.cons_append, List.nil_append])) | (refine auP ?_) | ((refine auR ?_); clear hK K) | (refine auR ?_) | ((with_reducible refine hK _ _ ?_); clear hK K) | fail)
      first | refine end_ret (ResP.tmp rfl (ResP.tmp rfl (ResP.tmp rfl ResP.nil))) ?_ | refine end_normal (ResP.tmp rfl (ResP.tmp rfl (ResP.tmp rfl ResP.nil))) ?_
      first | rfl | (show _ = _; rfl) | (simp only [tupV, *]; done)
    · have t3 : ((k : Int) == 128) = false := by simp only [beq_eq_false_iff_ne, ne_eq]; omega
      have t4 : decide ((k : Int) > 130) = true := decide_eq_true (by omega)
      refine fn_ret (N := _) Tryd.func23 rfl Tryd.ntmps23 Tryd.results23 (by simp) ?_
      simp only [initS, Nat.reduceAdd, Nat.zero_add]
      repeat' (first | (refine wlS ?_) | (refine wlB ?_) | (refine wlE ?_) | (refine efSvao ?_; intro v oa ho) | (refine wl_skip rfl rfl ?_) | (refine wdS ?_) | (refine wdV ?_) | (refine wdB ?_) | (refine wd_skip rfl rfl ?_) | ((with_reducible refine seld_nil ?_); refine wd_nil hm0 ?_; clear hm0 hw0) | ((with_reducible refine wc_seq ?_); intro K hK) | (refine auC ?_) | (refine wc_cond rfl (fun hc => ?_) (fun hc => ?_)) | (refine wc_draw (by kernel_rfl) (by kernel_rfl) (by decide +kernel) ?_; intro w0 hw0 hm0; (try simp only [List.append_eq, List.cons_append, List.nil_append])) | (refine auP ?_) | ((refine auR ?_); clear hK K) | (refine auR ?_) | ((with_reducible refine hK _ _ ?_); clear hK K) | fail)
      first | refine end_ret (ResP.tmp rfl (ResP.tmp rfl (ResP.tmp rfl ResP.nil))) ?_ | refine end_normal (ResP.tmp rfl (ResP.tmp rfl (ResP.tmp rfl ResP.nil))) ?_
      first | rfl | (show _ = _; rfl) | (simp only [tupV, *]; done)
  · intro i0 hl hb
    obtain rfl : m = 1 := by rw [← hl]; rfl
    have g0 : (bl [129])[0]? = some (.int .u8 129) := rfl
    refine fn_ret (N := _) Tryd.func23 rfl Tryd.ntmps23 Tryd.results23 (by simp) ?_
    simp only [initS, Nat.reduceAdd, Nat.zero_add]
    repeat' (first | (refine wlS ?_) | (refine wlB ?_) | (refine wlE ?_) | (refine efSvao ?_; intro v oa ho) | (refine wl_skip rfl rfl ?_) | (refine wdS ?_) | (refine wdV ?_) | (refine wdB ?_) | (refine wd_skip rfl rfl ?_) | ((with_reducible refine seld_nil ?_); refine wd_nil hm0 ?_; clear hm0 hw0) | ((with_reducible refine wc_seq ?_); intro K hK) | (refine auC ?_) | (refine wc_cond rfl (fun hc => ?_) (fun hc => ?_)) | (refine wc_draw (by kernel_rfl) (by kernel_rfl) (by decide +kernel) ?_; intro w0 hw0 hm0; (try simp only [List.append_eq, List.cons_append, List.nil_append])) | (refine auP ?_) | ((refine auR ?_); clear hK K) | (refine auR ?_) | ((with_reducible refine hK _ _ ?_); clear hK K) | fail)
    first | refine end_ret (ResP.tmp rfl (ResP.tmp rfl (ResP.tmp rfl ResP.nil))) ?_ | refine end_normal (ResP.tmp rfl (ResP.tmp rfl (ResP.tmp rfl ResP.nil))) ?_
    first | rfl | (show _ = _; rfl) | (simp only [tupV, *]; done)
  · intro b r i0 hl hb
    have hb8 := hb b (by simp)
    simp only [List.length_cons] at hl
    have t1 : ((m : Int) == 0) = false := by simp only [beq_eq_false_iff_ne, ne_eq]; omega
    have g0 : (bl (129 :: b :: r))[0]? = some (.int .u8 129) := rfl
    have g1 : (bl (129 :: b :: r))[1]? = some (.int .u8 (b : Int)) := rfl
    have j0 : 0 < m := by omega
    have j1 : 1 < m := by omega
    have t3 : decide ((m : Int) < 2) = false := decide_eq_false (by omega)
    have t4 : IntKind.i64.wrap (b : Int) = (b : Int) := wrap_i64 _ (by omega) (by omega)
    rw [lenD_129]
    by_cases c : b < 128
    · rw [if_pos c]
      have t5 : decide ((b : Int) < 128) = true := decide_eq_true (by omega)
      refine fn_ret (N := _) Tryd.func23 rfl Tryd.ntmps23 Tryd.results23 (by simp) ?_
      simp only [initS, Nat.reduceAdd, Nat.zero_add]
      repeat' (first | (refine wlS ?_) | (refine wlB ?_) | (refine wlE ?_) | (refine efSvao ?_; intro v oa ho) | (refine wl_skip rfl rfl ?_) | (refine wdS ?_) | (refine wdV ?_) | (refine wdB ?_) | (refine wd_skip rfl rfl ?_) | ((with_reducible refine seld_nil ?_); refine wd_nil hm0 ?_; clear hm0 hw0) | ((with_reducible refine wc_seq ?_); intro K hK) | (refine auC ?_) | (refine wc_cond rfl (fun hc => ?_) (fun hc => ?_)) | (refine wc_draw (by kernel_rfl) (by kernel_rfl) (by decide +kernel) ?_; intro w0 hw0 hm0; (try simp only [List.append_eq, List.cons_append, List.nil_append])) | (refine auP ?_) | ((refine auR ?_); clear hK K) | (refine auR ?_) | ((with_reducible refine hK _ _ ?_); clear hK K) | fail)
      first | refine end_ret (ResP.tmp rfl (ResP.tmp rfl (ResP.tmp rfl ResP.nil))) ?_ | refine end_normal (ResP.tmp rfl (ResP.tmp rfl (ResP.tmp rfl ResP.nil))) ?_
      first | rfl | (show _ = _; rfl) | (simp only [tupV, *]; done)
    · rw [if_neg c]
      have t5 : decide ((b : Int) < 128) = false := decide_eq_false (by omega)
      refine fn_ret (N := _) Tryd.func23 rfl Tryd.ntmps23 Tryd.results23 (by simp) ?_
      simp only [initS, Nat.reduceAdd, Nat.zero_add]
      repeat' (first | (refine wlS ?_) | (refine wlB ?_) | (refine wlE ?_) | (refine efSvao ?_; intro v oa ho) | (refine wl_skip rfl rfl ?_) | (refine wdS ?_) | (refine wdV ?_) | (refine wdB ?_) | (refine wd_skip rfl rfl ?_) | ((with_reducible refine seld_nil ?_); refine wd_nil hm0 ?_; clear hm0 hw0) | ((with_reducible refine wc_seq ?_); intro K hK) | (refine auC ?_) | (refine wc_cond rfl (fun hc => ?_) (fun hc => ?_)) | (refine wc_draw (by kernel_rfl) (by kernel_rfl) (by decide +kernel) ?_; intro w0 hw0 hm0; (try simp only [List.append_eq, List.cons_append, List.nil_append])) | (refine auP ?_) | ((refine auR ?_); clear hK K) | (refine auR ?_) | ((with_reducible refine hK _ _ ?_); clear hK K) | fail)
      first | refine end_ret (ResP.tmp rfl (ResP.tmp rfl (ResP.tmp rfl ResP.nil))) ?_ | refine end_normal (ResP.tmp rfl (ResP.tmp rfl (ResP.tmp rfl ResP.nil))) ?_
      first | rfl | (show _ = _; rfl) | (simp only [tupV, *]; done)
  · intro i0 hl hb
    obtain rfl : m = 1 := by rw [← hl]; rfl
    have g0 : (bl [130])[0]? = some (.int .u8 130) := rfl
    refine fn_ret (N := _) Tryd.func23 rfl Tryd.ntmps23 Tryd.results23 (by simp) ?_
    simp only [initS, Nat.reduceAdd, Nat.zero_add]
    repeat' (first | (refine wlS ?_) | (refine wlB ?_) | (refine wlE ?_) | (refine efSvao ?_; intro v oa ho) | (refine wl_skip rfl rfl ?_) | (refine wdS ?_) | (refine wdV ?_) | (refine wdB ?_) | (refine wd_skip rfl rfl ?_) | ((with_reducible refine seld_nil ?_); refine wd_nil hm0 ?_; clear hm0 hw0) | ((with_reducible refine wc_seq ?_); intro K hK) | (refine auC ?_) | (refine wc_cond rfl (fun hc => ?_) (fun hc => ?_)) | (refine wc_draw (by kernel_rfl) (by kernel_rfl) (by decide +kernel) ?_; intro w0 hw0 hm0; (try simp only [List.append_eq, List.cons_append, List.nil_append])) | (refine auP ?_) | ((refine auR ?_); clear hK K) | (refine auR ?_) | ((with_reducible refine hK _ _ ?_); clear hK K) | fail)
    first | refine end_ret (ResP.tmp rfl (ResP.tmp rfl (ResP.tmp rfl ResP.nil))) ?_ | refine end_normal (ResP.tmp rfl (ResP.tmp rfl (ResP.tmp rfl ResP.nil))) ?_
    first | rfl | (show _ = _; rfl) | (simp only [tupV, *]; done)
  · intro b i0 hl hb
    obtain rfl : m = 2 := by rw [← hl]; rfl
    have g0 : (bl [130, b])[0]? = some (.int .u8 130) := rfl
    refine fn_ret (N := _) Tryd.func23 rfl Tryd.ntmps23 Tryd.results23 (by simp) ?_
    simp only [initS, Nat.reduceAdd, Nat.zero_add]
    repeat' (first | (refine wlS ?_) | (refine wlB ?_) | (refine wlE ?_) | (refine efSvao ?_; intro v oa ho) | (refine wl_skip rfl rfl ?_) | (refine wdS ?_) | (refine wdV ?_) | (refine wdB ?_) | (refine wd_skip rfl rfl ?_) | ((with_reducible refine seld_nil ?_); refine wd_nil hm0 ?_; clear hm0 hw0) | ((with_reducible refine wc_seq ?_); intro K hK) | (refine auC ?_) | (refine wc_cond rfl (fun hc => ?_) (fun hc => ?_)) | (refine wc_draw (by kernel_rfl) (by kernel_rfl) (by decide +kernel) ?_; intro w0 hw0 hm0; (try simp only [List.append_eq, List.cons_append, List.nil_append])) | (refine auP ?_) | ((refine auR ?_); clear hK K) | (refine auR ?_) | ((with_reducible refine hK _ _ ?_); clear hK K) | fail)
    first | refine end_ret (ResP.tmp rfl (ResP.tmp rfl (ResP.tmp rfl ResP.nil))) ?_ | refine end_normal (ResP.tmp rfl (ResP.tmp rfl (ResP.tmp rfl ResP.nil))) ?_
    first | rfl | (show _ = _; rfl) | (simp only [tupV, *]; done)
  · intro b c r i0 hl hb
    have hb8 := hb b (by simp)
    have hc8 := hb c (by simp)
    simp only [List.length_cons] at hl
    have t1 : ((m : Int) == 0) = false := by simp only [beq_eq_false_iff_ne, ne_eq]; omega
    have g0 : (bl (130 :: b :: c :: r))[0]? = some (.int .u8 130) := rfl
    have g1 : (bl (130 :: b :: c :: r))[1]? = some (.int .u8 (b : Int)) := rfl
    have g2 : (bl (130 :: b :: c :: r))[2]? = some (.int .u8 (c : Int)) := rfl
    have j0 : 0 < m := by omega
    have j1 : 1 < m := by omega
    have j2 : 2 < m := by omega
    have t3 : decide ((m : Int) < 3) = false := decide_eq_false (by omega)
    have t4 : IntKind.i64.wrap (b : Int) = (b : Int) := wrap_i64 _ (by omega) (by omega)
    have t6 : IntKind.i64.wrap (c : Int) = (c : Int) := wrap_i64 _ (by omega) (by omega)
    have t7 : IntKind.i64.wrap ((b : Int) * 2 ^ min ((8 : Int).toNat) (IntKind.bits .i64)) = ((b * 256 : Nat) : Int) := by
      show IntKind.i64.wrap ((b : Int) * 256) = _
      rw [wrap_i64 _ (by omega) (by omega)]; omega
    have t8 := or_byte hb8 hc8
    rw [lenD_130]
    by_cases e : b * 256 + c < 256
    · rw [if_pos e]
      have t5 : decide (((b * 256 + c : Nat) : Int) < 256) = true := decide_eq_true (by omega)
      refine fn_ret (N := _) Tryd.func23 rfl Tryd.ntmps23 Tryd.results23 (by simp) ?_
      simp only [initS, Nat.reduceAdd, Nat.zero_add]
      repeat' (first | (refine wlS ?_) | (refine wlB ?_) | (refine wlE ?_) | (refine efSvao ?_; intro v oa ho) | (refine wl_skip rfl rfl ?_) | ((with_reducible refine wc_seq ?_); intro K hK) | (refine auC ?_) | (refine wc_cond rfl (fun hc => ?_) (fun hc => ?_)) | ((with_reducible refine wc_drawT (by kernel_rfl) ?_); (try simp only [List.append_eq, List.cons_append, List.nil_append, List.length_cons, List.length_nil, Nat.reduceAdd])) | ((with_reducible refine sel_wh ?_); (refine wh_if (by decide +kernel) ?_); first | (refine wh_take (lq := []) rfl rfl rfl rfl (by first | exact rvS | exact rvB) (Or.inl rfl) ?_) | (refine wh_takeL rfl rfl rfl rfl (by first | exact rvS | exact rvB) (by decide +kernel) ?_)) | (refine whS ?_; intro v hv hp) | ((with_reducible refine sel_wh ?_); first | (refine wh_pass rfl rfl rfl rfl ?_) | (refine wh_done rfl ?_) | (refine wh_all rfl ?_)) | ((with_reducible refine sel_rest ?_); first | exact rest_nil rfl | refine rest_cons rfl rfl ?_ ?_) | ((with_reducible refine sel_nx ?_); first | refine next_of ?_ | refine next_late (by decide +kernel) ?_) | (refine auP ?_) | ((refine auR ?_); clear hK K) | (refine auR ?_) | ((with_reducible refine hK _ _ ?_); clear hK K) | fail)
      first | refine end_ret (ResP.tmp rfl (ResP.tmp rfl (ResP.tmp rfl ResP.nil))) ?_ | refine end_normal (ResP.tmp rfl (ResP.tmp rfl (ResP.tmp rfl ResP.nil))) ?_
      first | rfl | (show _ = _; rfl) | (simp only [tupV, *]; done)
    · rw [if_neg e]
      have t5 : decide (((b * 256 + c : Nat) : Int) < 256) = false := decide_eq_false (by omega)
      refine fn_ret (N := _) Tryd.func23 rfl Tryd.ntmps23 Tryd.results23 (by simp) ?_
      simp only [initS, Nat.reduceAdd, Nat.zero_add]
      repeat' (first | (refine wlS ?_) | (refine wlB ?_) | (refine wlE ?_) | (refine efSvao ?_; intro v oa ho) | (refine wl_skip rfl rfl ?_) | ((with_reducible refine wc_seq ?_); intro K hK) | (refine auC ?_) | (refine wc_cond rfl (fun hc => ?_) (fun hc => ?_)) | ((with_reducible refine wc_drawT (by kernel_rfl) ?_); (try simp only [List.append_eq, List.cons_append, List.nil_append, List.length_cons, List.length_nil, Nat.reduceAdd])) | ((with_reducible refine sel_wh ?_); (refine wh_if (by decide +kernel) ?_); first | (refine wh_take (lq := []) rfl rfl rfl rfl (by first | exact rvS | exact rvB) (Or.inl rfl) ?_) | (refine wh_takeL rfl rfl rfl rfl (by first | exact rvS | exact rvB) (by decide +kernel) ?_)) | (refine whS ?_; intro v hv hp) | ((with_reducible refine sel_wh ?_); first | (refine wh_pass rfl rfl rfl rfl ?_) | (refine wh_done rfl ?_) | (refine wh_all rfl ?_)) | ((with_reducible refine sel_rest ?_); first | exact rest_nil rfl | refine rest_cons rfl rfl ?_ ?_) | ((with_reducible refine sel_nx ?_); first | refine next_of ?_ | refine next_late (by decide +kernel) ?_) | (refine auP ?_) | ((refine auR ?_); clear hK K) | (refine auR ?_) | ((with_reducible refine hK _ _ ?_); clear hK K) | fail)
      first | refine end_ret (ResP.tmp rfl (ResP.tmp rfl (ResP.tmp rfl ResP.nil))) ?_ | refine end_normal (ResP.tmp rfl (ResP.tmp rfl (ResP.tmp rfl ResP.nil))) ?_
      first | rfl | (show _ = _; rfl) | (simp only [tupV, *]; done)
end Go.Proofs.YtlpalhagndmpjaaDoor
namespace Go.Proofs.YtlpalhagndmpjaaDoor
open Go.RowKit
set_option linter.unusedVariables false
set_option linter.unusedSimpArgs false
set_option maxRecDepth 100000
theorem lenD_small {r : List Nat} (hb : ∀ y ∈ r, y < 256) : (lenD r).1 < 256 ∧ (lenD r).2.1 < 65536 ∧ (lenD r).2.2 < 256 := by
  revert hb
  refine lenD_ways (M := fun r => (∀ y ∈ r, y < 256) → (lenD r).1 < 256 ∧ (lenD r).2.1 < 65536 ∧ (lenD r).2.2 < 256) ?_ ?_ ?_ ?_ ?_ ?_ ?_ ?_ r
  · intro _; simp [lenD]
  · intro k r hk hb; rw [lenD_a hk]; simp; omega
  · intro k r hk hb; rw [lenD_b hk]; simp
  · intro _; simp [lenD_129s]
  · intro b r hb
    have := hb b (by simp)
    rw [lenD_129]; split <;> simp <;> omega
  · intro _; simp [lenD_130s]
  · intro b _; simp [lenD_130t]
  · intro b c r hb
    have h1 := hb b (by simp)
    have h2 := hb c (by simp)
    rw [lenD_130]; split <;> simp <;> omega
set_option maxHeartbeats 4000000 in
theorem first_err (w : World) {u : Value} {m e : Nat} {p : List Nat} (h : Cb w u m p) (he : (firstD p).1 = e) (h0 : e ≠ 0) (hmm : m ≤ 1073741824) :
    Calls Tryd.prog 18 [u].toArray w (Ret (.tuple #[.agg #[.int .u8 0, .slice none 0 0], .int .i64 0, .int .i64 (e : Int)]) w) := by
  have i0 := h.old
  have hpl := h.ok.len
  have hpb := h.ok.by'
  have LN : ∀ {v : Value} {k : Nat} {q : List Nat} w', Cb w' v k q → Calls Tryd.prog 23 [v].toArray w' (Ret (lenV (lenD q)) w') := fun w' h => len_c w' h
  cases p with
  | nil =>
    obtain rfl : m = 0 := by rw [← hpl]; rfl
    have he' : e = 3 := he.symm
    subst he'
    clear h LN
    refine fn_ret (N := _) Tryd.func18 rfl Tryd.ntmps18 Tryd.results18 (by simp) ?_
    simp only [initS, Nat.reduceAdd, Nat.zero_add]
    repeat' (first | (refine wlS ?_) | (refine wlB ?_) | (refine wlE ?_) | (refine efSvvp ?_; intro v hv hp) | (refine efSvao ?_; intro v oa ho) | (refine efBnn ?_; intro n hn) | (refine efB ?_) | (refine efBS ?_) | (refine wl_skip rfl rfl ?_) | (refine wdS ?_) | (refine wdV ?_) | (refine wdB ?_) | (refine wdE ?_) | (refine wdT ?_) | (refine wdTO ?_) | (refine wd_skip rfl rfl ?_) | ((with_reducible refine seld_nil ?_); refine wd_nil hm0 ?_; clear hm0 hw0) | ((with_reducible refine wc_seq ?_); intro K hK) | (refine auC ?_) | (refine wc_cond rfl (fun hc => ?_) (fun hc => ?_)) | (refine wc_draw (by kernel_rfl) (by kernel_rfl) (by decide +kernel) ?_; intro w0 hw0 hm0; (try simp only [List.append_eq, List.cons_append, List.nil_append])) | (refine auP ?_) | ((refine auR ?_); clear hK K) | (refine auR ?_) | ((with_reducible refine hK _ _ ?_); clear hK K) | fail)
    first | refine end_ret (ResP.cell rfl ld_whole (ResP.tmp rfl (ResP.tmp rfl ResP.nil))) ?_ | refine end_normal (ResP.cell rfl ld_whole (ResP.tmp rfl (ResP.tmp rfl ResP.nil))) ?_
    first | rfl | (show _ = _; rfl) | (simp only [tupV, *]; done)
  | cons t r =>
    have t1 : ((m : Int) == 0) = false := by rw [← hpl]; simp only [beq_eq_false_iff_ne, ne_eq, List.length_cons]; omega
    have j0 : 0 < m := by rw [← hpl]; simp
    have j1 : 1 ≤ m := j0
    have d1 : ((t :: r).drop 1).take (m - 1) = r := by rw [List.drop_succ_cons, List.drop_zero]; exact List.take_of_length_le (by simp only [List.length_cons] at hpl; omega)
    have hrl : r.length = m - 1 := by simp only [List.length_cons] at hpl; omega
    obtain ⟨s1, s2, s3⟩ := lenD_small (r := r) (fun y hy => hpb y (by simp [hy]))
    rw [firstD_cons] at he
    have hat := fun h => lenD_at (r := r) h
    have LN1 : ∀ {v : Value} w', Cb w' v (m - 1) r → Calls Tryd.prog 23 [v].toArray w' (Ret (.tuple #[.int .i64 ((lenD r).2.1 : Int), .int .i64 ((lenD r).2.2 : Int), .int .i64 ((lenD r).1 : Int)]) w') := fun w' h => len_c w' h
    clear LN h
    generalize (lenD r).1 = e1 at *
    generalize (lenD r).2.1 = k at *
    generalize (lenD r).2.2 = a at *
    by_cases c1 : e1 ≠ 0
    · rw [if_pos c1] at he
      obtain rfl : e1 = e := he
      have t2 : ((e1 : Int) != 0) = true := by simp only [bne_iff_ne, ne_eq]; omega
      refine fn_ret (N := _) Tryd.func18 rfl Tryd.ntmps18 Tryd.results18 (by simp) ?_
      simp only [initS, Nat.reduceAdd, Nat.zero_add]
      repeat' (first | (refine wlS ?_) | (refine wlB ?_) | ((with_reducible refine sel_call ?_); refine wl_rd rfl rfl (rd_call rfl rfl rfl (fun w hm => by with_reducible exact LN1 w (VwB.out w hm))) ?_) | (refine wlE ?_) | (refine efSvvp ?_; intro v hv hp) | (refine efSvao ?_; intro v oa ho) | ((with_reducible refine sel_slice ?_); first | (refine wl_subB (lo := 1) rfl rfl rfl rfl rfl rfl rfl rfl ?_; intro v hv hp)) | (refine efBnn ?_; intro n hn) | (refine efB ?_) | (refine efBS ?_) | (refine wl_skip rfl rfl ?_) | (refine wdS ?_) | (refine wdV ?_) | (refine wdB ?_) | ((with_reducible refine seld_call ?_); refine wd_rd hm0 rfl rfl rfl rfl (rd_call rfl rfl rfl (fun w hm => by with_reducible exact LN1 w (VwB.out w hm))) ?_) | (refine wdE ?_) | (refine wdT ?_) | (refine wdTO ?_) | (refine wd_skip rfl rfl ?_) | ((with_reducible refine seld_nil ?_); refine wd_nil hm0 ?_; clear hm0 hw0) | ((with_reducible refine wc_seq ?_); intro K hK) | (refine auC ?_) | (refine wc_cond rfl (fun hc => ?_) (fun hc => ?_)) | (refine wc_draw (by kernel_rfl) (by kernel_rfl) (by decide +kernel) ?_; intro w0 hw0 hm0; (try simp only [List.append_eq, List.cons_append, List.nil_append])) | (refine auP ?_) | ((refine auR ?_); clear hK K) | (refine auR ?_) | ((with_reducible refine hK _ _ ?_); clear hK K) | fail)
      first | refine end_ret (ResP.cell rfl ld_whole (ResP.tmp rfl (ResP.tmp rfl ResP.nil))) ?_ | refine end_normal (ResP.cell rfl ld_whole (ResP.tmp rfl (ResP.tmp rfl ResP.nil))) ?_
      first | rfl | (show _ = _; rfl) | (simp only [tupV, *]; done)
    · rw [if_neg c1] at he
      have c1' : e1 = 0 := Decidable.of_not_not c1
      obtain ⟨a1, a2, a3⟩ := hat c1'
      subst c1'
      have t2 : (((0 : Nat) : Int) != 0) = false := rfl
      have t3 : IntKind.i64.wrap (1 + (a : Int)) = ((1 + a : Nat) : Int) := by rw [wrap_i64 _ (by omega) (by omega)]; omega
      have d2 : 1 + a ≤ m := by omega
      by_cases c2 : k > 4096
      · rw [if_pos c2] at he
        obtain rfl : 2 = e := he
        have t4 : decide ((k : Int) > 4096) = true := decide_eq_true (by omega)
        refine fn_ret (N := _) Tryd.func18 rfl Tryd.ntmps18 Tryd.results18 (by simp) ?_
        simp only [initS, Nat.reduceAdd, Nat.zero_add]
        repeat' (first | (refine wlS ?_) | (refine wlB ?_) | ((with_reducible refine sel_call ?_); refine wl_rd rfl rfl (rd_call rfl rfl rfl (fun w hm => by with_reducible exact LN1 w (VwB.out w hm))) ?_) | (refine wlE ?_) | (refine efSvvp ?_; intro v hv hp) | (refine efSvao ?_; intro v oa ho) | ((with_reducible refine sel_slice ?_); first | (refine wl_subB (lo := 1) rfl rfl rfl rfl rfl rfl rfl rfl ?_; intro v hv hp)) | (refine efBnn ?_; intro n hn) | (refine efB ?_) | (refine efBS ?_) | (refine wl_skip rfl rfl ?_) | (refine wdS ?_) | (refine wdV ?_) | (refine wdB ?_) | ((with_reducible refine seld_call ?_); refine wd_rd hm0 rfl rfl rfl rfl (rd_call rfl rfl rfl (fun w hm => by with_reducible exact LN1 w (VwB.out w hm))) ?_) | (refine wdE ?_) | (refine wdT ?_) | (refine wdTO ?_) | (refine wd_skip rfl rfl ?_) | ((with_reducible refine seld_nil ?_); refine wd_nil hm0 ?_; clear hm0 hw0) | ((with_reducible refine wc_seq ?_); intro K hK) | (refine auC ?_) | (refine wc_cond rfl (fun hc => ?_) (fun hc => ?_)) | (refine wc_draw (by kernel_rfl) (by kernel_rfl) (by decide +kernel) ?_; intro w0 hw0 hm0; (try simp only [List.append_eq, List.cons_append, List.nil_append])) | (refine auP ?_) | ((refine auR ?_); clear hK K) | (refine auR ?_) | ((with_reducible refine hK _ _ ?_); clear hK K) | fail)
        first | refine end_ret (ResP.cell rfl ld_whole (ResP.tmp rfl (ResP.tmp rfl ResP.nil))) ?_ | refine end_normal (ResP.cell rfl ld_whole (ResP.tmp rfl (ResP.tmp rfl ResP.nil))) ?_
        first | rfl | (show _ = _; rfl) | (simp only [tupV, *]; done)
      · rw [if_neg c2] at he
        have t4 : decide ((k : Int) > 4096) = false := decide_eq_false (by omega)
        by_cases c3 : k > r.length - a
        · rw [if_pos c3] at he
          obtain rfl : 3 = e := he
          have t5 : decide ((k : Int) > ((m - (1 + a) : Nat) : Int)) = true := decide_eq_true (by omega)
          refine fn_ret (N := _) Tryd.func18 rfl Tryd.ntmps18 Tryd.results18 (by simp) ?_
          simp only [initS, Nat.reduceAdd, Nat.zero_add]
          repeat' (first | (refine wlS ?_) | (refine wlB ?_) | ((with_reducible refine sel_call ?_); refine wl_rd rfl rfl (rd_call rfl rfl rfl (fun w hm => by with_reducible exact LN1 w (VwB.out w hm))) ?_) | (refine wlE ?_) | (refine efSvvp ?_; intro v hv hp) | (refine efSvao ?_; intro v oa ho) | ((with_reducible refine sel_slice ?_); first | (refine wl_subB (lo := 1) rfl rfl rfl rfl rfl rfl rfl rfl ?_; intro v hv hp)) | (refine efBnn ?_; intro n hn) | (refine efB ?_) | (refine efBS ?_) | (refine wl_skip rfl rfl ?_) | (refine wdS ?_) | (refine wdV ?_) | (refine wdB ?_) | ((with_reducible refine seld_call ?_); refine wd_rd hm0 rfl rfl rfl rfl (rd_call rfl rfl rfl (fun w hm => by with_reducible exact LN1 w (VwB.out w hm))) ?_) | (refine wdE ?_) | (refine wdT ?_) | (refine wdTO ?_) | (refine wd_skip rfl rfl ?_) | ((with_reducible refine seld_nil ?_); refine wd_nil hm0 ?_; clear hm0 hw0) | ((with_reducible refine wc_seq ?_); intro K hK) | (refine auC ?_) | (refine wc_cond rfl (fun hc => ?_) (fun hc => ?_)) | (refine wc_draw (by kernel_rfl) (by kernel_rfl) (by decide +kernel) ?_; intro w0 hw0 hm0; (try simp only [List.append_eq, List.cons_append, List.nil_append])) | (refine auP ?_) | ((refine auR ?_); clear hK K) | (refine auR ?_) | ((with_reducible refine hK _ _ ?_); clear hK K) | fail)
          first | refine end_ret (ResP.cell rfl ld_whole (ResP.tmp rfl (ResP.tmp rfl ResP.nil))) ?_ | refine end_normal (ResP.cell rfl ld_whole (ResP.tmp rfl (ResP.tmp rfl ResP.nil))) ?_
          first | rfl | (show _ = _; rfl) | (simp only [tupV, *]; done)
        · rw [if_neg c3] at he
          exact absurd he.symm h0
set_option maxHeartbeats 4000000 in
theorem first_yes (w : World) {u : Value} {m c t0 : Nat} {p q : List Nat} (h : Cb w u m p) (he : firstD p = (0, (t0, q), c)) (hmm : m ≤ 1073741824) :
    Calls Tryd.prog 18 [u].toArray w (RetO (fun b : Value => .tuple #[.agg #[.int .u8 (t0 : Int), b], .int .i64 (c : Int), .int .i64 0]) (fun b oa => OwnB 5 b q.length q oa) w) := by
  have i0 := h.old
  have hpl := h.ok.len
  have hpb := h.ok.by'
  cases p with
  | nil => simp [firstD] at he
  | cons t r =>
    have t1 : ((m : Int) == 0) = false := by rw [← hpl]; simp only [beq_eq_false_iff_ne, ne_eq, List.length_cons]; omega
    have j0 : 0 < m := by rw [← hpl]; simp
    have j1 : 1 ≤ m := j0
    have d1 : ((t :: r).drop 1).take (m - 1) = r := by rw [List.drop_succ_cons, List.drop_zero]; exact List.take_of_length_le (by simp only [List.length_cons] at hpl; omega)
    have hrl : r.length = m - 1 := by simp only [List.length_cons] at hpl; omega
    obtain ⟨s1, s2, s3⟩ := lenD_small (r := r) (fun y hy => hpb y (by simp [hy]))
    rw [firstD_cons] at he
    have hat := fun h => lenD_at (r := r) h
    have LN1 : ∀ {v : Value} w', Cb w' v (m - 1) r → Calls Tryd.prog 23 [v].toArray w' (Ret (.tuple #[.int .i64 ((lenD r).2.1 : Int), .int .i64 ((lenD r).2.2 : Int), .int .i64 ((lenD r).1 : Int)]) w') := fun w' h => len_c w' h
    clear h
    generalize (lenD r).1 = e1 at *
    generalize (lenD r).2.1 = k at *
    generalize (lenD r).2.2 = a at *
    by_cases c1 : e1 ≠ 0
    · rw [if_pos c1] at he
      exact absurd (congrArg (·.1) he) c1
    rw [if_neg c1] at he
    by_cases c2 : k > 4096
    · rw [if_pos c2] at he; simp at he
    rw [if_neg c2] at he
    by_cases c3 : k > r.length - a
    · rw [if_pos c3] at he; simp at he
    rw [if_neg c3] at he
    simp only [Prod.mk.injEq, true_and] at he
    obtain ⟨⟨rfl, rfl⟩, rfl⟩ := he
    have c1' : e1 = 0 := Decidable.of_not_not c1
    obtain ⟨a1, a2, a3⟩ := hat c1'
    subst c1'
    have t2 : (((0 : Nat) : Int) != 0) = false := rfl
    have t3 : IntKind.i64.wrap (1 + (a : Int)) = ((1 + a : Nat) : Int) := by rw [wrap_i64 _ (by omega) (by omega)]; omega
    have d2 : 1 + a ≤ m := by omega
    have t4 : decide ((k : Int) > 4096) = false := decide_eq_false (by omega)
    have t5 : decide ((k : Int) > ((m - (1 + a) : Nat) : Int)) = false := decide_eq_false (by omega)
    have t6 : IntKind.i64.wrap (((1 + a : Nat) : Int) + (k : Int)) = ((1 + a + k : Nat) : Int) := by rw [wrap_i64 _ (by omega) (by omega)]; omega
    have g0 : (bl (t :: r))[0]? = some (.int .u8 (t : Int)) := rfl
    have d3 : ((t :: r).drop (1 + a)).take (m - (1 + a)) = r.drop a := by
      rw [Nat.add_comm 1 a, List.drop_succ_cons]; exact List.take_of_length_le (by rw [List.length_drop]; omega)
    have d4 : ((r.drop a).drop 0).take (k - 0) = (r.drop a).take k := by rw [List.drop_zero, Nat.sub_zero]
    have d5 : k - 0 = k := rfl
    have d6 : k ≤ m - (1 + a) := by omega
    have hl : ((r.drop a).take k).length = k := by rw [List.length_take, List.length_drop]; omega
    have onil : OwnB 5 (.slice none 0 0) 0 [] [] := ⟨OwnL.nil _ _, BL.nil⟩
    rw [hl]
    generalize (r.drop a).take k = z at *
    refine fn_own (N := _) Tryd.func18 rfl Tryd.ntmps18 Tryd.results18 (by simp) ?_
    simp only [initS, Nat.reduceAdd, Nat.zero_add]
    repeat' (first | (refine wlS ?_) | (refine wlB ?_) | ((with_reducible refine sel_call ?_); refine wl_rd rfl rfl (rd_call rfl rfl rfl (fun w hm => by with_reducible exact LN1 w (VwB.out w hm))) ?_) | (refine wlE ?_) | (refine efSvvp ?_; intro v hv hp) | (refine efSvao ?_; intro v oa ho) | ((with_reducible refine sel_slice ?_); first | (refine wl_subB (lo := 1) rfl rfl rfl rfl rfl rfl rfl rfl ?_; intro v hv hp)) | (refine efBnn ?_; intro n hn) | (refine efB ?_) | (refine efBS ?_) | (refine wl_skip rfl rfl ?_) | ((with_reducible refine wc_seq ?_); intro K hK) | (refine auC ?_) | (refine wc_cond rfl (fun hc => ?_) (fun hc => ?_)) | ((with_reducible refine wc_drawT (by kernel_rfl) ?_); (try simp only [List.append_eq, List.cons_append, List.nil_append, List.length_cons, List.length_nil, Nat.reduceAdd])) | ((with_reducible refine sel_wh ?_); (refine wh_if (by decide +kernel) ?_); first | (refine wh_take (lq := []) rfl rfl rfl rfl (by first | exact rvS | exact rvB | exact rvE) (Or.inl rfl) ?_) | (refine wh_takeL rfl rfl rfl rfl (by first | exact rvS | exact rvB | exact rvE) (by decide +kernel) ?_)) | (refine whS ?_; intro v hv hp) | ((with_reducible refine sel_wh ?_); first | (refine wh_pass rfl rfl rfl rfl ?_) | (refine wh_done rfl ?_) | (refine wh_all rfl ?_)) | ((with_reducible refine sel_rest ?_); first | exact rest_nil rfl | refine rest_cons rfl rfl ?_ ?_) | ((with_reducible refine sel_nx ?_); first | refine next_of ?_ | refine next_late (by decide +kernel) ?_) | (refine auP ?_) | ((refine auR ?_); clear hK K) | (refine auR ?_) | ((with_reducible refine hK _ _ ?_); clear hK K) | fail)
    all_goals refine end_ret (ResP.cell rfl ld_whole (ResP.tmp rfl (ResP.tmp rfl ResP.nil))) ?_
    all_goals (try dsimp only [tupV])
    all_goals exact ⟨_, _, rfl, by simpa using ho, .skip (SubL.refl _)⟩
end Go.Proofs.YtlpalhagndmpjaaDoor
