/- What arguments are that came in, with how much they hold: shapes built out of shapes. -/
import Derived.Test.YtglbnbdeoenilaaRows
import Derived.Test.YtglbnbdeoenilaaOwnB
import Derived.ChangeSlices
import Derived.OpenShut
import Derived.WideShapes
import Derived.DataReads
import Derived.ChangeSame
namespace Go.Proofs.Ytglbnbdeoenilaa
open Go.RowKit Go.ChangeShapes Go.WideShapes
set_option linter.unusedVariables false
set_option linter.unusedSimpArgs false
/-! ### Bulk -/
theorem bulk_one {H : Type} (d : DataW H) : 1 ≤ Rows.uptoBulk d := by
  cases d with
  | lit l => cases l <;> simp [Rows.uptoBulk]
  | _ => simp [Rows.uptoBulk]
theorem bulk_len {H : Type} : ∀ l : List (DataW H), l.length ≤ Rows.uptoBulkAll l
  | [] => Nat.zero_le _
  | d :: r => by have := bulk_one d; have := bulk_len r; simp only [Rows.uptoBulkAll, List.length_cons]; omega
theorem bulk_sum {H : Type} : ∀ l : List (DataW H), Rows.uptoBulkAll l = (l.map Rows.uptoBulk).sum
  | [] => rfl
  | d :: r => by simp only [Rows.uptoBulkAll, List.map_cons, List.sum_cons, bulk_sum r]
theorem bulk_slice {H : Type} (a b : List (DataW H)) : Rows.uptoBulkAll a + 1 ≤ Rows.uptoBulk (.slice a b) := by simp only [Rows.uptoBulk]; omega
theorem bulk_agg {H : Type} (a : List (DataW H)) : Rows.uptoBulk (.agg a) = Rows.uptoBulkAll a + 1 := by simp only [Rows.uptoBulk]
/-- Whatever is read as a 't' is so, and its bulk is the number's. -/
def Rdg (P : Program) (W : World) (t : TypeId) (F : List Value → Nat → Prop) : Prop :=
  ∀ (H : Type) (enc : TypeId × Value → H) fuel cs x, DataW.trod enc P W 0 (fun _ => true) true fuel t cs = some x → F cs (Rows.uptoBulk x.1)
section
variable {P : Program} {W : World} {t e : TypeId}
theorem Rdg.mono {F G : List Value → Nat → Prop} (h : Rdg P W t F) (hg : ∀ cs b, F cs b → G cs b) : Rdg P W t G := fun H enc fuel cs x hx => hg _ _ (h H enc fuel cs x hx)
theorem rdg_int {k : IntKind} (ht : P.underlying t = some (.int k)) : Rdg P W t fun cs b => ∃ z, cs = [.int k z] ∧ (Lit.int k z).wf = true := fun H enc fuel cs x hx => by
  obtain ⟨m, h1, h2, h3⟩ := DataW.trod_int ht hx
  exact ⟨m, h1, h3⟩
theorem spot_none {w : World} {a : Addr} {u : Value} (h : w.cell? a = some u) : a.spot = none := by
  simp only [World.cell?] at h
  split at h
  · cases hs : a.spot with
    | none => rfl
    | some x => simp [hs] at h
  · cases h
/-- A slice: its elements, each so read. -/
theorem rdg_slice {F : List Value → Nat → Prop} {k : Nat} (ht : P.underlying t = some (.slice e)) (hk : P.cellsOf e = k) (hpos : 0 < k) (hF : Rdg P W e F) :
    Rdg P W t fun cs b => ∃ v n, ∃ cc : List (List Value × Nat), cs = [v] ∧ cc.length = n ∧ (∀ c ∈ cc, F c.1 c.2 ∧ c.1.length = k) ∧ Cs W v n (cc.map (·.1)).flatten ∧ (cc.map (·.2)).sum + 1 ≤ b := fun H enc fuel cs x hx => by
  rcases DataW.trod_slice ht hx with ⟨rfl, rfl⟩ | ⟨a, len, cap, elems, rest, n, rfl, rfl, rfl, _, hl, hm, hlen, hel, _, _⟩
  · exact ⟨.slice none 0 0, 0, [], rfl, rfl, by simp, ⟨⟨none, 0, rfl, Nat.le_refl _, Nat.zero_le _, fun h => absurd h (by omega)⟩, fun j u h => by simp at h⟩, by simp [Rows.uptoBulk]⟩
  · have each : ∀ i, i < len → ∃ ci : List Value, W.cells? 0 (a.add (i * k)) k = some ci ∧ ∃ y, elems[i]? = some y ∧ DataW.trod enc P W 0 (fun _ => true) true n e ci = some y := fun i hi => by
      have h1 := hel i hi
      rw [hk, List.getElem?_eq_getElem (by omega), Option.bind_eq_some_iff] at h1
      obtain ⟨ci, h2, h3⟩ := h1
      exact ⟨ci, h2, elems[i]'(by omega), List.getElem?_eq_getElem (by omega), h3⟩
    let f : Nat → List Value := fun i => (W.cells? 0 (a.add (i * k)) k).getD []
    have hf : ∀ i, i < len → W.cells? 0 (a.add (i * k)) k = some (f i) := fun i hi => by
      obtain ⟨ci, h2, _⟩ := each i hi
      simp only [f, h2, Option.getD_some]
    have hfl : ∀ i, i < len → (f i).length = k := fun i hi => (World.cells?_some (hf i hi)).2.1
    refine ⟨.slice (some a) len cap, len, (List.range len).map fun i => (f i, Rows.uptoBulk ((elems.map (·.1)).getD i .nil)), rfl, by simp, ?_, ?_, ?_⟩
    · intro c hc
      obtain ⟨i, hi, rfl⟩ := List.mem_map.1 hc
      have hi := List.mem_range.1 hi
      refine ⟨?_, hfl i hi⟩
      obtain ⟨ci, h2, y, h3, h4⟩ := each i hi
      rw [hf i hi] at h2
      cases h2
      have : (elems.map (·.1)).getD i .nil = y.1 := by simp [List.getD, h3]
      dsimp only
      rw [this]
      exact hF H enc n _ y h4
    · have sp : 0 < len → a.spot = none := fun h0 => by
        have h1 := hf 0 h0
        rw [Nat.zero_mul] at h1
        have h2 := (World.cells?_some h1).2.2 0 hpos
        have hlt : 0 < (f 0).length := by rw [hfl 0 h0]; exact hpos
        rw [List.getElem?_eq_getElem hlt] at h2
        simpa [Addr.add] using spot_none h2
      have hfl' : (List.map (fun x => x.1) (List.map (fun i => (f i, Rows.uptoBulk ((elems.map (·.1)).getD i .nil))) (List.range len))).flatten = ((List.range len).map f).flatten := by rw [List.map_map]; rfl
      rw [hfl']
      refine ⟨⟨_, _, rfl, hl, hm, fun h0 => ?_⟩, fun j u hj => ?_⟩
      · obtain ⟨b, off, spot⟩ := a
        obtain rfl : spot = none := sp h0
        exact ⟨b, off, rfl⟩
      · have hfind : ∀ m, (∀ i, i < m → i < len) → ∀ j u, (((List.range m).map f).flatten)[j]? = some u → ∃ i, i < m ∧ i * k ≤ j ∧ j < i * k + k ∧ (f i)[j - i * k]? = some u := by
          intro m
          induction m with
          | zero => intro _ j u h; simp at h
          | succ m ih =>
            intro hm' j u h
            have hlm : (((List.range m).map f).flatten).length = m * k := by
              have : ∀ q, q ≤ m → (((List.range q).map f).flatten).length = q * k := fun q => by
                induction q with
                | zero => intro _; simp
                | succ q ihq => intro hq; rw [List.range_succ, List.map_append, List.flatten_append, List.length_append, ihq (by omega)]; simp [hfl q (hm' q (by omega)), Nat.succ_mul]
              exact this m (Nat.le_refl _)
            rw [List.range_succ, List.map_append, List.flatten_append] at h
            rcases Nat.lt_or_ge j (m * k) with hj | hj
            · rw [List.getElem?_append_left (by omega)] at h
              obtain ⟨i, h1, h2, h3, h4⟩ := ih (fun i hi => hm' i (by omega)) j u h
              exact ⟨i, by omega, h2, h3, h4⟩
            · rw [List.getElem?_append_right (by omega), hlm] at h
              simp only [List.map_cons, List.map_nil, List.flatten_cons, List.flatten_nil, List.append_nil] at h
              have hlt := (List.getElem?_eq_some_iff.1 h).1
              rw [hfl m (hm' m (by omega))] at hlt
              exact ⟨m, by omega, hj, by omega, h⟩
        obtain ⟨i, h1, h2, h3, h4⟩ := hfind len (fun i hi => hi) j u hj
        obtain ⟨b, off, spot⟩ := a
        obtain rfl : spot = none := sp (by omega)
        refine ⟨b, off, cap, rfl, ?_⟩
        have h5 := (World.cells?_some (hf i h1)).2.2 (j - i * k) (by omega)
        rw [Addr.add_mid, Addr.add_mid, h4] at h5
        rw [← h5]
        congr 2
        omega
    · have hb := bulk_slice (elems.map (·.1)) (rest.map (·.1))
      rw [bulk_sum] at hb
      have : (List.map (fun x => x.2) (List.map (fun i => (f i, Rows.uptoBulk ((elems.map (·.1)).getD i .nil))) (List.range len))) = (elems.map (·.1)).map Rows.uptoBulk := by
        rw [List.map_map]
        apply List.ext_getElem?
        intro i
        by_cases hi : i < len
        · simp [hi, hlen, List.getD]
        · simp [hi, hlen]
      rw [this]
      exact hb
/-- Bytes. -/
theorem rdg_bytes (ht : P.underlying t = some (.slice e)) (he : P.underlying e = some (.int .u8)) (hk : P.cellsOf e = 1) : Rdg P W t fun cs b => ∃ v n p, cs = [v] ∧ Cb W v n p ∧ n + 1 ≤ b := fun H enc fuel cs x hx => by
  obtain ⟨v, n, cc, h1, h2, h3, h4, h5⟩ := rdg_slice ht hk (by decide) (rdg_int he) H enc fuel cs x hx
  have hb : ∀ c ∈ cc, c.1 = [.int .u8 ((byteOf (c.1.headD undef) : Nat) : Int)] ∧ byteOf (c.1.headD undef) < 256 := fun c hc => by
    obtain ⟨⟨z, hz, hw⟩, _⟩ := h3 c hc
    simp [Lit.wf, IntKind.min, IntKind.max, IntKind.signed, IntKind.bits] at hw
    rw [hz]
    simp only [List.headD_cons, byteOf]
    refine ⟨by rw [Int.toNat_of_nonneg hw.1], by omega⟩
  have hfl : ∀ l : List (List Value × Nat), (∀ c ∈ l, c ∈ cc) → (l.map (·.1)).flatten = bl (l.map fun c => byteOf (c.1.headD undef)) := fun l => by
    induction l with
    | nil => intro _; rfl
    | cons c r ih => intro h; rw [List.map_cons, List.flatten_cons, ih fun d hd => h d (by simp [hd]), (hb c (h c (by simp))).1]; simp [bl, byteOf]
  have hsum : ∀ l : List (List Value × Nat), (∀ c ∈ l, c ∈ cc) → True := fun _ _ => trivial
  refine ⟨v, n, cc.map fun c => byteOf (c.1.headD undef), h1, ⟨by rw [← hfl cc fun _ h => h]; exact h4, ⟨by rw [List.length_map, h2], fun y hy => ?_⟩⟩, ?_⟩
  · obtain ⟨c, hc, rfl⟩ := List.mem_map.1 hy
    exact (hb c hc).2
  · rcases DataW.trod_slice ht hx with ⟨rfl, rfl⟩ | ⟨a, len, cap, elems, rest, m, rfl, rfl, rfl, _, hl, hm, hlen, hel, _, _⟩
    · obtain rfl : v = .slice none 0 0 := by simpa using h1.symm
      obtain ⟨_, _, hv, _⟩ := h4.ln.out
      injection hv with _ hn _
      subst hn
      simp [Rows.uptoBulk]
    · obtain ⟨_, _, hv, _⟩ := h4.ln.out
      have hv' : v = .slice (some a) len cap := by simpa using h1.symm
      rw [hv'] at hv
      injection hv with _ hn _
      subst hn
      have hb := bulk_slice (elems.map (·.1)) (rest.map (·.1))
      have := bulk_len (elems.map (·.1))
      simp only [List.length_map] at this
      dsimp only
      omega
theorem rdg_struct2 {f0 f1 : Field} {F0 F1 : List Value → Nat → Prop} (ht : P.underlying t = some (.struct #[f0, f1])) (h0 : Rdg P W f0.type F0) (h1 : Rdg P W f1.type F1) :
    Rdg P W t fun cs b => ∃ b0 b1, cs.length = P.cellsOf t ∧ F0 ((cs.drop f0.offset).take (P.cellsOf f0.type)) b0 ∧ F1 ((cs.drop f1.offset).take (P.cellsOf f1.type)) b1 ∧ b0 + b1 + 1 ≤ b := fun H enc fuel cs x hx => by
  obtain ⟨y0, y1, n, rfl, hl, e0, e1⟩ := trod_struct2 ht hx
  refine ⟨_, _, hl, h0 H enc n _ _ e0, h1 H enc n _ _ e1, ?_⟩
  rw [bulk_agg]
  simp only [Rows.uptoBulkAll]
  omega
/-- Of a struct the fields, each so read. -/
theorem rdg_struct {fs : Array Field} (ht : P.underlying t = some (.struct fs)) (F : Nat → List Value → Nat → Prop) (hF : ∀ i f, fs[i]? = some f → Rdg P W f.type (F i)) :
    Rdg P W t fun cs b => ∃ bs : List Nat, cs.length = P.cellsOf t ∧ bs.length = fs.size ∧ (∀ i f, fs[i]? = some f → F i ((cs.drop f.offset).take (P.cellsOf f.type)) (bs.getD i 0)) ∧ bs.sum + 1 ≤ b := fun H enc fuel cs x hx => by
  obtain ⟨xs, n, rfl, rfl, hl, hlen, hf⟩ := DataW.trod_struct ht hx
  refine ⟨xs.map fun y => Rows.uptoBulk y.1, hl, by simp [hlen], fun i f hi => ?_, ?_⟩
  · have h1 := hf i f hi
    have hlt : i < xs.length := by rw [hlen]; exact (Array.getElem?_eq_some_iff.1 hi).1
    rw [List.getElem?_eq_getElem hlt] at h1
    have := hF i f hi H enc n _ _ h1
    simpa [List.getD, hlt] using this
  · rw [bulk_agg, bulk_sum, List.map_map]
    exact Nat.le_refl _
end
section
variable {H : Type} {enc : TypeId × Value → H} {P : Program} {W : World}
/-- The top: one cell. -/
theorem open_cell {t : TypeId} {r : Reach} {b0 : Nat} {v : Value} {d : DataW H} {q : List MemPlace} {F : List Value → Nat → Prop} (hF : Rdg P W t F) (hv : v.cells = #[v]) (h : DataW.Trod enc P W 0 (fun _ => true) true t v d q) : F [v] (Rows.uptoBulk d) := by
  obtain ⟨fuel, hf⟩ := h
  have := hF H enc fuel _ _ hf
  rwa [hv] at this
theorem open_bl {t e : TypeId} {r : Reach} {b0 : Nat} {v : Value} {d : DataW H} {q : List MemPlace} (ht : P.underlying t = some (.slice e)) (he : P.underlying e = some (.int .u8)) (hk : P.cellsOf e = 1) (hv : Value.okWide P W r b0 t v) (h : DataW.Trod enc P W 0 (fun _ => true) true t v d q) :
    ∃ n p, Cb W v n p ∧ n + 1 ≤ Rows.uptoBulk d := by
  obtain ⟨a, len, cap, rfl⟩ := okWide_slice ht hv
  obtain ⟨v', n, p, h1, h2, h3⟩ := open_cell (r := r) (b0 := b0) (rdg_bytes ht he hk) rfl h
  cases h1
  exact ⟨n, p, h2, h3⟩
end
end Go.Proofs.Ytglbnbdeoenilaa
