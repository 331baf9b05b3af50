/- Plain laws of a desk: who logs in and out. What arguments are that came in, with how much they hold: shapes built out of shapes. Numbers of 256 bits as rows of four words: plain facts, no program in sight. What an argument is that came in: arrays of integers, numbers of 256 and 512 bits. Slices of bytes that come in as arguments; the builtin min; and, or, xor of int. A block of one's own, seen in a world. Slices of records of one shape: each a row of k cells. []Sitting that came in: three ints each. Pointers against nil. A desk's pointer against nil. Closed facts of the translation that hang on its long word of the order of beginnings: read once, by the signs of the word. slices.Sorted, maps.Keys, slices.Sort at int: the shelf's contracts laid at this seat's numbers (written by the kit's lay-plain.mjs; for another seat it is to be written anew: wip/tools/laykeys.sh). slices.Sorted(maps.Keys(m)) at int keys, in terms of the walk. The package login, walked: List. Plain laws of a desk: what is refused changes nothing; who is in is in for all; numbers. slices.Equal and slices.IsSorted at ints. -/
import Derived.Test.YthljhaioblcgfaaJnAA
import Derived.Test.YthljhaioblcgfaaRows
import Derived.Test.YthljhaioblcgfaaOwnB
import Derived.ChangeSlices
import Derived.OpenShut
import Derived.WideShapes
import Derived.DataReads
import Derived.ChangeSame
import Derived.WalkKit
import Derived.Test.YthljhaioblcgfaaCom
import Derived.ProofKit
import Derived.Test.YthljhaioblcgfaaLwDraw
import Derived.Below
import Derived.Test.YthljhaioblcgfaaLwH
import Derived.Test.YthljhaioblcgfaaTyS
import Derived.Test.YthljhaioblcgfaaProg
import Derived.JoinedOf
import Derived.Shelf.SlGeneric
import Derived.Shelf.SlIterI.Nil
import Derived.Shelf.SortM.Plain
import Derived.Shelf.SortM.SortNone
import Derived.Ground.GgzProg
import Derived.Ground.SlgmProg
namespace Go.Proofs.Ythljhaioblcgfaa
set_option linter.unusedVariables false
set_option linter.unusedSimpArgs false
theorem loginE_zero {D : Dk} {id role : Int} (h : loginE D id role = 0) : ∃ r, sget D.m id = some r ∧ (role = 1 ∨ role = 2) ∧ D.who = 0 := by
  unfold loginE at h
  split at h
  · cases h
  · rename_i h1
    split at h
    · cases h
    · rename_i h2
      split at h
      · cases h
      · rename_i h3
        obtain ⟨r, hr⟩ := Option.ne_none_iff_exists'.1 h1
        refine ⟨r, hr, ?_, ?_⟩
        · by_cases a : role = 1
          · exact .inl a
          · exact .inr (Decidable.byContradiction fun b => h2 ⟨a, b⟩)
        · exact Decidable.byContradiction fun b => h3 b
/-- Base of a session's state. -/
def stB (r : Bool) : Int := cond r 3 1
theorem stateN_some {D : Dk} {id : Int} {r : Bool} (h : sget D.m id = some r) : stateN D id = stB r + D.who := by
  unfold stateN; rw [h]; cases r <;> rfl
theorem stateE_some {D : Dk} {id : Int} {r : Bool} (h : sget D.m id = some r) : stateE D id = 0 := by unfold stateE; rw [if_neg (by rw [h]; simp)]
theorem loginD_zero {D : Dk} {id role : Int} (h : loginE D id role = 0) : loginD D id role = { D with who := role } := by unfold loginD; rw [if_pos h]
theorem logout_in {D : Dk} {id : Int} {r : Bool} (h : sget D.m id = some r) (hw : D.who ≠ 0) : logoutE D id = 0 ∧ logoutD D id = { D with who := 0 } := by
  have e : logoutE D id = 0 := by unfold logoutE; rw [if_neg (by rw [h]; simp), if_neg hw]
  exact ⟨e, by unfold logoutD; rw [if_pos e]⟩
end Go.Proofs.Ythljhaioblcgfaa
namespace Go.Proofs.Ythljhaioblcgfaa
open Go.RowKit Go.ChangeShapes Go.WideShapes
set_option linter.unusedVariables false
set_option linter.unusedSimpArgs false
/-! ### Bulk -/
theorem bulk_one {H : Type} (d : DataW H) : 1 ≤ Rows.uptoBulk d := by
  cases d with
  | lit l => cases l <;> simp [Rows.uptoBulk]
  | _ => simp [Rows.uptoBulk]
theorem bulk_len {H : Type} : ∀ l : List (DataW H), l.length ≤ Rows.uptoBulkAll l
  | [] => Nat.zero_le _
  | d :: r => by have := bulk_one d; have := bulk_len r; simp only [Rows.uptoBulkAll, List.length_cons]; omega
theorem bulk_sum {H : Type} : ∀ l : List (DataW H), Rows.uptoBulkAll l = (l.map Rows.uptoBulk).sum
  | [] => rfl
  | d :: r => by simp only [Rows.uptoBulkAll, List.map_cons, List.sum_cons, bulk_sum r]
theorem bulk_slice {H : Type} (a b : List (DataW H)) : Rows.uptoBulkAll a + 1 ≤ Rows.uptoBulk (.slice a b) := by simp only [Rows.uptoBulk]; omega
theorem bulk_agg {H : Type} (a : List (DataW H)) : Rows.uptoBulk (.agg a) = Rows.uptoBulkAll a + 1 := by simp only [Rows.uptoBulk]
/-- Whatever is read as a 't' is so, and its bulk is the number's. -/
def Rdg (P : Program) (W : World) (t : TypeId) (F : List Value → Nat → Prop) : Prop :=
  ∀ (H : Type) (enc : TypeId × Value → H) fuel cs x, DataW.trod enc P W 0 (fun _ => true) true fuel t cs = some x → F cs (Rows.uptoBulk x.1)
section
variable {P : Program} {W : World} {t e : TypeId}
theorem Rdg.mono {F G : List Value → Nat → Prop} (h : Rdg P W t F) (hg : ∀ cs b, F cs b → G cs b) : Rdg P W t G := fun H enc fuel cs x hx => hg _ _ (h H enc fuel cs x hx)
theorem rdg_int {k : IntKind} (ht : P.underlying t = some (.int k)) : Rdg P W t fun cs b => ∃ z, cs = [.int k z] ∧ (Lit.int k z).wf = true := fun H enc fuel cs x hx => by
  obtain ⟨m, h1, h2, h3⟩ := DataW.trod_int ht hx
  exact ⟨m, h1, h3⟩
theorem spot_none {w : World} {a : Addr} {u : Value} (h : w.cell? a = some u) : a.spot = none := by
  simp only [World.cell?] at h
  split at h
  · cases hs : a.spot with
    | none => rfl
    | some x => simp [hs] at h
  · cases h
/-- A slice: its elements, each so read. -/
theorem rdg_slice {F : List Value → Nat → Prop} {k : Nat} (ht : P.underlying t = some (.slice e)) (hk : P.cellsOf e = k) (hpos : 0 < k) (hF : Rdg P W e F) :
    Rdg P W t fun cs b => ∃ v n, ∃ cc : List (List Value × Nat), cs = [v] ∧ cc.length = n ∧ (∀ c ∈ cc, F c.1 c.2 ∧ c.1.length = k) ∧ Cs W v n (cc.map (·.1)).flatten ∧ (cc.map (·.2)).sum + 1 ≤ b := fun H enc fuel cs x hx => by
  rcases DataW.trod_slice ht hx with ⟨rfl, rfl⟩ | ⟨a, len, cap, elems, rest, n, rfl, rfl, rfl, _, hl, hm, hlen, hel, _, _⟩
  · exact ⟨.slice none 0 0, 0, [], rfl, rfl, by simp, ⟨⟨none, 0, rfl, Nat.le_refl _, Nat.zero_le _, fun h => absurd h (by omega)⟩, fun j u h => by simp at h⟩, by simp [Rows.uptoBulk]⟩
  · have each : ∀ i, i < len → ∃ ci : List Value, W.cells? 0 (a.add (i * k)) k = some ci ∧ ∃ y, elems[i]? = some y ∧ DataW.trod enc P W 0 (fun _ => true) true n e ci = some y := fun i hi => by
      have h1 := hel i hi
      rw [hk, List.getElem?_eq_getElem (by omega), Option.bind_eq_some_iff] at h1
      obtain ⟨ci, h2, h3⟩ := h1
      exact ⟨ci, h2, elems[i]'(by omega), List.getElem?_eq_getElem (by omega), h3⟩
    let f : Nat → List Value := fun i => (W.cells? 0 (a.add (i * k)) k).getD []
    have hf : ∀ i, i < len → W.cells? 0 (a.add (i * k)) k = some (f i) := fun i hi => by
      obtain ⟨ci, h2, _⟩ := each i hi
      simp only [f, h2, Option.getD_some]
    have hfl : ∀ i, i < len → (f i).length = k := fun i hi => (World.cells?_some (hf i hi)).2.1
    refine ⟨.slice (some a) len cap, len, (List.range len).map fun i => (f i, Rows.uptoBulk ((elems.map (·.1)).getD i .nil)), rfl, by simp, ?_, ?_, ?_⟩
    · intro c hc
      obtain ⟨i, hi, rfl⟩ := List.mem_map.1 hc
      have hi := List.mem_range.1 hi
      refine ⟨?_, hfl i hi⟩
      obtain ⟨ci, h2, y, h3, h4⟩ := each i hi
      rw [hf i hi] at h2
      cases h2
      have : (elems.map (·.1)).getD i .nil = y.1 := by simp [List.getD, h3]
      dsimp only
      rw [this]
      exact hF H enc n _ y h4
    · have sp : 0 < len → a.spot = none := fun h0 => by
        have h1 := hf 0 h0
        rw [Nat.zero_mul] at h1
        have h2 := (World.cells?_some h1).2.2 0 hpos
        have hlt : 0 < (f 0).length := by rw [hfl 0 h0]; exact hpos
        rw [List.getElem?_eq_getElem hlt] at h2
        simpa [Addr.add] using spot_none h2
      have hfl' : (List.map (fun x => x.1) (List.map (fun i => (f i, Rows.uptoBulk ((elems.map (·.1)).getD i .nil))) (List.range len))).flatten = ((List.range len).map f).flatten := by rw [List.map_map]; rfl
      rw [hfl']
      refine ⟨⟨_, _, rfl, hl, hm, fun h0 => ?_⟩, fun j u hj => ?_⟩
      · obtain ⟨b, off, spot⟩ := a
        obtain rfl : spot = none := sp h0
        exact ⟨b, off, rfl⟩
      · have hfind : ∀ m, (∀ i, i < m → i < len) → ∀ j u, (((List.range m).map f).flatten)[j]? = some u → ∃ i, i < m ∧ i * k ≤ j ∧ j < i * k + k ∧ (f i)[j - i * k]? = some u := by
          intro m
          induction m with
          | zero => intro _ j u h; simp at h
          | succ m ih =>
            intro hm' j u h
            have hlm : (((List.range m).map f).flatten).length = m * k := by
              have : ∀ q, q ≤ m → (((List.range q).map f).flatten).length = q * k := fun q => by
                induction q with
                | zero => intro _; simp
                | succ q ihq => intro hq; rw [List.range_succ, List.map_append, List.flatten_append, List.length_append, ihq (by omega)]; simp [hfl q (hm' q (by omega)), Nat.succ_mul]
              exact this m (Nat.le_refl _)
            rw [List.range_succ, List.map_append, List.flatten_append] at h
            rcases Nat.lt_or_ge j (m * k) with hj | hj
            · rw [List.getElem?_append_left (by omega)] at h
              obtain ⟨i, h1, h2, h3, h4⟩ := ih (fun i hi => hm' i (by omega)) j u h
              exact ⟨i, by omega, h2, h3, h4⟩
            · rw [List.getElem?_append_right (by omega), hlm] at h
              simp only [List.map_cons, List.map_nil, List.flatten_cons, List.flatten_nil, List.append_nil] at h
              have hlt := (List.getElem?_eq_some_iff.1 h).1
              rw [hfl m (hm' m (by omega))] at hlt
              exact ⟨m, by omega, hj, by omega, h⟩
        obtain ⟨i, h1, h2, h3, h4⟩ := hfind len (fun i hi => hi) j u hj
        obtain ⟨b, off, spot⟩ := a
        obtain rfl : spot = none := sp (by omega)
        refine ⟨b, off, cap, rfl, ?_⟩
        have h5 := (World.cells?_some (hf i h1)).2.2 (j - i * k) (by omega)
        rw [Addr.add_mid, Addr.add_mid, h4] at h5
        rw [← h5]
        congr 2
        omega
    · have hb := bulk_slice (elems.map (·.1)) (rest.map (·.1))
      rw [bulk_sum] at hb
      have : (List.map (fun x => x.2) (List.map (fun i => (f i, Rows.uptoBulk ((elems.map (·.1)).getD i .nil))) (List.range len))) = (elems.map (·.1)).map Rows.uptoBulk := by
        rw [List.map_map]
        apply List.ext_getElem?
        intro i
        by_cases hi : i < len
        · simp [hi, hlen, List.getD]
        · simp [hi, hlen]
      rw [this]
      exact hb
/-- Bytes. -/
theorem rdg_bytes (ht : P.underlying t = some (.slice e)) (he : P.underlying e = some (.int .u8)) (hk : P.cellsOf e = 1) : Rdg P W t fun cs b => ∃ v n p, cs = [v] ∧ Cb W v n p ∧ n + 1 ≤ b := fun H enc fuel cs x hx => by
  obtain ⟨v, n, cc, h1, h2, h3, h4, h5⟩ := rdg_slice ht hk (by decide) (rdg_int he) H enc fuel cs x hx
  have hb : ∀ c ∈ cc, c.1 = [.int .u8 ((byteOf (c.1.headD undef) : Nat) : Int)] ∧ byteOf (c.1.headD undef) < 256 := fun c hc => by
    obtain ⟨⟨z, hz, hw⟩, _⟩ := h3 c hc
    simp [Lit.wf, IntKind.min, IntKind.max, IntKind.signed, IntKind.bits] at hw
    rw [hz]
    simp only [List.headD_cons, byteOf]
    refine ⟨by rw [Int.toNat_of_nonneg hw.1], by omega⟩
  have hfl : ∀ l : List (List Value × Nat), (∀ c ∈ l, c ∈ cc) → (l.map (·.1)).flatten = bl (l.map fun c => byteOf (c.1.headD undef)) := fun l => by
    induction l with
    | nil => intro _; rfl
    | cons c r ih => intro h; rw [List.map_cons, List.flatten_cons, ih fun d hd => h d (by simp [hd]), (hb c (h c (by simp))).1]; simp [bl, byteOf]
  have hsum : ∀ l : List (List Value × Nat), (∀ c ∈ l, c ∈ cc) → True := fun _ _ => trivial
  refine ⟨v, n, cc.map fun c => byteOf (c.1.headD undef), h1, ⟨by rw [← hfl cc fun _ h => h]; exact h4, ⟨by rw [List.length_map, h2], fun y hy => ?_⟩⟩, ?_⟩
  · obtain ⟨c, hc, rfl⟩ := List.mem_map.1 hy
    exact (hb c hc).2
  · rcases DataW.trod_slice ht hx with ⟨rfl, rfl⟩ | ⟨a, len, cap, elems, rest, m, rfl, rfl, rfl, _, hl, hm, hlen, hel, _, _⟩
    · obtain rfl : v = .slice none 0 0 := by simpa using h1.symm
      obtain ⟨_, _, hv, _⟩ := h4.ln.out
      injection hv with _ hn _
      subst hn
      simp [Rows.uptoBulk]
    · obtain ⟨_, _, hv, _⟩ := h4.ln.out
      have hv' : v = .slice (some a) len cap := by simpa using h1.symm
      rw [hv'] at hv
      injection hv with _ hn _
      subst hn
      have hb := bulk_slice (elems.map (·.1)) (rest.map (·.1))
      have := bulk_len (elems.map (·.1))
      simp only [List.length_map] at this
      dsimp only
      omega
theorem rdg_struct2 {f0 f1 : Field} {F0 F1 : List Value → Nat → Prop} (ht : P.underlying t = some (.struct #[f0, f1])) (h0 : Rdg P W f0.type F0) (h1 : Rdg P W f1.type F1) :
    Rdg P W t fun cs b => ∃ b0 b1, cs.length = P.cellsOf t ∧ F0 ((cs.drop f0.offset).take (P.cellsOf f0.type)) b0 ∧ F1 ((cs.drop f1.offset).take (P.cellsOf f1.type)) b1 ∧ b0 + b1 + 1 ≤ b := fun H enc fuel cs x hx => by
  obtain ⟨y0, y1, n, rfl, hl, e0, e1⟩ := trod_struct2 ht hx
  refine ⟨_, _, hl, h0 H enc n _ _ e0, h1 H enc n _ _ e1, ?_⟩
  rw [bulk_agg]
  simp only [Rows.uptoBulkAll]
  omega
/-- Of a struct the fields, each so read. -/
theorem rdg_struct {fs : Array Field} (ht : P.underlying t = some (.struct fs)) (F : Nat → List Value → Nat → Prop) (hF : ∀ i f, fs[i]? = some f → Rdg P W f.type (F i)) :
    Rdg P W t fun cs b => ∃ bs : List Nat, cs.length = P.cellsOf t ∧ bs.length = fs.size ∧ (∀ i f, fs[i]? = some f → F i ((cs.drop f.offset).take (P.cellsOf f.type)) (bs.getD i 0)) ∧ bs.sum + 1 ≤ b := fun H enc fuel cs x hx => by
  obtain ⟨xs, n, rfl, rfl, hl, hlen, hf⟩ := DataW.trod_struct ht hx
  refine ⟨xs.map fun y => Rows.uptoBulk y.1, hl, by simp [hlen], fun i f hi => ?_, ?_⟩
  · have h1 := hf i f hi
    have hlt : i < xs.length := by rw [hlen]; exact (Array.getElem?_eq_some_iff.1 hi).1
    rw [List.getElem?_eq_getElem hlt] at h1
    have := hF i f hi H enc n _ _ h1
    simpa [List.getD, hlt] using this
  · rw [bulk_agg, bulk_sum, List.map_map]
    exact Nat.le_refl _
end
section
variable {H : Type} {enc : TypeId × Value → H} {P : Program} {W : World}
/-- The top: one cell. -/
theorem open_cell {t : TypeId} {r : Reach} {b0 : Nat} {v : Value} {d : DataW H} {q : List MemPlace} {F : List Value → Nat → Prop} (hF : Rdg P W t F) (hv : v.cells = #[v]) (h : DataW.Trod enc P W 0 (fun _ => true) true t v d q) : F [v] (Rows.uptoBulk d) := by
  obtain ⟨fuel, hf⟩ := h
  have := hF H enc fuel _ _ hf
  rwa [hv] at this
theorem open_bl {t e : TypeId} {r : Reach} {b0 : Nat} {v : Value} {d : DataW H} {q : List MemPlace} (ht : P.underlying t = some (.slice e)) (he : P.underlying e = some (.int .u8)) (hk : P.cellsOf e = 1) (hv : Value.okWide P W r b0 t v) (h : DataW.Trod enc P W 0 (fun _ => true) true t v d q) :
    ∃ n p, Cb W v n p ∧ n + 1 ≤ Rows.uptoBulk d := by
  obtain ⟨a, len, cap, rfl⟩ := okWide_slice ht hv
  obtain ⟨v', n, p, h1, h2, h3⟩ := open_cell (r := r) (b0 := b0) (rdg_bytes ht he hk) rfl h
  cases h1
  exact ⟨n, p, h2, h3⟩
end
end Go.Proofs.Ythljhaioblcgfaa
namespace Go.Proofs.Ythljhaioblcgfaa
open Go.RowKit

/-- A word of 64 bits. -/
def U (x : Int) : Prop := 0 ≤ x ∧ x < 18446744073709551616
def limb (n i : Nat) : Int := ((n / 2 ^ (64 * i) % 18446744073709551616 : Nat) : Int)
abbrev num (n : Nat) : Value := .agg #[.int .u64 (limb n 0), .int .u64 (limb n 1), .int .u64 (limb n 2), .int .u64 (limb n 3)]
abbrev wide (n : Nat) : Value := .agg #[.int .u64 (limb n 0), .int .u64 (limb n 1), .int .u64 (limb n 2), .int .u64 (limb n 3), .int .u64 (limb n 4), .int .u64 (limb n 5), .int .u64 (limb n 6), .int .u64 (limb n 7)]
def T256 : Nat := 115792089237316195423570985008687907853269984665640564039457584007913129639936
/-- Less than 2^256, by what it is. -/
class SmT (a : Nat) : Prop where
  out : a < T256
def T512 : Nat := T256 * T256
theorem T256_eq : T256 = 2 ^ 256 := by decide +kernel
theorem T512_eq : T512 = 2 ^ 512 := by decide +kernel

theorem limb_U (n i : Nat) : U (limb n i) := by
  unfold limb U
  have := Nat.mod_lt (n / 2 ^ (64 * i)) (show 0 < 18446744073709551616 by omega)
  omega
theorem limb_nonneg (n i : Nat) : 0 ≤ limb n i := (limb_U n i).1

def sumLo (x y c : Int) : Int := (x + y + c) % 18446744073709551616
def sumHi (x y c : Int) : Int := (x + y + c) / 18446744073709551616
def subLo (x y c : Int) : Int := (x - y - c) % 18446744073709551616
def subHi (x y c : Int) : Int := if x < y + c then 1 else 0
theorem sumHi_bd {x y c : Int} (hx : U x) (hy : U y) (h0 : 0 ≤ c) (h1 : c ≤ 1) : 0 ≤ sumHi x y c ∧ sumHi x y c ≤ 1 := by
  unfold sumHi U at *; omega
theorem subHi_bd (x y c : Int) : 0 ≤ subHi x y c ∧ subHi x y c ≤ 1 := by
  unfold subHi; split <;> omega

/-- A number below 2^256 out of its four words. -/
def four (a0 a1 a2 a3 : Nat) : Nat := a0 + 18446744073709551616 * a1 + 340282366920938463463374607431768211456 * a2 + 6277101735386680763835789423207666416102355444464034512896 * a3
theorem limb0 (n : Nat) : limb n 0 = ((n % 18446744073709551616 : Nat) : Int) := by unfold limb; simp
theorem limb1 (n : Nat) : limb n 1 = ((n / 18446744073709551616 % 18446744073709551616 : Nat) : Int) := by unfold limb; simp
theorem limb2 (n : Nat) : limb n 2 = ((n / 340282366920938463463374607431768211456 % 18446744073709551616 : Nat) : Int) := by unfold limb; simp
theorem limb3 (n : Nat) : limb n 3 = ((n / 6277101735386680763835789423207666416102355444464034512896 % 18446744073709551616 : Nat) : Int) := by unfold limb; simp
theorem limb4 (n : Nat) : limb n 4 = ((n / T256 % 18446744073709551616 : Nat) : Int) := by unfold limb T256; simp
theorem limb_shift4 (n i : Nat) : limb n (i + 4) = limb (n / T256) i := by
  unfold limb
  rw [Nat.div_div_eq_div_mul, T256_eq, ← Nat.pow_add, show 64 * (i + 4) = 256 + 64 * i by omega]
theorem limb_four (a0 a1 a2 a3 : Nat) (h0 : a0 < 18446744073709551616) (h1 : a1 < 18446744073709551616) (h2 : a2 < 18446744073709551616) (h3 : a3 < 18446744073709551616) :
    limb (four a0 a1 a2 a3) 0 = a0 ∧ limb (four a0 a1 a2 a3) 1 = a1 ∧ limb (four a0 a1 a2 a3) 2 = a2 ∧ limb (four a0 a1 a2 a3) 3 = a3 := by
  rw [limb0, limb1, limb2, limb3]; unfold four
  refine ⟨?_, ?_, ?_, ?_⟩ <;> (congr 1; omega)
theorem four_lt (a0 a1 a2 a3 : Nat) (h0 : a0 < 18446744073709551616) (h1 : a1 < 18446744073709551616) (h2 : a2 < 18446744073709551616) (h3 : a3 < 18446744073709551616) : four a0 a1 a2 a3 < T256 := by
  unfold four T256; omega
/-- Every number below 2^256 is four words. -/
theorem four_of (n : Nat) (h : n < T256) : ∃ a0 a1 a2 a3, a0 < 18446744073709551616 ∧ a1 < 18446744073709551616 ∧ a2 < 18446744073709551616 ∧ a3 < 18446744073709551616 ∧ n = four a0 a1 a2 a3 := by
  refine ⟨n % 18446744073709551616, n / 18446744073709551616 % 18446744073709551616, n / 340282366920938463463374607431768211456 % 18446744073709551616, n / 6277101735386680763835789423207666416102355444464034512896 % 18446744073709551616, ?_, ?_, ?_, ?_, ?_⟩
  all_goals unfold T256 at h
  all_goals first | omega | (unfold four; omega)
theorem num_of (x0 x1 x2 x3 : Int) (h0 : U x0) (h1 : U x1) (h2 : U x2) (h3 : U x3) : ∃ n, n < T256 ∧ x0 = limb n 0 ∧ x1 = limb n 1 ∧ x2 = limb n 2 ∧ x3 = limb n 3 := by
  obtain ⟨a0, rfl⟩ := Int.eq_ofNat_of_zero_le h0.1
  obtain ⟨a1, rfl⟩ := Int.eq_ofNat_of_zero_le h1.1
  obtain ⟨a2, rfl⟩ := Int.eq_ofNat_of_zero_le h2.1
  obtain ⟨a3, rfl⟩ := Int.eq_ofNat_of_zero_le h3.1
  unfold U at *
  have k := limb_four a0 a1 a2 a3 (by omega) (by omega) (by omega) (by omega)
  exact ⟨four a0 a1 a2 a3, four_lt _ _ _ _ (by omega) (by omega) (by omega) (by omega), k.1.symm, k.2.1.symm, k.2.2.1.symm, k.2.2.2.symm⟩
/-- Two numbers with the same words are one. -/
theorem num_inj {a b : Nat} (ha : a < T256) (hb : b < T256) (h0 : limb a 0 = limb b 0) (h1 : limb a 1 = limb b 1) (h2 : limb a 2 = limb b 2) (h3 : limb a 3 = limb b 3) : a = b := by
  obtain ⟨a0, a1, a2, a3, k0, k1, k2, k3, rfl⟩ := four_of a ha
  obtain ⟨b0, b1, b2, b3, l0, l1, l2, l3, rfl⟩ := four_of b hb
  have k := limb_four a0 a1 a2 a3 k0 k1 k2 k3
  have l := limb_four b0 b1 b2 b3 l0 l1 l2 l3
  rw [k.1, l.1] at h0; rw [k.2.1, l.2.1] at h1; rw [k.2.2.1, l.2.2.1] at h2; rw [k.2.2.2, l.2.2.2] at h3
  obtain rfl := Int.ofNat.inj h0; obtain rfl := Int.ofNat.inj h1; obtain rfl := Int.ofNat.inj h2; obtain rfl := Int.ofNat.inj h3
  rfl

/-- Two halves make a wide one. -/
theorem limb_lo (n m i : Nat) (hi : i < 4) : limb (n % T256 + T256 * m) i = limb n i := by
  unfold limb
  congr 1
  rw [T256_eq]
  have e : 2 ^ 256 = 2 ^ (64 * i) * (18446744073709551616 * 2 ^ (192 - 64 * i)) := by
    rw [show (18446744073709551616 : Nat) = 2 ^ 64 by decide, ← Nat.pow_add, ← Nat.pow_add]; congr 1; omega
  have h1 : (n % 2 ^ 256 + 2 ^ 256 * m) / 2 ^ (64 * i) = n % 2 ^ 256 / 2 ^ (64 * i) + 18446744073709551616 * (2 ^ (192 - 64 * i) * m) := by
    rw [show 2 ^ 256 * m = 2 ^ (64 * i) * (18446744073709551616 * (2 ^ (192 - 64 * i) * m)) by conv => lhs; rw [e]; simp only [Nat.mul_assoc], Nat.add_mul_div_left _ _ (Nat.two_pow_pos _)]
  rw [h1, Nat.add_mul_mod_self_left]
  conv => lhs; rw [e, Nat.mod_mul_right_div_self]
  rw [Nat.mod_mul_right_mod]
theorem limb_hi (n m i : Nat) (hn : n < T256) : limb (n + T256 * m) (i + 4) = limb m i := by
  rw [limb_shift4, Nat.add_mul_div_left _ _ (by unfold T256; omega), Nat.div_eq_of_lt hn, Nat.zero_add]
theorem limb_two (n m : Nat) (hn : n < T256) : limb (n + T256 * m) 0 = limb n 0 ∧ limb (n + T256 * m) 1 = limb n 1 ∧ limb (n + T256 * m) 2 = limb n 2 ∧ limb (n + T256 * m) 3 = limb n 3 ∧
    limb (n + T256 * m) 4 = limb m 0 ∧ limb (n + T256 * m) 5 = limb m 1 ∧ limb (n + T256 * m) 6 = limb m 2 ∧ limb (n + T256 * m) 7 = limb m 3 := by
  have a := limb_lo n m 0 (by omega)
  have b := limb_lo n m 1 (by omega)
  have c := limb_lo n m 2 (by omega)
  have d := limb_lo n m 3 (by omega)
  rw [Nat.mod_eq_of_lt hn] at a b c d
  exact ⟨a, b, c, d, limb_hi n m 0 hn, limb_hi n m 1 hn, limb_hi n m 2 hn, limb_hi n m 3 hn⟩
theorem two_lt (n m : Nat) (hn : n < T256) (hm : m < T256) : n + T256 * m < T512 := by
  have : T256 * (m + 1) ≤ T256 * T256 := Nat.mul_le_mul_left _ hm
  unfold T512
  rw [Nat.mul_add] at this
  omega
/-- What was added is taken off, and the other way round. -/
theorem add_sub_back {T a b s c d t : Nat} (ha : a < T) (hb : b < T) (h1 : Hid (s = (a + b) % T ∧ c = (a + b) / T)) (h2 : Hid (d = (s + T - b) % T ∧ t = if s < b then 1 else 0)) : d = a ∧ t = c := by
  have ⟨e1, e2⟩ := h1.out
  have ⟨e3, e4⟩ := h2.out
  clear h1 h2
  have z : 0 < T := by omega
  by_cases h : a + b < T
  · rw [Nat.mod_eq_of_lt h] at e1; rw [Nat.div_eq_of_lt h] at e2
    subst e1 e2
    rw [if_neg (by omega)] at e4
    rw [show a + b + T - b = a + T by omega, Nat.add_mod_right, Nat.mod_eq_of_lt ha] at e3
    exact ⟨e3, e4⟩
  · have k : (a + b) = (a + b - T) + T * 1 := by omega
    rw [k, Nat.add_mul_mod_self_left, Nat.mod_eq_of_lt (by omega)] at e1
    rw [k, Nat.add_mul_div_left _ _ z, Nat.div_eq_of_lt (by omega)] at e2
    subst e1 e2
    rw [if_pos (by omega)] at e4
    rw [show a + b - T + T - b = a by omega, Nat.mod_eq_of_lt ha] at e3
    exact ⟨e3, by omega⟩
theorem sub_add_back {T a b s c d t : Nat} (ha : a < T) (hb : b < T) (h1 : Hid (s = (a + T - b) % T ∧ c = if a < b then 1 else 0)) (h2 : Hid (d = (s + b) % T ∧ t = (s + b) / T)) : d = a ∧ t = c := by
  have ⟨e1, e2⟩ := h1.out
  have ⟨e3, e4⟩ := h2.out
  clear h1 h2
  have z : 0 < T := by omega
  by_cases h : a < b
  · rw [Nat.mod_eq_of_lt (by omega)] at e1; rw [if_pos h] at e2
    subst e1 e2
    rw [show a + T - b + b = a + T * 1 by omega] at e3 e4
    rw [Nat.add_mul_mod_self_left, Nat.mod_eq_of_lt ha] at e3
    rw [Nat.add_mul_div_left _ _ z, Nat.div_eq_of_lt ha] at e4
    exact ⟨e3, by omega⟩
  · rw [show a + T - b = a - b + T by omega, Nat.add_mod_right, Nat.mod_eq_of_lt (by omega)] at e1; rw [if_neg h] at e2
    subst e1 e2
    rw [show a - b + b = a by omega] at e3 e4
    rw [Nat.mod_eq_of_lt ha] at e3
    rw [Nat.div_eq_of_lt ha] at e4
    exact ⟨e3, e4⟩

/-- ADD: the four steps make the sum. -/
theorem add_law (a b : Nat) (ha : a < T256) (hb : b < T256) (c0 c1 c2 : Int) (e0 : c0 = sumHi (limb a 0) (limb b 0) 0) (e1 : c1 = sumHi (limb a 1) (limb b 1) c0) (e2 : c2 = sumHi (limb a 2) (limb b 2) c1) :
    limb ((a + b) % T256) 0 = sumLo (limb a 0) (limb b 0) 0 ∧ limb ((a + b) % T256) 1 = sumLo (limb a 1) (limb b 1) c0 ∧ limb ((a + b) % T256) 2 = sumLo (limb a 2) (limb b 2) c1 ∧
    limb ((a + b) % T256) 3 = sumLo (limb a 3) (limb b 3) c2 ∧ (((a + b) / T256 : Nat) : Int) = sumHi (limb a 3) (limb b 3) c2 := by
  obtain ⟨a0, a1, a2, a3, k0, k1, k2, k3, rfl⟩ := four_of a ha
  obtain ⟨b0, b1, b2, b3, l0, l1, l2, l3, rfl⟩ := four_of b hb
  have k := limb_four a0 a1 a2 a3 k0 k1 k2 k3
  have l := limb_four b0 b1 b2 b3 l0 l1 l2 l3
  rw [k.1, l.1] at e0; rw [k.2.1, l.2.1] at e1; rw [k.2.2.1, l.2.2.1] at e2; rw [k.1, l.1, k.2.1, l.2.1, k.2.2.1, l.2.2.1, k.2.2.2, l.2.2.2]
  clear k l
  obtain ⟨s0, t0, hs0, hs0', ht0⟩ : ∃ s t : Nat, a0 + b0 = s + 18446744073709551616 * t ∧ s < 18446744073709551616 ∧ t ≤ 1 := ⟨(a0 + b0) % 18446744073709551616, (a0 + b0) / 18446744073709551616, by omega, by omega, by omega⟩
  obtain ⟨s1, t1, hs1, hs1', ht1⟩ : ∃ s t : Nat, a1 + b1 + t0 = s + 18446744073709551616 * t ∧ s < 18446744073709551616 ∧ t ≤ 1 := ⟨(a1 + b1 + t0) % 18446744073709551616, (a1 + b1 + t0) / 18446744073709551616, by omega, by omega, by omega⟩
  obtain ⟨s2, t2, hs2, hs2', ht2⟩ : ∃ s t : Nat, a2 + b2 + t1 = s + 18446744073709551616 * t ∧ s < 18446744073709551616 ∧ t ≤ 1 := ⟨(a2 + b2 + t1) % 18446744073709551616, (a2 + b2 + t1) / 18446744073709551616, by omega, by omega, by omega⟩
  obtain ⟨s3, t3, hs3, hs3', ht3⟩ : ∃ s t : Nat, a3 + b3 + t2 = s + 18446744073709551616 * t ∧ s < 18446744073709551616 ∧ t ≤ 1 := ⟨(a3 + b3 + t2) % 18446744073709551616, (a3 + b3 + t2) / 18446744073709551616, by omega, by omega, by omega⟩
  have hsum : four a0 a1 a2 a3 + four b0 b1 b2 b3 = four s0 s1 s2 s3 + T256 * t3 := by unfold four T256; omega
  have hlt := four_lt s0 s1 s2 s3 hs0' hs1' hs2' hs3'
  have hm : (four a0 a1 a2 a3 + four b0 b1 b2 b3) % T256 = four s0 s1 s2 s3 := by rw [hsum, Nat.add_mul_mod_self_left, Nat.mod_eq_of_lt hlt]
  have hd : (four a0 a1 a2 a3 + four b0 b1 b2 b3) / T256 = t3 := by
    rw [hsum, Nat.add_mul_div_left _ _ (by unfold T256; omega), Nat.div_eq_of_lt hlt]; omega
  rw [hm, hd]
  have m := limb_four s0 s1 s2 s3 hs0' hs1' hs2' hs3'
  rw [m.1, m.2.1, m.2.2.1, m.2.2.2]
  unfold sumHi at e0; obtain rfl : c0 = (t0 : Int) := by omega
  unfold sumHi at e1; obtain rfl : c1 = (t1 : Int) := by omega
  unfold sumHi at e2; obtain rfl : c2 = (t2 : Int) := by omega
  unfold sumLo sumHi
  omega

/-- SUB: the four steps make the difference. -/
theorem sub_law (a b : Nat) (ha : a < T256) (hb : b < T256) (c0 c1 c2 : Int) (e0 : c0 = subHi (limb a 0) (limb b 0) 0) (e1 : c1 = subHi (limb a 1) (limb b 1) c0) (e2 : c2 = subHi (limb a 2) (limb b 2) c1) :
    limb ((a + T256 - b) % T256) 0 = subLo (limb a 0) (limb b 0) 0 ∧ limb ((a + T256 - b) % T256) 1 = subLo (limb a 1) (limb b 1) c0 ∧ limb ((a + T256 - b) % T256) 2 = subLo (limb a 2) (limb b 2) c1 ∧
    limb ((a + T256 - b) % T256) 3 = subLo (limb a 3) (limb b 3) c2 ∧ (if a < b then 1 else 0 : Int) = subHi (limb a 3) (limb b 3) c2 := by
  obtain ⟨a0, a1, a2, a3, k0, k1, k2, k3, rfl⟩ := four_of a ha
  obtain ⟨b0, b1, b2, b3, l0, l1, l2, l3, rfl⟩ := four_of b hb
  have k := limb_four a0 a1 a2 a3 k0 k1 k2 k3
  have l := limb_four b0 b1 b2 b3 l0 l1 l2 l3
  rw [k.1, l.1] at e0; rw [k.2.1, l.2.1] at e1; rw [k.2.2.1, l.2.2.1] at e2; rw [k.1, l.1, k.2.1, l.2.1, k.2.2.1, l.2.2.1, k.2.2.2, l.2.2.2]
  clear k l
  have step : ∀ x y c : Nat, x < 18446744073709551616 → y < 18446744073709551616 → c ≤ 1 → ∃ s t : Nat, x + 18446744073709551616 * t = s + y + c ∧ s < 18446744073709551616 ∧ t ≤ 1 ∧ subLo x y c = s ∧ subHi x y c = t := by
    intro x y c hx hy hc
    unfold subLo subHi
    by_cases h : x < y + c
    · exact ⟨x + 18446744073709551616 - y - c, 1, by omega, by omega, by omega, by omega, by rw [if_pos (by omega)]; rfl⟩
    · exact ⟨x - y - c, 0, by omega, by omega, by omega, by omega, by rw [if_neg (by omega)]; rfl⟩
  obtain ⟨s0, t0, hs0, hs0', ht0, m0, n0⟩ := step a0 b0 0 k0 l0 (by omega)
  obtain ⟨s1, t1, hs1, hs1', ht1, m1, n1⟩ := step a1 b1 t0 k1 l1 ht0
  obtain ⟨s2, t2, hs2, hs2', ht2, m2, n2⟩ := step a2 b2 t1 k2 l2 ht1
  obtain ⟨s3, t3, hs3, hs3', ht3, m3, n3⟩ := step a3 b3 t2 k3 l3 ht2
  clear step
  have e0' : c0 = (t0 : Int) := e0.trans n0
  subst e0'
  have e1' : c1 = (t1 : Int) := e1.trans n1
  subst e1'
  have e2' : c2 = (t2 : Int) := e2.trans n2
  subst e2'
  clear e0 e1 e2 n0 n1 n2
  have z : ((0 : Nat) : Int) = 0 := rfl
  rw [z] at m0
  rw [m0, m1, m2, m3, n3]
  have hsum : four a0 a1 a2 a3 + T256 * t3 = four s0 s1 s2 s3 + four b0 b1 b2 b3 := by unfold four T256; omega
  have hlt := four_lt s0 s1 s2 s3 hs0' hs1' hs2' hs3'
  have hm : (four a0 a1 a2 a3 + T256 - four b0 b1 b2 b3) % T256 = four s0 s1 s2 s3 := by
    have : t3 = 0 ∨ t3 = 1 := by omega
    rcases this with rfl | rfl
    · rw [show four a0 a1 a2 a3 + T256 - four b0 b1 b2 b3 = four s0 s1 s2 s3 + T256 * 1 by omega, Nat.add_mul_mod_self_left, Nat.mod_eq_of_lt hlt]
    · rw [show four a0 a1 a2 a3 + T256 - four b0 b1 b2 b3 = four s0 s1 s2 s3 by omega, Nat.mod_eq_of_lt hlt]
  rw [hm]
  have m := limb_four s0 s1 s2 s3 hs0' hs1' hs2' hs3'
  rw [m.1, m.2.1, m.2.2.1, m.2.2.2]
  refine ⟨rfl, rfl, rfl, rfl, ?_⟩
  have : t3 = 0 ∨ t3 = 1 := by omega
  rcases this with rfl | rfl
  · rw [if_neg (by omega)]; rfl
  · rw [if_pos (by omega)]; rfl
end Go.Proofs.Ythljhaioblcgfaa
namespace Go.Proofs.Ythljhaioblcgfaa
open Go.RowKit Go.ChangeShapes Go.WideShapes Go.ChangeAt
section
variable {H : Type} {enc : TypeId × Value → H} {P : Program} {w : World} {base : Nat} {spare : Nat → Bool} {held : Bool}
theorem okWide_array {t e : TypeId} {n : Nat} {r : Reach} {b0 : Nat} {v : Value} (ht : P.underlying t = some (.array n e)) (h : Value.okWide P w r b0 t v) : ∃ cs, v = .agg cs ∧ cs.size = P.cellsOf t := by
  simp only [Value.okWide, ht] at h
  obtain ⟨cs, h1, h2, _⟩ := h
  exact ⟨cs, h1, h2⟩
def intAt (cs : List Value) (i : Nat) : Int := match cs[i]? with | some (.int _ z) => z | _ => 0
/-- The cells of an array of integers. -/
theorem cells_ints {t e : TypeId} {n : Nat} {k : IntKind} {cs : List Value} {fuel : Nat} {x : DataW H × List MemPlace} (ht : P.underlying t = some (.array n e)) (he : P.underlying e = some (.int k)) (hce : P.cellsOf e = 1) (hct : P.cellsOf t = n)
    (h : DataW.trod enc P w base spare held fuel t cs = some x) : ∃ zs : List Int, zs.length = n ∧ cs = zs.map (Value.int k) ∧ ∀ z ∈ zs, (Lit.int k z).wf = true := by
  obtain ⟨xs, m, _, _, hl, hx, hf⟩ := DataW.trod_array ht h
  rw [hct] at hl
  have key : ∀ i, i < n → ∃ z, cs[i]? = some (.int k z) ∧ (Lit.int k z).wf = true := by
    intro i hi
    have := hf i hi
    rw [hce, Nat.mul_one, List.getElem?_eq_getElem (by omega)] at this
    obtain ⟨z, hc, _, hz⟩ := DataW.trod_int he this
    refine ⟨z, ?_, hz⟩
    have := congrArg (·[0]?) hc
    simpa [List.getElem?_take, List.getElem?_drop] using this
  refine ⟨(List.range n).map (intAt cs), by simp, ?_, ?_⟩
  · apply List.ext_getElem?
    intro i
    by_cases hi : i < n
    · obtain ⟨z, hz, _⟩ := key i hi
      simp [hi, intAt, hz]
    · simp only [List.map_map, List.getElem?_map]
      rw [List.getElem?_eq_none (by omega), List.getElem?_eq_none (by simp; omega)]
      rfl
  · intro z hz
    obtain ⟨i, hi, rfl⟩ := List.mem_map.1 hz
    obtain ⟨z, hz, hw⟩ := key i (List.mem_range.1 hi)
    simpa [intAt, hz] using hw
theorem open_array {t e : TypeId} {n : Nat} {k : IntKind} {r : Reach} {b0 : Nat} {v : Value} {d : DataW H} {p : List MemPlace} (ht : P.underlying t = some (.array n e)) (he : P.underlying e = some (.int k)) (hce : P.cellsOf e = 1) (hct : P.cellsOf t = n)
    (hv : Value.okWide P w r b0 t v) (h : DataW.Trod enc P w base spare held t v d p) : ∃ zs : List Int, zs.length = n ∧ v = .agg (zs.map (Value.int k)).toArray ∧ ∀ z ∈ zs, (Lit.int k z).wf = true := by
  obtain ⟨cs, rfl, _⟩ := okWide_array ht hv
  obtain ⟨fuel, hf⟩ := h
  obtain ⟨zs, h1, h2, h3⟩ := cells_ints ht he hce hct (cs := cs.toList) (by simpa [Value.cells] using hf)
  refine ⟨zs, h1, ?_, h3⟩
  rw [← h2]
theorem wf_U {z : Int} (h : (Lit.int .u64 z).wf = true) : U z := by
  simp [Lit.wf, IntKind.min, IntKind.max, IntKind.signed, IntKind.bits] at h
  exact ⟨h.1, by omega⟩
theorem len4 {α : Type} {l : List α} (h : l.length = 4) : ∃ a b c d, l = [a, b, c, d] := by
  match l, h with | [a, b, c, d], _ => exact ⟨a, b, c, d, rfl⟩
theorem len8 {α : Type} {l : List α} (h : l.length = 8) : ∃ a b c d e f g i, l = [a, b, c, d, e, f, g, i] := by
  match l, h with | [a, b, c, d, e, f, g, i], _ => exact ⟨a, b, c, d, e, f, g, i, rfl⟩
theorem num_list {zs : List Int} (hl : zs.length = 4) (hz : ∀ z ∈ zs, (Lit.int .u64 z).wf = true) : ∃ n, n < T256 ∧ Value.agg (zs.map (Value.int .u64)).toArray = num n := by
  obtain ⟨a, b, c, d, rfl⟩ := len4 hl
  obtain ⟨n, hn, h0, h1, h2, h3⟩ := num_of a b c d (wf_U (hz a (by simp))) (wf_U (hz b (by simp))) (wf_U (hz c (by simp))) (wf_U (hz d (by simp)))
  refine ⟨n, hn, ?_⟩
  rw [h0, h1, h2, h3]
  rfl
theorem wide_list {zs : List Int} (hl : zs.length = 8) (hz : ∀ z ∈ zs, (Lit.int .u64 z).wf = true) : ∃ n, n < T512 ∧ Value.agg (zs.map (Value.int .u64)).toArray = wide n := by
  obtain ⟨a, b, c, d, e, f, g, i, rfl⟩ := len8 hl
  obtain ⟨n, hn, h0, h1, h2, h3⟩ := num_of a b c d (wf_U (hz a (by simp))) (wf_U (hz b (by simp))) (wf_U (hz c (by simp))) (wf_U (hz d (by simp)))
  obtain ⟨m, hm, k0, k1, k2, k3⟩ := num_of e f g i (wf_U (hz e (by simp))) (wf_U (hz f (by simp))) (wf_U (hz g (by simp))) (wf_U (hz i (by simp)))
  have s := limb_two n m hn
  refine ⟨n + T256 * m, two_lt n m hn hm, ?_⟩
  rw [h0, h1, h2, h3, k0, k1, k2, k3]
  simp only [wide, s.1, s.2.1, s.2.2.1, s.2.2.2.1, s.2.2.2.2.1, s.2.2.2.2.2.1, s.2.2.2.2.2.2.1, s.2.2.2.2.2.2.2]
  rfl
theorem open_num {t e : TypeId} {r : Reach} {b0 : Nat} {v : Value} {d : DataW H} {p : List MemPlace} (ht : P.underlying t = some (.array 4 e)) (he : P.underlying e = some (.int .u64)) (hce : P.cellsOf e = 1) (hct : P.cellsOf t = 4)
    (hv : Value.okWide P w r b0 t v) (h : DataW.Trod enc P w base spare held t v d p) : ∃ n, n < T256 ∧ v = num n := by
  obtain ⟨zs, hl, rfl, hz⟩ := open_array ht he hce hct hv h
  exact num_list hl hz
theorem open_wide {t e : TypeId} {r : Reach} {b0 : Nat} {v : Value} {d : DataW H} {p : List MemPlace} (ht : P.underlying t = some (.array 8 e)) (he : P.underlying e = some (.int .u64)) (hce : P.cellsOf e = 1) (hct : P.cellsOf t = 8)
    (hv : Value.okWide P w r b0 t v) (h : DataW.Trod enc P w base spare held t v d p) : ∃ n, n < T512 ∧ v = wide n := by
  obtain ⟨zs, hl, rfl, hz⟩ := open_array ht he hce hct hv h
  exact wide_list hl hz
end
end Go.Proofs.Ythljhaioblcgfaa
namespace Go.Proofs.Ythljhaioblcgfaa
open Go.RowKit Go.ChangeShapes
set_option linter.unusedVariables false
set_option linter.unusedSimpArgs false
/-- A slice of n bytes in the memory w: byte i is f i. -/
structure Sl (W : World) (p : Option Addr) (n : Nat) (f : Nat → Nat) : Prop where
  small : n < 9223372036854775808
  byte : ∀ i, f i < 256
  cell : ∀ i, i < n → ∃ b off, p = some ⟨b, off, none⟩ ∧ W.cell? ⟨b, off + i, none⟩ = some (.int .u8 ((f i : Nat) : Int))
theorem Sl.below {W w : World} {p : Option Addr} {n : Nat} {f : Nat → Nat} (h : Sl W p n f) (hb : Below W.heap.size W w) : Sl w p n f := ⟨h.small, h.byte, fun i hi => by
  obtain ⟨b, off, hp, hc⟩ := h.cell i hi
  exact ⟨b, off, hp, by rw [hb.cell (World.block_lt_of_cell? _ _ hc)]; exact hc⟩⟩
section
variable {X : Cx} {s : Slots} {l : Blks} {o : Oper} {v : Value}
/-- A cell that was there when the function began. -/
theorem ld_old {t b off : Nat} [hu : KD X.P t false] (hc : X.W.cell? ⟨b, off, none⟩ = some v) (ho : X.own = [] := by rfl) : Ld X l t b off v := fun w hm => by
  have hc' : w.cell? ⟨b, off, none⟩ = some v := by rw [(hm.below ho).cell (World.block_lt_of_cell? _ _ hc)]; exact hc
  simp [loadVar, Sem.run_bind, hu.agg, run_load, hc']
theorem rd_min {c : Call} {x y : Operand} {k k' : IntKind} {a b r : Int} (ho : o.op = .call c) (hc : c.callee = .builtin .min) (ha : c.args = #[x, y]) (hx : val s x = some (.int k a)) (hy : val s y = some (.int k' b)) (hr : (if b < a then b else a) = r := by with_reducible assumption) : RdV X s l o (.int k r) :=
  rd_val fun e w he hm => by
    subst hr
    simp only [execOp, ho, resolve, hc, ha, List.map_toArray, List.map_cons, List.map_nil, he.eval hx, he.eval hy]
    simp [invoke, builtin, Sem.run_bind, run_min_int2]
theorem rd_neqB {t yt : Nat} {x y : Operand} {a b r : Bool} (ho : o.op = .binOp .neq t x y yt) (hx : val s x = some (.bool a)) (hy : val s y = some (.bool b)) [h : UT X.P t .bool] (hr : (a != b) = r) : RdV X s l o (.bool r) :=
  rd_val fun e w he hm => by
    subst hr
    have q : (Op.equalIn 10000 t (.bool a) (.bool b)).run X.P w = .ok (a == b) w := by
      rw [show (10000 : Nat) = 9999 + 1 from rfl, Op.equalIn, Sem.run_bind, run_underlying h.out]; rfl
    simp only [execOp, ho, he.eval hx, he.eval hy, eqGuard]
    simp [run_neq w rfl q]
    cases a <;> cases b <;> rfl
/-- A call through a value. -/
theorem rd_callv {c : Call} {f : Nat} {y : Operand} {vs : List Value} (ho : o.op = .call c) (hc : c.callee = .value y) (hy : val s y = some (.func (.func f) #[] #[])) (ha : vals s c.args.toList = some vs)
    (h : ∀ w, Mem X l w → Calls X.P f vs.toArray w (Ret v w)) (hk : callOk X.P f = true := by kernel_rfl) : Rd X s l o v := fun a w he hm => by
  have h1 := he.vals ha
  have h2 : c.args.map a.eval = vs.toArray := by rw [← h1]; simp [← Array.toList_map]
  have e : (execOp a.eval o).run X.P w = (callFunc f vs.toArray).run X.P w := by
    simp only [execOp, ho, resolve, hc, h2, he.eval hy, Deferred.ofValue]
    simp [invoke]
  rw [e, run_enter hk]
  exact ⟨rfl, h w hm⟩
end
section
variable {H : Type} {enc : TypeId × Value → H} {P : Program} {w : World} {base : Nat}
theorem wf_byte {z : Int} (h : (Lit.int .u8 z).wf = true) : 0 ≤ z ∧ z < 256 := by
  simp [Lit.wf, IntKind.min, IntKind.max, IntKind.signed, IntKind.bits] at h
  exact ⟨h.1, by omega⟩
theorem open_bytes {t e : TypeId} {r : Reach} {b0 : Nat} {v : Value} {d : DataW H} {p : List MemPlace} (ht : P.underlying t = some (.slice e)) (he : P.underlying e = some (.int .u8)) (hce : P.cellsOf e = 1)
    (hv : Value.okWide P w r b0 t v) (h : DataW.Trod enc P w base (fun _ => true) true t v d p) : ∃ (q : Option Addr) (n cap : Nat) (f : Nat → Nat), v = .slice q n cap ∧ n ≤ cap ∧ Sl w q n f := by
  obtain ⟨a0, len0, cap0, rfl⟩ := Go.WideShapes.okWide_slice ht hv
  obtain ⟨fuel, hf⟩ := h
  rcases open_ints ht he hce hf with ⟨hcs, hx⟩ | ⟨a, len, cap, zs, hcs, _, hl, hm, hz, hx, hcell, hwz⟩
  · simp [Value.cells] at hcs
    obtain ⟨rfl, rfl, rfl⟩ := hcs
    exact ⟨none, 0, 0, fun _ => 0, rfl, Nat.le_refl _, by decide, fun _ => by decide, fun i hi => by omega⟩
  · simp [Value.cells] at hcs
    obtain ⟨rfl, rfl, rfl⟩ := hcs
    simp only [if_true] at hz
    refine ⟨some a, _, _, fun i => (zs.getD i 0).toNat, rfl, hl, by simp [maxLen] at hm; omega, fun i => ?_, fun i hi => ?_⟩
    · by_cases hi : i < zs.length
      · have := wf_byte (hwz zs[i] (List.getElem_mem hi))
        simp [List.getD, hi]; omega
      · simp [List.getD, hi]
    · have h0 := hcell 0 (by omega)
      have hi' := hcell i (by omega)
      obtain ⟨b, off, spot⟩ := a
      have hs : spot = none := by
        simp only [Addr.add, if_true, World.cell?] at h0
        split at h0
        · cases spot with
          | none => rfl
          | some x => simp at h0
        · cases h0
      subst hs
      refine ⟨b, off, rfl, ?_⟩
      rw [Addr.add_mid] at hi'
      rw [hi']
      have := wf_byte (hwz zs[i] (List.getElem_mem (by omega)))
      have h2 : zs.getD i 0 = zs[i] := by simp [List.getD, show i < zs.length by omega]
      rw [h2, Int.toNat_of_nonneg this.1]
end
/-! ### bits -/
theorem b63 {a : Nat} (ha : a < 9223372036854775808) : (BitVec.ofInt 64 (a : Int)).toNat = a := by
  rw [BitVec.ofInt_natCast, BitVec.toNat_ofNat]; exact Nat.mod_eq_of_lt (by omega)
theorem xor63 {a b : Nat} (ha : a < 9223372036854775808) (hb : b < 9223372036854775808) : a ^^^ b < 9223372036854775808 := Nat.xor_lt_two_pow (n := 63) ha hb
theorem or63 {a b : Nat} (ha : a < 9223372036854775808) (hb : b < 9223372036854775808) : a ||| b < 9223372036854775808 := Nat.or_lt_two_pow (n := 63) ha hb
theorem xor_int {a b : Nat} (ha : a < 9223372036854775808) (hb : b < 9223372036854775808) : bits .xor .i64 (a : Int) (b : Int) = ((a ^^^ b : Nat) : Int) := by
  have hx := xor63 ha hb
  show IntKind.i64.wrap ((BitVec.ofInt 64 (a : Int) ^^^ BitVec.ofInt 64 (b : Int)).toNat : Int) = _
  rw [BitVec.toNat_xor, b63 ha, b63 hb]
  exact wrap_i64 _ (by omega) (by omega)
theorem or_int {a b : Nat} (ha : a < 9223372036854775808) (hb : b < 9223372036854775808) : bits .or .i64 (a : Int) (b : Int) = ((a ||| b : Nat) : Int) := by
  have hx := or63 ha hb
  show IntKind.i64.wrap ((BitVec.ofInt 64 (a : Int) ||| BitVec.ofInt 64 (b : Int)).toNat : Int) = _
  rw [BitVec.toNat_or, b63 ha, b63 hb]
  exact wrap_i64 _ (by omega) (by omega)
theorem xor_nought {a b : Nat} : a ^^^ b = 0 ↔ a = b := by
  constructor
  · intro h
    have : a ^^^ (b ^^^ b) = b := by rw [← Nat.xor_assoc, h, Nat.zero_xor]
    rwa [Nat.xor_self, Nat.xor_zero] at this
  · rintro rfl; exact Nat.xor_self a
theorem xor_u8 {a b : Nat} (ha : a < 256) (hb : b < 256) : bits .xor .u8 (a : Int) (b : Int) = ((a ^^^ b : Nat) : Int) := by
  have hx : a ^^^ b < 256 := Nat.xor_lt_two_pow (n := 8) ha hb
  have h1 : (BitVec.ofInt 8 (a : Int)).toNat = a := by
    rw [BitVec.ofInt_natCast, BitVec.toNat_ofNat]; exact Nat.mod_eq_of_lt (by omega)
  have h2 : (BitVec.ofInt 8 (b : Int)).toNat = b := by
    rw [BitVec.ofInt_natCast, BitVec.toNat_ofNat]; exact Nat.mod_eq_of_lt (by omega)
  show IntKind.u8.wrap ((BitVec.ofInt 8 (a : Int) ^^^ BitVec.ofInt 8 (b : Int)).toNat : Int) = _
  rw [BitVec.toNat_xor, h1, h2]
  exact wrap_u8 _ (by omega) (by omega)
end Go.Proofs.Ythljhaioblcgfaa
namespace Go.Proofs.Ythljhaioblcgfaa
open Go.RowKit
set_option linter.unusedVariables false
set_option linter.unusedSimpArgs false
theorem At.skipA {n : Nat} {x y : Array Value × TypeId} {r r' : Blks} (h : At r n x y r') : ∀ ob : Blks, At (ob ++ r) n x y (ob ++ r')
  | [] => h
  | _ :: o => .there (At.skipA h o)
theorem Inn.skipA {n : Nat} {x : Array Value × TypeId} {r : Blks} (h : Inn r n x) : ∀ ob : Blks, Inn (ob ++ r) n x
  | [] => h
  | _ :: o => .there (Inn.skipA h o)
theorem Has.sees {X : Cx} {l : Blks} {n : Nat} {c : Array Value} {e : Nat} {w : World} (hm : Mem X l w) (h : Inn l n (c, e) := by repeat (first | exact Inn.here (by first | with_unfolding_all rfl | assumption) | apply Inn.there | apply Inn.skipA)) : w.heap[n]? = some (.cells c e) := Has.inn h w hm
end Go.Proofs.Ythljhaioblcgfaa
namespace Go.Proofs.Ythljhaioblcgfaa
open Go.RowKit
set_option linter.unusedVariables false
set_option linter.unusedSimpArgs false
/-- How a record lies in memory. -/
structure Enc (α : Type) (k : Nat) where
  enc : α → List Value
  len : ∀ a, (enc a).length = k
  one : ∀ a, ∀ y ∈ enc a, y.oneCell' = true
section
variable {α : Type} {k : Nat}
def recs (E : Enc α k) (l : List α) : List Value := (l.map E.enc).flatten
theorem recs_nil (E : Enc α k) : recs E [] = [] := rfl
theorem recs_cons (E : Enc α k) (a : α) (l : List α) : recs E (a :: l) = E.enc a ++ recs E l := rfl
theorem recs_len (E : Enc α k) : ∀ l : List α, (recs E l).length = l.length * k
  | [] => by simp [recs]
  | a :: l => by rw [recs_cons, List.length_append, E.len, recs_len E l, List.length_cons, Nat.succ_mul, Nat.add_comm]
theorem recs_app (E : Enc α k) (a b : List α) : recs E a ++ recs E b = recs E (a ++ b) := by simp [recs]
theorem recs_snoc (E : Enc α k) (a : List α) (x : α) : recs E a ++ E.enc x = recs E (a ++ [x]) := by simp [recs]
theorem recs_one (E : Enc α k) (l : List α) : ∀ y ∈ recs E l, y.oneCell' = true := fun y hy => by
  obtain ⟨c, hc, hy⟩ := List.mem_flatten.1 hy
  obtain ⟨a, _, rfl⟩ := List.mem_map.1 hc
  exact E.one a y hy
theorem recs_drop (E : Enc α k) : ∀ (l : List α) (i : Nat), (recs E l).drop (i * k) = recs E (l.drop i)
  | [], i => by simp [recs]
  | a :: l, 0 => by simp
  | a :: l, i + 1 => by
    have h := E.len a
    rw [List.drop_succ_cons, ← recs_drop E l i, recs_cons, List.drop_append, h, List.drop_of_length_le (by rw [h, Nat.succ_mul]; omega), List.nil_append, Nat.succ_mul, Nat.add_sub_cancel]
theorem recs_take (E : Enc α k) : ∀ (l : List α) (i : Nat), (recs E l).take (i * k) = recs E (l.take i)
  | [], i => by simp [recs]
  | a :: l, 0 => by simp [recs]
  | a :: l, i + 1 => by
    have h := E.len a
    rw [List.take_succ_cons, recs_cons, recs_cons, ← recs_take E l i, List.take_append, h, List.take_of_length_le (by rw [h, Nat.succ_mul]; omega), Nat.succ_mul, Nat.add_sub_cancel]
theorem recs_get (E : Enc α k) {l : List α} {i : Nat} {x : α} (h : l[i]? = some x) : ((recs E l).drop (i * k)).take k = E.enc x := by
  have hi := (List.getElem?_eq_some_iff.1 h).1
  have h1 := recs_take E (l.drop i) 1
  rw [Nat.one_mul] at h1
  rw [recs_drop, h1, List.drop_eq_getElem_cons hi, List.take_succ_cons, List.take_zero]
  have := (List.getElem?_eq_some_iff.1 h).2
  simp [recs, this]
/-- One cell of it. -/
theorem recs_cell (E : Enc α k) {l : List α} {i j : Nat} {x : α} (h : l[i]? = some x) (hj : j < k) : (recs E l)[i * k + j]? = (E.enc x)[j]? := by
  have := congrArg (·[j]?) (recs_get E h)
  simpa [hj] using this
theorem recs_part (E : Enc α k) (l : List α) (a b : Nat) : ((recs E l).drop (a * k)).take ((b - a) * k) = recs E ((l.drop a).take (b - a)) := by
  rw [recs_drop, recs_take]
end
end Go.Proofs.Ythljhaioblcgfaa
namespace Go.Proofs.Ythljhaioblcgfaa
open Go.RowKit Go.ChangeShapes Go.WideShapes
set_option linter.unusedVariables false
set_option maxRecDepth 100000
/-- Kind, session, number. -/
abbrev Sit := Int × Int × Int
def sitV : Enc Sit 3 := ⟨fun x => [.int .i64 x.1, .int .i64 x.2.1, .int .i64 x.2.2], fun _ => rfl, fun x y hy => by
  simp only [List.mem_cons, List.not_mem_nil, or_false] at hy
  rcases hy with rfl | rfl | rfl <;> rfl⟩
abbrev Sits (w : World) (v : Value) (l : List Sit) : Prop := Cs w v l.length (recs sitV l)
section
variable {W : World}
theorem open_encR {t e k : Nat} {α : Type} (E : Enc α k) (hu : Try.prog.underlying t = some (.slice e)) (hk : Try.prog.cellsOf e = k) (hpos : 0 < k) (rd : Rdg Try.prog W e fun cs b => ∃ q, cs = E.enc q)
    {r : Reach} {b0 : Nat} {v : Value} {H : Type} {enc : TypeId × Value → H} {d : DataW H} {q : List MemPlace} (hv : Value.okWide Try.prog W r b0 t v) (h : DataW.Trod enc Try.prog W 0 (fun _ => true) true t v d q) :
    ∃ l : List α, Cs W v l.length (recs E l) ∧ 0 ≤ Rows.uptoBulk d := by
  obtain ⟨a, len, cap, rfl⟩ := okWide_slice (e := e) hu hv
  obtain ⟨v', n, cc, h1, h2, h3, h4, h5⟩ := open_cell (r := r) (b0 := b0) (rdg_slice (e := e) hu hk hpos rd) rfl h
  cases h1
  have key : ∀ l : List (List Value × Nat), (∀ c ∈ l, (∃ q : α, c.1 = E.enc q) ∧ c.1.length = k) → ∃ its : List α, (l.map (·.1)).flatten = recs E its ∧ its.length = l.length := by
    intro l
    induction l with
    | nil => intro _; exact ⟨[], rfl, rfl⟩
    | cons c r ih =>
      intro h
      obtain ⟨its, e1, e2⟩ := ih fun d hd => h d (by simp [hd])
      obtain ⟨⟨x, f2⟩, _⟩ := h c (by simp)
      refine ⟨x :: its, ?_, by simp [e2]⟩
      rw [List.map_cons, List.flatten_cons, e1, f2, recs_cons]
  obtain ⟨its, e1, e2⟩ := key cc h3
  rw [e1] at h4
  refine ⟨its, ?_, Nat.zero_le _⟩
  rw [e2, h2]; exact h4
theorem cells_sit : Try.prog.cellsOf 28 = 3 := by kernel_rfl
theorem cells_intS : Try.prog.cellsOf 3 = 1 := by kernel_rfl
theorem rdg_sit : Rdg Try.prog W 28 fun cs b => ∃ x : Sit, cs = sitV.enc x :=
  (rdg_struct Try.underlying28 (fun _ cs _ => ∃ z, cs = [.int .i64 z]) (fun i f hf => by
    have ht : f.type = 3 := by
      match i, hf with
      | 0, hf => simp at hf; subst hf; rfl
      | 1, hf => simp at hf; subst hf; rfl
      | 2, hf => simp at hf; subst hf; rfl
      | n + 3, hf => simp at hf
    rw [ht]
    exact (rdg_int (k := .i64) (by kernel_rfl)).mono fun cs b ⟨z, hz, _⟩ => ⟨z, hz⟩)).mono fun cs b ⟨bs, hl, hbs, hf, hb⟩ => by
    rw [cells_sit] at hl
    obtain ⟨c0, c1, c2, rfl⟩ : ∃ c0 c1 c2, cs = [c0, c1, c2] := by
      match cs, hl with | [c0, c1, c2], _ => exact ⟨c0, c1, c2, rfl⟩
    obtain ⟨z0, h0⟩ : ∃ z, List.take (Try.prog.cellsOf 3) (List.drop 0 [c0, c1, c2]) = [.int .i64 z] := hf 0 _ rfl
    obtain ⟨z1, h1⟩ : ∃ z, List.take (Try.prog.cellsOf 3) (List.drop 1 [c0, c1, c2]) = [.int .i64 z] := hf 1 _ rfl
    obtain ⟨z2, h2⟩ : ∃ z, List.take (Try.prog.cellsOf 3) (List.drop 2 [c0, c1, c2]) = [.int .i64 z] := hf 2 _ rfl
    rw [cells_intS] at h0 h1 h2
    simp at h0 h1 h2
    subst h0; subst h1; subst h2
    exact ⟨(z0, z1, z2), rfl⟩
theorem open_sits {r : Reach} {b0 : Nat} {v : Value} {H : Type} {enc : TypeId × Value → H} {d : DataW H} {q : List MemPlace} (hv : Value.okWide Try.prog W r b0 22 v) (h : DataW.Trod enc Try.prog W 0 (fun _ => true) true 22 v d q) :
    ∃ l : List Sit, Sits W v l ∧ 0 ≤ Rows.uptoBulk d := open_encR sitV (e := 28) (by kernel_rfl) cells_sit (by decide) rdg_sit hv h
end
end Go.Proofs.Ythljhaioblcgfaa
namespace Go.Proofs.Ythljhaioblcgfaa
open Go.RowKit
set_option linter.unusedVariables false
set_option linter.unusedSimpArgs false
section
variable {X : Cx} {s : Slots} {l : Blks} {o : Oper}
theorem rd_eqlP {t yt n : Nat} {x y : Operand} (ho : o.op = .binOp .eql t x y yt) (hx : val s x = some (ptr n)) (hy : val s y = some (.pointer none))
    (q : ∀ w : World, (Op.equalIn 10000 t (ptr n) (.pointer none)).run X.P w = .ok false w) (hg : X.P.eqGuardType X.P.depth t = false := by kernel_rfl) : RdV X s l o (.bool false) :=
  rd_val fun e w he hm => by
    simp only [execOp, ho, he.eval hx, he.eval hy, eqGuard]
    simp [run_eql w rfl (q w), hg]
theorem rd_neqP {t yt n : Nat} {x y : Operand} (ho : o.op = .binOp .neq t x y yt) (hx : val s x = some (ptr n)) (hy : val s y = some (.pointer none))
    (q : ∀ w : World, (Op.equalIn 10000 t (ptr n) (.pointer none)).run X.P w = .ok false w) (hg : X.P.eqGuardType X.P.depth t = false := by kernel_rfl) : RdV X s l o (.bool true) :=
  rd_val fun e w he hm => by
    simp only [execOp, ho, he.eval hx, he.eval hy, eqGuard]
    simp [run_neq w rfl (q w), hg]
theorem rd_eqlPN {t yt : Nat} {x y : Operand} (ho : o.op = .binOp .eql t x y yt) (hx : val s x = some (.pointer none)) (hy : val s y = some (.pointer none))
    (q : ∀ w : World, (Op.equalIn 10000 t (.pointer none) (.pointer none)).run X.P w = .ok true w) (hg : X.P.eqGuardType X.P.depth t = false := by kernel_rfl) : RdV X s l o (.bool true) :=
  rd_val fun e w he hm => by
    simp only [execOp, ho, he.eval hx, he.eval hy, eqGuard]
    simp [run_eql w rfl (q w), hg]
end
end Go.Proofs.Ythljhaioblcgfaa
namespace Go.Proofs.Ythljhaioblcgfaa
open Go.RowKit
theorem ptr_nil {n : Nat} (w : World) : (Op.equalIn 10000 23 (ptr n) (.pointer none)).run Try.prog w = .ok false w := by
  have h : Try.prog.underlying 23 = some (.pointer 44) := by kernel_rfl
  rw [show (10000 : Nat) = 9999 + 1 from rfl, Op.equalIn, Sem.run_bind, run_underlying h]
  rfl
theorem ptr_nil2 (w : World) : (Op.equalIn 10000 23 (.pointer none) (.pointer none)).run Try.prog w = .ok true w := by
  have h : Try.prog.underlying 23 = some (.pointer 44) := by kernel_rfl
  rw [show (10000 : Nat) = 9999 + 1 from rfl, Op.equalIn, Sem.run_bind, run_underlying h]
  rfl
end Go.Proofs.Ythljhaioblcgfaa
namespace Go.Proofs.Ythljhaioblcgfaa
set_option maxRecDepth 100000
theorem mayEnter_of {P : Program} {l : List Char} {rest : List (List Char)} (h0 : P.initOrder = String.ofList l) (h : behindMainWord (wordsSigns l) = "cut".toList :: rest) (hs : stripLifts liftWords ("cut".toList :: rest) = ([], "cut".toList :: rest)) (h1 : P.laysLater = false) (h2 : P.bearsReflect = false) (h3 : P.doorFits [] = true) : P.mayEnter = true := by
  unfold Program.mayEnter
  rw [h0, String.toList_ofList, h]
  generalize "cut".toList = c at *
  simp only [hs, h1, h2, h3]
  simp
theorem headLifts_of {P : Program} {l : List Char} {rest : List (List Char)} (h0 : P.initOrder = String.ofList l) (h : behindMainWord (wordsSigns l) = "cut".toList :: rest) (hs : stripLifts liftWords ("cut".toList :: rest) = ([], "cut".toList :: rest)) : P.headLifts = [] := by
  unfold Program.headLifts
  rw [h0, String.toList_ofList, h, hs]
  simp
theorem liftsFinal_of {P : Program} {l : List Char} {rest : List (List Char)} (h0 : P.initOrder = String.ofList l) (h : behindMainWord (wordsSigns l) = "cut".toList :: rest) (hs : stripLifts liftWords ("cut".toList :: rest) = ([], "cut".toList :: rest)) : P.liftsFinal = false := by
  unfold Program.liftsFinal
  rw [headLifts_of h0 h hs, h0, String.toList_ofList, h]
  simp
theorem make_of {P : Program} {l : List Char} {rest : List (List Char)} (h0 : P.initOrder = String.ofList l) (h : behindMainWord (wordsSigns l) = "cut".toList :: rest) : P.make = some .cut := by
  unfold Program.make
  rw [h0, String.toList_ofList, h]
  have e1 : ("cut".toList == "gc".toList || "cut".toList == "spec".toList) = false := by decide +kernel
  simp only [e1]
  simp
theorem word0 : ∃ (l : List Char), Try.prog.initOrder = String.ofList l ∧ behindMainWord (wordsSigns l) = "cut".toList :: (behindMainWord (wordsSigns l)).tail ∧ stripLifts liftWords ("cut".toList :: (behindMainWord (wordsSigns l)).tail) = ([], "cut".toList :: (behindMainWord (wordsSigns l)).tail) := ⟨_, rfl, by kernel_rfl, by kernel_rfl⟩
theorem word1 : ∃ (l : List Char) (rest : List (List Char)), Try.prog.initOrder = String.ofList l ∧ behindMainWord (wordsSigns l) = "cut".toList :: rest ∧ stripLifts liftWords ("cut".toList :: rest) = ([], "cut".toList :: rest) := by
  obtain ⟨l, h⟩ := word0
  exact ⟨l, _, h⟩
theorem mayEnters : Try.prog.mayEnter = true := by
  obtain ⟨l, r, h0, h, hs⟩ := word1
  exact mayEnter_of h0 h hs (by kernel_rfl) (by kernel_rfl) (by kernel_rfl)
theorem liftsNone : Try.prog.liftsFinal = false := by
  obtain ⟨l, r, h0, h, hs⟩ := word1
  exact liftsFinal_of h0 h hs
theorem makeCut : Try.prog.make = some .cut := by
  obtain ⟨l, r, h0, h, hs⟩ := word1
  exact make_of h0 h
end Go.Proofs.Ythljhaioblcgfaa
namespace Go.Proofs
open Go.Shelf
def Ythljhaioblcgfaa.keysA_ren : Go.Shelf.Ren := ⟨fun | 7 => 21 | 10 => 25 | n => n, fun | 23 => 42 | 26 => 3 | 3 => 46 | 28 => 51 | 0 => 0 | 27 => 50 | 33 => 48 | 4 => 4 | n => n, fun | n => n⟩
theorem Ythljhaioblcgfaa.keysA : Go.Proofs.SlLaysZI.n7 Try.prog Ythljhaioblcgfaa.keysA_ren := {
  mixed := by kernel_rfl
  f7 := ⟨Try.f21.name, by decide, Try.func21.trans (congrArg some (by kernel_rfl))⟩
  f10 := ⟨Try.f25.name, by decide, Try.func25.trans (congrArg some (by kernel_rfl))⟩
  t0 := Try.underlying0
  a0 := Try.isAgg0
  z0 := Try.sizeOf0
  v0 := Try.zeroValue0
  t4 := Try.underlying4
  a4 := Try.isAgg4
  z4 := Try.sizeOf4
  v4 := Try.zeroValue4
  t23 := Try.underlying42
  a23 := Try.isAgg42
  z23 := Try.sizeOf42
  v23 := Try.zeroValue42
  t26 := Try.underlying3
  a26 := Try.isAgg3
  z26 := Try.sizeOf3
  v26 := Try.zeroValue3
  t27 := Try.underlying50
  a27 := Try.isAgg50
  z27 := Try.sizeOf50
  v27 := Try.zeroValue50
  t28 := Try.underlying51
  a28 := Try.isAgg51
  z28 := Try.sizeOf51
  v28 := Try.zeroValue51
  t33 := Try.underlying48
  a33 := Try.isAgg48
  z33 := Try.sizeOf48
  v33 := Try.zeroValue48 }
def Ythljhaioblcgfaa.sortedA_ren : Go.Shelf.Ren := ⟨fun | 6 => 20 | 8 => 23 | 9 => 24 | 11 => 27 | 13 => 29 | 12 => 28 | 23 => 38 | 24 => 39 | 14 => 30 | 15 => 31 | 16 => 32 | 17 => 33 | 18 => 34 | 19 => 35 | 20 => 22 | 21 => 36 | 22 => 37 | 25 => 40 | 26 => 41 | 27 => 42 | 28 => 43 | 29 => 44 | 30 => 26 | 31 => 45 | n => n, fun | 26 => 3 | 28 => 51 | 24 => 36 | 0 => 0 | 3 => 3 | 37 => 58 | 48 => 68 | 50 => 70 | 4 => 4 | 40 => 61 | 39 => 60 | 45 => 65 | 5 => 5 | 9 => 9 | 51 => 71 | 55 => 75 | 57 => 77 | 58 => 78 | 33 => 48 | n => n, fun | n => n⟩
theorem Ythljhaioblcgfaa.sortedA : Go.Proofs.SlLaysZI.n6 Try.prog Ythljhaioblcgfaa.sortedA_ren := {
  mixed := by kernel_rfl
  f6 := ⟨Try.f20.name, by decide, Try.func20.trans (congrArg some (by kernel_rfl))⟩
  f8 := ⟨Try.f23.name, by decide, Try.func23.trans (congrArg some (by kernel_rfl))⟩
  f11 := ⟨Try.f27.name, by decide, Try.func27.trans (congrArg some (by kernel_rfl))⟩
  t0 := Try.underlying0
  a0 := Try.isAgg0
  z0 := Try.sizeOf0
  v0 := Try.zeroValue0
  t24 := Try.underlying36
  a24 := Try.isAgg36
  z24 := Try.sizeOf36
  v24 := Try.zeroValue36
  t26 := Try.underlying3
  a26 := Try.isAgg3
  z26 := Try.sizeOf3
  v26 := Try.zeroValue3
  t28 := Try.underlying51
  a28 := Try.isAgg51
  z28 := Try.sizeOf51
  v28 := Try.zeroValue51
  i26 := by kernel_rfl }
def Ythljhaioblcgfaa.sortA_ren : Go.Shelf.Ren := ⟨fun | 5 => 24 | 8 => 29 | 7 => 28 | 19 => 38 | 20 => 39 | 10 => 30 | 11 => 31 | 12 => 32 | 13 => 33 | 14 => 34 | 15 => 35 | 16 => 22 | 17 => 36 | 18 => 37 | 30 => 40 | 31 => 41 | 32 => 42 | 33 => 43 | 34 => 44 | 35 => 26 | 40 => 45 | n => n, fun | 23 => 36 | 25 => 3 | 3 => 3 | 32 => 58 | 22 => 36 | 0 => 0 | 44 => 68 | 46 => 70 | 4 => 4 | 36 => 61 | 35 => 60 | 41 => 65 | 5 => 5 | 9 => 9 | 53 => 71 | 57 => 75 | 63 => 77 | 64 => 78 | n => n, fun | n => n⟩
theorem Ythljhaioblcgfaa.sortA : Go.Proofs.SlLaysM.n5 Try.prog Ythljhaioblcgfaa.sortA_ren := {
  mixed := by kernel_rfl
  f5 := ⟨Try.f24.name, by decide, Try.func24.trans (congrArg some (by kernel_rfl))⟩
  f7 := ⟨Try.f28.name, by decide, Try.func28.trans (congrArg some (by kernel_rfl))⟩
  f8 := Try.func29.trans (congrArg some (by kernel_rfl))
  f10 := ⟨Try.f30.name, by decide, Try.func30.trans (congrArg some (by kernel_rfl))⟩
  f11 := ⟨Try.f31.name, by decide, Try.func31.trans (congrArg some (by kernel_rfl))⟩
  f12 := ⟨Try.f32.name, by decide, Try.func32.trans (congrArg some (by kernel_rfl))⟩
  f13 := ⟨Try.f33.name, by decide, Try.func33.trans (congrArg some (by kernel_rfl))⟩
  f14 := ⟨Try.f34.name, by decide, Try.func34.trans (congrArg some (by kernel_rfl))⟩
  f15 := ⟨Try.f35.name, by decide, Try.func35.trans (congrArg some (by kernel_rfl))⟩
  f16 := ⟨Try.f22.name, by decide, Try.func22.trans (congrArg some (by kernel_rfl))⟩
  f17 := ⟨Try.f36.name, by decide, Try.func36.trans (congrArg some (by kernel_rfl))⟩
  f18 := ⟨Try.f37.name, by decide, Try.func37.trans (congrArg some (by kernel_rfl))⟩
  f19 := Try.func38.trans (congrArg some (by kernel_rfl))
  f20 := Try.func39.trans (congrArg some (by kernel_rfl))
  f30 := ⟨Try.f40.name, by decide, Try.func40.trans (congrArg some (by kernel_rfl))⟩
  f31 := Try.func41.trans (congrArg some (by kernel_rfl))
  f32 := Try.func42.trans (congrArg some (by kernel_rfl))
  f33 := ⟨Try.f43.name, by decide, Try.func43.trans (congrArg some (by kernel_rfl))⟩
  f34 := ⟨Try.f44.name, by decide, Try.func44.trans (congrArg some (by kernel_rfl))⟩
  f35 := ⟨Try.f26.name, by decide, Try.func26.trans (congrArg some (by kernel_rfl))⟩
  f40 := ⟨Try.f45.name, by decide, Try.func45.trans (congrArg some (by kernel_rfl))⟩
  t0 := Try.underlying0
  a0 := Try.isAgg0
  z0 := Try.sizeOf0
  v0 := Try.zeroValue0
  t3 := Try.underlying3
  a3 := Try.isAgg3
  z3 := Try.sizeOf3
  v3 := Try.zeroValue3
  t4 := Try.underlying4
  a4 := Try.isAgg4
  z4 := Try.sizeOf4
  v4 := Try.zeroValue4
  t5 := Try.underlying5
  a5 := Try.isAgg5
  z5 := Try.sizeOf5
  v5 := Try.zeroValue5
  t9 := Try.underlying9
  a9 := Try.isAgg9
  z9 := Try.sizeOf9
  v9 := Try.zeroValue9
  t22 := Try.underlying36
  a22 := Try.isAgg36
  z22 := Try.sizeOf36
  v22 := Try.zeroValue36
  t23 := Try.underlying36
  a23 := Try.isAgg36
  z23 := Try.sizeOf36
  v23 := Try.zeroValue36
  t25 := Try.underlying3
  a25 := Try.isAgg3
  z25 := Try.sizeOf3
  v25 := Try.zeroValue3
  t32 := Try.underlying58
  a32 := Try.isAgg58
  z32 := Try.sizeOf58
  v32 := Try.zeroValue58
  t35 := Try.underlying60
  a35 := Try.isAgg60
  z35 := Try.sizeOf60
  v35 := Try.zeroValue60
  t36 := Try.underlying61
  a36 := Try.isAgg61
  z36 := Try.sizeOf61
  v36 := Try.zeroValue61
  t41 := Try.underlying65
  a41 := Try.isAgg65
  z41 := Try.sizeOf65
  v41 := Try.zeroValue65
  t44 := Try.underlying68
  a44 := Try.isAgg68
  z44 := Try.sizeOf68
  v44 := Try.zeroValue68
  t46 := Try.underlying70
  a46 := Try.isAgg70
  z46 := Try.sizeOf70
  v46 := Try.zeroValue70
  t53 := Try.underlying71
  a53 := Try.isAgg71
  z53 := Try.sizeOf71
  v53 := Try.zeroValue71
  t57 := Try.underlying75
  a57 := Try.isAgg75
  z57 := Try.sizeOf75
  v57 := Try.zeroValue75
  t63 := Try.underlying77
  a63 := Try.isAgg77
  z63 := Try.sizeOf77
  v63 := Try.zeroValue77
  t64 := Try.underlying78
  a64 := Try.isAgg78
  z64 := Try.sizeOf78
  v64 := Try.zeroValue78 }
end Go.Proofs
namespace Go.Proofs.Ythljhaioblcgfaa
open Go.RowKit Go.Maps Go.Sort
set_option linter.unusedVariables false
set_option linter.unusedSimpArgs false
/-- The keys, rising. -/
def ksort (l : List Int) : List Int := l.mergeSort fun x y => decide (x ≤ y)
def ints (l : List Int) : List Value := l.map (Value.int .i64)
theorem sortsA (mm : Nat) : AnyZI.SortsIn Try.prog sortedA_ren Fence.wide mm :=
  ⟨fun blk off cap ss W hH hblk hsz => callsIn_wide.2 (AnyM.slices_Sort_int sortA blk off cap ss W hH hblk hsz),
   fun p cap W => callsIn_wide.2 (AnyM.slices_Sort_int_none sortA p cap W)⟩
def rdN : Value → Option (DataW Unit × List MemPlace) := fun _ => some (.nil, [])
section
variable {m : List Ent} {clock : Nat}
theorem nodup_map_inj {α β : Type} {f : α → β} (hf : ∀ a b, f a = f b → a = b) {l : List α} (h : l.Nodup) : (l.map f).Nodup := by
  rw [List.nodup_iff_pairwise_ne, List.pairwise_map]
  exact (List.nodup_iff_pairwise_ne.1 h).imp fun hne e => hne (hf _ _ e)
theorem rd_ent {x : Ent} (hw : (Lit.int .i64 x.1).wf = true) : Go.WideElems.rd Try.prog 3 rdN (entE x) = some (.int .i64 x.1, .nil) := by
  unfold Go.WideElems.rd
  show (keyOf Try.prog 3 (.int .i64 x.1)).bind _ = _
  rw [keyOf_int_mk Try.underlying3 hw]
  rfl
theorem fit_m (mok : MOk m clock) (hw : ∀ x ∈ m, (Lit.int .i64 x.1).wf = true) (hl : m.length ≤ 1000000) : Go.WideElems.Fit Try.prog 3 rdN (m.map entE).toArray clock where
  size := by
    rw [List.size_toArray, List.length_map]
    have : (1000000 : Nat) ≤ maxLen := by decide
    omega
  stamped := by
    refine ⟨fun x hx => ?_, ?_, ?_⟩
    · simp only [List.mem_map] at hx
      obtain ⟨y, hy, rfl⟩ := hx
      exact mok.lt y hy
    · have h := mok.nd
      simpa [entE, Function.comp_def] using h
    · have h := mok.keys
      have h2 : ((m.map (·.1)).map (Value.int .i64)).Nodup := nodup_map_inj (fun a b h => by injection h) h 
      simpa [entE, Function.comp_def] using h2
  reads := fun x hx => by
    simp only [List.mem_map] at hx
    obtain ⟨y, hy, rfl⟩ := hx
    exact ⟨_, rd_ent (hw y hy)⟩
theorem owns_m {w : World} {g : Nat} (mok : MOk m clock) (hw : ∀ x ∈ m, (Lit.int .i64 x.1).wf = true) (hl : m.length ≤ 1000000) (hg : w.heap[g]? = some (.map (m.map entE).toArray clock)) :
    ∃ D0 : DataW Unit, w.ownsMap Try.prog 3 rdN g m.length D0 ∧ (intKeys D0).Perm (m.map (·.1)) ∧ Maps.size D0 = m.length := by
  refine ⟨_, ⟨_, clock, hg, fit_m mok hw hl, by simp, rfl⟩, ?_, by simp [Maps.size, length_sorted]⟩
  have h1 : (m.map entE).map (Go.WideElems.rg Try.prog 3 rdN) = m.map fun x => ((Lit.int .i64 x.1), (DataW.nil : DataW Unit)) := by
    rw [List.map_map]
    refine List.map_congr_left fun x hx => ?_
    simp only [Function.comp, Go.WideElems.rg, rd_ent (hw x hx), Option.getD_some]
  show List.Perm (((((m.map entE).map (Go.WideElems.rg Try.prog 3 rdN)).foldr DataW.insert []).map fun p => _root_.Go.intOf p.1)) _
  refine ((Go.WideShapes.sorted_perm _).map _).trans ?_
  rw [h1, List.map_map]
  exact List.Perm.refl _
theorem ownL_row {w : World} {base e n : Nat} {v : Value} {xs : List Value} (he : Nat.blt e BIG = true) (h : w.ownsRow base e 1 v n xs) : ∃ oa, OwnL e 1 v n xs oa ∧ Hd oa w ∧ (Proofs.Ythljhaioblcgfaa.keys oa).Nodup ∧ ∀ k ∈ Proofs.Ythljhaioblcgfaa.keys oa, base ≤ k := by
  obtain ⟨hl, h | ⟨b, cap, cur, rfl, hb, hg, h1, h2, h3, h4⟩⟩ := h
  · exact ⟨[], ⟨hl, .inl ⟨h.1, h.2, rfl⟩, .inl rfl⟩, (fun p hp => by cases hp), by simp [Proofs.Ythljhaioblcgfaa.keys], fun k hk => by simp [Proofs.Ythljhaioblcgfaa.keys] at hk⟩
  · refine ⟨[(b, (cur, e))], ⟨hl, .inr ⟨b, cap, cur, rfl, h1, h2, h3, h4, rfl⟩, .inr he⟩, hd_one (hg.trans (congrArg some (toObj_cells he).symm)), by simp [Proofs.Ythljhaioblcgfaa.keys], fun k hk => ?_⟩
    simp only [Proofs.Ythljhaioblcgfaa.keys, List.map_cons, List.map_nil, List.mem_singleton] at hk
    omega
set_option maxHeartbeats 1000000 in
theorem sorted_c {w : World} {g n : Nat} (mok : MOk m clock) (hw : ∀ x ∈ m, (Lit.int .i64 x.1).wf = true) (hl : m.length ≤ 1000000) (hn : w.heap[n]? = some (.cells #[.map (some g)] 42)) (hg : w.heap[g]? = some (.map (m.map entE).toArray clock)) :
    Calls Try.prog 20 [.func (.func 25) #[] #[ptr n]].toArray w (RetO (fun v => v) (fun v oa => OwnL 3 1 v m.length (ints (ksort (m.map (·.1)))) oa) w) := by
  obtain ⟨D0, hown, hperm, hsize⟩ := owns_m mok hw hl hg
  have hnl := blk_lt hn
  have h1 : (1000000 : Nat) ≤ maxLen := by decide
  have hseq : SeqGives Fence.wide 2 Try.prog 25 #[.pointer (some ⟨n, 0, none⟩)] encZ (fun ss => ss.Perm (intKeys D0)) (Maps.size D0) w :=
    AnyZI.keys_gives (ρ := keysA_ren) { keysA with } Fence.wide _ trivial rfl (by omega) n g m.length D0 _ hnl (by simp [World.cell?, hn]) hown
  have cS := AnyZI.sorted_in sortedA Fence.wide 5 trivial trivial trivial trivial rfl (by omega) (sortsA _) (enters_of Try.func24 (by kernel_rfl) rfl) 25 #[.pointer (some ⟨n, 0, none⟩)] trivial (enters_of Try.func25 (by kernel_rfl) rfl) _ _ (by omega) (by omega) _ hseq
  refine ((callsIn_wide (n := 5)).1 cS).mono ?_
  rintro e w' ⟨v, ss, rfl, hS, hrow, hnil, hb⟩
  have hp := hS.trans hperm
  have hlen : ss.length = m.length := by rw [hp.length_eq, List.length_map]
  have hsort : (ss.mergeSort fun x y => decide (x ≤ y)) = ksort (m.map (·.1)) := mergeSort_of_perm_i hp
  rw [hsort, hlen] at hrow
  obtain ⟨oa, ho, hhd, hnd, hfr⟩ := ownL_row (e := 3) rfl hrow
  exact ⟨v, oa, rfl, ho, Upd.of_below hb hnd hfr hhd⟩
theorem keys_c (w : World) (g : Nat) :
    Calls Try.prog 21 [.map (some g)].toArray w (RetO (fun n => .func (.func 25) #[] #[ptr n]) (fun n oa => oa = [(n, (#[.map (some g)], 42))]) w) := by
  refine ((callsIn_wide (n := 5)).1 (AnyZI.keys_in keysA Fence.wide 5 trivial rfl (some g) w)).mono ?_
  rintro e w' ⟨rfl, rfl⟩
  refine ⟨w.heap.size, _, rfl, rfl, Upd.of_below ((Below.refl _ w).alloc (Nat.le_refl _) _) (by simp [Proofs.Ythljhaioblcgfaa.keys]) (fun k hk => ?_) (hd_one ?_)⟩
  · simp only [Proofs.Ythljhaioblcgfaa.keys, List.map_cons, List.map_nil, List.mem_singleton] at hk
    omega
  · show (w.heap.push _)[w.heap.size]? = _
    rw [Array.getElem?_push_size]
    exact congrArg some (toObj_cells rfl).symm
end
end Go.Proofs.Ythljhaioblcgfaa
namespace Go.Proofs.Ythljhaioblcgfaa
open Go.RowKit
set_option linter.unusedVariables false
set_option linter.unusedSimpArgs false
set_option maxRecDepth 100000
/-- The numbers of a desk's sessions, rising. -/
def idsD (D : Dk) : List Int := ksort (D.m.map (·.1))
theorem DkOk.wf {D : Dk} (h : DkOk D) : ∀ x ∈ D.m.map seE, (Lit.int .i64 x.1).wf = true := fun x hx => by
  obtain ⟨y, hy, rfl⟩ := List.mem_map.1 hx
  have h1 := h.below y hy
  have h2 := h.last1
  have h3 : (seE y).1 = y.1 := rfl
  rw [h3]
  have e1 : IntKind.i64.min = -9223372036854775808 := rfl
  have e2 : IntKind.i64.max = 9223372036854775807 := rfl
  simp only [Lit.wf, e1, e2, Bool.and_eq_true, decide_eq_true_eq]
  omega
theorem list_s {b g : Nat} {D : Dk} (w : World) (nd : b ≠ g) (hd : Hd (dkB b g D) w) (hD : DkOk D) :
    Calls Try.prog 13 [ptr b].toArray w (RetO (fun v => v) (fun v oa => OwnL 3 1 v D.m.length (ints (idsD D)) oa) w) := by
  have hb : w.heap[b]? = some (.cells (dkC g D) 44) := (hd _ (List.mem_cons_self (l := [(g, mapB (D.m.map seE) D.clock)]))).trans (congrArg some (toObj_cells rfl))
  have hg : w.heap[g]? = some (.map ((D.m.map seE).map entE).toArray D.clock) := (hd _ (List.mem_cons_of_mem (b, (dkC g D, 44)) (List.mem_singleton.2 rfl))).trans (congrArg some (toObj_map _ _))
  have hc : w.cell? ⟨b, 3, none⟩ = some (.map (some g)) := by simp [World.cell?, hb, dkC]
  have hgl := blk_lt hg
  have mok := hD.mok
  have hwf := hD.wf
  have hle : (D.m.map seE).length ≤ 1000000 := by
    have h1 := hD.few
    have h2 := hD.hi
    rw [List.length_map]; omega
  have hik : (D.m.map seE).map (·.1) = D.m.map (·.1) := by rw [List.map_map]; rfl
  have hil : (D.m.map seE).length = D.m.length := by rw [List.length_map]
  have KC := fun w' => keys_c w' g
  have SC := fun w' n (h1 : w'.heap[n]? = some (.cells #[.map (some g)] 42)) (hbl : Below w.heap.size w w') => sorted_c (w := w') (n := n) mok hwf hle h1 ((hbl.block g hgl).trans hg)
  rw [hik, hil] at SC
  unfold idsD
  clear hD hd hb hg mok hwf hle
  generalize D.m.map (·.1) = ks at *
  refine fn_own (N := _) Try.func13 rfl Try.ntmps13 Try.results13 (by simp) ?_
  simp only [initS, Nat.reduceAdd, Nat.zero_add]
  repeat' (first | (refine wlS ?_) | (refine wlB ?_) | (refine wlO ?_) | (refine wlE ?_) | (refine efSvao ?_; intro v oa ho) | ((with_reducible refine sel_call ?_); first | (refine wl_newO rfl rfl rfl rfl rfl (fun w hm => by with_reducible exact KC w) ?_; intro x oa hx)) | (refine wl_skip rfl rfl ?_) | ((with_reducible refine wc_seq ?_); intro K hK) | (refine auC ?_) | (refine wc_cond rfl (fun hc => ?_) (fun hc => ?_)) | (refine wc_draw (by kernel_rfl) (by kernel_rfl) (by decide +kernel) ?_; intro w0 hw0 hm0; (try simp only [List.append_eq, List.cons_append, List.nil_append])) | (refine auP ?_) | ((refine auR ?_); clear hK K) | (refine auR ?_) | ((with_reducible refine hK _ _ ?_); clear hK K) | fail)
  subst hx
  repeat' (first | (refine wlS ?_) | (refine wlB ?_) | (refine wlE ?_) | (refine efSvao ?_; intro v oa ho) | ((with_reducible refine sel_call ?_); first | (refine wl_newO rfl rfl rfl rfl rfl (fun w hm => by with_reducible exact SC w _ (Has.sees hm) (hm.below rfl)) ?_; intro x oa hx)) | (refine wl_skip rfl rfl ?_) | ((with_reducible refine wc_seq ?_); intro K hK) | (refine auC ?_) | (refine wc_cond rfl (fun hc => ?_) (fun hc => ?_)) | (refine wc_draw (by kernel_rfl) (by kernel_rfl) (by decide +kernel) ?_; intro w0 hw0 hm0; (try simp only [List.append_eq, List.cons_append, List.nil_append])) | (refine auP ?_) | ((refine auR ?_); clear hK K) | (refine auR ?_) | ((with_reducible refine hK _ _ ?_); clear hK K) | fail)
  first | refine end_ret (ResP.tmp rfl ResP.nil) ?_ | refine end_normal (ResP.tmp rfl ResP.nil) ?_
  (try dsimp only [tupV])
  exact ⟨_, _, rfl, hx, .skip (SubL.refl _)⟩
end Go.Proofs.Ythljhaioblcgfaa
namespace Go.Proofs.Ythljhaioblcgfaa
set_option linter.unusedVariables false
set_option linter.unusedSimpArgs false
theorem openE_ne {D : Dk} {r : Bool} (h : openE D r ≠ 0) : openD D r = D := by unfold openD; rw [if_neg h]
theorem sit_same {D : Dk} {k id n : Int} (h : sitE D k id n ≠ 0) : sitD D k id n = D := by
  unfold sitE at h
  unfold sitD
  by_cases h1 : k = 1
  · rw [if_pos h1] at h ⊢; exact openE_ne h
  rw [if_neg h1] at h ⊢
  by_cases h2 : k = 2
  · rw [if_pos h2] at h ⊢
    unfold closeE at h
    unfold closeD
    by_cases h3 : sget D.m id = none
    · rw [if_pos h3]
    · rw [if_neg h3] at h; exact absurd rfl h
  rw [if_neg h2] at h ⊢
  by_cases h3 : k = 3
  · rw [if_pos h3] at h; exact absurd rfl h
  rw [if_neg h3] at h ⊢
  by_cases h4 : k = 4
  · rw [if_pos h4] at h ⊢; unfold loginD; rw [if_neg h]
  rw [if_neg h4] at h ⊢
  by_cases h5 : k = 5
  · rw [if_pos h5] at h ⊢; unfold logoutD; rw [if_neg h]
  rw [if_neg h5]
theorem sget_mem {k : Int} {r : Bool} : ∀ {m : List Se}, sget m k = some r → ∃ c, (k, r, c) ∈ m
  | [], h => by cases h
  | x :: t, h => by
    rw [sget] at h
    by_cases e : k = x.1
    · rw [if_pos e] at h
      cases h
      exact ⟨x.2.2, by rw [e]; exact List.mem_cons_self⟩
    · rw [if_neg e] at h
      obtain ⟨c, hc⟩ := sget_mem h
      exact ⟨c, List.mem_cons_of_mem _ hc⟩
theorem sget_of {m : List Se} {x : Se} (h : x ∈ m) : ∃ r, sget m x.1 = some r := by
  cases hs : sget m x.1 with
  | some r => exact ⟨r, rfl⟩
  | none => exact absurd rfl (sget_none.1 hs x h)
theorem sdel_gone {k : Int} : ∀ {m : List Se}, (m.map (·.1)).Nodup → sget (sdel m k) k = none
  | [], _ => rfl
  | x :: t, h => by
    rw [List.map_cons, List.nodup_cons] at h
    rw [sdel]
    by_cases e : k = x.1
    · rw [if_pos e]
      refine sget_none.2 fun y hy he => h.1 ?_
      rw [← e, ← he]
      exact List.mem_map_of_mem hy
    · rw [if_neg e, sget, if_neg e]
      exact sdel_gone h.2
theorem close_gone {D : Dk} (h : DkOk D) {id : Int} (he : closeE D id = 0) : stateE (closeD D id) id = 6 := by
  unfold closeE at he
  unfold closeD stateE
  by_cases h1 : sget D.m id = none
  · rw [if_pos h1] at he; cases he
  · rw [if_neg h1]
    exact if_pos (sdel_gone h.keys)
theorem sit_last {D : Dk} {k id n : Int} (h : k ≠ 1) : (sitD D k id n).last = D.last := by
  unfold sitD
  rw [if_neg h]
  split
  · unfold closeD; split <;> rfl
  · split
    · rfl
    · split
      · unfold loginD; split <;> rfl
      · split
        · unfold logoutD; split <;> rfl
        · rfl
theorem sit_most {D : Dk} {k id n : Int} : (sitD D k id n).most = D.most := by
  unfold sitD
  split
  · unfold openD; split <;> rfl
  · split
    · unfold closeD; split <;> rfl
    · split
      · rfl
      · split
        · unfold loginD; split <;> rfl
        · split
          · unfold logoutD; split <;> rfl
          · rfl
/-- What holds of who is in. -/
structure DkAll (D : Dk) : Prop where
  ok : DkOk D
  off : D.who = 2 → ∀ x ∈ D.m, x.2.1 = true
  nob : D.m = [] → D.who = 0
theorem dkAll_new {most : Int} (h : 1 ≤ most ∧ most ≤ 16) : DkAll ⟨most, 0, 0, [], 0⟩ := ⟨dk_new h, fun e => (by cases e), fun _ => rfl⟩
theorem DkAll.opened {D : Dk} (h : DkAll D) (r : Bool) : DkAll (openD D r) := by
  refine ⟨h.ok.opened r, ?_, ?_⟩
  · unfold openD
    split
    · rename_i e
      intro hw x hx
      dsimp only at hw hx
      rcases List.mem_append.1 hx with hx | hx
      · exact h.off hw x hx
      · simp only [List.mem_singleton] at hx
        subst hx
        cases r with
        | true => rfl
        | false =>
          unfold openE at e
          split at e
          · cases e
          · rw [if_pos ⟨rfl, hw⟩] at e; cases e
    · exact h.off
  · unfold openD
    split
    · intro hm
      dsimp only at hm
      simp at hm
    · exact h.nob
theorem DkAll.close {D : Dk} (h : DkAll D) (id : Int) : DkAll (closeD D id) := by
  refine ⟨h.ok.close id, ?_, ?_⟩
  · unfold closeD
    split
    · exact h.off
    · intro hw x hx
      dsimp only at hw hx
      by_cases hn : sdel D.m id = []
      · rw [if_pos hn] at hw; cases hw
      · rw [if_neg hn] at hw; exact h.off hw x (sdel_mem hx)
  · unfold closeD
    split
    · exact h.nob
    · intro hm
      dsimp only at hm ⊢
      rw [if_pos hm]
theorem DkAll.all {D : Dk} (h : DkAll D) : DkAll (allD D) := ⟨h.ok.all, fun e => (by cases e), fun _ => rfl⟩
theorem DkAll.login {D : Dk} (h : DkAll D) (id role : Int) : DkAll (loginD D id role) := by
  refine ⟨h.ok.login id role, ?_, ?_⟩
  · unfold loginD
    split
    · rename_i e
      intro hw x hx
      dsimp only at hw hx
      subst hw
      obtain ⟨r, hs, _, h0⟩ := loginE_zero e
      cases hb : x.2.1 with
      | true => rfl
      | false =>
        unfold loginE at e
        rw [if_neg (by rw [hs]; simp), if_neg (by simp), if_neg (by simpa using h0), if_pos ⟨rfl, x, hx, hb⟩] at e
        cases e
    · exact h.off
  · unfold loginD
    split
    · rename_i e
      intro hm
      dsimp only at hm
      obtain ⟨r, hs, _⟩ := loginE_zero e
      rw [hm] at hs; cases hs
    · exact h.nob
theorem DkAll.logout {D : Dk} (h : DkAll D) (id : Int) : DkAll (logoutD D id) := by
  refine ⟨h.ok.logout id, ?_, ?_⟩
  · unfold logoutD
    split
    · intro hw; cases hw
    · exact h.off
  · unfold logoutD
    split
    · intro _; rfl
    · exact h.nob
theorem DkAll.sit {D : Dk} (h : DkAll D) (k id n : Int) : DkAll (sitD D k id n) := by
  unfold sitD
  split
  · exact h.opened _
  · split
    · exact h.close _
    · split
      · exact h.all
      · split
        · exact h.login _ _
        · split
          · exact h.logout _
          · exact h
/-! ### The numbers -/
theorem idsD_perm (D : Dk) : (idsD D).Perm (D.m.map (·.1)) := List.mergeSort_perm _ _
theorem idsD_len (D : Dk) : (idsD D).length = D.m.length := by rw [(idsD_perm D).length_eq, List.length_map]
theorem idsD_sorted (D : Dk) : (idsD D).Pairwise (· ≤ ·) := by
  have h := List.pairwise_mergeSort (le := fun x y : Int => decide (x ≤ y)) (fun a b c h1 h2 => by simp only [decide_eq_true_eq] at *; omega) (fun a b => by simp only [Bool.or_eq_true, decide_eq_true_eq]; omega) (D.m.map (·.1))
  exact h.imp fun h => by simpa using h
theorem idsD_get {D : Dk} {j : Nat} {x : Int} (h : (idsD D)[j]? = some x) : ∃ r, sget D.m x = some r := by
  have h1 := (idsD_perm D).mem_iff.1 (List.mem_of_getElem? h)
  obtain ⟨y, hy, rfl⟩ := List.mem_map.1 h1
  exact sget_of hy
theorem DkAll.state {D : Dk} (h : DkAll D) {id : Int} {r : Bool} (hs : sget D.m id = some r) :
    (2 < stateN D id ∧ stateN D id - 3 = D.who ∧ stateN D id ≤ 5) ∨ (stateN D id ≤ 2 ∧ 1 ≤ stateN D id ∧ stateN D id - 1 = D.who ∧ D.who ≠ 2) := by
  rw [stateN_some hs]
  have h1 := h.ok.who
  cases r with
  | true => left; unfold stB; simp only [cond_true]; omega
  | false =>
    right
    have h2 : D.who ≠ 2 := fun e => by
      obtain ⟨c, hc⟩ := sget_mem hs
      have := h.off e _ hc
      cases this
    unfold stB; simp only [cond_false]; omega
end Go.Proofs.Ythljhaioblcgfaa
namespace Go.Proofs.Ythljhaioblcgfaa
open Go.RowKit
set_option linter.unusedVariables false
set_option linter.unusedSimpArgs false
set_option maxRecDepth 100000
theorem map_at {xs : List Int} {i : Nat} {x : Int} (h : xs[i]? = some x) : (xs.map (Value.int .i64))[i]? = some (.int .i64 x) := by rw [List.getElem?_map, h]; rfl
theorem eqI_c (w : World) {v u : Value} {n : Nat} {xs : List Int} (hv : Cs w v n (xs.map (Value.int .i64))) (hu : Cs w u n (xs.map (Value.int .i64))) (hl : xs.length = n) (hn : n ≤ 1000000) :
    Calls Try.prog 14 [v, u].toArray w (Ret (.bool true) w) := by
  haveI := hv.old
  haveI := hu.old
  have t1 : ((n : Int) != (n : Int)) = false := by simp
  clear hv hu
  refine fn_ret (N := _) Try.func14 rfl Try.ntmps14 Try.results14 (by simp) ?_
  simp only [initS, Nat.reduceAdd, Nat.zero_add]
  repeat' (first | (refine wlS ?_) | (refine wlB ?_) | (refine wlE ?_) | (refine efSvao ?_; intro v oa ho) | (refine wl_skip rfl rfl ?_) | (refine wdS ?_) | (refine wdV ?_) | (refine wdB ?_) | (refine wd_skip rfl rfl ?_) | ((with_reducible refine seld_nil ?_); refine wd_nil hm0 ?_; clear hm0 hw0) | ((with_reducible refine wc_seq ?_); intro K hK) | (refine auC ?_) | (refine wc_cond rfl (fun hc => ?_) (fun hc => ?_)) | (refine wc_draw (by kernel_rfl) (by kernel_rfl) (by decide +kernel) ?_; intro w0 hw0 hm0; (try simp only [List.append_eq, List.cons_append, List.nil_append])) | (refine auP ?_) | ((refine auR ?_); clear hK K) | (refine auR ?_) | ((with_reducible refine hK _ _ ?_); clear hK K) | fail)
  refine wc_loop (σ := Nat) (fun i => [(0, v), (1, u), (12, .int .i64 (n : Int)), (13, .int .i64 (i : Int))]) (fun _ => [])
    (fun i => i ≤ n) (fun i => n - i) 0 (Nat.zero_le _) (Fits.of ⟨rfl, rfl, rfl, rfl, trivial⟩ .nil rfl) ?_
  rintro i hi
  by_cases hlt : i < n
  · have t2 : decide ((i : Int) < (n : Int)) = true := decide_eq_true (by omega)
    have t3 : IntKind.i64.wrap ((i : Int) + 1) = ((i + 1 : Nat) : Int) := by rw [wrap_i64 _ (by omega) (by omega)]; omega
    have j1 : (i : Int) < (n : Int) := by omega
    obtain ⟨x0, hx0⟩ : ∃ x, xs[i]? = some x := ⟨xs[i], List.getElem?_eq_getElem (by omega)⟩
    have g0 := map_at hx0
    have t4 : (x0 != x0) = false := by simp
    repeat' (first | (refine wlS ?_) | (refine wlB ?_) | (refine wlE ?_) | (refine efSvao ?_; intro v oa ho) | (refine wl_skip rfl rfl ?_) | (refine wdS ?_) | (refine wdV ?_) | (refine wdB ?_) | (refine wd_skip rfl rfl ?_) | ((with_reducible refine seld_nil ?_); refine wd_nil hm0 ?_; clear hm0 hw0) | ((with_reducible refine wc_seq ?_); intro K hK) | (refine auC ?_) | (refine wc_cond rfl (fun hc => ?_) (fun hc => ?_)) | (refine wc_draw (by kernel_rfl) (by kernel_rfl) (by decide +kernel) ?_; intro w0 hw0 hm0; (try simp only [List.append_eq, List.cons_append, List.nil_append])) | (refine auP ?_) | ((refine auR ?_); clear hK K) | (refine auR ?_) | ((with_reducible refine hK _ _ ?_); clear hK K) | fail)
    exact ⟨i + 1, hlt, by omega, Fits.of ⟨rfl, rfl, rfl, rfl, trivial⟩ .nil rfl⟩
  · obtain rfl : i = n := by omega
    have t2 : decide ((i : Int) < (i : Int)) = false := decide_eq_false (by omega)
    repeat' (first | (refine wlS ?_) | (refine wlB ?_) | (refine wlE ?_) | (refine efSvao ?_; intro v oa ho) | (refine wl_skip rfl rfl ?_) | (refine wdS ?_) | (refine wdV ?_) | (refine wdB ?_) | (refine wd_skip rfl rfl ?_) | ((with_reducible refine seld_nil ?_); refine wd_nil hm0 ?_; clear hm0 hw0) | ((with_reducible refine wc_seq ?_); intro K hK) | (refine auC ?_) | (refine wc_cond rfl (fun hc => ?_) (fun hc => ?_)) | (refine wc_draw (by kernel_rfl) (by kernel_rfl) (by decide +kernel) ?_; intro w0 hw0 hm0; (try simp only [List.append_eq, List.cons_append, List.nil_append])) | (refine auP ?_) | ((refine auR ?_); clear hK K) | (refine auR ?_) | ((with_reducible refine hK _ _ ?_); clear hK K) | fail)
    first | refine end_ret (ResP.tmp rfl ResP.nil) ?_ | refine end_normal (ResP.tmp rfl ResP.nil) ?_
    first | rfl | (show _ = _; rfl) | (simp only [tupV, *]; done)
theorem isNaN_c (w : World) (x : Int) : Calls Try.prog 26 [.int .i64 x].toArray w (Ret (.bool false) w) := by
  have t4 : (x != x) = false := by simp
  refine fn_ret (N := _) Try.func26 rfl Try.ntmps26 Try.results26 (by simp) ?_
  simp only [initS, Nat.reduceAdd, Nat.zero_add]
  repeat' (first | (refine wlB ?_) | (refine wl_skip rfl rfl ?_) | ((with_reducible refine wc_seq ?_); intro K hK) | (refine auC ?_) | (refine wc_cond rfl (fun hc => ?_) (fun hc => ?_)) | (refine wc_draw (by kernel_rfl) (by kernel_rfl) (by decide +kernel) ?_; intro w0 hw0 hm0; (try simp only [List.append_eq, List.cons_append, List.nil_append])) | (refine auP ?_) | ((refine auR ?_); clear hK K) | (refine auR ?_) | ((with_reducible refine hK _ _ ?_); clear hK K) | fail)
  first | refine end_ret (ResP.tmp rfl ResP.nil) ?_ | refine end_normal (ResP.tmp rfl ResP.nil) ?_
  first | rfl | (show _ = _; rfl) | (simp only [tupV, *]; done)
theorem less_c (w : World) (x y : Int) {r : Bool} (h : decide (x < y) = r) : Calls Try.prog 22 [.int .i64 x, .int .i64 y].toArray w (Ret (.bool r) w) := by
  have C1 := fun w' => isNaN_c w' x
  refine fn_ret (N := _) Try.func22 rfl Try.ntmps22 Try.results22 (by simp) ?_
  simp only [initS, Nat.reduceAdd, Nat.zero_add]
  repeat' (first | (refine wlS ?_) | (refine wlB ?_) | ((with_reducible refine sel_call ?_); refine wl_rd rfl rfl (rd_call rfl rfl rfl (fun w hm => by with_reducible exact C1 w)) ?_) | (refine wlE ?_) | (refine efSvao ?_; intro v oa ho) | (refine wl_skip rfl rfl ?_) | ((with_reducible refine wc_seq ?_); intro K hK) | (refine auC ?_) | (refine wc_cond rfl (fun hc => ?_) (fun hc => ?_)) | (refine wc_draw (by kernel_rfl) (by kernel_rfl) (by decide +kernel) ?_; intro w0 hw0 hm0; (try simp only [List.append_eq, List.cons_append, List.nil_append])) | (refine auP ?_) | ((refine auR ?_); clear hK K) | (refine auR ?_) | ((with_reducible refine hK _ _ ?_); clear hK K) | fail)
  first | refine end_ret (ResP.tmp rfl ResP.nil) ?_ | refine end_normal (ResP.tmp rfl ResP.nil) ?_
  first | rfl | (show _ = _; rfl) | (simp only [tupV, *]; done)
theorem isSorted_c (w : World) {v : Value} {n : Nat} {xs : List Int} (hv : Cs w v n (xs.map (Value.int .i64))) (hl : xs.length = n) (hn : n ≤ 1000000) (hs : xs.Pairwise (· ≤ ·)) :
    Calls Try.prog 16 [v].toArray w (Ret (.bool true) w) := by
  haveI := hv.old
  have t0 : IntKind.i64.wrap ((n : Int) - 1) = (n : Int) - 1 := wrap_i64 _ (by omega) (by omega)
  clear hv
  refine fn_ret (N := _) Try.func16 rfl Try.ntmps16 Try.results16 (by simp) ?_
  simp only [initS, Nat.reduceAdd, Nat.zero_add]
  repeat' (first | (refine wlS ?_) | (refine wlB ?_) | (refine wlE ?_) | (refine efSvao ?_; intro v oa ho) | (refine wl_skip rfl rfl ?_) | (refine wdS ?_) | (refine wdV ?_) | (refine wdB ?_) | (refine wdE ?_) | (refine wd_skip rfl rfl ?_) | ((with_reducible refine seld_nil ?_); refine wd_nil hm0 ?_; clear hm0 hw0) | ((with_reducible refine wc_seq ?_); intro K hK) | (refine auC ?_) | (refine wc_cond rfl (fun hc => ?_) (fun hc => ?_)) | (refine wc_draw (by kernel_rfl) (by kernel_rfl) (by decide +kernel) ?_; intro w0 hw0 hm0; (try simp only [List.append_eq, List.cons_append, List.nil_append])) | (refine auP ?_) | ((refine auR ?_); clear hK K) | (refine auR ?_) | ((with_reducible refine hK _ _ ?_); clear hK K) | fail)
  refine wc_loop (σ := Int) (fun i => [(0, v), (3, .int .i64 i)]) (fun _ => [])
    (fun i => i < n) (fun i => i.toNat) ((n : Int) - 1) (by omega) (Fits.of ⟨rfl, rfl, trivial⟩ .nil rfl) ?_
  rintro i hi
  by_cases hlt : 0 < i
  · obtain ⟨j, rfl⟩ : ∃ j : Nat, i = ((j + 1 : Nat) : Int) := ⟨i.toNat - 1, by omega⟩
    have t2 : decide (((j + 1 : Nat) : Int) > 0) = true := decide_eq_true (by omega)
    have t3 : IntKind.i64.wrap (((j + 1 : Nat) : Int) - 1) = (j : Int) := by rw [wrap_i64 _ (by omega) (by omega)]; omega
    have j1 : ((j + 1 : Nat) : Int) < (n : Int) := by omega
    have j2 : (j : Int) < (n : Int) := by omega
    obtain ⟨x0, hx0⟩ : ∃ x, xs[j + 1]? = some x := ⟨xs[j + 1]'(by omega), List.getElem?_eq_getElem (by omega)⟩
    obtain ⟨x1, hx1⟩ : ∃ x, xs[j]? = some x := ⟨xs[j]'(by omega), List.getElem?_eq_getElem (by omega)⟩
    have hle : x1 ≤ x0 := by
      have h := List.pairwise_iff_getElem.1 hs j (j + 1) (by omega) (by omega) (by omega)
      rw [List.getElem?_eq_getElem (by omega)] at hx0 hx1
      cases hx0; cases hx1; exact h
    have g0 := map_at hx0
    have g1 := map_at hx1
    have LC := fun w' => less_c w' x0 x1 (r := false) (decide_eq_false (by omega))
    clear hle hx0 hx1
    repeat' (first | (refine wlS ?_) | (refine wlB ?_) | ((with_reducible refine sel_call ?_); refine wl_rd rfl rfl (rd_call rfl rfl rfl (fun w hm => by with_reducible exact LC w)) ?_) | (refine wlE ?_) | (refine efSvao ?_; intro v oa ho) | (refine wl_skip rfl rfl ?_) | (refine wdS ?_) | (refine wdV ?_) | (refine wdB ?_) | ((with_reducible refine seld_call ?_); refine wd_rd hm0 rfl rfl rfl rfl (rd_call rfl rfl rfl (fun w hm => by with_reducible exact LC w)) ?_) | (refine wdE ?_) | (refine wd_skip rfl rfl ?_) | ((with_reducible refine seld_nil ?_); refine wd_nil hm0 ?_; clear hm0 hw0) | ((with_reducible refine wc_seq ?_); intro K hK) | (refine auC ?_) | (refine wc_cond rfl (fun hc => ?_) (fun hc => ?_)) | (refine wc_draw (by kernel_rfl) (by kernel_rfl) (by decide +kernel) ?_; intro w0 hw0 hm0; (try simp only [List.append_eq, List.cons_append, List.nil_append])) | (refine auP ?_) | ((refine auR ?_); clear hK K) | (refine auR ?_) | ((with_reducible refine hK _ _ ?_); clear hK K) | fail)
    exact ⟨(j : Int), by omega, by omega, Fits.of ⟨rfl, rfl, trivial⟩ .nil rfl⟩
  · have t2 : decide (i > 0) = false := decide_eq_false (by omega)
    repeat' (first | (refine wlS ?_) | (refine wlB ?_) | (refine wlE ?_) | (refine efSvao ?_; intro v oa ho) | (refine wl_skip rfl rfl ?_) | (refine wdS ?_) | (refine wdV ?_) | (refine wdB ?_) | (refine wdE ?_) | (refine wd_skip rfl rfl ?_) | ((with_reducible refine seld_nil ?_); refine wd_nil hm0 ?_; clear hm0 hw0) | ((with_reducible refine wc_seq ?_); intro K hK) | (refine auC ?_) | (refine wc_cond rfl (fun hc => ?_) (fun hc => ?_)) | (refine wc_draw (by kernel_rfl) (by kernel_rfl) (by decide +kernel) ?_; intro w0 hw0 hm0; (try simp only [List.append_eq, List.cons_append, List.nil_append])) | (refine auP ?_) | ((refine auR ?_); clear hK K) | (refine auR ?_) | ((with_reducible refine hK _ _ ?_); clear hK K) | fail)
    first | refine end_ret (ResP.tmp rfl ResP.nil) ?_ | refine end_normal (ResP.tmp rfl ResP.nil) ?_
    first | rfl | (show _ = _; rfl) | (simp only [tupV, *]; done)
end Go.Proofs.Ythljhaioblcgfaa
