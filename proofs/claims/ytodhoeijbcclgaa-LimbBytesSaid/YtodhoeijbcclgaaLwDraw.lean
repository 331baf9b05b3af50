/- The walk over lists: regions that draw their order, in the order of the text. -/
import Derived.Test.YtodhoeijbcclgaaLwOps
namespace Go.Proofs.Ytodhoeijbcclgaa
open Go.RowKit
set_option linter.unusedVariables false
set_option linter.unusedSimpArgs false
/-- What the region has made of the blocks. -/
structure Dr (X : Cx) (w0 : World) (l0 lc : Blks) (μ : Mu) (clean : Bool) : Prop where
  nd : (keys lc).Nodup
  ov : ∀ k, (mu lc).f k = match μ.f k with | some x => some x | none => (mu l0).f k
  cl : clean = true → ∀ k, k < w0.heap.size → μ.f k = none
  fr : ∀ n ∈ keys lc, n < X.W.heap.size → n ∈ X.own
def Wd (X : Cx) (w0 : World) (l0 : Blks) (ops : Array Oper) (Q : Post) (r : List Oper) (s : Slots) (lc : Blks) (clean : Bool) : Prop :=
  ∀ a μ, Env X.N s a → Dr X w0 l0 lc μ clean → wpM X.P w0 ops (fun a' μ' => ∀ w', Cls w0 μ' w' → lift X Q .normal a' w') r a μ
section
variable {X : Cx} {w0 : World} {l0 lc : Blks} {s : Slots} {o : Oper} {v : Value} {Q : Post} {ops : Array Oper} {r : List Oper} {clean : Bool}
theorem Dr.mem {μ : Mu} {w' : World} (h : Dr X w0 l0 lc μ clean) (hm : Mem X l0 w0) (hc : Cls w0 μ w') : Mem X lc w' := by
  refine ⟨h.nd, ⟨hc.os.trans hm.cls.os, hc.tape.trans hm.cls.tape, hc.output.trans hm.cls.output, Nat.le_trans hm.cls.size hc.size, fun k hk hx => ?_, fun k c t hx => ?_⟩, h.fr⟩
  · rw [h.ov k] at hx
    cases hμ : μ.f k with
    | some x => rw [hμ] at hx; cases hx
    | none =>
      rw [hμ] at hx
      rw [hc.old k (Nat.lt_of_lt_of_le hk hm.cls.size) hμ]
      exact hm.cls.old k hk hx
  · rw [h.ov k] at hx
    cases hμ : μ.f k with
    | some x =>
      rw [hμ] at hx
      cases hx
      exact hc.now k c t hμ
    | none =>
      rw [hμ] at hx
      have h0 := hm.cls.now k c t hx
      rw [hc.old k (blk_lt h0) hμ]
      exact h0
theorem wc_draw {id : Nat} {l : Blks} (hm : X.P.follows .mixedOrders = true) (hB : Region.lexB .any r.toArray = true) (hP : passB .any r.toArray = true)
    (h : ∀ w0, X.W.heap.size ≤ w0.heap.size → Mem X l w0 → Wd X w0 l r.toArray Q r s l true) : Wc X (.region id r.toArray true) Q s l := fun a w hs =>
  wp_region_mild hm hB hP (h w hs.mem.cls.size hs.mem a .empty hs.env ⟨hs.mem.nd, fun k => rfl, fun _ _ _ => rfl, hs.mem.fresh⟩)
theorem wd_nil (hm : Mem X l0 w0) (h : Q .normal s lc) : Wd X w0 l0 ops Q [] s lc clean := fun a μ he hd => wpM_nil fun w' hc => ⟨s, lc, ⟨he, hd.mem hm hc⟩, h⟩
theorem wd_skip {s' : Slots} (hg : gd s ops o = some false) (hd : dOk X.N o.dst = true) (hs' : sputO s o.dst undef = s') (h : Wd X w0 l0 ops Q r s' lc clean) : Wd X w0 l0 ops Q (o :: r) s lc clean := fun a μ he hdr => by
  subst hs'
  exact wpM_skip (gd_wanted he hg) (h _ μ (he.put hd _) hdr)
theorem wd_move {s' : Slots} {x : Operand} (hg : gd s ops o = some true) (hd : dOk X.N o.dst = true) (ho : o.op = .move x) (hx : val s x = some v) (hs' : sputO s o.dst v = s') (h : Wd X w0 l0 ops Q r s' lc clean) : Wd X w0 l0 ops Q (o :: r) s lc clean := fun a μ he hdr => by
  subst hs'
  exact wpM_plain (gd_wanted he hg) (by unfold opKind; rw [ho]) (by rw [ho]; simp only [plainVal, he.eval hx]) (h _ μ (he.put hd _) hdr)
theorem wd_assign {s' : Slots} {x : Operand} (hg : gd s ops o = some true) (hd : dOk X.N o.dst = true) (ho : o.op = .assign x) (hx : val s x = some v) (hs' : sputO s o.dst v = s') (h : Wd X w0 l0 ops Q r s' lc clean) : Wd X w0 l0 ops Q (o :: r) s lc clean := fun a μ he hdr => by
  subst hs'
  exact wpM_plain (gd_wanted he hg) (by unfold opKind; rw [ho]) (by rw [ho]; simp only [plainVal, he.eval hx]) (h _ μ (he.put hd _) hdr)
theorem wd_extract {s' : Slots} {x : Operand} {k : Nat} {vs : Array Value} (hg : gd s ops o = some true) (hd : dOk X.N o.dst = true) (ho : o.op = .extract x k) (hx : val s x = some (.tuple vs)) (hv : vs[k]? = some v) (hs' : sputO s o.dst v = s') (h : Wd X w0 l0 ops Q r s' lc clean) : Wd X w0 l0 ops Q (o :: r) s lc clean := fun a μ he hdr => by
  subst hs'
  exact wpM_plain (gd_wanted he hg) (by unfold opKind; rw [ho]) (by rw [ho]; simp only [plainVal, he.eval hx]; exact hv) (h _ μ (he.put hd _) hdr)
/-- An operation that reads at most: what it reads stands at the region's beginning. -/
theorem wd_rd {s' : Slots} (hm : Mem X l0 w0) (hcl : clean = true) (hk : opKind o = .mild) (hg : gd s ops o = some true) (hd : dOk X.N o.dst = true) (hr : Rd X s l0 o v) (hs' : sputO s o.dst v = s') (h : Wd X w0 l0 ops Q r s' lc clean) : Wd X w0 l0 ops Q (o :: r) s lc clean := fun a μ he hdr => by
  subst hs'
  exact wpM_mild' (gd_wanted he hg) hk (hdr.cl hcl) (fun x => hr a x.to he (hm.grow x.below)) (h _ μ (he.put hd _) hdr)
theorem wd_alloc {t : Nat} {z : Value} {c : Array Value} {s' : Nat → Slots} (hm : Mem X l0 w0) (hg : gd s ops o = some true) (hd : dOk X.N o.dst = true) (ho : o.op = .alloc t) [hz : ZR X.P t z] (hc : z.cells = c) (hs' : ∀ n, sputO s o.dst (ptr n) = s' n)
    (h : ∀ n, X.W.heap.size ≤ n → w0.heap.size ≤ n → Wd X w0 l0 ops Q r (s' n) ((n, (c, t)) :: lc) clean) : Wd X w0 l0 ops Q (o :: r) s lc clean := fun a μ he hdr => by
  obtain rfl : (fun n => sputO s o.dst (ptr n)) = s' := funext hs'
  subst hc
  have hz' : zeroCells X.P t = some z.cells := by unfold zeroCells; rw [hz.out]; rfl
  refine wpM_alloc (gd_wanted he hg) ho hz' (fun n hn hf => h n (Nat.le_trans hm.cls.size hn) hn _ _ (he.put hd _) ?_)
  have h0 : (mu l0).f n = none := mu_none fun hk => by have := hm.lt hk; omega
  have hc0 : (mu lc).f n = none := by rw [hdr.ov n, hf]; exact h0
  have hnk : n ∉ keys lc := fun hk => by obtain ⟨x, hx⟩ := mu_some hk; rw [hx] at hc0; cases hc0
  refine ⟨?_, fun k => ?_, fun hcl k hk => ?_, fun k hk hlt => ?_⟩
  · simp only [keys, List.map_cons, List.nodup_cons]; exact ⟨hnk, hdr.nd⟩
  · rw [mu, Mu.put_f, Mu.put_f]
    by_cases hk : k = n
    · rw [if_pos hk, if_pos hk]
    · rw [if_neg hk, if_neg hk]; exact hdr.ov k
  · rw [Mu.put_f, if_neg (by omega)]; exact hdr.cl hcl k hk
  · simp only [keys, List.map_cons, List.mem_cons] at hk
    rcases hk with rfl | hk
    · have := hm.cls.size; omega
    · exact hdr.fr k hk hlt
theorem Dr.cur {μ : Mu} {lc' : Blks} {n : Nat} {x y : Array Value × TypeId} (h : Dr X w0 l0 lc μ clean) (hm : Mem X l0 w0) (ha : At lc n x y lc') : cur w0 μ n = some x := by
  have h1 := ha.now h.nd
  rw [h.ov n] at h1
  unfold Proofs.Ytodhoeijbcclgaa.cur
  cases hμ : μ.f n with
  | some z => rw [hμ] at h1; exact h1
  | none =>
    rw [hμ] at h1
    have := hm.cls.now n x.1 x.2 h1
    dsimp only
    rw [this]
    rfl
theorem Dr.put {μ : Mu} {lc' : Blks} {n : Nat} {x y : Array Value × TypeId} (h : Dr X w0 l0 lc μ clean) (ha : At lc n x y lc') (clean' : Bool) (hc : clean' = true → clean = true ∧ w0.heap.size ≤ n) : Dr X w0 l0 lc' (μ.put n y) clean' := by
  refine ⟨by rw [ha.keys]; exact h.nd, fun k => ?_, fun hcl k hk => ?_, fun k hk => h.fr k (by rw [← ha.keys]; exact hk)⟩
  · rw [ha.put h.nd k, Mu.put_f]
    by_cases hk : k = n
    · rw [if_pos hk, if_pos hk]
    · rw [if_neg hk, if_neg hk]; exact h.ov k
  · obtain ⟨h1, h2⟩ := hc hcl
    rw [Mu.put_f, if_neg (by omega)]
    exact h.cl h1 k hk
theorem wd_cell {s' : Slots} {t : Nat} {x y : Operand} {b off : Nat} {c c' : Array Value} {e : Nat} {lc' : Blks} {clean' : Bool} (hm : Mem X l0 w0) (hg : gd s ops o = some true) (hd : dOk X.N o.dst = true) (ho : o.op = .store t x y) (hx : val s x = some (.pointer (some ⟨b, off, none⟩))) (hy : val s y = some v)
    (h1 : v.oneCell' = true) [hs : SZ X.P t 1] (ha : At lc b (c, e) (c', e) lc') (hc : putC c off v = c') (hlt : off < c.size) (hfr : fresh ops o = true → w0.heap.size ≤ b) (hcl : clean' = true → clean = true ∧ w0.heap.size ≤ b) (hs' : sputO s o.dst undef = s') (h : Wd X w0 l0 ops Q r s' lc' clean') : Wd X w0 l0 ops Q (o :: r) s lc clean := fun a μ he hdr => by
  subst hs'
  subst hc
  exact wpM_cell (gd_wanted he hg) ho (he.eval hx) (he.eval hy) (hdr.cur hm ha) hs.out h1 hlt hfr (h _ _ (he.put hd _) (hdr.put ha clean' hcl))
/-- A store of a whole variable. -/
theorem wd_row {s' : Slots} {t k : Nat} {x y : Operand} {b : Nat} {c cs : Array Value} {e : Nat} {lc' : Blks} {clean' : Bool} (hm : Mem X l0 w0) (hg : gd s ops o = some true) (hd : dOk X.N o.dst = true) (ho : o.op = .store t x y) (hx : val s x = some (.pointer (some ⟨b, 0, none⟩))) (hy : val s y = some (.agg cs))
    (h1 : cs.all (·.oneCell') = true) [hs : SZ X.P t k] (hk : cs.size = k) (ha : At lc b (c, e) (cs, e) lc') (hlt : c.size = cs.size) (hfr : fresh ops o = true → w0.heap.size ≤ b) (hcl : clean' = true → clean = true ∧ w0.heap.size ≤ b) (hs' : sputO s o.dst undef = s') (h : Wd X w0 l0 ops Q r s' lc' clean') : Wd X w0 l0 ops Q (o :: r) s lc clean := fun a μ he hdr => by
  subst hs'
  exact wpM_row (gd_wanted he hg) ho (he.eval hx) (he.eval hy) (hdr.cur hm ha) (by rw [hs.out, hk]) hlt h1 hfr (h _ _ (he.put hd _) (hdr.put ha clean' hcl))
end
section
variable {X : Cx} {w0 : World} {l0 lc : Blks} {clean : Bool} {s : Slots} {Q : Post} {ops : Array Oper} {r : List Oper} {d : Option Tmp} {ty : TypeId} {p : String} {af : Array Edge} {g : Option (Nat × Bool)}
theorem seld_nil (h : Wd X w0 l0 ops Q [] s lc clean) : Wd X w0 l0 ops Q [] s lc clean := h
theorem seld_move {x : Operand} (h : Wd X w0 l0 ops Q (⟨d, .move x, ty, p, af, g⟩ :: r) s lc clean) : Wd X w0 l0 ops Q (⟨d, .move x, ty, p, af, g⟩ :: r) s lc clean := h
theorem seld_assign {x : Operand} (h : Wd X w0 l0 ops Q (⟨d, .assign x, ty, p, af, g⟩ :: r) s lc clean) : Wd X w0 l0 ops Q (⟨d, .assign x, ty, p, af, g⟩ :: r) s lc clean := h
theorem seld_pick {x y z : Operand} (h : Wd X w0 l0 ops Q (⟨d, .pick x y z, ty, p, af, g⟩ :: r) s lc clean) : Wd X w0 l0 ops Q (⟨d, .pick x y z, ty, p, af, g⟩ :: r) s lc clean := h
theorem seld_alloc {t : Nat} (h : Wd X w0 l0 ops Q (⟨d, .alloc t, ty, p, af, g⟩ :: r) s lc clean) : Wd X w0 l0 ops Q (⟨d, .alloc t, ty, p, af, g⟩ :: r) s lc clean := h
theorem seld_box {t : Nat} {x : Operand} (h : Wd X w0 l0 ops Q (⟨d, .box t x, ty, p, af, g⟩ :: r) s lc clean) : Wd X w0 l0 ops Q (⟨d, .box t x, ty, p, af, g⟩ :: r) s lc clean := h
theorem seld_build {t : Nat} {ps : Array (Nat × Operand)} (h : Wd X w0 l0 ops Q (⟨d, .build t ps, ty, p, af, g⟩ :: r) s lc clean) : Wd X w0 l0 ops Q (⟨d, .build t ps, ty, p, af, g⟩ :: r) s lc clean := h
theorem seld_bslice {t n : Nat} {ps : Array (Nat × Operand)} (h : Wd X w0 l0 ops Q (⟨d, .buildSlice t n ps, ty, p, af, g⟩ :: r) s lc clean) : Wd X w0 l0 ops Q (⟨d, .buildSlice t n ps, ty, p, af, g⟩ :: r) s lc clean := h
theorem seld_load {t : Nat} {x : Operand} (h : Wd X w0 l0 ops Q (⟨d, .load t x, ty, p, af, g⟩ :: r) s lc clean) : Wd X w0 l0 ops Q (⟨d, .load t x, ty, p, af, g⟩ :: r) s lc clean := h
theorem seld_store {t : Nat} {x y : Operand} (h : Wd X w0 l0 ops Q (⟨d, .store t x y, ty, p, af, g⟩ :: r) s lc clean) : Wd X w0 l0 ops Q (⟨d, .store t x y, ty, p, af, g⟩ :: r) s lc clean := h
theorem seld_nilc {x : Operand} (h : Wd X w0 l0 ops Q (⟨d, .nilCheck x, ty, p, af, g⟩ :: r) s lc clean) : Wd X w0 l0 ops Q (⟨d, .nilCheck x, ty, p, af, g⟩ :: r) s lc clean := h
theorem seld_unop {o : UnOp} {t : Nat} {x : Operand} (h : Wd X w0 l0 ops Q (⟨d, .unOp o t x, ty, p, af, g⟩ :: r) s lc clean) : Wd X w0 l0 ops Q (⟨d, .unOp o t x, ty, p, af, g⟩ :: r) s lc clean := h
theorem seld_conv {a b : Nat} {x : Operand} (h : Wd X w0 l0 ops Q (⟨d, .convert a b x, ty, p, af, g⟩ :: r) s lc clean) : Wd X w0 l0 ops Q (⟨d, .convert a b x, ty, p, af, g⟩ :: r) s lc clean := h
theorem seld_fieldA {t f : Nat} {x : Operand} (h : Wd X w0 l0 ops Q (⟨d, .fieldAddr t x f, ty, p, af, g⟩ :: r) s lc clean) : Wd X w0 l0 ops Q (⟨d, .fieldAddr t x f, ty, p, af, g⟩ :: r) s lc clean := h
theorem seld_field {t f : Nat} {x : Operand} (h : Wd X w0 l0 ops Q (⟨d, .field t x f, ty, p, af, g⟩ :: r) s lc clean) : Wd X w0 l0 ops Q (⟨d, .field t x f, ty, p, af, g⟩ :: r) s lc clean := h
theorem seld_indexA {t : Nat} {x y : Operand} (h : Wd X w0 l0 ops Q (⟨d, .indexAddr t x y, ty, p, af, g⟩ :: r) s lc clean) : Wd X w0 l0 ops Q (⟨d, .indexAddr t x y, ty, p, af, g⟩ :: r) s lc clean := h
theorem seld_index {t : Nat} {x y : Operand} (h : Wd X w0 l0 ops Q (⟨d, .index t x y, ty, p, af, g⟩ :: r) s lc clean) : Wd X w0 l0 ops Q (⟨d, .index t x y, ty, p, af, g⟩ :: r) s lc clean := h
theorem seld_extract {x : Operand} {k : Nat} (h : Wd X w0 l0 ops Q (⟨d, .extract x k, ty, p, af, g⟩ :: r) s lc clean) : Wd X w0 l0 ops Q (⟨d, .extract x k, ty, p, af, g⟩ :: r) s lc clean := h
theorem seld_call {c : Call} (h : Wd X w0 l0 ops Q (⟨d, .call c, ty, p, af, g⟩ :: r) s lc clean) : Wd X w0 l0 ops Q (⟨d, .call c, ty, p, af, g⟩ :: r) s lc clean := h
theorem seld_slice {t : Nat} {x : Operand} {a b c : Option Operand} (h : Wd X w0 l0 ops Q (⟨d, .slice t x a b c, ty, p, af, g⟩ :: r) s lc clean) : Wd X w0 l0 ops Q (⟨d, .slice t x a b c, ty, p, af, g⟩ :: r) s lc clean := h
theorem seld_mslice {t : Nat} {x y : Operand} (h : Wd X w0 l0 ops Q (⟨d, .makeSlice t x y, ty, p, af, g⟩ :: r) s lc clean) : Wd X w0 l0 ops Q (⟨d, .makeSlice t x y, ty, p, af, g⟩ :: r) s lc clean := h
theorem seld_bin {o : BinOp} {t yt : Nat} {x y : Operand} (h : Wd X w0 l0 ops Q (⟨d, .binOp o t x y yt, ty, p, af, g⟩ :: r) s lc clean) : Wd X w0 l0 ops Q (⟨d, .binOp o t x y yt, ty, p, af, g⟩ :: r) s lc clean := h
theorem seld_b_add {t yt : Nat} {x y : Operand} (h : Wd X w0 l0 ops Q (⟨d, .binOp .add t x y yt, ty, p, af, g⟩ :: r) s lc clean) : Wd X w0 l0 ops Q (⟨d, .binOp .add t x y yt, ty, p, af, g⟩ :: r) s lc clean := h
theorem seld_b_sub {t yt : Nat} {x y : Operand} (h : Wd X w0 l0 ops Q (⟨d, .binOp .sub t x y yt, ty, p, af, g⟩ :: r) s lc clean) : Wd X w0 l0 ops Q (⟨d, .binOp .sub t x y yt, ty, p, af, g⟩ :: r) s lc clean := h
theorem seld_b_mul {t yt : Nat} {x y : Operand} (h : Wd X w0 l0 ops Q (⟨d, .binOp .mul t x y yt, ty, p, af, g⟩ :: r) s lc clean) : Wd X w0 l0 ops Q (⟨d, .binOp .mul t x y yt, ty, p, af, g⟩ :: r) s lc clean := h
theorem seld_b_quo {t yt : Nat} {x y : Operand} (h : Wd X w0 l0 ops Q (⟨d, .binOp .quo t x y yt, ty, p, af, g⟩ :: r) s lc clean) : Wd X w0 l0 ops Q (⟨d, .binOp .quo t x y yt, ty, p, af, g⟩ :: r) s lc clean := h
theorem seld_b_rem {t yt : Nat} {x y : Operand} (h : Wd X w0 l0 ops Q (⟨d, .binOp .rem t x y yt, ty, p, af, g⟩ :: r) s lc clean) : Wd X w0 l0 ops Q (⟨d, .binOp .rem t x y yt, ty, p, af, g⟩ :: r) s lc clean := h
theorem seld_b_and {t yt : Nat} {x y : Operand} (h : Wd X w0 l0 ops Q (⟨d, .binOp .and t x y yt, ty, p, af, g⟩ :: r) s lc clean) : Wd X w0 l0 ops Q (⟨d, .binOp .and t x y yt, ty, p, af, g⟩ :: r) s lc clean := h
theorem seld_b_or {t yt : Nat} {x y : Operand} (h : Wd X w0 l0 ops Q (⟨d, .binOp .or t x y yt, ty, p, af, g⟩ :: r) s lc clean) : Wd X w0 l0 ops Q (⟨d, .binOp .or t x y yt, ty, p, af, g⟩ :: r) s lc clean := h
theorem seld_b_xor {t yt : Nat} {x y : Operand} (h : Wd X w0 l0 ops Q (⟨d, .binOp .xor t x y yt, ty, p, af, g⟩ :: r) s lc clean) : Wd X w0 l0 ops Q (⟨d, .binOp .xor t x y yt, ty, p, af, g⟩ :: r) s lc clean := h
theorem seld_b_andNot {t yt : Nat} {x y : Operand} (h : Wd X w0 l0 ops Q (⟨d, .binOp .andNot t x y yt, ty, p, af, g⟩ :: r) s lc clean) : Wd X w0 l0 ops Q (⟨d, .binOp .andNot t x y yt, ty, p, af, g⟩ :: r) s lc clean := h
theorem seld_b_shl {t yt : Nat} {x y : Operand} (h : Wd X w0 l0 ops Q (⟨d, .binOp .shl t x y yt, ty, p, af, g⟩ :: r) s lc clean) : Wd X w0 l0 ops Q (⟨d, .binOp .shl t x y yt, ty, p, af, g⟩ :: r) s lc clean := h
theorem seld_b_shr {t yt : Nat} {x y : Operand} (h : Wd X w0 l0 ops Q (⟨d, .binOp .shr t x y yt, ty, p, af, g⟩ :: r) s lc clean) : Wd X w0 l0 ops Q (⟨d, .binOp .shr t x y yt, ty, p, af, g⟩ :: r) s lc clean := h
theorem seld_b_eql {t yt : Nat} {x y : Operand} (h : Wd X w0 l0 ops Q (⟨d, .binOp .eql t x y yt, ty, p, af, g⟩ :: r) s lc clean) : Wd X w0 l0 ops Q (⟨d, .binOp .eql t x y yt, ty, p, af, g⟩ :: r) s lc clean := h
theorem seld_b_neq {t yt : Nat} {x y : Operand} (h : Wd X w0 l0 ops Q (⟨d, .binOp .neq t x y yt, ty, p, af, g⟩ :: r) s lc clean) : Wd X w0 l0 ops Q (⟨d, .binOp .neq t x y yt, ty, p, af, g⟩ :: r) s lc clean := h
theorem seld_b_lss {t yt : Nat} {x y : Operand} (h : Wd X w0 l0 ops Q (⟨d, .binOp .lss t x y yt, ty, p, af, g⟩ :: r) s lc clean) : Wd X w0 l0 ops Q (⟨d, .binOp .lss t x y yt, ty, p, af, g⟩ :: r) s lc clean := h
theorem seld_b_leq {t yt : Nat} {x y : Operand} (h : Wd X w0 l0 ops Q (⟨d, .binOp .leq t x y yt, ty, p, af, g⟩ :: r) s lc clean) : Wd X w0 l0 ops Q (⟨d, .binOp .leq t x y yt, ty, p, af, g⟩ :: r) s lc clean := h
theorem seld_b_gtr {t yt : Nat} {x y : Operand} (h : Wd X w0 l0 ops Q (⟨d, .binOp .gtr t x y yt, ty, p, af, g⟩ :: r) s lc clean) : Wd X w0 l0 ops Q (⟨d, .binOp .gtr t x y yt, ty, p, af, g⟩ :: r) s lc clean := h
theorem seld_b_geq {t yt : Nat} {x y : Operand} (h : Wd X w0 l0 ops Q (⟨d, .binOp .geq t x y yt, ty, p, af, g⟩ :: r) s lc clean) : Wd X w0 l0 ops Q (⟨d, .binOp .geq t x y yt, ty, p, af, g⟩ :: r) s lc clean := h
end
end Go.Proofs.Ytodhoeijbcclgaa
