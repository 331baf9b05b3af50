/- Slices of bytes: the walk's rules. -/
import Derived.Test.YtkendlnjaopbeaaGreatDoorOwnOps
namespace Go.Proofs.YtkendlnjaopbeaaGreatDoor
open Go.RowKit
set_option linter.unusedVariables false
set_option linter.unusedSimpArgs false
/-- n bytes. -/
structure BL (n : Nat) (l : List Nat) : Prop where
  len : l.length = n
  by' : ∀ x ∈ l, x < 256
theorem BL.nil : BL 0 [] := ⟨rfl, by simp⟩
theorem BL.app {n m : Nat} {p q : List Nat} (h : BL n p) (h' : BL m q) : BL (n + m) (p ++ q) := ⟨by rw [List.length_append, h.len, h'.len], fun x hx => (List.mem_append.1 hx).elim (h.by' x) (h'.by' x)⟩
theorem BL.sub {n lo hi : Nat} {p : List Nat} (h : BL n p) (h1 : lo ≤ hi) (h2 : hi ≤ n) : BL (hi - lo) ((p.drop lo).take (hi - lo)) :=
  ⟨by rw [List.length_take, List.length_drop, h.len]; omega, fun x hx => h.by' x (List.mem_of_mem_drop (List.mem_of_mem_take hx))⟩
theorem BL.rep (n x : Nat) (hx : x < 256) : BL n (List.replicate n x) := ⟨by simp, fun y hy => by rw [(List.mem_replicate.1 hy).2]; exact hx⟩
theorem BL.set {n i x : Nat} {p : List Nat} (h : BL n p) (hx : x < 256) : BL n (p.set i x) := ⟨by rw [List.length_set, h.len], fun y hy => by
  rcases List.mem_or_eq_of_mem_set hy with h1 | h1
  · exact h.by' y h1
  · rw [h1]; exact hx⟩
/-- What a slice of bytes reads in a world. -/
structure Cb (w : World) (v : Value) (n : Nat) (p : List Nat) : Prop where
  cs : Cs w v n (bl p)
  ok : BL n p
class CsB (Φ : outParam (World → Prop)) (v : Value) (n : outParam Nat) (p : outParam (List Nat)) : Prop where
  cs : CsF Φ v n (bl p)
  ok : BL n p
instance CsB.csf {Φ : World → Prop} {v : Value} {n : Nat} {p : List Nat} [h : CsB Φ v n p] : CsF Φ v n (bl p) := h.cs
class OwnB (e : semiOutParam Nat) (v : Value) (n : outParam Nat) (p : outParam (List Nat)) (oa : outParam Blks) : Prop where
  own : OwnL e 1 v n (bl p) oa
  ok : BL n p
instance OwnB.csb {e : Nat} {v : Value} {n : Nat} {p : List Nat} {oa : Blks} [h : OwnB e v n p oa] : CsB (Hd oa) v n p := ⟨h.own.cs, h.ok⟩
instance CsB.nil : CsB (Hd []) (.slice none 0 0) 0 [] := ⟨inferInstance, BL.nil⟩
theorem Cb.old {W : World} {v : Value} {n : Nat} {p : List Nat} (h : Cb W v n p) : CsB (Old W []) v n p := ⟨h.cs.old, h.ok⟩
theorem Cb.below {w w' : World} {v : Value} {n : Nat} {p : List Nat} (h : Cb w v n p) (hb : Below w.heap.size w w') : Cb w' v n p := ⟨h.cs.below hb, h.ok⟩
class VwB (X : Cx) (l : Blks) (v : Value) (n : outParam Nat) (p : outParam (List Nat)) : Prop where
  out : ∀ w, Mem X l w → Cb w v n p
instance {X : Cx} {l : Blks} {Φ : World → Prop} {v : Value} {n : Nat} {p : List Nat} [h : CsB Φ v n p] [h' : Hold X l Φ] : VwB X l v n p := ⟨fun w hm => ⟨h.cs.out w (h'.out w hm), h.ok⟩⟩
def byteOf : Value → Nat
  | .int _ z => z.toNat
  | _ => 0
def isByte : Value → Prop
  | .int .u8 z => 0 ≤ z ∧ z < 256
  | _ => False
theorem bytes_of : ∀ {vs : List Value}, (∀ v ∈ vs, isByte v) → vs = bl (vs.map byteOf)
  | [], _ => rfl
  | v :: r, h => by
    have hv := h v (by simp)
    rw [List.map_cons, bl, List.map_cons]
    have ih := bytes_of (vs := r) fun u hu => h u (by simp [hu])
    unfold bl at ih
    rw [← ih]
    congr 1
    unfold isByte at hv
    split at hv
    · rename_i z
      simp only [byteOf]
      rw [Int.toNat_of_nonneg hv.1]
    · exact hv.elim
theorem isByte_one {v : Value} (h : isByte v) : v.cells.size = 1 ∧ v.cells.toList = [v] := by
  unfold isByte at h
  split at h
  · simp [Value.cells]
  · exact h.elim
section
variable {X : Cx} {s : Slots} {l : Blks} {o : Oper} {v : Value} {Q : Post} {ops : Array Oper} {r : List Oper}
theorem wl_subB {t e n n' lo hi : Nat} {x : Operand} {ol oh : Option Operand} {Φ : World → Prop} {p p' : List Nat} {s' : Value → Slots} (hg : gd s ops o = some true) (hd : dOk X.N o.dst = true) (ho : o.op = .slice t x ol oh none) (hx : val s x = some v)
    [ht : UT X.P t (.slice e)] [hs : SZ X.P e 1] {la ha : Int} [hv : CsB Φ v n p] (hl : loV s ol = some la) (hh : hiV s n oh = some ha) (hnl : la = (lo : Int)) (hnh : ha = (hi : Int))
    (h : ∀ v', CsB Φ v' n' p' → Part v v' lo n' → Wl X ops Q r (s' v') l)
    (h1 : lo ≤ hi := by first | (with_reducible assumption) | omega) (h2 : hi ≤ n := by first | (with_reducible assumption) | omega)
    (hn : hi - lo = n' := by first | (with_reducible assumption) | rfl) (hxs : (p.drop lo).take (hi - lo) = p' := by first | (with_reducible assumption) | rfl)
    (hs' : ∀ v', sputO s o.dst v' = s' v' := by intro _; (try dsimp only [sputO, sput, Nat.reduceBEq, cond_true, cond_false, beq_self_eq_true]); first | done | exact rfl) : Wl X ops Q (o :: r) s l := by
  haveI := hv.cs
  subst hn; subst hxs
  refine wl_sub (xs' := bl ((p.drop lo).take (hi - lo))) hg hd ho hx hl hh hnl hnh (fun v' h3 h4 => h v' ⟨h3, hv.ok.sub h1 h2⟩ (by rw [Nat.mul_one] at h4; exact h4)) h1 h2 rfl (by rw [Nat.mul_one, Nat.mul_one, bl_drop, bl_take]) hs'
theorem wl_appendB {x y : Operand} {t e bytes n m : Nat} {z : Array Value} {u : Value} {p q : List Nat} {oa : Blks} {f : Blks → Blks} {s' : Value → Slots}
    (hg : gd s ops o = some true) (hd : dOk X.N o.dst = true) (hop : o.op = .call { callee := .builtin .append, args := #[x, y], argTypes := #[t, t] })
    (hx : val s x = some v) (hy : val s y = some u) [ht : UT X.P t (.slice e)] [hei : EI X.P e 1 bytes z] [hown : OwnB e v n p oa] [hseg : Seg l oa f] [hu : VwB X l u m q]
    (h : ∀ v' oa', OwnB e v' (n + m) (p ++ q) oa' → Wl X ops Q r (s' v') (f oa'))
    (h63 : (n + m) * bytes ≤ 1152921504606846976 ∧ n + m ≤ 1152921504606846976 ∧ (n + m) * bytes ≤ 140737488355328 := by (refine ⟨?_, ?_, ?_⟩ <;> omega))
    (hs' : ∀ v', sputO s o.dst v' = s' v' := by intro _; (try dsimp only [sputO, sput, Nat.reduceBEq, cond_true, cond_false, beq_self_eq_true]); first | done | exact rfl) : Wl X ops Q (o :: r) s l := fun ac w hst => by
  haveI := hown.own
  have hq := (hu.out w hst.mem).ok
  haveI : Vw X l u m (bl q) := ⟨fun w hm => (hu.out w hm).cs⟩
  exact wl_appendO (ys := bl q) hg hd hop hx hy (fun v' oa' ho => h v' oa' ⟨ho, hown.ok.app hq⟩) (by rw [bl_len, hq.len, Nat.mul_one]) (bl_one _) h63 (bl_app _ _).symm hs' ac w hst
theorem wl_bsliceB {t e bytes len : Nat} {z : Array Value} {ps : Array (Nat × Operand)} {vs : List (Nat × Value)} {p : List Nat} {f : Blks → Blks} {s' : Value → Slots}
    (hg : gd s ops o = some true) (hd : dOk X.N o.dst = true) (hop : o.op = .buildSlice t len ps) (hx : valsP s ps.toList = some vs) [ht : UT X.P t (.slice e)] [hei : EI X.P e 1 bytes z] [hf : Snoc l f]
    (h : ∀ v' oa', OwnB e v' len p oa' → Wl X ops Q r (s' v') (f oa'))
    (hb : ∀ v ∈ vs.map (·.2), isByte v := by (simp only [List.map_cons, List.map_nil, List.forall_mem_cons, List.not_mem_nil, false_imp_iff, implies_true, and_true, isByte]; (repeat' apply And.intro) <;> first | decide | omega))
    (hi : vs.map (·.1) = List.range' 0 vs.length := by rfl) (hlen : vs.length = len := by rfl) (hbig : len * 1 ≤ 16777216 ∧ len ≤ 16777216 := by decide)
    (hxs : (vs.map fun p => byteOf p.2) = p := by (try simp only [List.map_cons, List.map_nil, byteOf, Int.toNat_natCast, Int.reduceToNat]); first | done | rfl)
    (hs' : ∀ v', sputO s o.dst v' = s' v' := by intro _; (try dsimp only [sputO, sput, Nat.reduceBEq, cond_true, cond_false, beq_self_eq_true]); first | done | exact rfl) : Wl X ops Q (o :: r) s l := by
  have hmem : ∀ q ∈ vs, isByte q.2 := fun q hq => hb q.2 (List.mem_map.2 ⟨q, hq, rfl⟩)
  have hfl : ∀ us : List (Nat × Value), (∀ q ∈ us, isByte q.2) → (us.map fun p => p.2.cells.toList).flatten = us.map (·.2) := fun us => by
    induction us with
    | nil => simp
    | cons a r ih => intro h; rw [List.map_cons, List.flatten_cons, (isByte_one (h a (by simp))).2, ih fun q hq => h q (by simp [hq])]; rfl
  have hxs' : (vs.map fun p => p.2.cells.toList).flatten = bl p := by
    rw [hfl vs hmem, bytes_of hb, List.map_map]
    exact congrArg bl hxs
  refine wl_bslice (k := 1) hg hd hop hx (fun v' oa' ho => h v' oa' ⟨ho, ?_⟩) hi ?_ hlen hbig hxs' hs'
  · subst hxs
    refine ⟨by rw [List.length_map, hlen], fun x hx => ?_⟩
    obtain ⟨q, hq, rfl⟩ := List.mem_map.1 hx
    have := hmem q hq
    unfold isByte at this
    split at this
    · rename_i z hz
      rw [hz]; simp only [byteOf]; omega
    · exact this.elim
  · rw [List.all_eq_true]
    intro q hq
    simp [(isByte_one (hmem q hq)).1]
end
end Go.Proofs.YtkendlnjaopbeaaGreatDoor
