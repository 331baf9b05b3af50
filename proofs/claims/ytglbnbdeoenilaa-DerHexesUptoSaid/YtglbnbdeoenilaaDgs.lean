/- Slices of digests of 32 bytes. -/
import Derived.Test.YtglbnbdeoenilaaMake
import Derived.Test.YtglbnbdeoenilaaShaE
import Derived.Test.YtglbnbdeoenilaaLwH
namespace Go.Proofs.Ytglbnbdeoenilaa
open Go.RowKit
set_option linter.unusedVariables false
set_option linter.unusedSimpArgs false
/-- Digests as cells. -/
def dgs (ds : List (List Nat)) : List Value := (ds.map bl).flatten
def Dgo (ds : List (List Nat)) : Prop := ∀ d ∈ ds, d.length = 32 ∧ ∀ x ∈ d, x < 256
theorem dgs_app (a b : List (List Nat)) : dgs (a ++ b) = dgs a ++ dgs b := by simp [dgs]
theorem dgs_len : ∀ {ds : List (List Nat)}, Dgo ds → (dgs ds).length = ds.length * 32
  | [], _ => rfl
  | d :: r, h => by
    have := dgs_len (ds := r) fun x hx => h x (by simp [hx])
    rw [dgs, List.map_cons, List.flatten_cons, List.length_append, bl_len, (h d (by simp)).1, ← dgs, this, List.length_cons]; omega
theorem dgs_drop : ∀ {ds : List (List Nat)} (k : Nat), Dgo ds → (dgs ds).drop (k * 32) = dgs (ds.drop k)
  | [], k, _ => by simp [dgs]
  | d :: r, 0, _ => by simp
  | d :: r, k + 1, h => by
    have := dgs_drop (ds := r) k fun x hx => h x (by simp [hx])
    rw [List.drop_succ_cons, ← this, dgs, List.map_cons, List.flatten_cons, ← dgs, List.drop_append, bl_len, (h d (by simp)).1, List.drop_of_length_le (by rw [bl_len, (h d (by simp)).1]; omega), List.nil_append]
    congr 1; omega
theorem dgs_take : ∀ {ds : List (List Nat)} (k : Nat), Dgo ds → (dgs ds).take (k * 32) = dgs (ds.take k)
  | [], k, _ => by simp [dgs]
  | d :: r, 0, _ => by simp [dgs]
  | d :: r, k + 1, h => by
    have := dgs_take (ds := r) k fun x hx => h x (by simp [hx])
    rw [List.take_succ_cons, dgs, List.map_cons, List.flatten_cons, ← dgs, List.take_append, bl_len, (h d (by simp)).1, List.take_of_length_le (by rw [bl_len, (h d (by simp)).1]; omega), show (k + 1) * 32 - 32 = k * 32 by omega, this]
    rfl
theorem Dgo.drop {ds : List (List Nat)} (h : Dgo ds) (k : Nat) : Dgo (ds.drop k) := fun d hd => h d (List.mem_of_mem_drop hd)
theorem Dgo.take {ds : List (List Nat)} (h : Dgo ds) (k : Nat) : Dgo (ds.take k) := fun d hd => h d (List.mem_of_mem_take hd)
theorem Dgo.app {a b : List (List Nat)} (h : Dgo a) (h' : Dgo b) : Dgo (a ++ b) := fun d hd => (List.mem_append.1 hd).elim (h d) (h' d)
theorem dgs_get {ds : List (List Nat)} {i : Nat} {d : List Nat} (h : Dgo ds) (hd : ds[i]? = some d) : ((dgs ds).drop (i * 32)).take 32 = bl d := by
  have hi := (List.getElem?_eq_some_iff.1 hd).1
  rw [dgs_drop i h, show 32 = 1 * 32 from rfl, dgs_take 1 (h.drop i), List.drop_eq_getElem_cons hi, List.take_succ_cons, List.take_zero]
  have := (List.getElem?_eq_some_iff.1 hd).2
  simp [dgs, this]
/-- What a slice of digests reads in a world. -/
structure Cd (w : World) (v : Value) (n : Nat) (ds : List (List Nat)) : Prop where
  cs : Cs w v n (dgs ds)
  len : ds.length = n
  ok : Dgo ds
class CsD (Φ : outParam (World → Prop)) (v : Value) (n : outParam Nat) (ds : outParam (List (List Nat))) : Prop where
  cs : CsF Φ v n (dgs ds)
  len : ds.length = n
  ok : Dgo ds
instance CsD.csf {Φ : World → Prop} {v : Value} {n : Nat} {ds : List (List Nat)} [h : CsD Φ v n ds] : CsF Φ v n (dgs ds) := h.cs
instance CsD.nil : CsD (Hd []) (.slice none 0 0) 0 [] := ⟨inferInstance, rfl, by intro d hd; cases hd⟩
theorem Cd.old {W : World} {v : Value} {n : Nat} {ds : List (List Nat)} (h : Cd W v n ds) : CsD (Old W []) v n ds := ⟨h.cs.old, h.len, h.ok⟩
theorem Cd.below {w w' : World} {v : Value} {n : Nat} {ds : List (List Nat)} (h : Cd w v n ds) (hb : Below w.heap.size w w') : Cd w' v n ds := ⟨h.cs.below hb, h.len, h.ok⟩
class VwD (X : Cx) (l : Blks) (v : Value) (n : outParam Nat) (ds : outParam (List (List Nat))) : Prop where
  out : ∀ w, Mem X l w → Cd w v n ds
instance {X : Cx} {l : Blks} {Φ : World → Prop} {v : Value} {n : Nat} {ds : List (List Nat)} [h : CsD Φ v n ds] [h' : Hold X l Φ] : VwD X l v n ds := ⟨fun w hm => ⟨h.cs.out w (h'.out w hm), h.len, h.ok⟩⟩
section
variable {X : Cx} {s : Slots} {l : Blks} {o : Oper} {v : Value} {Q : Post} {ops : Array Oper} {r : List Oper}
theorem bl_bys (d : List Nat) : (bl d).toArray = bys d := by simp [bys]
theorem ld_D {t n i : Nat} {u : Value} {ds : List (List Nat)} {d : List Nat} [hu : KD X.P t true] [hs : SZ X.P t 32] [hv : VwD X l u n ds] (hd : ds[i]? = some d := by with_reducible assumption) : Ld X l t (elB u) (elO u + i * 32) (.agg (bys d)) := fun w hm => by
  have h := hv.out w hm
  haveI : Vw X l u n (dgs ds) := ⟨fun w hm => (hv.out w hm).cs⟩
  have hne : bl d ≠ [] := by
    have := (h.ok d (List.mem_of_getElem? hd)).1
    intro e
    have := bl_len d
    rw [e] at this
    simp at this
    omega
  have := ld_OR (X := X) (l := l) (t := t) (k := 32) (u := u) (j := i * 32) (cs := bl d) (xs := dgs ds) (dgs_get h.ok hd) (by rw [bl_len, (h.ok d (List.mem_of_getElem? hd)).1]) hne w hm
  rwa [bl_bys] at this
theorem wl_subD {t e n n' lo hi : Nat} {x : Operand} {ol oh : Option Operand} {Φ : World → Prop} {ds ds' : List (List Nat)} {s' : Value → Slots} (hg : gd s ops o = some true) (hd : dOk X.N o.dst = true) (ho : o.op = .slice t x ol oh none) (hx : val s x = some v)
    [ht : UT X.P t (.slice e)] [hs : SZ X.P e 32] {la ha : Int} [hv : CsD Φ v n ds] (hl : loV s ol = some la) (hh : hiV s n oh = some ha) (hnl : la = (lo : Int)) (hnh : ha = (hi : Int))
    (h : ∀ v', CsD Φ v' n' ds' → Part v v' (lo * 32) n' → Wl X ops Q r (s' v') l)
    (h1 : lo ≤ hi := by first | (with_reducible assumption) | omega) (h2 : hi ≤ n := by first | (with_reducible assumption) | omega)
    (hn : hi - lo = n' := by first | (with_reducible assumption) | rfl) (hxs : (ds.drop lo).take (hi - lo) = ds' := by first | (with_reducible assumption) | rfl)
    (hs' : ∀ v', sputO s o.dst v' = s' v' := by intro _; (try dsimp only [sputO, sput, Nat.reduceBEq, cond_true, cond_false, beq_self_eq_true]); first | done | exact rfl) : Wl X ops Q (o :: r) s l := by
  haveI := hv.cs
  subst hn; subst hxs
  refine wl_sub (xs' := dgs ((ds.drop lo).take (hi - lo))) hg hd ho hx hl hh hnl hnh (fun v' h3 h4 => h v' ⟨h3, ?_, (hv.ok.drop lo).take _⟩ h4) h1 h2 rfl (by rw [dgs_drop lo hv.ok, dgs_take _ (hv.ok.drop lo)]) hs'
  rw [List.length_take, List.length_drop, hv.len]; omega
end
section
variable {X : Cx} {G : Hg} {s : Slots} {b : Blks} {v : Value} {Q : Post} {l : List Nat} {fuel : Nat}
theorem wh_subD {i : Nat} {oi : Oper} {r : List Oper} {lp : Blks} {late : List Nat} {t e n n' lo hi : Nat} {x : Operand} {ol oh : Option Operand} {Φ : World → Prop} {p p' : List (List Nat)} {s' : Value → Slots} (hpk : pickS steadyB r idx l = some i) (hi' : opAt r i = some oi) (hg : gd s r.toArray oi = some true) (hd : dOk X.N oi.dst = true) (ho : oi.op = .slice t x ol oh none) (hx : val s x = some v)
    [ht : UT X.P t (.slice e)] [hs : SZ X.P e 32] {la ha : Int} [hv : CsD Φ v n p] (hl : loV s ol = some la) (hh : hiV s n oh = some ha) (hnl : la = (lo : Int)) (hnh : ha = (hi : Int))
    (h : ∀ v', CsD Φ v' n' p' → Part v v' (lo * 32) n' → Wh X ⟨r.toArray, lp, late⟩ Q fuel (i :: l) (s' v') b)
    (h1 : lo ≤ hi := by first | (with_reducible assumption) | omega) (h2 : hi ≤ n := by first | (with_reducible assumption) | omega)
    (hn : hi - lo = n' := by first | (with_reducible assumption) | rfl) (hxs : (p.drop lo).take (hi - lo) = p' := by first | (with_reducible assumption) | rfl)
    (hs' : ∀ v', sputO s oi.dst v' = s' v' := by intro _; (try dsimp only [sputO, sput, Nat.reduceBEq, cond_true, cond_false, beq_self_eq_true]); first | done | exact rfl)
    (hr : (Region.ready .any r.toArray (arrOf r.toArray.size l)).contains i = true := by kernel_rfl) (hns : Region.noSelect r.toArray = true := by kernel_rfl) (hf : Region.free .any r.toArray (arrOf r.toArray.size l) i = true := by kernel_rfl)
    (hn' : memB i late = false := by kernel_rfl) : Wh X ⟨r.toArray, lp, late⟩ Q (fuel + 1) l s b := by
  obtain rfl : (fun v' => sputO s oi.dst v') = s' := funext hs'
  subst hn; subst hxs
  obtain ⟨v', h3, h4, h5⟩ := sub_ex (xs' := dgs ((p.drop lo).take (hi - lo))) ho hx ht hs hv.cs hl hh hnl hnh h1 h2 rfl (by rw [dgs_drop lo hv.ok, dgs_take _ (hv.ok.drop lo)])
  exact wh_take hpk hi' hg hd h3 (.inl rfl) (h v' ⟨h4, by rw [List.length_take, List.length_drop, hv.len]; omega, (hv.ok.drop lo).take _⟩ h5) rfl hr hns hf hn'
end
end Go.Proofs.Ytglbnbdeoenilaa
