/- Slices of digests of 32 bytes. Calls that write blocks which they are given. The beginning of a slice of the walk's own is again one. A block of one's own, seen in a world. What arguments are that came in, with how much they hold: shapes built out of shapes. Arguments that are slices of slices of bytes, and slices of integers. Calls that write blocks of the walk's own, seen from a world in which none of these was. Parts of segments: rows read, bytes copied into them. -/
import Derived.Test.YtkbgkobbadjpnaaDoorBytesAll
import Derived.Test.YtkbgkobbadjpnaaDoorShaAll
import Derived.Test.YtkbgkobbadjpnaaDoorLwH
import Derived.Test.YtkbgkobbadjpnaaDoorRows
import Derived.Test.YtkbgkobbadjpnaaDoorOwnB
import Derived.ChangeSlices
import Derived.OpenShut
import Derived.WideShapes
import Derived.DataReads
import Derived.ChangeSame
namespace Go.Proofs.YtkbgkobbadjpnaaDoor
open Go.RowKit
set_option linter.unusedVariables false
set_option linter.unusedSimpArgs false
/-- Digests as cells. -/
def dgs (ds : List (List Nat)) : List Value := (ds.map bl).flatten
def Dgo (ds : List (List Nat)) : Prop := ∀ d ∈ ds, d.length = 32 ∧ ∀ x ∈ d, x < 256
theorem dgs_app (a b : List (List Nat)) : dgs (a ++ b) = dgs a ++ dgs b := by simp [dgs]
theorem dgs_len : ∀ {ds : List (List Nat)}, Dgo ds → (dgs ds).length = ds.length * 32
  | [], _ => rfl
  | d :: r, h => by
    have := dgs_len (ds := r) fun x hx => h x (by simp [hx])
    rw [dgs, List.map_cons, List.flatten_cons, List.length_append, bl_len, (h d (by simp)).1, ← dgs, this, List.length_cons]; omega
theorem dgs_drop : ∀ {ds : List (List Nat)} (k : Nat), Dgo ds → (dgs ds).drop (k * 32) = dgs (ds.drop k)
  | [], k, _ => by simp [dgs]
  | d :: r, 0, _ => by simp
  | d :: r, k + 1, h => by
    have := dgs_drop (ds := r) k fun x hx => h x (by simp [hx])
    rw [List.drop_succ_cons, ← this, dgs, List.map_cons, List.flatten_cons, ← dgs, List.drop_append, bl_len, (h d (by simp)).1, List.drop_of_length_le (by rw [bl_len, (h d (by simp)).1]; omega), List.nil_append]
    congr 1; omega
theorem dgs_take : ∀ {ds : List (List Nat)} (k : Nat), Dgo ds → (dgs ds).take (k * 32) = dgs (ds.take k)
  | [], k, _ => by simp [dgs]
  | d :: r, 0, _ => by simp [dgs]
  | d :: r, k + 1, h => by
    have := dgs_take (ds := r) k fun x hx => h x (by simp [hx])
    rw [List.take_succ_cons, dgs, List.map_cons, List.flatten_cons, ← dgs, List.take_append, bl_len, (h d (by simp)).1, List.take_of_length_le (by rw [bl_len, (h d (by simp)).1]; omega), show (k + 1) * 32 - 32 = k * 32 by omega, this]
    rfl
theorem Dgo.drop {ds : List (List Nat)} (h : Dgo ds) (k : Nat) : Dgo (ds.drop k) := fun d hd => h d (List.mem_of_mem_drop hd)
theorem Dgo.take {ds : List (List Nat)} (h : Dgo ds) (k : Nat) : Dgo (ds.take k) := fun d hd => h d (List.mem_of_mem_take hd)
theorem Dgo.app {a b : List (List Nat)} (h : Dgo a) (h' : Dgo b) : Dgo (a ++ b) := fun d hd => (List.mem_append.1 hd).elim (h d) (h' d)
theorem dgs_get {ds : List (List Nat)} {i : Nat} {d : List Nat} (h : Dgo ds) (hd : ds[i]? = some d) : ((dgs ds).drop (i * 32)).take 32 = bl d := by
  have hi := (List.getElem?_eq_some_iff.1 hd).1
  rw [dgs_drop i h, show 32 = 1 * 32 from rfl, dgs_take 1 (h.drop i), List.drop_eq_getElem_cons hi, List.take_succ_cons, List.take_zero]
  have := (List.getElem?_eq_some_iff.1 hd).2
  simp [dgs, this]
/-- What a slice of digests reads in a world. -/
structure Cd (w : World) (v : Value) (n : Nat) (ds : List (List Nat)) : Prop where
  cs : Cs w v n (dgs ds)
  len : ds.length = n
  ok : Dgo ds
class CsD (Φ : outParam (World → Prop)) (v : Value) (n : outParam Nat) (ds : outParam (List (List Nat))) : Prop where
  cs : CsF Φ v n (dgs ds)
  len : ds.length = n
  ok : Dgo ds
instance CsD.csf {Φ : World → Prop} {v : Value} {n : Nat} {ds : List (List Nat)} [h : CsD Φ v n ds] : CsF Φ v n (dgs ds) := h.cs
class OwnD (v : Value) (n : outParam Nat) (ds : outParam (List (List Nat))) (oa : outParam Blks) : Prop where
  own : OwnL 22 32 v n (dgs ds) oa
  len : ds.length = n
  ok : Dgo ds
instance OwnD.csd {v : Value} {n : Nat} {ds : List (List Nat)} {oa : Blks} [h : OwnD v n ds oa] : CsD (Hd oa) v n ds := ⟨h.own.cs, h.len, h.ok⟩
instance CsD.nil : CsD (Hd []) (.slice none 0 0) 0 [] := ⟨inferInstance, rfl, by intro d hd; cases hd⟩
theorem OwnD.nil : OwnD (.slice none 0 0) 0 [] [] := ⟨OwnL.nil _ _, rfl, by intro d hd; cases hd⟩
instance : OwnD (.slice none 0 0) 0 [] [] := OwnD.nil
theorem Cd.old {W : World} {v : Value} {n : Nat} {ds : List (List Nat)} (h : Cd W v n ds) : CsD (Old W []) v n ds := ⟨h.cs.old, h.len, h.ok⟩
theorem Cd.below {w w' : World} {v : Value} {n : Nat} {ds : List (List Nat)} (h : Cd w v n ds) (hb : Below w.heap.size w w') : Cd w' v n ds := ⟨h.cs.below hb, h.len, h.ok⟩
class VwD (X : Cx) (l : Blks) (v : Value) (n : outParam Nat) (ds : outParam (List (List Nat))) : Prop where
  out : ∀ w, Mem X l w → Cd w v n ds
instance {X : Cx} {l : Blks} {Φ : World → Prop} {v : Value} {n : Nat} {ds : List (List Nat)} [h : CsD Φ v n ds] [h' : Hold X l Φ] : VwD X l v n ds := ⟨fun w hm => ⟨h.cs.out w (h'.out w hm), h.len, h.ok⟩⟩
section
variable {X : Cx} {s : Slots} {l : Blks} {o : Oper} {v : Value} {Q : Post} {ops : Array Oper} {r : List Oper}
theorem bl_bys (d : List Nat) : (bl d).toArray = bys d := by simp [bys]
theorem ld_D {t n i : Nat} {u : Value} {ds : List (List Nat)} {d : List Nat} [hu : KD X.P t true] [hs : SZ X.P t 32] [hv : VwD X l u n ds] (hd : ds[i]? = some d := by with_reducible assumption) : Ld X l t (elB u) (elO u + i * 32) (.agg (bys d)) := fun w hm => by
  have h := hv.out w hm
  haveI : Vw X l u n (dgs ds) := ⟨fun w hm => (hv.out w hm).cs⟩
  have hne : bl d ≠ [] := by
    have := (h.ok d (List.mem_of_getElem? hd)).1
    intro e
    have := bl_len d
    rw [e] at this
    simp at this
    omega
  have := ld_OR (X := X) (l := l) (t := t) (k := 32) (u := u) (j := i * 32) (cs := bl d) (xs := dgs ds) (dgs_get h.ok hd) (by rw [bl_len, (h.ok d (List.mem_of_getElem? hd)).1]) hne w hm
  rwa [bl_bys] at this
theorem wl_subD {t e n n' lo hi : Nat} {x : Operand} {ol oh : Option Operand} {Φ : World → Prop} {ds ds' : List (List Nat)} {s' : Value → Slots} (hg : gd s ops o = some true) (hd : dOk X.N o.dst = true) (ho : o.op = .slice t x ol oh none) (hx : val s x = some v)
    [ht : UT X.P t (.slice e)] [hs : SZ X.P e 32] {la ha : Int} [hv : CsD Φ v n ds] (hl : loV s ol = some la) (hh : hiV s n oh = some ha) (hnl : la = (lo : Int)) (hnh : ha = (hi : Int))
    (h : ∀ v', CsD Φ v' n' ds' → Part v v' (lo * 32) n' → Wl X ops Q r (s' v') l)
    (h1 : lo ≤ hi := by first | (with_reducible assumption) | omega) (h2 : hi ≤ n := by first | (with_reducible assumption) | omega)
    (hn : hi - lo = n' := by first | (with_reducible assumption) | rfl) (hxs : (ds.drop lo).take (hi - lo) = ds' := by first | (with_reducible assumption) | rfl)
    (hs' : ∀ v', sputO s o.dst v' = s' v' := by intro _; (try dsimp only [sputO, sput, Nat.reduceBEq, cond_true, cond_false, beq_self_eq_true]); first | done | exact rfl) : Wl X ops Q (o :: r) s l := by
  haveI := hv.cs
  subst hn; subst hxs
  refine wl_sub (xs' := dgs ((ds.drop lo).take (hi - lo))) hg hd ho hx hl hh hnl hnh (fun v' h3 h4 => h v' ⟨h3, ?_, (hv.ok.drop lo).take _⟩ h4) h1 h2 rfl (by rw [dgs_drop lo hv.ok, dgs_take _ (hv.ok.drop lo)]) hs'
  rw [List.length_take, List.length_drop, hv.len]; omega
theorem wl_appendD {x y : Operand} {t bytes n m : Nat} {z : Array Value} {u : Value} {ds es : List (List Nat)} {oa : Blks} {f : Blks → Blks} {s' : Value → Slots}
    (hg : gd s ops o = some true) (hd : dOk X.N o.dst = true) (hop : o.op = .call { callee := .builtin .append, args := #[x, y], argTypes := #[t, t] })
    (hx : val s x = some v) (hy : val s y = some u) [ht : UT X.P t (.slice 22)] [hei : EI X.P 22 32 bytes z] [hown : OwnD v n ds oa] [hseg : Seg l oa f] [hu : VwD X l u m es]
    (h : ∀ v' oa', OwnD v' (n + m) (ds ++ es) oa' → Wl X ops Q r (s' v') (f oa'))
    (h63 : (n + m) * bytes ≤ 1152921504606846976 ∧ n + m ≤ 1152921504606846976 ∧ (n + m) * bytes ≤ 140737488355328 := by (refine ⟨?_, ?_, ?_⟩ <;> omega))
    (hs' : ∀ v', sputO s o.dst v' = s' v' := by intro _; (try dsimp only [sputO, sput, Nat.reduceBEq, cond_true, cond_false, beq_self_eq_true]); first | done | exact rfl) : Wl X ops Q (o :: r) s l := fun ac w hst => by
  haveI := hown.own
  have hq := hu.out w hst.mem
  haveI : Vw X l u m (dgs es) := ⟨fun w hm => (hu.out w hm).cs⟩
  exact wl_appendO (ys := dgs es) hg hd hop hx hy (fun v' oa' ho => h v' oa' ⟨ho, by rw [List.length_append, hown.len, hq.len], hown.ok.app hq.ok⟩) (by rw [dgs_len hq.ok, hq.len]) (fun y hy => by
    obtain ⟨a, ha, hy⟩ := List.mem_flatten.1 hy
    obtain ⟨d, _, rfl⟩ := List.mem_map.1 ha
    exact bl_one d y hy) h63 (dgs_app _ _).symm hs' ac w hst
theorem wl_bsliceD {t bytes : Nat} {z : Array Value} {ps : Array (Nat × Operand)} {d : List Nat} {f : Blks → Blks} {s' : Value → Slots}
    (hg : gd s ops o = some true) (hd : dOk X.N o.dst = true) (hop : o.op = .buildSlice t 1 ps) (hx : valsP s ps.toList = some [(0, .agg (bys d))]) [ht : UT X.P t (.slice 22)] [hei : EI X.P 22 32 bytes z] [hf : Snoc l f] [hnb : NBy d 32]
    (h : ∀ v' oa', OwnD v' 1 [d] oa' → Wl X ops Q r (s' v') (f oa')) (hby : ∀ x ∈ d, x < 256)
    (hs' : ∀ v', sputO s o.dst v' = s' v' := by intro _; (try dsimp only [sputO, sput, Nat.reduceBEq, cond_true, cond_false, beq_self_eq_true]); first | done | exact rfl) : Wl X ops Q (o :: r) s l := by
  refine wl_bslice (k := 32) (xs := dgs [d]) hg hd hop hx (fun v' oa' ho => h v' oa' ⟨ho, rfl, fun e he => ?_⟩) rfl ?_ rfl (by decide) ?_ hs'
  · simp only [List.mem_singleton] at he
    subst he
    exact ⟨hnb.out, hby⟩
  · simp only [List.all_cons, List.all_nil, Bool.and_true, Value.cells, beq_iff_eq]
    simp [bys, bl_len, hnb.out]
  · simp [Value.cells, bys, dgs]
end
section
variable {X : Cx} {G : Hg} {s : Slots} {b : Blks} {v : Value} {Q : Post} {l : List Nat} {fuel : Nat}
theorem wh_subD {i : Nat} {oi : Oper} {r : List Oper} {lp : Blks} {late : List Nat} {t e n n' lo hi : Nat} {x : Operand} {ol oh : Option Operand} {Φ : World → Prop} {p p' : List (List Nat)} {s' : Value → Slots} (hpk : pickS steadyB r idx l = some i) (hi' : opAt r i = some oi) (hg : gd s r.toArray oi = some true) (hd : dOk X.N oi.dst = true) (ho : oi.op = .slice t x ol oh none) (hx : val s x = some v)
    [ht : UT X.P t (.slice e)] [hs : SZ X.P e 32] {la ha : Int} [hv : CsD Φ v n p] (hl : loV s ol = some la) (hh : hiV s n oh = some ha) (hnl : la = (lo : Int)) (hnh : ha = (hi : Int))
    (h : ∀ v', CsD Φ v' n' p' → Part v v' (lo * 32) n' → Wh X ⟨r.toArray, lp, late⟩ Q fuel (i :: l) (s' v') b)
    (h1 : lo ≤ hi := by first | (with_reducible assumption) | omega) (h2 : hi ≤ n := by first | (with_reducible assumption) | omega)
    (hn : hi - lo = n' := by first | (with_reducible assumption) | rfl) (hxs : (p.drop lo).take (hi - lo) = p' := by first | (with_reducible assumption) | rfl)
    (hs' : ∀ v', sputO s oi.dst v' = s' v' := by intro _; (try dsimp only [sputO, sput, Nat.reduceBEq, cond_true, cond_false, beq_self_eq_true]); first | done | exact rfl)
    (hr : (Region.ready .any r.toArray (arrOf r.toArray.size l)).contains i = true := by kernel_rfl) (hns : Region.noSelect r.toArray = true := by kernel_rfl) (hf : Region.free .any r.toArray (arrOf r.toArray.size l) i = true := by kernel_rfl)
    (hn' : memB i late = false := by kernel_rfl) : Wh X ⟨r.toArray, lp, late⟩ Q (fuel + 1) l s b := by
  obtain rfl : (fun v' => sputO s oi.dst v') = s' := funext hs'
  subst hn; subst hxs
  obtain ⟨v', h3, h4, h5⟩ := sub_ex (xs' := dgs ((p.drop lo).take (hi - lo))) ho hx ht hs hv.cs hl hh hnl hnh h1 h2 rfl (by rw [dgs_drop lo hv.ok, dgs_take _ (hv.ok.drop lo)])
  exact wh_take hpk hi' hg hd h3 (.inl rfl) (h v' ⟨h4, by rw [List.length_take, List.length_drop, hv.len]; omega, (hv.ok.drop lo).take _⟩ h5) rfl hr hns hf hn'
end
end Go.Proofs.YtkbgkobbadjpnaaDoor
namespace Go.Proofs.YtkbgkobbadjpnaaDoor
open Go.RowKit
set_option linter.unusedVariables false
set_option linter.unusedSimpArgs false
/-- What is made of the blocks oa: one value and what it stands on are told of; all else below is as it was. -/
def RetU {T : Type} (mk : T → Value) (oa : Blks) (Φ : T → Blks → Prop) (w : World) (e : Ending) (w' : World) : Prop := ∃ x oa', e = .returned (mk x) ∧ Φ x oa' ∧ Upd w oa w' oa'
theorem Mem.initO {P : Program} {W : World} {N : Nat} {oa : Blks} (nd : (keys oa).Nodup) (hd : Hd oa W) : Mem ⟨P, W, N, keys oa⟩ oa W :=
  ⟨nd, ⟨rfl, rfl, rfl, Nat.le_refl _, fun _ _ _ => rfl, fun k c t h => hd (k, (c, t)) (mu_in h)⟩, fun _ h _ => h⟩
theorem Mem.toUpd {P : Program} {W w : World} {N : Nat} {oa oa' : Blks} (hm : Mem ⟨P, W, N, keys oa⟩ oa' w) : Upd W oa w oa' :=
  ⟨hm.cls.os, hm.cls.tape, hm.cls.output, hm.cls.size, fun k hk hn => hm.cls.old k hk hn, hm.nd, fun p hp => hm.cls.now p.1 p.2.1 p.2.2 (mu_mem_of hp hm.nd), fun n hn => by
    rcases Nat.lt_or_ge n W.heap.size with h | h
    · exact .inl (hm.fresh n hn h)
    · exact .inr h⟩
theorem fn_upd {T : Type} {mk : T → Value} {oa : Blks} {Φ : T → Blks → Prop} {P : Program} {f : Nat} {fn : Func} {c : Code} {vs : List Value} {W : World} {N : Nat} (hf : P.funcs[f]? = some fn) (hb : fn.body = some c) (hN : fn.ntmps = N) {rs : List ResultVar} (hrs : fn.results = rs.toArray) (hl : vs.length ≤ N)
    (nd : (keys oa).Nodup) (hd : Hd oa W) (h : Wc ⟨P, W, N, keys oa⟩ c (endP ⟨P, W, N, keys oa⟩ rs fun u l => ∃ x oa', u = mk x ∧ Φ x oa' ∧ SubL oa' l) (initS vs 0) oa) : Calls P f vs.toArray W (RetU mk oa Φ W) :=
  (fn_calls hf hb hN hrs hl (Mem.initO nd hd) h).mono fun e w' ⟨u, l, he, ⟨x, oa', hu, hφ, hs⟩, hm⟩ => ⟨x, oa', by rw [he, hu], hφ, (hm.sub hs).toUpd⟩
/-- What came in and is none of the blocks that may be written. -/
theorem Cs.oldX {W : World} {v : Value} {n : Nat} {xs : List Value} {own : List Nat} (h : Cs W v n xs) (ha : elB v ∉ own) : CsF (Old W own) v n xs := ⟨h.ln, fun w ho => h.stay fun b off cap hv hlt => ho b hlt (by subst hv; exact ha)⟩
theorem Cb.oldX {W : World} {v : Value} {n : Nat} {p : List Nat} {own : List Nat} (h : Cb W v n p) (ha : elB v ∉ own) : CsB (Old W own) v n p := ⟨h.cs.oldX ha, h.ok⟩
section
variable {X : Cx} {s : Slots} {l : Blks} {o : Oper} {v : Value} {Q : Post} {ops : Array Oper} {r : List Oper}
theorem Mem.hd {w : World} {oa : Blks} {f : Blks → Blks} (hm : Mem X l w) [hs : Seg l oa f] : Hd oa w := fun p hp => by
  obtain ⟨pre, post, rfl, _⟩ := hs.out
  exact hm.cls.now p.1 p.2.1 p.2.2 (mu_mem_of (by simp [hp]) hm.nd)
theorem wl_updO {T : Type} {mk : T → Value} {oa : Blks} {Φ : T → Blks → Prop} {c : Call} {fi : Nat} {vs : List Value} {f : Blks → Blks} {s' : T → Slots} (hg : gd s ops o = some true) (hd : dOk X.N o.dst = true) (ho : o.op = .call c) (hc : c.callee = .value (.func fi)) (ha : vals s c.args.toList = some vs)
    (hC : ∀ w, Mem X l w → Hd oa w → Calls X.P fi vs.toArray w (RetU mk oa Φ w)) [hf : Seg l oa f] (h : ∀ x oa', Φ x oa' → Wl X ops Q r (s' x) (f oa')) (hk : callOk X.P fi = true := by kernel_rfl)
    (hs' : ∀ x, sputO s o.dst (mk x) = s' x := by intro _; (try dsimp only [sputO, sput, Nat.reduceBEq, cond_true, cond_false, beq_self_eq_true]); first | done | exact rfl) : Wl X ops Q (o :: r) s l := fun a w hst => by
  obtain rfl : (fun x => sputO s o.dst (mk x)) = s' := funext hs'
  have hw := gd_wanted hst.env hg
  unfold wpList
  rw [if_pos hw]
  refine .inl ?_
  unfold Oper.wp
  rw [run_op_call ho hc hst.env ha, run_enter hk]
  refine (hC w hst.mem hst.mem.hd).mono fun e w' ⟨x, oa', he, hφ, hup⟩ => ?_
  subst he
  exact h x oa' hφ _ _ ⟨hst.env.put hd _, hup.mem hst.mem⟩
/-- The same with one block, which stays where it is. -/
def RetP {T : Type} (mk : T → Value) (n : Nat) (c : Array Value) (t : TypeId) (Φ : T → Array Value → Prop) (w : World) (e : Ending) (w' : World) : Prop := ∃ x c', e = .returned (mk x) ∧ Φ x c' ∧ Upd w [(n, (c, t))] w' [(n, (c', t))]
theorem fn_updP {T : Type} {mk : T → Value} {n : Nat} {cs : Array Value} {t : TypeId} {Φ : T → Array Value → Prop} {P : Program} {f : Nat} {fn : Func} {c : Code} {vs : List Value} {W : World} {N : Nat} (hf : P.funcs[f]? = some fn) (hb : fn.body = some c) (hN : fn.ntmps = N) {rs : List ResultVar} (hrs : fn.results = rs.toArray) (hl : vs.length ≤ N)
    (hd : W.heap[n]? = some (.cells cs t)) (h : Wc ⟨P, W, N, [n]⟩ c (endP ⟨P, W, N, [n]⟩ rs fun u l => ∃ x c', u = mk x ∧ Φ x c' ∧ SubL [(n, (c', t))] l) (initS vs 0) [(n, (cs, t))]) : Calls P f vs.toArray W (RetP mk n cs t Φ W) :=
  (fn_calls hf hb hN hrs hl (Mem.initO (oa := [(n, (cs, t))]) (by simp [keys]) (hd_one hd)) h).mono fun e w' ⟨u, l, he, ⟨x, c', hu, hφ, hs⟩, hm⟩ => ⟨x, c', by rw [he, hu], hφ, (hm.sub hs).toUpd⟩
theorem At.ex {n : Nat} {x : Array Value × TypeId} (y : Array Value × TypeId) {l l' : Blks} (h : At l n x y l') : ∃ pre post, l = pre ++ ((n, x) :: post) ∧ l' = pre ++ ((n, y) :: post) := by
  induction h with
  | here => exact ⟨[], _, rfl, rfl⟩
  | there _ ih =>
    obtain ⟨pre, post, h1, h2⟩ := ih
    exact ⟨_ :: pre, post, by rw [h1]; rfl, by rw [h2]; rfl⟩
theorem wl_updP {T : Type} {mk : T → Value} {n : Nat} {cs : Array Value} {t : TypeId} {Φ : T → Array Value → Prop} {c : Call} {fi : Nat} {vs : List Value} {l' : Array Value → Blks} {s' : T → Slots} (hg : gd s ops o = some true) (hd : dOk X.N o.dst = true) (ho : o.op = .call c) (hc : c.callee = .value (.func fi)) (ha : vals s c.args.toList = some vs)
    (hC : ∀ w, Mem X l w → w.heap[n]? = some (.cells cs t) → Calls X.P fi vs.toArray w (RetP mk n cs t Φ w)) (h : ∀ x c', Φ x c' → Wl X ops Q r (s' x) (l' c')) (hk : callOk X.P fi = true := by kernel_rfl)
    (hat : ∀ c', At l n (cs, t) (c', t) (l' c') := by intro _; repeat (first | exact At.here | apply At.there))
    (hs' : ∀ x, sputO s o.dst (mk x) = s' x := by intro _; (try dsimp only [sputO, sput, Nat.reduceBEq, cond_true, cond_false, beq_self_eq_true]); first | done | exact rfl) : Wl X ops Q (o :: r) s l := fun a w hst => by
  obtain rfl : (fun x => sputO s o.dst (mk x)) = s' := funext hs'
  have hw := gd_wanted hst.env hg
  unfold wpList
  rw [if_pos hw]
  refine .inl ?_
  unfold Oper.wp
  rw [run_op_call ho hc hst.env ha, run_enter hk]
  refine (hC w hst.mem (Has.at (hat cs) w hst.mem)).mono fun e w' ⟨x, c', he, hφ, hup⟩ => ?_
  subst he
  refine h x c' hφ _ _ ⟨hst.env.put hd _, ?_⟩
  obtain ⟨pre, post, e1, e2⟩ := At.ex _ (hat c')
  haveI : Seg l [(n, (cs, t))] (fun o => pre ++ (o ++ post)) := ⟨pre, post, by rw [e1]; rfl, fun _ => rfl⟩
  have := hup.mem hst.mem
  rw [e2]
  exact this
end
end Go.Proofs.YtkbgkobbadjpnaaDoor
namespace Go.Proofs.YtkbgkobbadjpnaaDoor
open Go.RowKit
set_option linter.unusedVariables false
set_option maxRecDepth 100000
set_option linter.unusedSimpArgs false
instance {p : Nat × (Array Value × TypeId)} {oa r : Blks} : Seg (p :: (oa ++ r)) (p :: oa) (fun o => o ++ r) := ⟨[], r, rfl, fun _ => rfl⟩
theorem OwnL.cut {e k : Nat} {n hi cap : Nat} {p : Option Addr} {xs : List Value} {oa : Blks} (h : OwnL e k (.slice p n cap) n xs oa) (h2 : hi ≤ n) : OwnL e k (sliced p 0 hi cap k) hi (xs.take (hi * k)) oa := by
  have hl := h.len
  refine ⟨?_, ?_⟩
  · rw [List.length_take, hl, Nat.min_eq_left (Nat.mul_le_mul_right _ h2)]
  · rcases h.out with ⟨hv, h0, ho⟩ | ⟨g, c, cur, hv, hnc, hcm, hcs, htake, ho⟩
    · injection hv with e1 e2 e3
      subst e1; subst e2; subst e3
      obtain rfl : hi = 0 := by omega
      exact .inl ⟨by simp [sliced], rfl, ho⟩
    · injection hv with e1 e2 e3
      subst e1; subst e3
      refine .inr ⟨g, cap, cur, ?_, by omega, hcm, hcs, ?_, ho⟩
      · unfold sliced
        by_cases hc : cap = 0
        · simp [hc]
        · simp [hc, Addr.add_mid]
      · rw [← htake, List.take_take, Nat.min_eq_left (Nat.mul_le_mul_right _ h2)]
section
variable {X : Cx} {s : Slots} {l : Blks} {o : Oper} {v : Value} {Q : Post} {ops : Array Oper} {r : List Oper}
theorem cut_ex {t e k n hi : Nat} {x : Operand} {ol oh : Option Operand} {xs : List Value} {oa : Blks} (ho : o.op = .slice t x ol oh none) (hx : val s x = some v)
    (ht : UT X.P t (.slice e)) (hs : SZ X.P e k) {la ha : Int} (hv : OwnL e k v n xs oa) (hl : loV s ol = some la) (hh : hiV s n oh = some ha) (hnl : la = 0) (hnh : ha = (hi : Int))
    (h2 : hi ≤ n) : ∃ v', RdV X s [] o v' ∧ OwnL e k v' hi (xs.take (hi * k)) oa := by
  subst hnl
  rw [hnh] at hh
  obtain ⟨p, cap, rfl, h3, h4, h5⟩ := hv.ln.out
  refine ⟨sliced p 0 hi cap k, fun ac w he hm => ?_, hv.cut h2⟩
  have hr := run_sub (P := X.P) (w := w) he (p := p) (lo := 0) ht.out hs hl hh (Nat.zero_le _) h2 h3
  simp only [execOp, ho, he.eval hx, Sem.run_bind, Option.map_none]
  rw [show (Instr.sliceAt t (Value.slice p n cap) (Option.map ac.eval ol) (Option.map ac.eval oh) none).run X.P w = _ from hr]
  simp
theorem wl_cutD {t n hi : Nat} {x : Operand} {ol oh : Option Operand} {ds ds' : List (List Nat)} {oa : Blks} {s' : Value → Slots} (hg : gd s ops o = some true) (hd : dOk X.N o.dst = true) (ho : o.op = .slice t x ol oh none) (hx : val s x = some v)
    [ht : UT X.P t (.slice 22)] [hs : SZ X.P 22 32] {la ha : Int} [hv : OwnD v n ds oa] (hl : loV s ol = some la) (hh : hiV s n oh = some ha) (hnl : la = 0) (hnh : ha = (hi : Int))
    (h : ∀ v', OwnD v' hi ds' oa → Wl X ops Q r (s' v') l)
    (h2 : hi ≤ n := by first | (with_reducible assumption) | omega) (hxs : ds.take hi = ds' := by first | (with_reducible assumption) | rfl)
    (hs' : ∀ v', sputO s o.dst v' = s' v' := by intro _; (try dsimp only [sputO, sput, Nat.reduceBEq, cond_true, cond_false, beq_self_eq_true]); first | done | exact rfl) : Wl X ops Q (o :: r) s l := by
  obtain rfl : (fun v' => sputO s o.dst v') = s' := funext hs'
  subst hxs
  obtain ⟨v', h3, h4⟩ := cut_ex ho hx ht hs hv.own hl hh hnl hnh h2
  exact wl_rd hg hd (RdV.rd fun a w he hm => h3 a w he (hm.sub .nil)) (h v' ⟨by rw [dgs_take hi hv.ok] at h4; exact h4, by rw [List.length_take, hv.len]; omega, hv.ok.take _⟩) rfl
end
section
variable {X : Cx} {G : Hg} {s : Slots} {b : Blks} {v : Value} {Q : Post} {l : List Nat} {fuel : Nat}
theorem wh_cutD {i : Nat} {oi : Oper} {r : List Oper} {lp : Blks} {late : List Nat} {t n hi : Nat} {x : Operand} {ol oh : Option Operand} {ds ds' : List (List Nat)} {oa : Blks} {s' : Value → Slots} (hpk : pickS steadyB r idx l = some i) (hi' : opAt r i = some oi) (hg : gd s r.toArray oi = some true) (hd : dOk X.N oi.dst = true) (ho : oi.op = .slice t x ol oh none) (hx : val s x = some v)
    [ht : UT X.P t (.slice 22)] [hs : SZ X.P 22 32] {la ha : Int} [hv : OwnD v n ds oa] (hl : loV s ol = some la) (hh : hiV s n oh = some ha) (hnl : la = 0) (hnh : ha = (hi : Int))
    (h : ∀ v', OwnD v' hi ds' oa → Wh X ⟨r.toArray, lp, late⟩ Q fuel (i :: l) (s' v') b)
    (h2 : hi ≤ n := by first | (with_reducible assumption) | omega) (hxs : ds.take hi = ds' := by first | (with_reducible assumption) | rfl)
    (hs' : ∀ v', sputO s oi.dst v' = s' v' := by intro _; (try dsimp only [sputO, sput, Nat.reduceBEq, cond_true, cond_false, beq_self_eq_true]); first | done | exact rfl)
    (hr : (Region.ready .any r.toArray (arrOf r.toArray.size l)).contains i = true := by kernel_rfl) (hns : Region.noSelect r.toArray = true := by kernel_rfl) (hf : Region.free .any r.toArray (arrOf r.toArray.size l) i = true := by kernel_rfl)
    (hn' : memB i late = false := by kernel_rfl) : Wh X ⟨r.toArray, lp, late⟩ Q (fuel + 1) l s b := by
  obtain rfl : (fun v' => sputO s oi.dst v') = s' := funext hs'
  subst hxs
  obtain ⟨v', h3, h4⟩ := cut_ex ho hx ht hs hv.own hl hh hnl hnh h2
  exact wh_take hpk hi' hg hd h3 (.inl rfl) (h v' ⟨by rw [dgs_take hi hv.ok] at h4; exact h4, by rw [List.length_take, hv.len]; omega, hv.ok.take _⟩) rfl hr hns hf hn'
end
end Go.Proofs.YtkbgkobbadjpnaaDoor
namespace Go.Proofs.YtkbgkobbadjpnaaDoor
open Go.RowKit
set_option linter.unusedVariables false
set_option linter.unusedSimpArgs false
theorem At.skipA {n : Nat} {x y : Array Value × TypeId} {r r' : Blks} (h : At r n x y r') : ∀ ob : Blks, At (ob ++ r) n x y (ob ++ r')
  | [] => h
  | _ :: o => .there (At.skipA h o)
theorem Inn.skipA {n : Nat} {x : Array Value × TypeId} {r : Blks} (h : Inn r n x) : ∀ ob : Blks, Inn (ob ++ r) n x
  | [] => h
  | _ :: o => .there (Inn.skipA h o)
theorem Has.sees {X : Cx} {l : Blks} {n : Nat} {c : Array Value} {e : Nat} {w : World} (hm : Mem X l w) (h : Inn l n (c, e) := by repeat (first | exact Inn.here | apply Inn.there | apply Inn.skipA)) : w.heap[n]? = some (.cells c e) := Has.inn h w hm
end Go.Proofs.YtkbgkobbadjpnaaDoor
namespace Go.Proofs.YtkbgkobbadjpnaaDoor
open Go.RowKit Go.ChangeShapes Go.WideShapes
set_option linter.unusedVariables false
set_option linter.unusedSimpArgs false
/-! ### Bulk -/
theorem bulk_one {H : Type} (d : DataW H) : 1 ≤ Rows.uptoBulk d := by
  cases d with
  | lit l => cases l <;> simp [Rows.uptoBulk]
  | _ => simp [Rows.uptoBulk]
theorem bulk_len {H : Type} : ∀ l : List (DataW H), l.length ≤ Rows.uptoBulkAll l
  | [] => Nat.zero_le _
  | d :: r => by have := bulk_one d; have := bulk_len r; simp only [Rows.uptoBulkAll, List.length_cons]; omega
theorem bulk_sum {H : Type} : ∀ l : List (DataW H), Rows.uptoBulkAll l = (l.map Rows.uptoBulk).sum
  | [] => rfl
  | d :: r => by simp only [Rows.uptoBulkAll, List.map_cons, List.sum_cons, bulk_sum r]
theorem bulk_slice {H : Type} (a b : List (DataW H)) : Rows.uptoBulkAll a + 1 ≤ Rows.uptoBulk (.slice a b) := by simp only [Rows.uptoBulk]; omega
theorem bulk_agg {H : Type} (a : List (DataW H)) : Rows.uptoBulk (.agg a) = Rows.uptoBulkAll a + 1 := by simp only [Rows.uptoBulk]
/-- Whatever is read as a 't' is so, and its bulk is the number's. -/
def Rdg (P : Program) (W : World) (t : TypeId) (F : List Value → Nat → Prop) : Prop :=
  ∀ (H : Type) (enc : TypeId × Value → H) fuel cs x, DataW.trod enc P W 0 (fun _ => true) true fuel t cs = some x → F cs (Rows.uptoBulk x.1)
section
variable {P : Program} {W : World} {t e : TypeId}
theorem Rdg.mono {F G : List Value → Nat → Prop} (h : Rdg P W t F) (hg : ∀ cs b, F cs b → G cs b) : Rdg P W t G := fun H enc fuel cs x hx => hg _ _ (h H enc fuel cs x hx)
theorem rdg_int {k : IntKind} (ht : P.underlying t = some (.int k)) : Rdg P W t fun cs b => ∃ z, cs = [.int k z] ∧ (Lit.int k z).wf = true := fun H enc fuel cs x hx => by
  obtain ⟨m, h1, h2, h3⟩ := DataW.trod_int ht hx
  exact ⟨m, h1, h3⟩
theorem spot_none {w : World} {a : Addr} {u : Value} (h : w.cell? a = some u) : a.spot = none := by
  simp only [World.cell?] at h
  split at h
  · cases hs : a.spot with
    | none => rfl
    | some x => simp [hs] at h
  · cases h
/-- A slice: its elements, each so read. -/
theorem rdg_slice {F : List Value → Nat → Prop} {k : Nat} (ht : P.underlying t = some (.slice e)) (hk : P.cellsOf e = k) (hpos : 0 < k) (hF : Rdg P W e F) :
    Rdg P W t fun cs b => ∃ v n, ∃ cc : List (List Value × Nat), cs = [v] ∧ cc.length = n ∧ (∀ c ∈ cc, F c.1 c.2 ∧ c.1.length = k) ∧ Cs W v n (cc.map (·.1)).flatten ∧ (cc.map (·.2)).sum + 1 ≤ b := fun H enc fuel cs x hx => by
  rcases DataW.trod_slice ht hx with ⟨rfl, rfl⟩ | ⟨a, len, cap, elems, rest, n, rfl, rfl, rfl, _, hl, hm, hlen, hel, _, _⟩
  · exact ⟨.slice none 0 0, 0, [], rfl, rfl, by simp, ⟨⟨none, 0, rfl, Nat.le_refl _, Nat.zero_le _, fun h => absurd h (by omega)⟩, fun j u h => by simp at h⟩, by simp [Rows.uptoBulk]⟩
  · have each : ∀ i, i < len → ∃ ci : List Value, W.cells? 0 (a.add (i * k)) k = some ci ∧ ∃ y, elems[i]? = some y ∧ DataW.trod enc P W 0 (fun _ => true) true n e ci = some y := fun i hi => by
      have h1 := hel i hi
      rw [hk, List.getElem?_eq_getElem (by omega), Option.bind_eq_some_iff] at h1
      obtain ⟨ci, h2, h3⟩ := h1
      exact ⟨ci, h2, elems[i]'(by omega), List.getElem?_eq_getElem (by omega), h3⟩
    let f : Nat → List Value := fun i => (W.cells? 0 (a.add (i * k)) k).getD []
    have hf : ∀ i, i < len → W.cells? 0 (a.add (i * k)) k = some (f i) := fun i hi => by
      obtain ⟨ci, h2, _⟩ := each i hi
      simp only [f, h2, Option.getD_some]
    have hfl : ∀ i, i < len → (f i).length = k := fun i hi => (World.cells?_some (hf i hi)).2.1
    refine ⟨.slice (some a) len cap, len, (List.range len).map fun i => (f i, Rows.uptoBulk ((elems.map (·.1)).getD i .nil)), rfl, by simp, ?_, ?_, ?_⟩
    · intro c hc
      obtain ⟨i, hi, rfl⟩ := List.mem_map.1 hc
      have hi := List.mem_range.1 hi
      refine ⟨?_, hfl i hi⟩
      obtain ⟨ci, h2, y, h3, h4⟩ := each i hi
      rw [hf i hi] at h2
      cases h2
      have : (elems.map (·.1)).getD i .nil = y.1 := by simp [List.getD, h3]
      dsimp only
      rw [this]
      exact hF H enc n _ y h4
    · have sp : 0 < len → a.spot = none := fun h0 => by
        have h1 := hf 0 h0
        rw [Nat.zero_mul] at h1
        have h2 := (World.cells?_some h1).2.2 0 hpos
        have hlt : 0 < (f 0).length := by rw [hfl 0 h0]; exact hpos
        rw [List.getElem?_eq_getElem hlt] at h2
        simpa [Addr.add] using spot_none h2
      have hfl' : (List.map (fun x => x.1) (List.map (fun i => (f i, Rows.uptoBulk ((elems.map (·.1)).getD i .nil))) (List.range len))).flatten = ((List.range len).map f).flatten := by rw [List.map_map]; rfl
      rw [hfl']
      refine ⟨⟨_, _, rfl, hl, hm, fun h0 => ?_⟩, fun j u hj => ?_⟩
      · obtain ⟨b, off, spot⟩ := a
        obtain rfl : spot = none := sp h0
        exact ⟨b, off, rfl⟩
      · have hfind : ∀ m, (∀ i, i < m → i < len) → ∀ j u, (((List.range m).map f).flatten)[j]? = some u → ∃ i, i < m ∧ i * k ≤ j ∧ j < i * k + k ∧ (f i)[j - i * k]? = some u := by
          intro m
          induction m with
          | zero => intro _ j u h; simp at h
          | succ m ih =>
            intro hm' j u h
            have hlm : (((List.range m).map f).flatten).length = m * k := by
              have : ∀ q, q ≤ m → (((List.range q).map f).flatten).length = q * k := fun q => by
                induction q with
                | zero => intro _; simp
                | succ q ihq => intro hq; rw [List.range_succ, List.map_append, List.flatten_append, List.length_append, ihq (by omega)]; simp [hfl q (hm' q (by omega)), Nat.succ_mul]
              exact this m (Nat.le_refl _)
            rw [List.range_succ, List.map_append, List.flatten_append] at h
            rcases Nat.lt_or_ge j (m * k) with hj | hj
            · rw [List.getElem?_append_left (by omega)] at h
              obtain ⟨i, h1, h2, h3, h4⟩ := ih (fun i hi => hm' i (by omega)) j u h
              exact ⟨i, by omega, h2, h3, h4⟩
            · rw [List.getElem?_append_right (by omega), hlm] at h
              simp only [List.map_cons, List.map_nil, List.flatten_cons, List.flatten_nil, List.append_nil] at h
              have hlt := (List.getElem?_eq_some_iff.1 h).1
              rw [hfl m (hm' m (by omega))] at hlt
              exact ⟨m, by omega, hj, by omega, h⟩
        obtain ⟨i, h1, h2, h3, h4⟩ := hfind len (fun i hi => hi) j u hj
        obtain ⟨b, off, spot⟩ := a
        obtain rfl : spot = none := sp (by omega)
        refine ⟨b, off, cap, rfl, ?_⟩
        have h5 := (World.cells?_some (hf i h1)).2.2 (j - i * k) (by omega)
        rw [Addr.add_mid, Addr.add_mid, h4] at h5
        rw [← h5]
        congr 2
        omega
    · have hb := bulk_slice (elems.map (·.1)) (rest.map (·.1))
      rw [bulk_sum] at hb
      have : (List.map (fun x => x.2) (List.map (fun i => (f i, Rows.uptoBulk ((elems.map (·.1)).getD i .nil))) (List.range len))) = (elems.map (·.1)).map Rows.uptoBulk := by
        rw [List.map_map]
        apply List.ext_getElem?
        intro i
        by_cases hi : i < len
        · simp [hi, hlen, List.getD]
        · simp [hi, hlen]
      rw [this]
      exact hb
/-- Bytes. -/
theorem rdg_bytes (ht : P.underlying t = some (.slice e)) (he : P.underlying e = some (.int .u8)) (hk : P.cellsOf e = 1) : Rdg P W t fun cs b => ∃ v n p, cs = [v] ∧ Cb W v n p ∧ n + 1 ≤ b := fun H enc fuel cs x hx => by
  obtain ⟨v, n, cc, h1, h2, h3, h4, h5⟩ := rdg_slice ht hk (by decide) (rdg_int he) H enc fuel cs x hx
  have hb : ∀ c ∈ cc, c.1 = [.int .u8 ((byteOf (c.1.headD undef) : Nat) : Int)] ∧ byteOf (c.1.headD undef) < 256 := fun c hc => by
    obtain ⟨⟨z, hz, hw⟩, _⟩ := h3 c hc
    simp [Lit.wf, IntKind.min, IntKind.max, IntKind.signed, IntKind.bits] at hw
    rw [hz]
    simp only [List.headD_cons, byteOf]
    refine ⟨by rw [Int.toNat_of_nonneg hw.1], by omega⟩
  have hfl : ∀ l : List (List Value × Nat), (∀ c ∈ l, c ∈ cc) → (l.map (·.1)).flatten = bl (l.map fun c => byteOf (c.1.headD undef)) := fun l => by
    induction l with
    | nil => intro _; rfl
    | cons c r ih => intro h; rw [List.map_cons, List.flatten_cons, ih fun d hd => h d (by simp [hd]), (hb c (h c (by simp))).1]; simp [bl, byteOf]
  have hsum : ∀ l : List (List Value × Nat), (∀ c ∈ l, c ∈ cc) → True := fun _ _ => trivial
  refine ⟨v, n, cc.map fun c => byteOf (c.1.headD undef), h1, ⟨by rw [← hfl cc fun _ h => h]; exact h4, ⟨by rw [List.length_map, h2], fun y hy => ?_⟩⟩, ?_⟩
  · obtain ⟨c, hc, rfl⟩ := List.mem_map.1 hy
    exact (hb c hc).2
  · rcases DataW.trod_slice ht hx with ⟨rfl, rfl⟩ | ⟨a, len, cap, elems, rest, m, rfl, rfl, rfl, _, hl, hm, hlen, hel, _, _⟩
    · obtain rfl : v = .slice none 0 0 := by simpa using h1.symm
      obtain ⟨_, _, hv, _⟩ := h4.ln.out
      injection hv with _ hn _
      subst hn
      simp [Rows.uptoBulk]
    · obtain ⟨_, _, hv, _⟩ := h4.ln.out
      have hv' : v = .slice (some a) len cap := by simpa using h1.symm
      rw [hv'] at hv
      injection hv with _ hn _
      subst hn
      have hb := bulk_slice (elems.map (·.1)) (rest.map (·.1))
      have := bulk_len (elems.map (·.1))
      simp only [List.length_map] at this
      dsimp only
      omega
theorem rdg_struct2 {f0 f1 : Field} {F0 F1 : List Value → Nat → Prop} (ht : P.underlying t = some (.struct #[f0, f1])) (h0 : Rdg P W f0.type F0) (h1 : Rdg P W f1.type F1) :
    Rdg P W t fun cs b => ∃ b0 b1, cs.length = P.cellsOf t ∧ F0 ((cs.drop f0.offset).take (P.cellsOf f0.type)) b0 ∧ F1 ((cs.drop f1.offset).take (P.cellsOf f1.type)) b1 ∧ b0 + b1 + 1 ≤ b := fun H enc fuel cs x hx => by
  obtain ⟨y0, y1, n, rfl, hl, e0, e1⟩ := trod_struct2 ht hx
  refine ⟨_, _, hl, h0 H enc n _ _ e0, h1 H enc n _ _ e1, ?_⟩
  rw [bulk_agg]
  simp only [Rows.uptoBulkAll]
  omega
/-- Of a struct the fields, each so read. -/
theorem rdg_struct {fs : Array Field} (ht : P.underlying t = some (.struct fs)) (F : Nat → List Value → Nat → Prop) (hF : ∀ i f, fs[i]? = some f → Rdg P W f.type (F i)) :
    Rdg P W t fun cs b => ∃ bs : List Nat, cs.length = P.cellsOf t ∧ bs.length = fs.size ∧ (∀ i f, fs[i]? = some f → F i ((cs.drop f.offset).take (P.cellsOf f.type)) (bs.getD i 0)) ∧ bs.sum + 1 ≤ b := fun H enc fuel cs x hx => by
  obtain ⟨xs, n, rfl, rfl, hl, hlen, hf⟩ := DataW.trod_struct ht hx
  refine ⟨xs.map fun y => Rows.uptoBulk y.1, hl, by simp [hlen], fun i f hi => ?_, ?_⟩
  · have h1 := hf i f hi
    have hlt : i < xs.length := by rw [hlen]; exact (Array.getElem?_eq_some_iff.1 hi).1
    rw [List.getElem?_eq_getElem hlt] at h1
    have := hF i f hi H enc n _ _ h1
    simpa [List.getD, hlt] using this
  · rw [bulk_agg, bulk_sum, List.map_map]
    exact Nat.le_refl _
end
section
variable {H : Type} {enc : TypeId × Value → H} {P : Program} {W : World}
/-- The top: one cell. -/
theorem open_cell {t : TypeId} {r : Reach} {b0 : Nat} {v : Value} {d : DataW H} {q : List MemPlace} {F : List Value → Nat → Prop} (hF : Rdg P W t F) (hv : v.cells = #[v]) (h : DataW.Trod enc P W 0 (fun _ => true) true t v d q) : F [v] (Rows.uptoBulk d) := by
  obtain ⟨fuel, hf⟩ := h
  have := hF H enc fuel _ _ hf
  rwa [hv] at this
theorem open_bl {t e : TypeId} {r : Reach} {b0 : Nat} {v : Value} {d : DataW H} {q : List MemPlace} (ht : P.underlying t = some (.slice e)) (he : P.underlying e = some (.int .u8)) (hk : P.cellsOf e = 1) (hv : Value.okWide P W r b0 t v) (h : DataW.Trod enc P W 0 (fun _ => true) true t v d q) :
    ∃ n p, Cb W v n p ∧ n + 1 ≤ Rows.uptoBulk d := by
  obtain ⟨a, len, cap, rfl⟩ := okWide_slice ht hv
  obtain ⟨v', n, p, h1, h2, h3⟩ := open_cell (r := r) (b0 := b0) (rdg_bytes ht he hk) rfl h
  cases h1
  exact ⟨n, p, h2, h3⟩
end
end Go.Proofs.YtkbgkobbadjpnaaDoor
namespace Go.Proofs.YtkbgkobbadjpnaaDoor
open Go.RowKit Go.ChangeShapes Go.WideShapes
set_option linter.unusedVariables false
set_option linter.unusedSimpArgs false
/-- Each of these reads as the bytes named. -/
def Els (w : World) : List Value → List (List Nat) → Prop
  | [], [] => True
  | x :: xs, q :: qs => Cb w x q.length q ∧ Els w xs qs
  | _, _ => False
theorem Els.len {w : World} : ∀ {xs : List Value} {qs : List (List Nat)}, Els w xs qs → qs.length = xs.length
  | [], [], _ => rfl
  | _ :: _, _ :: _, h => by rw [List.length_cons, List.length_cons, Els.len h.2]
theorem Els.at {w : World} : ∀ {xs : List Value} {qs : List (List Nat)} {i : Nat}, Els w xs qs → i < xs.length → ∃ x q, xs[i]? = some x ∧ qs[i]? = some q ∧ Cb w x q.length q
  | x :: _, q :: _, 0, h, _ => ⟨x, q, rfl, rfl, h.1⟩
  | _ :: _, _ :: _, i + 1, h, hi => by
    obtain ⟨x, q, h1, h2, h3⟩ := Els.at (i := i) h.2 (by simpa using hi)
    exact ⟨x, q, by simpa using h1, by simpa using h2, h3⟩
theorem Els.below {w w' : World} (hb : Below w.heap.size w w') : ∀ {xs : List Value} {qs : List (List Nat)}, Els w xs qs → Els w' xs qs
  | [], [], _ => trivial
  | _ :: _, _ :: _, h => ⟨h.1.below hb, Els.below hb h.2⟩
theorem Els.app {w : World} : ∀ {xs ys : List Value} {qs rs : List (List Nat)}, Els w xs qs → Els w ys rs → Els w (xs ++ ys) (qs ++ rs)
  | [], _, [], _, _, h => h
  | _ :: _, _, _ :: _, _, h, h' => ⟨h.1, Els.app h.2 h'⟩
theorem Els.one {w : World} : ∀ {xs : List Value} {qs : List (List Nat)}, Els w xs qs → ∀ y ∈ xs, y.oneCell' = true
  | [], [], _, y, hy => by cases hy
  | x :: _, _ :: _, h, y, hy => by
    rcases List.mem_cons.1 hy with rfl | hy
    · obtain ⟨_, _, hv, _⟩ := h.1.cs.ln.out
      rw [hv]; rfl
    · exact Els.one h.2 y hy
theorem Els.take {w : World} (k : Nat) : ∀ {xs : List Value} {qs : List (List Nat)}, Els w xs qs → Els w (xs.take k) (qs.take k) := by
  induction k with
  | zero => intro xs qs _; simp [Els]
  | succ k ih =>
    intro xs qs h
    match xs, qs, h with
    | [], [], _ => trivial
    | _ :: _, _ :: _, h => exact ⟨h.1, ih h.2⟩
theorem Els.drop {w : World} (k : Nat) : ∀ {xs : List Value} {qs : List (List Nat)}, Els w xs qs → Els w (xs.drop k) (qs.drop k) := by
  induction k with
  | zero => intro xs qs h; exact h
  | succ k ih =>
    intro xs qs h
    match xs, qs, h with
    | [], [], h => exact h
    | _ :: _, _ :: _, h => exact ih h.2
/-- A slice of slices of bytes. -/
structure Cll (w : World) (v : Value) (n : Nat) (xs : List Value) (qs : List (List Nat)) : Prop where
  cs : Cs w v n xs
  len : xs.length = n
  el : Els w xs qs
theorem Cll.below {w w' : World} {v : Value} {n : Nat} {xs : List Value} {qs : List (List Nat)} (h : Cll w v n xs qs) (hb : Below w.heap.size w w') : Cll w' v n xs qs := ⟨h.cs.below hb, h.len, Els.below hb h.el⟩
section
variable {P : Program} {W : World} {t e e' : TypeId}
theorem rdg_bll (ht : P.underlying t = some (.slice e)) (hk : P.cellsOf e = 1) (ht' : P.underlying e = some (.slice e')) (he : P.underlying e' = some (.int .u8)) (hk' : P.cellsOf e' = 1) :
    Rdg P W t fun cs b => ∃ v n xs qs, cs = [v] ∧ Cll W v n xs qs ∧ qs.length + (qs.map List.length).sum + 1 ≤ b := fun H enc fuel cs x hx => by
  obtain ⟨v, n, cc, h1, h2, h3, h4, h5⟩ := rdg_slice ht hk (by decide) (rdg_bytes ht' he hk') H enc fuel cs x hx
  have hgo : ∀ l : List (List Value × Nat), (∀ c ∈ l, c ∈ cc) → ∃ xs qs, (l.map (·.1)).flatten = xs ∧ xs.length = l.length ∧ Els W xs qs ∧ qs.length + (qs.map List.length).sum ≤ (l.map (·.2)).sum := fun l => by
    induction l with
    | nil => intro _; exact ⟨[], [], rfl, rfl, trivial, by simp⟩
    | cons c r ih =>
      intro h
      obtain ⟨xs, qs, e1, e2, e3, e4⟩ := ih fun d hd => h d (by simp [hd])
      obtain ⟨⟨y, m, p, f1, f2, f3⟩, _⟩ := h3 c (h c (by simp))
      refine ⟨y :: xs, p :: qs, by rw [List.map_cons, List.flatten_cons, e1, f1]; rfl, by simp [e2], ⟨by rw [f2.ok.len]; exact f2, e3⟩, ?_⟩
      have := f2.ok.len
      simp only [List.map_cons, List.sum_cons, List.length_cons]
      omega
  obtain ⟨xs, qs, e1, e2, e3, e4⟩ := hgo cc fun _ h => h
  rw [e1] at h4
  exact ⟨v, n, xs, qs, h1, ⟨h4, by rw [e2, h2], e3⟩, by omega⟩
theorem rdg_ints (ht : P.underlying t = some (.slice e)) (he : P.underlying e = some (.int .i64)) (hk : P.cellsOf e = 1) :
    Rdg P W t fun cs b => ∃ v n, ∃ zs : List Int, cs = [v] ∧ Cs W v n (zs.map (Value.int .i64)) ∧ zs.length = n ∧ (∀ z ∈ zs, -9223372036854775808 ≤ z ∧ z < 9223372036854775808) ∧ n + 1 ≤ b := fun H enc fuel cs x hx => by
  have hb : Rdg P W e fun cs b => (∃ z, cs = [.int .i64 z] ∧ (Lit.int .i64 z).wf = true) ∧ 1 ≤ b := fun H enc fuel cs x hx => ⟨rdg_int he H enc fuel cs x hx, bulk_one _⟩
  obtain ⟨v, n, cc, h1, h2, h3, h4, h5⟩ := rdg_slice ht hk (by decide) hb H enc fuel cs x hx
  have hgo : ∀ l : List (List Value × Nat), (∀ c ∈ l, c ∈ cc) → ∃ zs : List Int, (l.map (·.1)).flatten = zs.map (Value.int .i64) ∧ zs.length = l.length ∧ (∀ z ∈ zs, -9223372036854775808 ≤ z ∧ z < 9223372036854775808) ∧ l.length ≤ (l.map (·.2)).sum := fun l => by
    induction l with
    | nil => intro _; exact ⟨[], rfl, rfl, by simp, by simp⟩
    | cons c r ih =>
      intro h
      obtain ⟨zs, e1, e2, e3, e4⟩ := ih fun d hd => h d (by simp [hd])
      obtain ⟨⟨⟨z, f1, f2⟩, f3⟩, _⟩ := h3 c (h c (by simp))
      simp [Lit.wf, IntKind.min, IntKind.max, IntKind.signed, IntKind.bits] at f2
      refine ⟨z :: zs, by rw [List.map_cons, List.flatten_cons, e1, f1]; rfl, by simp [e2], fun y hy => ?_, by simp only [List.map_cons, List.sum_cons, List.length_cons]; omega⟩
      rcases List.mem_cons.1 hy with rfl | hy
      · omega
      · exact e3 y hy
  obtain ⟨zs, e1, e2, e3, e4⟩ := hgo cc fun _ h => h
  rw [e1] at h4
  exact ⟨v, n, zs, h1, h4, by rw [e2, h2], e3, by omega⟩
end
section
variable {H : Type} {enc : TypeId × Value → H} {P : Program} {W : World}
theorem open_bll' {t e e' : TypeId} {r : Reach} {b0 : Nat} {v : Value} {d : DataW H} {q : List MemPlace} (ht : P.underlying t = some (.slice e)) (hk : P.cellsOf e = 1) (ht' : P.underlying e = some (.slice e')) (he : P.underlying e' = some (.int .u8)) (hk' : P.cellsOf e' = 1) (hv : Value.okWide P W r b0 t v) (h : DataW.Trod enc P W 0 (fun _ => true) true t v d q) :
    ∃ x : Nat × List Value × List (List Nat), Cll W v x.1 x.2.1 x.2.2 ∧ x.2.2.length + (x.2.2.map List.length).sum + 1 ≤ Rows.uptoBulk d := by
  obtain ⟨a, len, cap, rfl⟩ := okWide_slice ht hv
  obtain ⟨v', n, xs, qs, h1, h2, h3⟩ := open_cell (r := r) (b0 := b0) (rdg_bll ht hk ht' he hk') rfl h
  cases h1
  exact ⟨(n, xs, qs), h2, h3⟩
theorem open_ints' {t e : TypeId} {r : Reach} {b0 : Nat} {v : Value} {d : DataW H} {q : List MemPlace} (ht : P.underlying t = some (.slice e)) (he : P.underlying e = some (.int .i64)) (hk : P.cellsOf e = 1) (hv : Value.okWide P W r b0 t v) (h : DataW.Trod enc P W 0 (fun _ => true) true t v d q) :
    ∃ zs : List Int, (Cs W v zs.length (zs.map (Value.int .i64)) ∧ ∀ z ∈ zs, -9223372036854775808 ≤ z ∧ z < 9223372036854775808) ∧ zs.length + 1 ≤ Rows.uptoBulk d := by
  obtain ⟨a, len, cap, rfl⟩ := okWide_slice ht hv
  obtain ⟨v', n, zs, h1, h2, h3, h4, h5⟩ := open_cell (r := r) (b0 := b0) (rdg_ints ht he hk) rfl h
  cases h1
  subst h3
  exact ⟨zs, ⟨h2, h4⟩, h5⟩
end
theorem hold_old {P : Program} {W w : World} {N : Nat} (hb : Below W.heap.size W w) (l : Blks) : Hold ⟨P, w, N, []⟩ l (Old W []) :=
  ⟨fun w' hm k hk _ => (hm.cls.old k (Nat.lt_of_lt_of_le hk hb.size) (by simp)).trans (hb.block k hk)⟩
end Go.Proofs.YtkbgkobbadjpnaaDoor
namespace Go.Proofs.YtkbgkobbadjpnaaDoor
open Go.RowKit
set_option linter.unusedVariables false
set_option maxRecDepth 100000
set_option linter.unusedSimpArgs false
theorem Msk.belowO {w0 W w : World} {own : List Nat} {m : Mu} (h : Msk W own m w) (hb : Below w0.heap.size w0 W) (hf : ∀ k ∈ own, w0.heap.size ≤ k) : Below w0.heap.size w0 w :=
  ⟨h.os.trans hb.os, h.tape.trans hb.tape, h.output.trans hb.output, Nat.le_trans hb.size h.size, fun k hk => by
    rw [h.old k (Nat.lt_of_lt_of_le hk hb.size) (fun hin => absurd (hf k hin) (by omega))]
    exact hb.block k hk⟩
theorem Mem.belowO {P : Program} {w0 W w : World} {N : Nat} {own : List Nat} {l : Blks} (h : Mem ⟨P, W, N, own⟩ l w) (hb : Below w0.heap.size w0 W) (hf : ∀ k ∈ own, w0.heap.size ≤ k) : Below w0.heap.size w0 w := h.cls.belowO hb hf
theorem Mem.freshS {P : Program} {W w : World} {N : Nat} {l oa : Blks} {f : Blks → Blks} (h : Mem ⟨P, W, N, []⟩ l w) [hs : Seg l oa f] : ∀ k ∈ keys oa, W.heap.size ≤ k := fun k hk => by
  obtain ⟨pre, post, rfl, _⟩ := hs.out
  rcases Nat.lt_or_ge k W.heap.size with h1 | h1
  · have := h.fresh k (by simp only [keys_app, List.mem_append]; exact .inr (.inl hk)) h1
    cases this
  · exact h1
theorem Mem.freshO {P : Program} {w0 W w : World} {N : Nat} {own : List Nat} {l oa : Blks} {f : Blks → Blks} (h : Mem ⟨P, W, N, own⟩ l w) (hb : Below w0.heap.size w0 W) (hf : ∀ k ∈ own, w0.heap.size ≤ k) [hs : Seg l oa f] : ∀ k ∈ keys oa, w0.heap.size ≤ k := fun k hk => by
  obtain ⟨pre, post, rfl, _⟩ := hs.out
  rcases Nat.lt_or_ge k W.heap.size with h1 | h1
  · exact hf k (h.fresh k (by simp only [keys_app, List.mem_append]; exact .inr (.inl hk)) h1)
  · exact Nat.le_trans hb.size h1
theorem Mem.freshK {P : Program} {W w : World} {N : Nat} {l : Blks} (h : Mem ⟨P, W, N, []⟩ l w) {n : Nat} {x : Array Value × TypeId} (hi : Inn l n x := by repeat (first | exact Inn.here | apply Inn.there | apply Inn.skipA)) : W.heap.size ≤ n := by
  rcases Nat.lt_or_ge n W.heap.size with h1 | h1
  · have := h.fresh n hi.at.mem h1
    cases this
  · exact h1
theorem Mem.ndS {X : Cx} {w : World} {l oa : Blks} {f : Blks → Blks} (h : Mem X l w) [hs : Seg l oa f] : (keys oa).Nodup := by
  obtain ⟨pre, post, rfl, _⟩ := hs.out
  have := h.nd
  simp only [keys_app, List.nodup_append] at this
  exact this.2.1.1
theorem Cs.nl {W : World} {v : Value} {n : Nat} {xs : List Value} (h : Cs W v n xs) (hx : xs ≠ []) : elB v < W.heap.size := by
  cases xs with
  | nil => exact absurd rfl hx
  | cons y r =>
    obtain ⟨b, off, cap, rfl, hc⟩ := h.cell 0 y rfl
    exact World.block_lt_of_cell? _ _ hc
theorem Cs.oldY {W : World} {v : Value} {n : Nat} {xs : List Value} {own : List Nat} (h : Cs W v n xs) (ha : xs ≠ [] → elB v ∉ own) : CsF (Old W own) v n xs := by
  by_cases hx : xs = []
  · subst hx
    exact ⟨h.ln, fun w _ => ⟨h.ln, fun j u hj => by simp at hj⟩⟩
  · exact h.oldX (ha hx)
theorem Cs.oldB {w0 W : World} {v : Value} {n : Nat} {xs : List Value} {own : List Nat} (h : Cs w0 v n xs) (hb : Below w0.heap.size w0 W) (hf : ∀ k ∈ own, w0.heap.size ≤ k) : CsF (Old W own) v n xs :=
  (h.below hb).oldY fun hx hin => by
    have := h.nl hx
    have := hf _ hin
    omega
theorem Cb.oldB {w0 W : World} {v : Value} {n : Nat} {p : List Nat} {own : List Nat} (h : Cb w0 v n p) (hb : Below w0.heap.size w0 W) (hf : ∀ k ∈ own, w0.heap.size ≤ k) : CsB (Old W own) v n p := ⟨h.cs.oldB hb hf, h.ok⟩
theorem cell_of {w : World} {n j : Nat} {c : Array Value} {t : TypeId} {v : Value} (h : w.heap[n]? = some (.cells c t)) (hv : c[j]? = some v) : w.cell? ⟨n, j, none⟩ = some v := by
  simp [World.cell?, h, hv]
theorem rw_cell {g : Sg} [hok : SgOk g] {off : Nat} {v : Value} (ha : atL g off 1 = some #[v]) : (rwA g)[off]? = some v := by
  obtain ⟨h1, h2, h3⟩ := atL_spec hok ha
  have := congrArg (·[0]?) h1
  simpa [rwA] using this
/-- What an updating call makes, told of one block that stays and of others. -/
def RetPO {T : Type} (mk : T → Value) (n : Nat) (c : Array Value) (t : TypeId) (Φ : T → Array Value → Blks → Prop) (w : World) (e : Ending) (w' : World) : Prop :=
  ∃ x c' oa', e = .returned (mk x) ∧ Φ x c' oa' ∧ Upd w [(n, (c, t))] w' ((n, (c', t)) :: oa')
theorem fn_updPO {T : Type} {mk : T → Value} {n : Nat} {cs : Array Value} {t : TypeId} {Φ : T → Array Value → Blks → Prop} {P : Program} {f : Nat} {fn : Func} {c : Code} {vs : List Value} {W : World} {N : Nat} (hf : P.funcs[f]? = some fn) (hb : fn.body = some c) (hN : fn.ntmps = N) {rs : List ResultVar} (hrs : fn.results = rs.toArray) (hl : vs.length ≤ N)
    (hd : W.heap[n]? = some (.cells cs t)) (h : Wc ⟨P, W, N, [n]⟩ c (endP ⟨P, W, N, [n]⟩ rs fun u l => ∃ x c' oa', u = mk x ∧ Φ x c' oa' ∧ SubL ((n, (c', t)) :: oa') l) (initS vs 0) [(n, (cs, t))]) : Calls P f vs.toArray W (RetPO mk n cs t Φ W) :=
  (fn_calls hf hb hN hrs hl (Mem.initO (oa := [(n, (cs, t))]) (by simp [keys]) (hd_one hd)) h).mono fun e w' ⟨u, l, he, ⟨x, c', oa', hu, hφ, hs⟩, hm⟩ => ⟨x, c', oa', by rw [he, hu], hφ, (hm.sub hs).toUpd⟩
section
variable {X : Cx} {s : Slots} {l : Blks} {o : Oper} {v : Value} {Q : Post} {ops : Array Oper} {r : List Oper}
theorem wl_updPO {T : Type} {mk : T → Value} {n : Nat} {cs : Array Value} {t : TypeId} {Φ : T → Array Value → Blks → Prop} {c : Call} {fi : Nat} {vs : List Value} {l' : Array Value → Blks} {f : Array Value → Blks → Blks} {s' : T → Slots} (hg : gd s ops o = some true) (hd : dOk X.N o.dst = true) (ho : o.op = .call c) (hc : c.callee = .value (.func fi)) (ha : vals s c.args.toList = some vs)
    (hC : ∀ w, Mem X l w → w.heap[n]? = some (.cells cs t) → Calls X.P fi vs.toArray w (RetPO mk n cs t Φ w))
    (hat : ∀ c', At l n (cs, t) (c', t) (l' c') := by intro _; repeat (first | exact At.here | apply At.there | apply At.skipA)) [hf : ∀ c', Snoc (l' c') (f c')] (h : ∀ x c' oa', Φ x c' oa' → Wl X ops Q r (s' x) (f c' oa')) (hk : callOk X.P fi = true := by kernel_rfl)
    (hs' : ∀ x, sputO s o.dst (mk x) = s' x := by intro _; (try dsimp only [sputO, sput, Nat.reduceBEq, cond_true, cond_false, beq_self_eq_true]); first | done | exact rfl) : Wl X ops Q (o :: r) s l := fun a w hst => by
  obtain rfl : (fun x => sputO s o.dst (mk x)) = s' := funext hs'
  have hw := gd_wanted hst.env hg
  unfold wpList
  rw [if_pos hw]
  refine .inl ?_
  unfold Oper.wp
  rw [run_op_call ho hc hst.env ha, run_enter hk]
  refine (hC w hst.mem (Has.at (hat cs) w hst.mem)).mono fun e w' ⟨x, c', oa', he, hφ, hup⟩ => ?_
  subst he
  refine h x c' oa' hφ _ _ ⟨hst.env.put hd _, ?_⟩
  obtain ⟨pre, post, e1, e2⟩ := At.ex _ (hat c')
  haveI : Seg l [(n, (cs, t))] (fun o => pre ++ (o ++ post)) := ⟨pre, post, by rw [e1]; rfl, fun _ => rfl⟩
  have := hup.mem hst.mem
  rw [(hf c').out, e2]
  refine this.perm ?_
  rw [List.append_assoc]
  refine List.Perm.append_left pre ?_
  rw [List.cons_append, List.cons_append]
  exact (List.perm_append_comm).cons _
end
end Go.Proofs.YtkbgkobbadjpnaaDoor
namespace Go.Proofs.YtkbgkobbadjpnaaDoor
open Go.RowKit
set_option linter.unusedVariables false
set_option linter.unusedSimpArgs false
section
variable {X : Cx} {s : Slots} {l : Blks} {o : Oper} {v : Value} {Q : Post} {ops : Array Oper} {r : List Oper}
/-- Some cells of a segment, as a row. -/
theorem ld_sgR {t b off k e p m j : Nat} {g : Sg} {A : Array Value} {cs : List Value} [hu : KD X.P t true] [hs : SZ X.P t k] [hok : SgOk g] (hh : Has X l b (rwA g, e) := by first | (with_reducible assumption) | (refine Has.inn ?_; repeat (first | exact Inn.here | apply Inn.there | apply Inn.skipA))) (ha : atL g p m = some A := by rfl) (ho : p + j = off := by first | (with_reducible assumption) | rfl | omega)
    (hv : (A.toList.drop j).take k = cs := by first | (with_reducible assumption)) (hj : j + k ≤ m := by first | (with_reducible assumption) | omega) : Ld X l t b off (.agg cs.toArray) := by
  obtain ⟨h1, h2, h3⟩ := atL_spec hok ha
  subst ho
  refine ld_row (c := rwA g) hh ?_ ?_
  · rw [← hv, ← h1, rwA]
    simp only [List.drop_take, List.drop_drop, List.take_take]
    rw [Nat.min_eq_left (by omega)]
  · rw [← hv, List.length_take, List.length_drop, Array.length_toList, h2]
    omega
/-- Bytes are copied into a segment of bytes. -/
theorem wl_copyG {x y : Operand} {t t' e te n cap b off m pp mm j : Nat} {u : Value} {p q q' : List Nat} {g g' : Sg} {l' : Blks} {s' : Slots} (hg : gd s ops o = some true) (hd : dOk X.N o.dst = true) (hop : o.op = .call { callee := .builtin .copy, args := #[x, y], argTypes := #[t, t'] })
    (hx : val s x = some (.slice (some ⟨b, off, none⟩) n cap)) (hy : val s y = some u) [ht : UT X.P t (.slice e)] [hs : SZ X.P e 1] [hok : SgOk g] [hu : VwB X l u m p] {k : Nat}
    (h : Wl X ops Q r s' l') (hat : At l b (rwA g, te) (rwA g', te) l' := by repeat (first | exact At.here | apply At.there | apply At.skipA)) (ha : atL g pp mm = some (bys q) := by rfl) (hp : putG g pp mm (bys q') = some g' := by rfl) (ho : pp + j = off := by first | (with_reducible assumption) | rfl | omega)
    (hk : Nat.min m n = k := by first | (with_reducible assumption) | rfl) (hfit : j + k ≤ q.length := by first | (with_reducible assumption) | omega) (hq : q.take j ++ (p.take k ++ q.drop (j + k)) = q' := by first | (with_reducible assumption) | rfl)
    (hs' : sputO s o.dst (.int .i64 (k : Int)) = s' := by (try dsimp only [sputO, sput, Nat.reduceBEq, cond_true, cond_false, beq_self_eq_true]); first | done | exact rfl) : Wl X ops Q (o :: r) s l := fun a w hst => by
  subst hs'; subst ho
  have hw := gd_wanted hst.env hg
  obtain ⟨hcs, hokb⟩ := hu.out w hst.mem
  obtain ⟨pu, cu, rfl, h1, h2, h3⟩ := hcs.ln.out
  have hgb := hst.mem.cls.now b (rwA g) te (hat.now hst.mem.nd)
  have hkm : k ≤ m := by rw [← hk]; exact Nat.min_le_left _ _
  have hpk : (p.take k).length = k := by rw [List.length_take, hokb.len]; omega
  have htl : (bl (p.take k)).length = k := by rw [bl_len, hpk]
  obtain ⟨f1, f2, f3⟩ := atL_spec hok ha
  have hql : q.length = mm := by rw [← f2]; simp [bys, bl]
  have hjk : j + k ≤ mm := by rw [← hql]; exact hfit
  have hq'n : q'.length = mm := by
    rw [← hq, List.length_append, List.length_append, List.length_take, List.length_drop, hpk, hql]; omega
  have hq'l : (bys q').size = mm := by
    simp only [bys, List.size_toArray, bl_len, hq'n]
  obtain ⟨g1, g2, g3, g4⟩ := putG_spec hok hq'l (by simp [bys, bl, Value.oneCell']) hp
  have hrow : ((rwA g).toList.take (pp + j) ++ bl (p.take k) ++ (rwA g).toList.drop (pp + j + (bl (p.take k)).length)).toArray = rwA g' := by
    rw [htl]
    unfold rwA
    rw [← g1]
    unfold putR
    have hbq : (bys q').toList = bl q' := by simp [bys]
    have hbq0 : (bys q).toList = bl q := by simp [bys]
    have hq2 : (bys q').toList.length = mm := by rw [Array.length_toList, hq'l]
    rw [hq2, hbq, ← hq, bl_app, bl_app]
    rw [hbq0] at f1
    have hpl : pp ≤ (rwL g).length := by omega
    have e0 : (rwL g).take (pp + j) = (rwL g).take pp ++ bl (q.take j) := by
      rw [List.take_add, ← bl_take, ← f1, List.take_take, Nat.min_eq_left (by omega)]
    have e1 : (rwL g).drop (pp + j + k) = bl (q.drop (j + k)) ++ (rwL g).drop (pp + mm) := by
      rw [← bl_drop, ← f1, List.drop_take, List.drop_drop]
      have := List.take_append_drop (mm - (j + k)) ((rwL g).drop (pp + (j + k)))
      rw [List.drop_drop, show pp + (j + k) + (mm - (j + k)) = pp + mm by omega] at this
      rw [show pp + j + k = pp + (j + k) by omega]
      exact this.symm
    rw [List.toList_toArray, e0, e1]
    simp only [List.append_assoc]
  have hrun : ∃ w', (Builtin.copy_ #[t, t'] o.type #[.slice (some ⟨b, pp + j, none⟩) n cap, .slice pu m cu]).run X.P w = .ok (.int .i64 (k : Int)) w' ∧ Mem X l' w' := by
    by_cases h0 : k = 0
    · subst h0
      refine ⟨w, run_copy_none (P := X.P) w t t' o.type e _ pu n cap m cu ht.out hs.out hk, ?_⟩
      have e1 : rwA g' = rwA g := by
        rw [← hrow, htl]
        have : bl (p.take 0) = [] := rfl
        rw [this]
        simp
      rw [e1] at hat
      have e2 : l' = l := hat.same
      rw [e2]; exact hst.mem
    · obtain ⟨b', off', rfl⟩ := h3 (by omega)
      refine ⟨_, run_copy_row (P := X.P) w t t' o.type e b (pp + j) n cap ⟨b', off', none⟩ m cu (rwA g) te (bl (p.take k)) ht.out hs.out hgb (by rw [htl, hk]) (fun i y hj => ?_) (by rw [htl, rw_size hok]; rw [rwL_len hok] at f3; omega) (bl_one _) |>.trans (by rw [htl]; rfl), ?_⟩
      · have hjl : i < k := by rw [← htl]; exact (List.getElem?_eq_some_iff.1 hj).1
        have hj' : (bl p)[i]? = some y := by
          rw [← bl_take, List.getElem?_take_of_lt hjl] at hj
          exact hj
        obtain ⟨b2, off2, cap2, hv, hc⟩ := hcs.cell i y hj'
        injection hv with hv
        injection hv with hv
        injection hv with hb' ho'
        subst hb'; subst ho'
        rw [Addr.add_mid]; exact hc
      · have e0 : pp + j + k = pp + j + (bl (p.take k)).length := by rw [htl]
        rw [e0, hrow]
        exact hst.mem.upd hat
  obtain ⟨w', hrun, hmem⟩ := hrun
  unfold wpList
  rw [if_pos hw]
  refine .inl ?_
  unfold Oper.wp
  have : (execOp a.eval o).run X.P w = .ok (.value (.int .i64 (k : Int))) w' := by
    simp only [execOp, hop, resolve, invoke, builtin, Sem.run_bind, Sem.run_pure, Result.andThen_ok, List.map_toArray, List.map_cons, List.map_nil, hst.env.eval hx, hst.env.eval hy, hrun]
  rw [this]
  exact h _ _ ⟨hst.env.put hd _, hmem⟩
end
/-- The stores and the copies of a region. -/
def lateC : List Oper → Nat → List Nat
  | [], _ => []
  | o :: r, k => match o.op with
    | .store _ _ _ => k :: lateC r (k + 1)
    | .call c => (match c.callee with
      | .builtin .copy => k :: lateC r (k + 1)
      | _ => lateC r (k + 1))
    | _ => lateC r (k + 1)
theorem wc_drawC {X : Cx} {Q : Post} {s : Slots} {b : Blks} {id : Nat} {r : List Oper} (hm : X.P.follows .mixedOrders = true) (h : Wh X ⟨r.toArray, b, lateC r 0⟩ Q r.length [] s b) : Wc X (.region id r.toArray true) Q s b := wc_drawH b _ hm (SubL.refl b) h
end Go.Proofs.YtkbgkobbadjpnaaDoor
