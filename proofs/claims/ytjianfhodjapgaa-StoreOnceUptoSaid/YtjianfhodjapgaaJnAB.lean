/- store.own, walked: a list of attributes of one's own. A store of objects: plain laws. Calls that write blocks which they are given. The core. Ranges over a function: the walk inside a round; the call of yield; the statement. slices.Sorted, maps.Keys, slices.Sort at int: the shelf's contracts laid at this seat's numbers (written by the kit's lay-plain.mjs; for another seat it is to be written anew: wip/tools/laykeys.sh). slices.Sorted(maps.Keys(m)) at int keys, in terms of the walk. slices.Sorted(maps.Keys(m)) at a map of held objects, in terms of the walk. Worlds seen from one in which none of the walk's own blocks was. The package store, walked: all, an iterator. The package store, walked: Next, Drop, Put, Get. The package store, walked: Put, Get. The package store, walked: List. -/
import Derived.Test.YtjianfhodjapgaaJnAA
import Derived.Test.YtjianfhodjapgaaOwnB
import Derived.Test.YtjianfhodjapgaaLwH
import Derived.RangeFuncNested
import Derived.RangeFuncCalls
import Derived.RangeFuncLeaves
import Derived.OrdersIn
import Derived.Shelf.SlGeneric
import Derived.Shelf.SlIterI.Nil
import Derived.Shelf.SortM.Plain
import Derived.Shelf.SortM.SortNone
import Derived.Ground.GgzProg
import Derived.Ground.SlgmProg
import Derived.Test.YtjianfhodjapgaaProg
import Derived.Test.YtjianfhodjapgaaTyS
namespace Go.Proofs.Ytjianfhodjapgaa
open Go.RowKit
set_option linter.unusedVariables false
set_option linter.unusedSimpArgs false
set_option maxRecDepth 100000
/-- How large a list may be. -/
structure Small (l : List Att) : Prop where
  len : l.length ≤ 1048576
  each : ∀ x ∈ l, x.2.2.length ≤ 1048576
/-- The loop's state. -/
structure OwS where
  i : Nat
  its : List Att
  v : Value
  oo : Blks
  ob : Blks
structure OwS.Ok (l : List Att) (x : OwS) : Prop where
  le : x.i ≤ l.length
  own : OwnL 49 2 x.v x.i (atsC x.its) x.oo
  bod : BodF (Hd x.ob) x.its
  eq : abs x.its = abs (l.take x.i)
  len : x.its.length = x.i
set_option maxHeartbeats 8000000 in
theorem own_c (w : World) {v : Value} {l : List Att} (h : Ats w v l) (hk : Small l) : Calls Try.prog 24 [v].toArray w (RetO (fun u : Value => u) (fun u oa => ∃ its, OwnT u its oa ∧ abs its = abs l) w) := by
  haveI i0 := h.old
  haveI i1 := h.cs.old
  have hlen := hk.len
  have hbody := h.body
  have CL : ∀ w' {v : Value} {k : Nat} {q : List Nat}, Cb w' v k q → k ≤ 1099511627776 → Calls Try.prog 32 [v].toArray w' (RetO (fun u => u) (fun u oa => OwnB 5 u k q oa) w') := fun w' {v k q} h hk => clone_b w' h hk
  have t0 : ((0 : Int) != 0) = false := rfl
  clear h
  refine fn_own (N := _) Try.func24 rfl Try.ntmps24 Try.results24 (by simp) ?_
  simp only [initS, Nat.reduceAdd, Nat.zero_add]
  repeat' (first | (refine wlS ?_) | (refine wlB ?_) | (refine wlE ?_) | (refine efSvao ?_; intro v oa ho) | (refine efBnn ?_; intro n hn) | (refine efB ?_) | (refine efBS ?_) | (refine wl_skip rfl rfl ?_) | ((with_reducible refine wc_seq ?_); intro K hK) | (refine auC ?_) | (refine wc_cond rfl (fun hc => ?_) (fun hc => ?_)) | (refine wc_draw (by kernel_rfl) (by kernel_rfl) (by decide +kernel) ?_; intro w0 hw0 hm0; (try simp only [List.append_eq, List.cons_append, List.nil_append])) | (refine auP ?_) | ((refine auR ?_); clear hK K) | (refine auR ?_) | ((with_reducible refine hK _ _ ?_); clear hK K) | fail)
  refine wc_loop (σ := OwS) (fun x => [(3, x.v), (6, v), (7, .int .i64 (l.length : Int)), (8, .int .i64 (x.i : Int))]) (fun x => x.oo ++ x.ob) (OwS.Ok l) (fun x => l.length - x.i) ⟨0, [], .slice none 0 0, [], []⟩
    ⟨Nat.zero_le _, OwnL.nil _ _, BodF.nil, rfl, rfl⟩ (Fits.of ⟨rfl, rfl, rfl, rfl, trivial⟩ (SubL.refl _) rfl) ?_
  rintro ⟨i, its, u, oo, ob⟩ ⟨hi, ho, hb, he, hil⟩
  dsimp only at hi ho hb he hil ⊢
  by_cases hlt : i < l.length
  · obtain ⟨⟨kk, bv, p⟩, hx⟩ : ∃ x, l[i]? = some x := ⟨l[i]'(by omega), List.getElem?_eq_getElem _⟩
    have hlx := hx
    have hmem := List.mem_of_getElem? hx
    have hcb := hbody _ hmem
    dsimp only at hcb
    obtain ⟨pu, cu, rfl, hcu, _⟩ := hcb.cs.ln.out
    haveI i2 := hcb.old
    have hget := atsC_get hx
    dsimp only at hget
    have hpl : p.length ≤ 1048576 := hk.each _ hmem
    have CL1 := fun w' {v : Value} (h : Cb w' v p.length p) => (show Calls Try.prog 32 [v].toArray w' (RetO (fun y : Option Addr × Nat => .slice y.1 p.length y.2) (fun y oa => OwnB 5 (.slice y.1 p.length y.2) p.length p oa) w') from (CL w' h (by omega)).mono fun e w2 ⟨y, oa, h1, h2, h3⟩ => by
      obtain ⟨pp, cc, rfl, _⟩ := h2.own.ln.out
      exact ⟨(pp, cc), oa, h1, h2, h3⟩)
    have u1 : decide ((i : Int) < (l.length : Int)) = true := decide_eq_true (by omega)
    have u2 : IntKind.i64.wrap ((i : Int) + 1) = ((i + 1 : Nat) : Int) := by rw [wrap_i64 _ (by omega) (by omega)]; omega
    have j1 : (i : Int) < (l.length : Int) := by omega
    clear CL hbody hcb hx hmem hk
    repeat' (first | (refine wlS ?_) | (refine wlB ?_) | (refine wlE ?_) | (refine efSvao ?_; intro v oa ho) | (refine efZCnn ?_; intro n hn) | ((with_reducible refine sel_call ?_); first | (refine wl_newO rfl rfl rfl rfl rfl (fun w hm => by with_reducible exact CL1 w (VwB.out w hm)) ?_; intro x oa hx)) | (refine efBnn ?_; intro n hn) | (refine efB ?_) | (refine efBS ?_) | (refine wl_skip rfl rfl ?_) | ((with_reducible refine wc_seq ?_); intro K hK) | (refine auC ?_) | (refine wc_cond rfl (fun hc => ?_) (fun hc => ?_)) | (refine wc_draw (by kernel_rfl) (by kernel_rfl) (by decide +kernel) ?_; intro w0 hw0 hm0; (try simp only [List.append_eq, List.cons_append, List.nil_append])) | (refine auP ?_) | ((refine auR ?_); clear hK K) | (refine auR ?_) | ((with_reducible refine hK _ _ ?_); clear hK K) | fail)
    rename_i oc vs os hs
    refine ⟨⟨i + 1, its ++ [(kk, .slice x.1 p.length x.2, p)], v, oa, ob ++ oc⟩, ⟨hlt, by dsimp only; rw [atsC_app]; exact ho, hb.app (BodF.one hx), ?_, by simp [hil]⟩, by dsimp only; omega, Fits.of ⟨rfl, rfl, rfl, rfl, trivial⟩ ?_ rfl⟩
    · dsimp only
      rw [abs_app, he, List.take_add_one, hlx, abs_app]; rfl
    · dsimp only
      repeat (first | exact SubL.nil | exact SubL.refl _ | refine SubL.keep ?_ | exact SubL.headA _ _ | refine SubL.keepA ?_ _ | refine SubL.skip ?_ | refine SubL.skipA ?_ _)
  · obtain rfl : i = l.length := by omega
    have u1 : decide ((l.length : Int) < (l.length : Int)) = false := decide_eq_false (by omega)
    rw [List.take_length] at he
    clear CL hbody
    repeat' (first | (refine wlS ?_) | (refine wlB ?_) | (refine wlE ?_) | (refine efSvao ?_; intro v oa ho) | (refine efBnn ?_; intro n hn) | (refine efB ?_) | (refine efBS ?_) | (refine wl_skip rfl rfl ?_) | ((with_reducible refine wc_seq ?_); intro K hK) | (refine auC ?_) | (refine wc_cond rfl (fun hc => ?_) (fun hc => ?_)) | (refine wc_draw (by kernel_rfl) (by kernel_rfl) (by decide +kernel) ?_; intro w0 hw0 hm0; (try simp only [List.append_eq, List.cons_append, List.nil_append])) | (refine auP ?_) | ((refine auR ?_); clear hK K) | (refine auR ?_) | ((with_reducible refine hK _ _ ?_); clear hK K) | fail)
    first | refine end_ret (ResP.tmp rfl ResP.nil) ?_ | refine end_normal (ResP.tmp rfl ResP.nil) ?_
    (try dsimp only [tupV])
    exact ⟨u, oo ++ ob, rfl, ⟨its, ⟨oo, ob, fun q h => h, by rw [hil]; exact ho, hb⟩, he⟩, SubL.refl _⟩
end Go.Proofs.Ytjianfhodjapgaa
namespace Go.Proofs.Ytjianfhodjapgaa
set_option linter.unusedVariables false
set_option linter.unusedSimpArgs false
/-- What is kept: its number, whose it is, the slice, the attributes, the stamp. -/
abbrev Kp := Int × Int × Value × List Att × Nat
def kpV (x : Kp) : Value := .agg #[.int .i64 x.1, .int .i64 x.2.1, x.2.2.1]
def kpE (x : Kp) : Ent := (x.1, kpV x, x.2.2.2.2)
structure Sto where
  most : Int
  next : Int
  m : List Kp
  clock : Nat
def stoC (g : Nat) (S : Sto) : Array Value := #[.int .i64 S.most, .int .i64 S.next, .map (some g)]
/-- What holds of every store. -/
structure StoOk (S : Sto) : Prop where
  lo : 1 ≤ S.most
  hi : S.most ≤ 16
  next0 : 1 ≤ S.next
  next1 : S.next ≤ 1073741824
  few : (S.m.length : Int) ≤ S.most
  lt : ∀ x ∈ S.m, x.2.2.2.2 < S.clock
  nd : (S.m.map (·.2.2.2.2)).Nodup
  rise : (S.m.map (·.1)).Pairwise (· < ·)
  pos : ∀ x ∈ S.m, 1 ≤ x.1 ∧ x.1 < S.next
theorem lt_nodup {l : List Int} (h : l.Pairwise (· < ·)) : l.Nodup := by
  rw [List.nodup_iff_pairwise_ne]
  exact h.imp fun hlt e => by omega
theorem StoOk.keys {S : Sto} (h : StoOk S) : (S.m.map (·.1)).Nodup := lt_nodup h.rise
theorem StoOk.mok {S : Sto} (h : StoOk S) : MOk (S.m.map kpE) S.clock where
  lt := fun x hx => by obtain ⟨y, hy, rfl⟩ := List.mem_map.1 hx; exact h.lt y hy
  nd := by have := h.nd; simpa [kpE, Function.comp_def] using this
  keys := by have := h.keys; simpa [kpE, Function.comp_def] using this
theorem StoOk.wf {S : Sto} (h : StoOk S) : ∀ x ∈ S.m.map kpE, (Lit.int .i64 x.1).wf = true := fun x hx => by
  obtain ⟨y, hy, rfl⟩ := List.mem_map.1 hx
  have h1 := h.pos y hy
  have h2 := h.next1
  have h3 : (kpE y).1 = y.1 := rfl
  rw [h3]
  have e1 : IntKind.i64.min = -9223372036854775808 := rfl
  have e2 : IntKind.i64.max = 9223372036854775807 := rfl
  simp only [Lit.wf, e1, e2, Bool.and_eq_true, decide_eq_true_eq]
  omega
def kget (m : List Kp) (k : Int) : Option Kp := m.find? fun x => x.1 == k
theorem mfind_kp (k : Int) : ∀ (m : List Kp) (i : Nat), (mfind k (m.map kpE) i).map (·.2) = (kget m k).map kpV
  | [], _ => rfl
  | x :: r, i => by
    rw [List.map_cons, mfind, kget, List.find?_cons]
    by_cases e : k = x.1
    · subst e; simp [kpE]
    · rw [show (k == (kpE x).1) = false by simpa [kpE] using e, cond_false, show (x.1 == k) = false by simpa using fun h => e h.symm]
      exact mfind_kp k r (i + 1)
theorem mget_kp (m : List Kp) (k : Int) : mget (m.map kpE) k = (kget m k).map kpV := mfind_kp k m 0
theorem kget_of {m : List Kp} (h : (m.map (·.1)).Nodup) {x : Kp} (hx : x ∈ m) : kget m x.1 = some x := by
  induction m with
  | nil => cases hx
  | cons y r ih =>
    rw [List.map_cons, List.nodup_cons] at h
    rw [kget, List.find?_cons]
    rcases List.mem_cons.1 hx with rfl | hx
    · simp
    · have : (y.1 == x.1) = false := by
        simp only [beq_eq_false_iff_ne, ne_eq]
        exact fun e => h.1 (by rw [e]; exact List.mem_map_of_mem hx)
      rw [this]
      exact ih h.2 hx
theorem kget_mem {m : List Kp} {k : Int} {x : Kp} (h : kget m k = some x) : x ∈ m ∧ x.1 = k :=
  ⟨List.mem_of_find?_eq_some h, by simpa using List.find?_some h⟩
theorem kget_none {m : List Kp} {k : Int} : kget m k = none ↔ ∀ x ∈ m, x.1 ≠ k := by
  unfold kget
  rw [List.find?_eq_none]
  simp
/-- Without a key. -/
def kdel (m : List Kp) (k : Int) : List Kp := m.filter fun x => x.1 != k
theorem mfind_shiftK (k : Int) : ∀ (m : List Ent) (i : Nat), mfind k m (i + 1) = (mfind k m i).map fun x => (x.1 + 1, x.2)
  | [], _ => rfl
  | x :: r, i => by
    rw [mfind, mfind]
    cases k == x.1 with
    | true => rfl
    | false => exact mfind_shiftK k r (i + 1)
theorem kdel_none {m : List Kp} {k : Int} (h : ∀ x ∈ m, x.1 ≠ k) : kdel m k = m := List.filter_eq_self.2 fun x hx => by simpa using h x hx
theorem mdel_kp : ∀ {m : List Kp} (k : Int), (m.map (·.1)).Nodup → mdel (m.map kpE) k = (kdel m k).map kpE
  | [], _, _ => rfl
  | x :: r, k, h => by
    rw [List.map_cons, List.nodup_cons] at h
    unfold mdel
    rw [List.map_cons, mfind]
    by_cases e : k = x.1
    · subst e
      have hk : kdel (x :: r) x.1 = r := by
        rw [kdel, List.filter_cons]
        simp only [bne_self_eq_false, Bool.false_eq_true, if_false]
        exact kdel_none fun y hy he => h.1 (by rw [← he]; exact List.mem_map_of_mem hy)
      rw [hk]
      simp [kpE]
    · have hk : kdel (x :: r) k = x :: kdel r k := by
        rw [kdel, List.filter_cons, if_pos (by simpa using fun h => e h.symm)]
        rfl
      rw [hk, show (k == (kpE x).1) = false by simpa [kpE] using e, cond_false, mfind_shiftK]
      have ih := mdel_kp k h.2
      unfold mdel at ih
      rw [List.map_cons, ← ih]
      cases mfind k (r.map kpE) 0 with
      | none => rfl
      | some y => rfl
theorem mset_kp {m : List Kp} {x : Kp} {clock : Nat} (h : kget m x.1 = none) (hc : x.2.2.2.2 = clock) : mset (m.map kpE) x.1 (kpV x) clock = ((m ++ [x]).map kpE, clock + 1) := by
  unfold mset
  have h1 := mget_kp m x.1
  rw [h] at h1
  unfold mget at h1
  cases h2 : mfind x.1 (m.map kpE) 0 with
  | some y => rw [h2] at h1; cases h1
  | none => subst hc; simp [kpE]
/-! ### What stays -/
theorem sto_new {most next : Int} (h : 1 ≤ most ∧ most ≤ 16) (h' : 1 ≤ next ∧ next ≤ 1073741824) : StoOk ⟨most, next, [], 0⟩ :=
  ⟨h.1, h.2, h'.1, h'.2, by simp; omega, by simp, by simp, by simp, by simp⟩
theorem StoOk.del {S : Sto} (h : StoOk S) (k : Int) : StoOk { S with m := kdel S.m k } := by
  have hs : (kdel S.m k).Sublist S.m := List.filter_sublist
  exact ⟨h.lo, h.hi, h.next0, h.next1, by have := h.few; have := hs.length_le; dsimp only; omega, fun x hx => h.lt x (hs.subset hx), (hs.map _).nodup h.nd, h.rise.sublist (hs.map _), fun x hx => h.pos x (hs.subset hx)⟩
/-- One more, behind all others. -/
theorem StoOk.add {S : Sto} (h : StoOk S) {k o : Int} {v : Value} {its : List Att} {nx : Int} (hf : (S.m.length : Int) < S.most) (hk : 1 ≤ k) (hbe : ∀ x ∈ S.m, x.1 < k) (hn : k < nx) (hn2 : S.next ≤ nx) (hn1 : nx ≤ 1073741824) :
    StoOk ⟨S.most, nx, S.m ++ [(k, o, v, its, S.clock)], S.clock + 1⟩ := by
  refine ⟨h.lo, h.hi, by have := h.next0; dsimp only; omega, hn1, by simp; omega, fun x hx => ?_, ?_, ?_, fun x hx => ?_⟩
  · dsimp only
    rcases List.mem_append.1 hx with hx | hx
    · have := h.lt x hx; omega
    · simp only [List.mem_singleton] at hx; subst hx; exact Nat.lt_succ_self _
  · dsimp only
    rw [List.map_append, List.nodup_append]
    refine ⟨h.nd, by simp, fun a ha b hb e => ?_⟩
    simp at hb; subst hb; subst e
    obtain ⟨y, hy, he⟩ := List.mem_map.1 ha
    have := h.lt y hy
    omega
  · dsimp only
    rw [List.map_append, List.pairwise_append]
    refine ⟨h.rise, by simp, fun a ha b hb => ?_⟩
    simp at hb; subst hb
    obtain ⟨y, hy, rfl⟩ := List.mem_map.1 ha
    exact hbe y hy
  · dsimp only
    rcases List.mem_append.1 hx with hx | hx
    · have := h.pos x hx; omega
    · simp only [List.mem_singleton] at hx; subst hx; exact ⟨hk, hn⟩
/-- The bodies of all that is kept. -/
def KpF (ob : Blks) (m : List Kp) : Prop := ∀ x ∈ m, AtF (Hd ob) x.2.2.1 x.2.2.2.1 ∧ Small x.2.2.2.1
theorem KpF.nil (ob : Blks) : KpF ob [] := fun x hx => by cases hx
theorem KpF.sub {ob : Blks} {m m' : List Kp} (h : KpF ob m) (hs : ∀ x ∈ m', x ∈ m) : KpF ob m' := fun x hx => h x (hs x hx)
theorem AtF.weak {Φ Ψ : World → Prop} {v : Value} {l : List Att} (h : AtF Φ v l) (hs : ∀ w, Ψ w → Φ w) : AtF Ψ v l := ⟨⟨h.cs.ln, fun w hw => h.cs.out w (hs w hw)⟩, fun w hw => h.out w (hs w hw)⟩
theorem KpF.more {ob oc : Blks} {m : List Kp} (h : KpF ob m) (hs : ∀ p ∈ ob, p ∈ oc) : KpF oc m := fun x hx => ⟨(h x hx).1.weak fun w hw p hp => hw p (hs p hp), (h x hx).2⟩
theorem KpF.app {ob : Blks} {m m' : List Kp} (h : KpF ob m) (h' : KpF ob m') : KpF ob (m ++ m') := fun x hx => by
  rcases List.mem_append.1 hx with hx | hx
  · exact h x hx
  · exact h' x hx
end Go.Proofs.Ytjianfhodjapgaa
namespace Go.Proofs.Ytjianfhodjapgaa
open Go.RowKit
set_option linter.unusedVariables false
set_option linter.unusedSimpArgs false
/-- What is made of the blocks oa: one value and what it stands on are told of; all else below is as it was. -/
def RetU {T : Type} (mk : T → Value) (oa : Blks) (Φ : T → Blks → Prop) (w : World) (e : Ending) (w' : World) : Prop := ∃ x oa', e = .returned (mk x) ∧ Φ x oa' ∧ Upd w oa w' oa'
theorem Mem.initO {P : Program} {W : World} {N : Nat} {oa : Blks} (nd : (keys oa).Nodup) (hd : Hd oa W) : Mem ⟨P, W, N, keys oa⟩ oa W :=
  ⟨nd, ⟨rfl, rfl, rfl, Nat.le_refl _, fun _ _ _ => rfl, fun k c t h => hd (k, (c, t)) (mu_in h)⟩, fun _ h _ => h⟩
theorem Mem.toUpd {P : Program} {W w : World} {N : Nat} {oa oa' : Blks} (hm : Mem ⟨P, W, N, keys oa⟩ oa' w) : Upd W oa w oa' :=
  ⟨hm.cls.os, hm.cls.tape, hm.cls.output, hm.cls.size, fun k hk hn => hm.cls.old k hk hn, hm.nd, fun p hp => hm.cls.now p.1 p.2.1 p.2.2 (mu_mem_of hp hm.nd), fun n hn => by
    rcases Nat.lt_or_ge n W.heap.size with h | h
    · exact .inl (hm.fresh n hn h)
    · exact .inr h⟩
theorem fn_upd {T : Type} {mk : T → Value} {oa : Blks} {Φ : T → Blks → Prop} {P : Program} {f : Nat} {fn : Func} {c : Code} {vs : List Value} {W : World} {N : Nat} (hf : P.funcs[f]? = some fn) (hb : fn.body = some c) (hN : fn.ntmps = N) {rs : List ResultVar} (hrs : fn.results = rs.toArray) (hl : vs.length ≤ N)
    (nd : (keys oa).Nodup) (hd : Hd oa W) (h : Wc ⟨P, W, N, keys oa⟩ c (endP ⟨P, W, N, keys oa⟩ rs fun u l => ∃ x oa', u = mk x ∧ Φ x oa' ∧ SubL oa' l) (initS vs 0) oa) : Calls P f vs.toArray W (RetU mk oa Φ W) :=
  (fn_calls hf hb hN hrs hl (Mem.initO nd hd) h).mono fun e w' ⟨u, l, he, ⟨x, oa', hu, hφ, hs⟩, hm⟩ => ⟨x, oa', by rw [he, hu], hφ, (hm.sub hs).toUpd⟩
/-- What came in and is none of the blocks that may be written. -/
theorem Cs.oldX {W : World} {v : Value} {n : Nat} {xs : List Value} {own : List Nat} (h : Cs W v n xs) (ha : elB v ∉ own) : CsF (Old W own) v n xs := ⟨h.ln, fun w ho => h.stay fun b off cap hv hlt => ho b hlt (by subst hv; exact ha)⟩
theorem Cb.oldX {W : World} {v : Value} {n : Nat} {p : List Nat} {own : List Nat} (h : Cb W v n p) (ha : elB v ∉ own) : CsB (Old W own) v n p := ⟨h.cs.oldX ha, h.ok⟩
section
variable {X : Cx} {s : Slots} {l : Blks} {o : Oper} {v : Value} {Q : Post} {ops : Array Oper} {r : List Oper}
theorem Mem.hd {w : World} {oa : Blks} {f : Blks → Blks} (hm : Mem X l w) [hs : Seg l oa f] : Hd oa w := fun p hp => by
  obtain ⟨pre, post, rfl, _⟩ := hs.out
  exact hm.cls.now p.1 p.2.1 p.2.2 (mu_mem_of (by simp [hp]) hm.nd)
theorem wl_updO {T : Type} {mk : T → Value} {oa : Blks} {Φ : T → Blks → Prop} {c : Call} {fi : Nat} {vs : List Value} {f : Blks → Blks} {s' : T → Slots} (hg : gd s ops o = some true) (hd : dOk X.N o.dst = true) (ho : o.op = .call c) (hc : c.callee = .value (.func fi)) (ha : vals s c.args.toList = some vs)
    (hC : ∀ w, Mem X l w → Hd oa w → Calls X.P fi vs.toArray w (RetU mk oa Φ w)) [hf : Seg l oa f] (h : ∀ x oa', Φ x oa' → Wl X ops Q r (s' x) (f oa')) (hk : callOk X.P fi = true := by kernel_rfl)
    (hs' : ∀ x, sputO s o.dst (mk x) = s' x := by intro _; (try dsimp only [sputO, sput, Nat.reduceBEq, cond_true, cond_false, beq_self_eq_true]); first | done | exact rfl) : Wl X ops Q (o :: r) s l := fun a w hst => by
  obtain rfl : (fun x => sputO s o.dst (mk x)) = s' := funext hs'
  have hw := gd_wanted hst.env hg
  unfold wpList
  rw [if_pos hw]
  refine .inl ?_
  unfold Oper.wp
  rw [run_op_call ho hc hst.env ha, run_enter hk]
  refine (hC w hst.mem hst.mem.hd).mono fun e w' ⟨x, oa', he, hφ, hup⟩ => ?_
  subst he
  exact h x oa' hφ _ _ ⟨hst.env.put hd _, hup.mem hst.mem⟩
end
end Go.Proofs.Ytjianfhodjapgaa
namespace Go.Proofs.Ytjianfhodjapgaa
open Go.RowKit
set_option linter.unusedVariables false
set_option linter.unusedSimpArgs false
/-! ### From the walk outside a round to the walk inside one -/
abbrev RF (l0 : Nat) : Fence := Fence.wide.inRound l0
def noDef (o : Oper) : Bool := match o.op with
  | .defer _ => false
  | _ => true
theorem noDef_spec {o : Oper} (h : noDef o = true) : ∀ c, o.op ≠ .defer c := fun c e => by
  unfold noDef at h
  rw [e] at h
  cases h
section
variable {P : Program} {l0 n : Nat} {ops : Array Oper} {Q Q' : Exit → Act → World → Prop} {a : Act} {w : World}
theorem rows_in {row : String} {args : Array Value} {R : Value → World → Prop} (h : Rows P row args w R) : RowsIn Fence.wide n P row args w R := fun c cs _ => by
  obtain ⟨v, w', r, s⟩ := h c cs
  exact ⟨v, w', r, stepsIn_wide.2 s⟩
theorem upon_in {F : Fence} (hd : F.depth = none) (hC : ∀ {f args w R}, Calls P f args w R → CallsIn F (n - 1) P f args w R) (hR : ∀ {row args w R}, Rows P row args w R → RowsIn F (n - 1) P row args w R) {o : Oper} {next : Act → World → Prop} {r : Result Next} (h : o.upon P a next Q r) : o.uponIn F n P a next Q r := by
  have hn : F.depth.isSome = true → 1 ≤ n := fun h => by rw [hd] at h; cases h
  unfold Oper.upon at h
  unfold Oper.uponIn
  split at h
  · exact h
  · exact h
  · exact h
  · exact ⟨hn, hC h⟩
  · exact ⟨hn, hR h⟩
  · exact h
  · exact h.elim
theorem oper_in {o : Oper} {next : Act → World → Prop} (hd : noDef o = true) (h : o.wp P a w next Q) : o.wpIn (RF l0) n P a w next Q := by
  refine ⟨fun _ _ => trivial, ?_⟩
  rw [show (RF l0).round = some l0 from rfl, Oper.semAt_some l0 _ _ (noDef_spec hd)]
  exact upon_in rfl (fun h => CallsIn.inRound l0 (callsIn_wide.2 h)) (fun h => rows_in h) h
theorem oper_wide {o : Oper} {next : Act → World → Prop} (h : o.wp P a w next Q) : o.wpIn Fence.wide n P a w next Q := by
  refine ⟨fun _ _ => trivial, ?_⟩
  exact upon_in rfl (fun h => callsIn_wide.2 h) (fun h => rows_in h) h
theorem list_in (hq : ¬ LetsOut Q) : ∀ (r : List Oper) (a : Act) (w : World), (∀ o ∈ r, noDef o = true) → wpList P ops Q r a w → wpListIn (RF l0) n P ops Q r a w
  | [], a, w, _, h => h
  | o :: r, a, w, hd, h => by
    unfold wpList at h
    unfold wpListIn
    have ih := fun a w => list_in hq r a w (fun o ho => hd o (List.mem_cons_of_mem _ ho))
    split at h
    · rename_i hw
      rw [if_pos hw]
      rcases h with h | h
      · exact Oper.wpIn_mono ih (oper_in (hd o List.mem_cons_self) h)
      · exact absurd h.2 hq
    · rename_i hw
      rw [if_neg hw]
      exact ⟨fun _ _ => trivial, ih _ _ h⟩
theorem op_in (hq : ¬ LetsOut Q) {K K' : Act → World → Prop} {i : Nat} (hd : ∀ o ∈ ops, noDef o = true) (hk : ∀ a w, K a w → K' a w) (h : wpOp P ops Q i K a w) : wpOpIn (RF l0) n P ops Q i K' a w := by
  unfold wpOp at h
  unfold wpOpIn
  split at h
  · rename_i ho
    simp only [ho]
    exact hk _ _ h
  · rename_i o ho
    simp only [ho]
    split at h
    · rename_i hw
      rw [if_pos hw]
      rcases h with h | h
      · exact Oper.wpIn_mono hk (oper_in (hd o (Array.mem_of_getElem? ho)) h)
      · exact absurd h.2 hq
    · rename_i hw
      rw [if_neg hw]
      exact ⟨fun _ _ => trivial, hk _ _ h⟩
theorem any_in (hq : ¬ LetsOut Q) (hd : ∀ o ∈ ops, noDef o = true) {md : Region.Mode} : ∀ (fuel : Nat) (listed : Array Bool) (a : Act) (w : World), wpAny P md ops Q fuel listed a w → wpAnyIn (RF l0) n P md ops Q fuel listed a w
  | 0, _, _, _, h => h
  | fuel + 1, listed, a, w, h => ⟨h.1, fun i hi => op_in hq hd (fun a w h => any_in hq hd fuel _ a w h) (h.2 i hi)⟩
end
/-! ### The walk inside a round -/
def WcR (X : Cx) (l0 : Nat) (c : Code) (Q : Post) (s : Slots) (l : Blks) : Prop := ∀ n a w, St X s l a w → c.wpIn (RF l0) n X.P (lift X Q) a w
class NoOut (Q : Post) : Prop where
  out : ∀ s l, ¬ Q .outgrown s l
instance {K : Slots → Blks → Prop} {Q : Post} [h : NoOut Q] : NoOut (thenP K Q) := ⟨h.out⟩
instance {id : Nat} {Q : Post} [h : NoOut Q] : NoOut (inB id Q) := ⟨h.out⟩
/-- Nothing but the end. -/
def endR (K : Slots → Blks → Prop) : Post
  | .normal, s, l => K s l
  | _, _, _ => False
instance {K : Slots → Blks → Prop} : NoOut (endR K) := ⟨fun _ _ h => h⟩
instance {X : Cx} {rs : List ResultVar} {R : Value → Blks → Prop} : NoOut (endP X rs R) := ⟨fun _ _ h => h⟩
theorem endR_n {K : Slots → Blks → Prop} {s : Slots} {l : Blks} (h : K s l) : endR K .normal s l := h
theorem NoOut.lift {X : Cx} {Q : Post} (h : NoOut Q) : ¬ LetsOut (lift X Q) := fun ⟨a, w, s, l, _, h2⟩ => h.out s l h2
section
variable {X : Cx} {l0 : Nat} {Q : Post} {s : Slots} {l : Blks}
theorem wr_seq {c d : Code} (h : ∀ K : Slots → Blks → Prop, (∀ s l, WcR X l0 d Q s l → K s l) → WcR X l0 c (thenP K Q) s l) : WcR X l0 (.seq c d) Q s l := by
  intro n a w hs
  refine wpIn_seq (wpIn_mono (h (WcR X l0 d Q) (fun _ _ h => h) n a w hs) fun e a' w' ⟨s', l', h1, h2⟩ => ?_)
  cases e <;> first | exact h2 n a' w' h1 | exact ⟨s', l', h1, h2⟩
theorem wr_skip (h : Q .normal s l) : WcR X l0 .skip Q s l := fun n a w hs => wpIn_skip ⟨s, l, hs, h⟩
theorem wr_true {c : Operand} {x y : Code} (hc : val s c = some (.bool true)) (h : WcR X l0 x Q s l) : WcR X l0 (.cond c x y) Q s l := fun n a w hs => wpIn_cond_true (hs.env.eval hc) (h n a w hs)
theorem wr_false {c : Operand} {x y : Code} (hc : val s c = some (.bool false)) (h : WcR X l0 y Q s l) : WcR X l0 (.cond c x y) Q s l := fun n a w hs => wpIn_cond_false (hs.env.eval hc) (h n a w hs)
theorem wr_block {id : Nat} {c : Code} (h : WcR X l0 c (inB id Q) s l) : WcR X l0 (.block id c) Q s l := fun n a w hs =>
  wpIn_block (wpIn_mono (h n a w hs) fun e a' w' ⟨s', l', h1, h2⟩ => by
    cases e with
    | exit i =>
      simp only [Exit.inBlock, inB] at h2 ⊢
      split
      · rename_i he; rw [if_pos he] at h2; exact ⟨s', l', h1, h2⟩
      · rename_i he; rw [if_neg he] at h2; exact ⟨s', l', h1, h2⟩
    | _ => exact ⟨s', l', h1, h2⟩)
theorem wr_exit {id : Nat} (h : Q (.exit id) s l) : WcR X l0 (.exit id) Q s l := fun n a w hs => wpIn_exit ⟨s, l, hs, h⟩
theorem wr_sub {c : Code} {s' : Slots} {l' : Blks} (hs : SubS s' s) (hl : SubL l' l) (ho : X.own = X.own) (h : WcR X l0 c Q s' l') : WcR X l0 c Q s l := fun n a w hst => h n a w ⟨hst.env.sub hs, hst.mem.sub0 hl ho⟩
theorem wr_region {id : Nat} {r : List Oper} [hq : NoOut Q] (hd : r.all noDef = true) (h : Wl X r.toArray Q r s l) : WcR X l0 (.region id r.toArray false) Q s l := fun n a w hs =>
  wpIn_region_lit (list_in hq.lift r a w (fun o ho => List.all_eq_true.1 hd o ho) (h a w hs))
end
theorem auCR {p q : Prop} (k : q) (h : q → p := by refine fun k => ?_; first | ((with_reducible refine wr_region rfl ?_); (try simp only [List.append_eq, List.cons_append, List.nil_append]); exact k) | (with_reducible first | exact wr_block k | exact wr_skip k | exact wr_exit k | exact wl_nil k) | (first | exact wr_true rfl k | exact wr_false rfl k) | fail) : p := h k
/-! ### The call of yield -/
/-- What a call of yield does: its run, and the round's contract. -/
def Yld (P : Program) (l0 : Nat) (v : Value) (W : World) (R : Ending → World → Prop) : Prop :=
  ∀ n, ∃ fn tmps assign body, (Instr.yield l0 #[v]).run P W = .ok (.round l0 fn tmps assign body) W ∧ RoundIn Fence.wide n P l0 fn tmps assign body W R
def WlI (X : Cx) (ops : Array Oper) (Q : Post) (r : List Oper) (s : Slots) (l : Blks) : Prop := ∀ a w, St X s l a w → wpListIn Fence.wide 0 X.P ops (lift X Q) r a w
section
variable {P : Program} {n : Nat} {ops : Array Oper} {Q Q' : Exit → Act → World → Prop}
theorem upon_out {o : Oper} {a : Act} {next : Act → World → Prop} {r : Result Next} (hp : ∀ c a w, ¬ Q (.panic c) a w) (ho : ¬ LetsOut Q) (h : o.upon P a next Q r) : o.upon P a next Q' r := by
  unfold Oper.upon at h ⊢
  split at h
  · exact h
  · exact h
  · exact h
  · refine h.mono fun e w' he => ?_
    cases e with
    | returned v => exact he
    | panicked c => exact absurd he (hp _ _ _)
    | outgrown => exact absurd he ho
  · exact h
  · exact absurd h (hp _ _ _)
  · exact h.elim
theorem list_cat (hp : ∀ c a w, ¬ Q (.panic c) a w) (hq : ¬ LetsOut Q) {r2 : List Oper} (hk : ∀ a w, Q .normal a w → wpListIn Fence.wide n P ops Q' r2 a w) : ∀ (r : List Oper) (a : Act) (w : World), wpList P ops Q r a w → wpListIn Fence.wide n P ops Q' (r ++ r2) a w
  | [], a, w, h => hk a w h
  | o :: r, a, w, h => by
    unfold wpList at h
    rw [List.cons_append]
    unfold wpListIn
    split at h
    · rename_i hw
      rw [if_pos hw]
      rcases h with h | h
      · exact Oper.wpIn_mono (fun a w => list_cat hp hq hk r a w) (oper_wide (upon_out hp hq h))
      · exact absurd h.2 hq
    · rename_i hw
      rw [if_neg hw]
      exact ⟨fun _ _ => trivial, list_cat hp hq hk r _ _ h⟩
end
theorem lift_endR (X : Cx) (K : Slots → Blks → Prop) : ∀ c a w, ¬ lift X (endR K) (.panic c) a w := fun _ _ _ ⟨s, l, _, h⟩ => h
section
variable {X : Cx} {l0 : Nat} {Q : Post} {s : Slots} {l : Blks} {ops : Array Oper} {r : List Oper} {o : Oper}
theorem wc_split {id : Nat} (r1 r2 : List Oper) {r : List Oper} (hr : r = r1 ++ r2) (h : ∀ K : Slots → Blks → Prop, (∀ s l, WlI X r.toArray Q r2 s l → K s l) → Wl X r.toArray (endR K) r1 s l) : Wc X (.region id r.toArray false) Q s l := fun a w hs => by
  subst hr
  refine (wpIn_wide (n := 0)).1 (wpIn_region_lit ?_)
  have h1 := h (WlI X (r1 ++ r2).toArray Q r2) (fun _ _ h => h) a w hs
  exact list_cat (lift_endR X _) (NoOut.lift inferInstance) (fun a w ⟨s', l', h1, h2⟩ => h2 a w h1) r1 a w h1
theorem wc_splitN (k : Nat) {id : Nat} {r : List Oper} (h : ∀ K : Slots → Blks → Prop, (∀ s l, WlI X r.toArray Q (r.drop k) s l → K s l) → Wl X r.toArray (endR K) (r.take k) s l) : Wc X (.region id r.toArray false) Q s l := wc_split _ _ (List.take_append_drop k r).symm h
theorem wlI_yld {c : Call} {y : Operand} {v : Value} {oa : Blks} {f : Blks → Blks} {s' : Slots} {Φ : Blks → Prop} (hg : gd s ops o = some true) (hd : dOk X.N o.dst = true) (ho : o.op = .call c) (hc : c.callee = .value y) (hy : val s y = some (.func (.yield l0) #[] #[])) (ha : vals s c.args.toList = some [v])
    [hf : Seg l oa f] (hY : ∀ w, Mem X l w → Yld X.P l0 v w fun e w' => e = .returned (.bool true) ∧ ∃ oa', Φ oa' ∧ Upd w oa w' oa') [hq : NoOut Q] (hs' : sputO s o.dst (.bool true) = s')
    (h : ∀ oa', Φ oa' → ∀ K : Slots → Blks → Prop, (∀ s l, Q .normal s l → K s l) → Wl X ops (endR K) r s' (f oa')) : WlI X ops Q (o :: r) s l := fun a w hst => by
  have hw := gd_wanted hst.env hg
  unfold wpListIn
  rw [if_pos hw]
  refine ⟨fun _ _ => trivial, ?_⟩
  have h1 := hst.env.vals ha
  have h2 : c.args.map a.eval = [v].toArray := by rw [← h1]; simp [← Array.toList_map]
  obtain ⟨fn, tmps, assign, body, hrun, hR⟩ := hY w hst.mem (0 - 1)
  have e : (Oper.semAt Fence.wide.round a.eval o).run X.P w = .ok (.round l0 fn tmps assign body) w := by
    have e1 : Oper.semAt Fence.wide.round a.eval o = execOp a.eval o := by
      show Oper.semAt none a.eval o = _
      unfold Oper.semAt
      rfl
    rw [e1]
    simp only [execOp, ho, resolve, hc, h2, hst.env.eval hy, Deferred.ofValue]
    simp [invoke]
    exact hrun
  rw [e]
  refine ⟨fun h => (by cases h), hR.mono ?_⟩
  rintro e w' ⟨rfl, oa', hφ, hup⟩
  have h3 := h oa' hφ (fun s l => Q .normal s l) (fun _ _ h => h) _ w' ⟨by rw [← hs']; exact hst.env.put hd _, hup.mem hst.mem⟩
  have h4 := list_cat (n := 0) (Q' := lift X Q) (r2 := []) (lift_endR X _) (NoOut.lift inferInstance) (fun a w ⟨s', l', h1, h2⟩ => (⟨s', l', h1, h2⟩ : lift X Q .normal a w)) r _ _ h3
  rwa [List.append_nil] at h4
end
section
variable {X : Cx} {s : Slots} {l : Blks} {o : Oper}
/-- A function's value that holds its first arguments: a method's value. -/
theorem rd_mkfunB {f : Nat} {bs cs : Array Operand} {ub us : List Value} (ho : o.op = .makeFunc (.func f) bs cs) (hb : vals s bs.toList = some ub) (hu : vals s cs.toList = some us) : RdV X s l o (.func (.func f) ub.toArray us.toArray) := rd_val fun a w he hm => by
  have h := he.vals hu
  have h' := he.vals hb
  have h2 : cs.map a.eval = us.toArray := by rw [← h]; simp [← Array.toList_map]
  have h3 : bs.map a.eval = ub.toArray := by rw [← h']; simp [← Array.toList_map]
  simp only [execOp, ho, Instr.makeFunc, h2, h3, Sem.run_bind, Sem.run_pure, Result.andThen_ok]
end
/-! ### The statement -/
def WcM (X : Cx) (fn : Func) (R : Ending → World → Prop) (c : Code) (s : Slots) (l : Blks) : Prop := ∀ a w, St X s l a w → c.wpIn Fence.wide 0 X.P (bodyPostM Fence.wide 0 X.P fn R) a w
/-- An iterator: it gives the elements of a list, one by one, whatever is done with them. -/
def Iter {α : Type} (P : Program) (W0 : World) (gf : Nat) (first lb : List Value) (enc : α → Value) (L : List α) : Prop :=
  ∀ (l0 : Nat) (W : World) (oa : Blks) (J : Nat → Blks → Prop), Below W0.heap.size W0 W → (∀ k ∈ keys oa, W0.heap.size ≤ k) → (keys oa).Nodup → Hd oa W → J 0 oa →
    (∀ j x W1 oa1, L[j]? = some x → J j oa1 → Upd W oa W1 oa1 → Yld P l0 (enc x) W1 fun e W' => e = .returned (.bool true) ∧ ∃ oa2, J (j + 1) oa2 ∧ Upd W1 oa1 W' oa2) →
    Calls P gf (first ++ [Value.func (.yield l0) #[] #[]] ++ lb).toArray W (RetU (fun v : Value => v) oa (fun _ oa' => J L.length oa') W)
theorem toObj_loop {x : Array Value × TypeId} {r : Loop} : toObj x ≠ .loop r := by
  unfold toObj
  intro h
  repeat (first | (split at h) | (cases hb : Nat.blt x.2 BIG <;> rw [hb] at h) | (cases hb2 : ((x.2 - BIG) % 2 == 0) <;> rw [hb2] at h))
  all_goals cases h
theorem toObj_def {x : Array Value × TypeId} {r : Option (List Deferred)} : toObj x ≠ .deferred r := by
  unfold toObj
  intro h
  repeat (first | (split at h) | (cases hb : Nat.blt x.2 BIG <;> rw [hb] at h) | (cases hb2 : ((x.2 - BIG) % 2 == 0) <;> rw [hb2] at h))
  all_goals cases h
theorem hd_not {oa : Blks} {w : World} {k : Nat} {o : Obj} (hd : Hd oa w) (hk : w.heap[k]? = some o) (ho : ∀ x, toObj x ≠ o) : k ∉ keys oa := fun hm => by
  obtain ⟨p, hp, rfl⟩ := List.mem_map.1 hm
  have h := hd p hp
  rw [hk] at h
  exact ho _ (Option.some.inj h).symm
theorem hd_put {oa : Blks} {w : World} {k : Nat} {o o' : Obj} (hd : Hd oa w) (hk : k ∉ keys oa) : Hd oa (w.putObj k o') := fun p hp => by
  rw [World.putObj_heap_other fun e => hk (by rw [← e]; exact List.mem_map_of_mem hp)]
  exact hd p hp
/-- A chain of reads, at the end of a function. -/
def Wt (X : Cx) (ops : Array Oper) (t : Nat) (v : Value) (r : List Oper) (s : Slots) (l : Blks) : Prop :=
  ∀ a w, Env X.N s { a with defers := [] } → Mem X l w → ∀ Q : Exit → Act → World → Prop, (∀ a', a'.tmps[t]? = some v → a'.defers = a.defers → Q .normal a' w) → wpListIn Fence.wide 0 X.P ops Q r a w
section
variable {X : Cx} {Q : Post} {s : Slots} {l : Blks} {ops : Array Oper} {r : List Oper} {o : Oper} {t : Nat} {v : Value}
theorem wt_nil (h : look s t = some v) : Wt X ops t v [] s l := fun a w he _ Q hQ => hQ a (he.get t v h) rfl
theorem wt_rd {u : Value} (hg : gd s ops o = some true) (hd : dOk X.N o.dst = true) (hn : noDef o = true) (hr : RdV X s l o u) (h : Wt X ops t v r (sputO s o.dst u) l) : Wt X ops t v (o :: r) s l := fun a w he hm Q hQ => by
  have hw : Region.wanted o (yielded ops a.tmps) = true := gd_wanted (a := { a with defers := [] }) he hg
  unfold wpListIn
  rw [if_pos hw]
  refine ⟨fun _ _ => trivial, ?_⟩
  have e : (Oper.semAt Fence.wide.round a.eval o).run X.P w = .ok (.value u) w := by
    have e1 : Oper.semAt Fence.wide.round a.eval o = execOp a.eval o := by
      show Oper.semAt none a.eval o = _
      unfold Oper.semAt
      rfl
    rw [e1]
    exact hr { a with defers := [] } w he hm
  rw [e]
  have h3 : (a.put o.dst u).defers = a.defers := by cases o.dst <;> rfl
  exact h (a.put o.dst u) w (by
    have := he.put hd u
    cases hdst : o.dst with
    | none => rw [hdst] at this; exact this
    | some d => rw [hdst] at this; exact this) hm Q (fun a' h1 h2 => hQ a' h1 (h2.trans h3))
theorem wm_seq {fn : Func} {R : Ending → World → Prop} {c d : Code} (h : ∀ K : Slots → Blks → Prop, (∀ s l, WcM X fn R d s l → K s l) → Wc X c (endR K) s l) : WcM X fn R (.seq c d) s l := fun a w hs => by
  refine wpIn_seq (wpIn_mono (wpIn_wide.2 (h (WcM X fn R d) (fun _ _ h => h) a w hs)) fun e a' w' ⟨s', l', h1, h2⟩ => ?_)
  cases e with
  | normal => exact h2 a' w' h1
  | _ => exact h2.elim
/-- Two, one behind the other, of which the first is under way. -/
def WcB (X : Cx) (fn : Func) (R : Ending → World → Prop) (b c : Code) (s : Slots) (l : Blks) : Prop := ∀ a w, St X s l a w → b.wpIn Fence.wide 0 X.P (Exit.then (c.wpIn Fence.wide 0 X.P (bodyPostM Fence.wide 0 X.P fn R)) (bodyPostM Fence.wide 0 X.P fn R)) a w
theorem wb_sub {fn : Func} {R : Ending → World → Prop} {b c : Code} {l' : Blks} (hl : SubL l' l) (h : WcB X fn R b c s l') : WcB X fn R b c s l := fun a w hst => h a w ⟨hst.env, hst.mem.sub hl⟩
theorem wm_seq2 {fn : Func} {R : Ending → World → Prop} {b c d : Code} (h : ∀ K : Slots → Blks → Prop, (∀ s l, WcB X fn R b c s l → K s l) → Wc X d (endR K) s l) : WcM X fn R (.seq (.seq d b) c) s l := fun a w hs => by
  refine wpIn_seq (wpIn_seq (wpIn_mono (wpIn_wide.2 (h (WcB X fn R b c) (fun _ _ h => h) a w hs)) fun e a' w' ⟨s', l', h1, h2⟩ => ?_))
  cases e with
  | normal => exact h2 a' w' h1
  | _ => exact h2.elim
theorem fn_range {T : Type} {mk : T → Value} {Φ : T → Blks → Prop} {P : Program} {f : Nat} {fn : Func} {c : Code} {vs : List Value} {W : World} {N : Nat} (hf : P.funcs[f]? = some fn) (hb : fn.body = some c) (hN : fn.ntmps = N) (hl : vs.length ≤ N)
    (h : WcM ⟨P, W, N, []⟩ fn (RetO mk Φ W) c (initS vs 0) []) : Calls P f vs.toArray W (RetO mk Φ W) := by
  refine (callsIn_wide (n := 0)).1 (callsIn_of_wp_marks hf hb trivial ?_ rfl)
  rw [hN]
  exact h _ W ⟨Env.init hl, Mem.init⟩
theorem wm_range {α T : Type} {mk : T → Value} {Φ : T → Blks → Prop} {fn : Func} {g : Operand} {p t : Nat} {assign body : Code} {id1 tid : Nat} {tl : List Oper} {gf : Nat} {first lb : List Value} {enc : α → Value} {L : List α}
    (ho : X.own = []) (hrs : fn.results = #[.tmp t]) (hg : val s g = some (.func (.func gf) first.toArray lb.toArray)) (hk : callOk X.P gf = true) (hp : dOk X.N (some p) = true)
    (hit : Iter X.P X.W gf first lb enc L) (J : Nat → Blks → Prop) (h0 : J 0 l)
    (hround : ∀ W1 l0 j x oa1, L[j]? = some x → J j oa1 → (∀ k ∈ keys oa1, X.W.heap.size ≤ k) → Below X.W.heap.size X.W W1 →
      ∀ K : Slots → Blks → Prop, (∀ s' lA, (∀ Wb, Below X.W.heap.size X.W Wb → (∀ k ∈ keys lA, X.W.heap.size ≤ k) → WcR ⟨X.P, Wb, X.N, keys lA⟩ l0 body (endR fun _ l2 => ∃ oa2, J (j + 1) oa2 ∧ SubL oa2 l2) s' lA) → K s' lA) →
        WcR ⟨X.P, W1, X.N, keys oa1⟩ l0 assign (endR K) (sput s p (enc x)) oa1)
    (htail : ∀ W2 oa2, J L.length oa2 → Below X.W.heap.size X.W W2 → ∃ x oa', Φ x oa' ∧ SubL oa' oa2 ∧ Wt ⟨X.P, W2, X.N, keys oa2⟩ tl.toArray t (mk x) tl s oa2) :
    WcB X fn (RetO mk Φ X.W) (.block id1 (.rangeFunc g #[p] assign body)) (.seq (.region tid tl.toArray false) .ret) s l := fun a w hs => by
  have hbw := hs.mem.below ho
  have hln : ∀ k ∈ keys l, X.W.heap.size ≤ k := fun k hk => by
    rcases Nat.lt_or_ge k X.W.heap.size with h | h
    · have := hs.mem.fresh k hk h
      rw [ho] at this; cases this
    · exact h
  have hdl : Hd l w := fun p hp => hs.mem.cls.now p.1 p.2.1 p.2.2 (mu_mem_of hp hs.mem.nd)
  have hll : ∀ k ∈ keys l, k < w.heap.size := fun k hk => hs.mem.lt hk
  refine wpIn_block ?_
  refine wpIn_rangeFunc ?_
  intro f0 _
  obtain ⟨rec, hrec⟩ : ∃ rec : LoopState → Option Code → Loop, rec = fun st pe => { state := st, pending := pe, fn := f0, tmps := a.tmps, params := #[p], assign, body, defers := w.heap.size } := ⟨_, rfl⟩
  obtain ⟨W1, hW1⟩ : ∃ W1, (w.alloc (.deferred (some []))).alloc (.loop (rec .ready none)) = W1 := ⟨_, rfl⟩
  have hL1 : W1.heap[w.heap.size + 1]? = some (.loop (rec .ready none)) := by
    rw [← hW1]; have := World.alloc_heap_new (w.alloc (.deferred (some []))) (.loop (rec .ready none)); rwa [World.size_alloc] at this
  have hK1 : W1.heap[w.heap.size]? = some (.deferred (some [])) := by
    rw [← hW1]; exact (Below.heap_alloc _ _ _ (by simp)).trans (World.alloc_heap_new w _)
  have hbW : Below w.heap.size w W1 := by
    rw [← hW1]; exact ((Below.refl _ w).alloc (Nat.le_refl _) _).alloc (by simp) _
  have hb1 : Below X.W.heap.size X.W W1 := hbw.trans (hbW.mono hbw.size)
  have hd1 : Hd l W1 := fun p hp => (hbW.block p.1 (hll p.1 (List.mem_map_of_mem hp))).trans (hdl p hp)
  obtain ⟨l0, hl0⟩ : ∃ l0, w.heap.size + 1 = l0 := ⟨_, rfl⟩
  have hnl0 : l0 ∉ keys l := fun h => by have := hll l0 h; omega
  have hnD : w.heap.size ∉ keys l := fun h => by have := hll _ h; omega
  rw [hl0] at hL1
  refine ⟨l0, [{ target := .collected w.heap.size, args := #[] }], W1, { target := .fn (.func gf) lb.toArray, args := first.toArray ++ #[Value.func (.yield l0) #[] #[]] }, W1, gf, (first ++ [Value.func (.yield l0) #[] #[]] ++ lb).toArray, W1, ?_, ?_, fun _ _ => trivial, ?_, fun h => (by cases h), ?_⟩
  · rw [← hl0, ← hW1, hrec]; exact run_enterLoop_outer _ _ _ _ _
  · simp only [resolve, hs.env.eval hg]
    simp [go_sem]
  · have : first.toArray ++ #[Value.func (.yield l0) #[] #[]] ++ lb.toArray = (first ++ [Value.func (.yield l0) #[] #[]] ++ lb).toArray := by simp
    simp only [invoke, this]
    exact run_enter hk _ _
  refine callsIn_wide.2 ((hit l0 W1 l J hb1 hln hs.mem.nd hd1 h0 ?_).mono ?_)
  · intro j x Wr oa1 hx hJ hu n
    have hrk : ∀ k ∈ keys oa1, X.W.heap.size ≤ k := fun k hk => by
      rcases hu.fresh k hk with h | h
      · exact hln k h
      · have := hb1.size; omega
    have hbr : Below X.W.heap.size X.W Wr := ⟨hu.os.trans hb1.os, hu.tape.trans hb1.tape, hu.output.trans hb1.output, Nat.le_trans hb1.size hu.size, fun k hk => (hu.old k (Nat.lt_of_lt_of_le hk hb1.size) fun h => by have := hln k h; omega).trans (hb1.block k hk)⟩
    have hlr : Wr.heap[l0]? = some (.loop (rec .ready none)) := (hu.old l0 (blk_lt hL1) hnl0).trans hL1
    have hno1 : l0 ∉ keys oa1 := hd_not hu.now hlr fun x => toObj_loop
    have hy : (Instr.yield l0 #[enc x]).run X.P Wr = .ok (.round l0 f0 (a.tmps.setIfInBounds p (enc x)) assign body) Wr := by
      have hy := run_yield (P := X.P) (args := #[enc x]) hlr (by rw [hrec]; rfl)
      rw [hrec] at hy
      simpa using hy
    refine ⟨f0, _, assign, body, hy, roundIn_of_wpIn trivial ?_⟩
    have henv : Env X.N (sput s p (enc x)) { tmps := a.tmps.setIfInBounds p (enc x), defers := [] } := by
      have := (hs.env.put hp (enc x))
      exact ⟨this.size, this.get, rfl⟩
    have hA := hround Wr l0 j x oa1 hx hJ hrk hbr _ (fun _ _ h => h) n _ Wr ⟨henv, Mem.initO hu.nd hu.now⟩
    refine wpIn_mono hA fun e a1 w1 ⟨s', lA, hst, hq⟩ => ?_
    cases e with
    | normal =>
      have hu1 : Upd Wr oa1 w1 lA := hst.mem.toUpd
      have hl1 : w1.heap[l0]? = some (.loop (rec .ready none)) := (hu1.old l0 (blk_lt hlr) hno1).trans hlr
      have hnoA : l0 ∉ keys lA := hd_not hu1.now hl1 fun x => toObj_loop
      have hrA : ∀ k ∈ keys lA, X.W.heap.size ≤ k := fun k hk => by
        rcases hu1.fresh k hk with h | h
        · exact hrk k h
        · have := hbr.size; omega
      refine ⟨_, run_beginRound hl1 (by rw [hrec]), ?_⟩
      obtain ⟨w2, hw2⟩ : ∃ w2, w1.putObj l0 (.loop { rec .ready none with state := .busy }) = w2 := ⟨_, rfl⟩
      rw [hw2]
      have hl2 : w2.heap[l0]? = some (.loop { rec .ready none with state := .busy }) := by rw [← hw2]; exact World.putObj_heap_same (blk_lt hl1)
      have ho2 : ∀ k, k ≠ l0 → w2.heap[k]? = w1.heap[k]? := fun k hk => by rw [← hw2]; exact World.putObj_heap_other hk
      have hs2 : w2.heap.size = w1.heap.size := by rw [← hw2]; simp [World.putObj]
      have hd2 : Hd lA w2 := by rw [← hw2]; exact hd_put (o := .loop (rec .ready none)) hu1.now hnoA
      have hl0x : X.W.heap.size ≤ l0 := by have := hbw.size; omega
      have hb2 : Below X.W.heap.size X.W w2 := by
        rw [← hw2]
        refine ⟨(show w1.os = _ from hu1.os.trans hbr.os), (show w1.tape = _ from hu1.tape.trans hbr.tape), (show w1.output = _ from hu1.output.trans hbr.output), ?_, fun k hk => ?_⟩
        · have := hu1.size; have := hbr.size; simp [World.putObj]; omega
        · rw [World.putObj_heap_other (by omega)]
          exact (hu1.old k (Nat.lt_of_lt_of_le hk hbr.size) fun h => by have := hrk k h; omega).trans (hbr.block k hk)
      have hB := hq w2 hb2 hrA n a1 w2 ⟨hst.env, Mem.initO hst.mem.nd hd2⟩
      refine wpIn_mono hB fun e a3 w3 ⟨s2, l2, hst2, hq2⟩ => ?_
      cases e with
      | normal =>
        obtain ⟨oa2, hJ2, hsub⟩ := hq2
        have hu2 : Upd w2 lA w3 oa2 := (hst2.mem.sub hsub).toUpd
        have hl3 : w3.heap[l0]? = some (.loop { rec .ready none with state := .busy }) := (hu2.old l0 (blk_lt hl2) hnoA).trans hl2
        have hno2 : l0 ∉ keys oa2 := hd_not hu2.now hl3 fun x => toObj_loop
        refine ⟨_, _, run_endRound none hl3, rfl, oa2, hJ2, ?_⟩
        have e4 : (Obj.loop { { rec .ready none with state := .busy } with state := if (none : Option Code).isNone then .ready else .done, pending := none }) = .loop (rec .ready none) := by rw [hrec]; rfl
        rw [e4]
        refine ⟨?_, ?_, ?_, ?_, fun k hk hn => ?_, hu2.nd, hd_put (o := .loop (rec .ready none)) hu2.now hno2, fun k hk => ?_⟩
        · show w3.os = _
          rw [hu2.os, ← hw2]; exact hu1.os
        · show w3.tape = _
          rw [hu2.tape, ← hw2]; exact hu1.tape
        · show w3.output = _
          rw [hu2.output, ← hw2]; exact hu1.output
        · have h1 := hu1.size; have h2 := hu2.size; simp [World.putObj]; omega
        · by_cases e : k = l0
          · subst e
            rw [World.putObj_heap_same (blk_lt hl3)]; exact hlr.symm
          · rw [World.putObj_heap_other e]
            have hkA : k ∉ keys lA := fun h => by
              rcases hu1.fresh k h with h | h
              · exact hn h
              · omega
            have h1 := hu1.size
            rw [hu2.old k (by omega) hkA, ho2 k e, hu1.old k hk hn]
        · rcases hu2.fresh k hk with h | h
          · exact hu1.fresh k h
          · right; have h1 := hu1.size; omega
      | _ => exact hq2.elim
    | _ => exact hq.elim
  · rintro e W2 ⟨v0, oa2, rfl, hJ2, hu⟩
    have hl2 : W2.heap[l0]? = some (.loop (rec .ready none)) := (hu.old l0 (blk_lt hL1) hnl0).trans hL1
    have hno2 : l0 ∉ keys oa2 := hd_not hu.now hl2 fun x => toObj_loop
    have hk2 : W2.heap[w.heap.size]? = some (.deferred (some [])) := (hu.old _ (blk_lt hK1) hnD).trans hK1
    have hnD2 : w.heap.size ∉ keys oa2 := hd_not hu.now hk2 fun x => toObj_def
    have hend := run_endLoop (P := X.P) hl2 (by rw [hrec]; simp)
    obtain ⟨W3, hW3⟩ : ∃ W3, W2.putObj l0 (.loop { rec .ready none with state := .exhausted }) = W3 := ⟨_, rfl⟩
    rw [hW3] at hend
    refine ⟨none, W3, by rw [hend, hrec], ?_⟩
    have hd3 : Hd oa2 W3 := by rw [← hW3]; exact hd_put (o := .loop (rec .ready none)) hu.now hno2
    have hk3 : W3.heap[w.heap.size]? = some (.deferred (some [])) := by rw [← hW3, World.putObj_heap_other (by omega)]; exact hk2
    have hl0x : X.W.heap.size ≤ l0 := by have := hbw.size; omega
    have hrk : ∀ k ∈ keys oa2, X.W.heap.size ≤ k := fun k hk => by
      rcases hu.fresh k hk with h | h
      · exact hln k h
      · have := hb1.size; omega
    have hb3 : Below X.W.heap.size X.W W3 := by
      rw [← hW3]
      refine ⟨(show W2.os = _ from hu.os.trans hb1.os), (show W2.tape = _ from hu.tape.trans hb1.tape), (show W2.output = _ from hu.output.trans hb1.output), ?_, fun k hk => ?_⟩
      · have := hu.size; have := hb1.size; simp [World.putObj]; omega
      · rw [World.putObj_heap_other (by omega)]
        exact (hu.old k (Nat.lt_of_lt_of_le hk hb1.size) fun h => by have := hln k h; omega).trans (hb1.block k hk)
    obtain ⟨x, oa', hφ, hsub, hT⟩ := htail W3 oa2 hJ2 hb3
    have hT2 := hT { a with defers := [{ target := .collected w.heap.size, args := #[] }] ++ a.defers } W3 ⟨hs.env.size, hs.env.get, rfl⟩ (Mem.initO hu.nd hd3)
    show (Code.seq (.region tid tl.toArray false) .ret).wpIn Fence.wide 0 X.P _ _ _
    refine wpIn_seq (wpIn_region_lit (hT2 _ fun a4 hv hdf => ?_))
    refine wpIn_ret ?_
    show LeavesInM _ _ _ _ _ _ _ _ _
    rw [hdf, hs.env.nodef]
    refine ⟨by simp, .inl ⟨_, _, rfl, run_takeDeferred hk3, mk x, ?_, x, oa', rfl, hφ, ?_⟩⟩
    · have h1 : (results fn a4.tmps).run X.P (W3.putObj w.heap.size (.deferred none)) = .ok (mk x) (W3.putObj w.heap.size (.deferred none)) := by
        rw [results_tmp hrs]
        simp [hv]
      exact h1
    · have hs3 := hsub.mem
      refine ⟨hb3.os, hb3.tape, hb3.output, ?_, fun k hk _ => ?_, hsub.nodup hu.nd, ?_, fun k hk => ?_⟩
      · have := hb3.size; simp [World.putObj]; omega
      · rw [World.putObj_heap_other (by have := hbw.size; omega)]; exact hb3.block k hk
      · exact hd_put (o := .deferred none) (fun p hp => hd3 p (hs3 p hp)) (fun h => hnD2 (by
          obtain ⟨p, hp, he⟩ := List.mem_map.1 h
          rw [← he]; exact List.mem_map_of_mem (hs3 p hp)))
      · right
        obtain ⟨p, hp, he⟩ := List.mem_map.1 hk
        rw [← he]
        exact hrk _ (List.mem_map_of_mem (hs3 p hp))
end
end Go.Proofs.Ytjianfhodjapgaa
namespace Go.Proofs
open Go.Shelf
def Ytjianfhodjapgaa.keysH_ren : Go.Shelf.Ren := ⟨fun | 7 => 34 | 10 => 39 | n => n, fun | 23 => 57 | 26 => 3 | 3 => 31 | 28 => 72 | 0 => 0 | 27 => 71 | 33 => 75 | 4 => 4 | n => n, fun | n => n⟩
theorem Ytjianfhodjapgaa.keysH : Go.Proofs.SlLaysZI.n7 Try.prog Ytjianfhodjapgaa.keysH_ren := {
  mixed := by kernel_rfl
  f7 := ⟨Try.f34.name, by decide, Try.func34.trans (congrArg some (by kernel_rfl))⟩
  f10 := ⟨Try.f39.name, by decide, Try.func39.trans (congrArg some (by kernel_rfl))⟩
  t0 := Try.underlying0
  a0 := Try.isAgg0
  z0 := Try.sizeOf0
  v0 := Try.zeroValue0
  t4 := Try.underlying4
  a4 := Try.isAgg4
  z4 := Try.sizeOf4
  v4 := Try.zeroValue4
  t23 := Try.underlying57
  a23 := Try.isAgg57
  z23 := Try.sizeOf57
  v23 := Try.zeroValue57
  t26 := Try.underlying3
  a26 := Try.isAgg3
  z26 := Try.sizeOf3
  v26 := Try.zeroValue3
  t27 := Try.underlying71
  a27 := Try.isAgg71
  z27 := Try.sizeOf71
  v27 := Try.zeroValue71
  t28 := Try.underlying72
  a28 := Try.isAgg72
  z28 := Try.sizeOf72
  v28 := Try.zeroValue72
  t33 := Try.underlying75
  a33 := Try.isAgg75
  z33 := Try.sizeOf75
  v33 := Try.zeroValue75 }
def Ytjianfhodjapgaa.sortedA_ren : Go.Shelf.Ren := ⟨fun | 6 => 33 | 8 => 37 | 9 => 38 | 11 => 42 | 13 => 44 | 12 => 43 | 23 => 53 | 24 => 54 | 14 => 45 | 15 => 46 | 16 => 47 | 17 => 48 | 18 => 49 | 19 => 50 | 20 => 31 | 21 => 51 | 22 => 52 | 25 => 55 | 26 => 56 | 27 => 57 | 28 => 58 | 29 => 59 | 30 => 36 | 31 => 60 | n => n, fun | 26 => 3 | 28 => 72 | 24 => 36 | 0 => 0 | 3 => 3 | 37 => 82 | 48 => 92 | 50 => 94 | 4 => 4 | 40 => 85 | 39 => 84 | 45 => 89 | 5 => 5 | 9 => 9 | 51 => 95 | 55 => 99 | 57 => 101 | 58 => 102 | 33 => 75 | n => n, fun | n => n⟩
theorem Ytjianfhodjapgaa.sortedA : Go.Proofs.SlLaysZI.n6 Try.prog Ytjianfhodjapgaa.sortedA_ren := {
  mixed := by kernel_rfl
  f6 := ⟨Try.f33.name, by decide, Try.func33.trans (congrArg some (by kernel_rfl))⟩
  f8 := ⟨Try.f37.name, by decide, Try.func37.trans (congrArg some (by kernel_rfl))⟩
  f11 := ⟨Try.f42.name, by decide, Try.func42.trans (congrArg some (by kernel_rfl))⟩
  t0 := Try.underlying0
  a0 := Try.isAgg0
  z0 := Try.sizeOf0
  v0 := Try.zeroValue0
  t24 := Try.underlying36
  a24 := Try.isAgg36
  z24 := Try.sizeOf36
  v24 := Try.zeroValue36
  t26 := Try.underlying3
  a26 := Try.isAgg3
  z26 := Try.sizeOf3
  v26 := Try.zeroValue3
  t28 := Try.underlying72
  a28 := Try.isAgg72
  z28 := Try.sizeOf72
  v28 := Try.zeroValue72
  i26 := by kernel_rfl }
def Ytjianfhodjapgaa.sortA_ren : Go.Shelf.Ren := ⟨fun | 5 => 38 | 8 => 44 | 7 => 43 | 19 => 53 | 20 => 54 | 10 => 45 | 11 => 46 | 12 => 47 | 13 => 48 | 14 => 49 | 15 => 50 | 16 => 31 | 17 => 51 | 18 => 52 | 30 => 55 | 31 => 56 | 32 => 57 | 33 => 58 | 34 => 59 | 35 => 36 | 40 => 60 | n => n, fun | 23 => 36 | 25 => 3 | 3 => 3 | 32 => 82 | 22 => 36 | 0 => 0 | 44 => 92 | 46 => 94 | 4 => 4 | 36 => 85 | 35 => 84 | 41 => 89 | 5 => 5 | 9 => 9 | 53 => 95 | 57 => 99 | 63 => 101 | 64 => 102 | n => n, fun | n => n⟩
theorem Ytjianfhodjapgaa.sortA : Go.Proofs.SlLaysM.n5 Try.prog Ytjianfhodjapgaa.sortA_ren := {
  mixed := by kernel_rfl
  f5 := ⟨Try.f38.name, by decide, Try.func38.trans (congrArg some (by kernel_rfl))⟩
  f7 := ⟨Try.f43.name, by decide, Try.func43.trans (congrArg some (by kernel_rfl))⟩
  f8 := Try.func44.trans (congrArg some (by kernel_rfl))
  f10 := ⟨Try.f45.name, by decide, Try.func45.trans (congrArg some (by kernel_rfl))⟩
  f11 := ⟨Try.f46.name, by decide, Try.func46.trans (congrArg some (by kernel_rfl))⟩
  f12 := ⟨Try.f47.name, by decide, Try.func47.trans (congrArg some (by kernel_rfl))⟩
  f13 := ⟨Try.f48.name, by decide, Try.func48.trans (congrArg some (by kernel_rfl))⟩
  f14 := ⟨Try.f49.name, by decide, Try.func49.trans (congrArg some (by kernel_rfl))⟩
  f15 := ⟨Try.f50.name, by decide, Try.func50.trans (congrArg some (by kernel_rfl))⟩
  f16 := ⟨Try.f31.name, by decide, Try.func31.trans (congrArg some (by kernel_rfl))⟩
  f17 := ⟨Try.f51.name, by decide, Try.func51.trans (congrArg some (by kernel_rfl))⟩
  f18 := ⟨Try.f52.name, by decide, Try.func52.trans (congrArg some (by kernel_rfl))⟩
  f19 := Try.func53.trans (congrArg some (by kernel_rfl))
  f20 := Try.func54.trans (congrArg some (by kernel_rfl))
  f30 := ⟨Try.f55.name, by decide, Try.func55.trans (congrArg some (by kernel_rfl))⟩
  f31 := Try.func56.trans (congrArg some (by kernel_rfl))
  f32 := Try.func57.trans (congrArg some (by kernel_rfl))
  f33 := ⟨Try.f58.name, by decide, Try.func58.trans (congrArg some (by kernel_rfl))⟩
  f34 := ⟨Try.f59.name, by decide, Try.func59.trans (congrArg some (by kernel_rfl))⟩
  f35 := ⟨Try.f36.name, by decide, Try.func36.trans (congrArg some (by kernel_rfl))⟩
  f40 := ⟨Try.f60.name, by decide, Try.func60.trans (congrArg some (by kernel_rfl))⟩
  t0 := Try.underlying0
  a0 := Try.isAgg0
  z0 := Try.sizeOf0
  v0 := Try.zeroValue0
  t3 := Try.underlying3
  a3 := Try.isAgg3
  z3 := Try.sizeOf3
  v3 := Try.zeroValue3
  t4 := Try.underlying4
  a4 := Try.isAgg4
  z4 := Try.sizeOf4
  v4 := Try.zeroValue4
  t5 := Try.underlying5
  a5 := Try.isAgg5
  z5 := Try.sizeOf5
  v5 := Try.zeroValue5
  t9 := Try.underlying9
  a9 := Try.isAgg9
  z9 := Try.sizeOf9
  v9 := Try.zeroValue9
  t22 := Try.underlying36
  a22 := Try.isAgg36
  z22 := Try.sizeOf36
  v22 := Try.zeroValue36
  t23 := Try.underlying36
  a23 := Try.isAgg36
  z23 := Try.sizeOf36
  v23 := Try.zeroValue36
  t25 := Try.underlying3
  a25 := Try.isAgg3
  z25 := Try.sizeOf3
  v25 := Try.zeroValue3
  t32 := Try.underlying82
  a32 := Try.isAgg82
  z32 := Try.sizeOf82
  v32 := Try.zeroValue82
  t35 := Try.underlying84
  a35 := Try.isAgg84
  z35 := Try.sizeOf84
  v35 := Try.zeroValue84
  t36 := Try.underlying85
  a36 := Try.isAgg85
  z36 := Try.sizeOf85
  v36 := Try.zeroValue85
  t41 := Try.underlying89
  a41 := Try.isAgg89
  z41 := Try.sizeOf89
  v41 := Try.zeroValue89
  t44 := Try.underlying92
  a44 := Try.isAgg92
  z44 := Try.sizeOf92
  v44 := Try.zeroValue92
  t46 := Try.underlying94
  a46 := Try.isAgg94
  z46 := Try.sizeOf94
  v46 := Try.zeroValue94
  t53 := Try.underlying95
  a53 := Try.isAgg95
  z53 := Try.sizeOf95
  v53 := Try.zeroValue95
  t57 := Try.underlying99
  a57 := Try.isAgg99
  z57 := Try.sizeOf99
  v57 := Try.zeroValue99
  t63 := Try.underlying101
  a63 := Try.isAgg101
  z63 := Try.sizeOf101
  v63 := Try.zeroValue101
  t64 := Try.underlying102
  a64 := Try.isAgg102
  z64 := Try.sizeOf102
  v64 := Try.zeroValue102 }
end Go.Proofs
namespace Go.Proofs.Ytjianfhodjapgaa
open Go.RowKit Go.Maps Go.Sort
set_option linter.unusedVariables false
set_option linter.unusedSimpArgs false
/-- The keys, rising. -/
def ksort (l : List Int) : List Int := l.mergeSort fun x y => decide (x ≤ y)
def ints (l : List Int) : List Value := l.map (Value.int .i64)
theorem sortsA (mm : Nat) : AnyZI.SortsIn Try.prog sortedA_ren Fence.wide mm :=
  ⟨fun blk off cap ss W hH hblk hsz => callsIn_wide.2 (AnyM.slices_Sort_int sortA blk off cap ss W hH hblk hsz),
   fun p cap W => callsIn_wide.2 (AnyM.slices_Sort_int_none sortA p cap W)⟩
def rdN : Value → Option (DataW Unit × List MemPlace) := fun _ => some (.nil, [])
section
variable {m : List Ent} {clock : Nat}
theorem nodup_map_inj {α β : Type} {f : α → β} (hf : ∀ a b, f a = f b → a = b) {l : List α} (h : l.Nodup) : (l.map f).Nodup := by
  rw [List.nodup_iff_pairwise_ne, List.pairwise_map]
  exact (List.nodup_iff_pairwise_ne.1 h).imp fun hne e => hne (hf _ _ e)
theorem rd_ent {x : Ent} (hw : (Lit.int .i64 x.1).wf = true) : Go.WideElems.rd Try.prog 3 rdN (entE x) = some (.int .i64 x.1, .nil) := by
  unfold Go.WideElems.rd
  show (keyOf Try.prog 3 (.int .i64 x.1)).bind _ = _
  rw [keyOf_int_mk Try.underlying3 hw]
  rfl
theorem fit_m (mok : MOk m clock) (hw : ∀ x ∈ m, (Lit.int .i64 x.1).wf = true) (hl : m.length ≤ 1000000) : Go.WideElems.Fit Try.prog 3 rdN (m.map entE).toArray clock where
  size := by
    rw [List.size_toArray, List.length_map]
    have : (1000000 : Nat) ≤ maxLen := by decide
    omega
  stamped := by
    refine ⟨fun x hx => ?_, ?_, ?_⟩
    · simp only [List.mem_map] at hx
      obtain ⟨y, hy, rfl⟩ := hx
      exact mok.lt y hy
    · have h := mok.nd
      simpa [entE, Function.comp_def] using h
    · have h := mok.keys
      have h2 : ((m.map (·.1)).map (Value.int .i64)).Nodup := nodup_map_inj (fun a b h => by injection h) h 
      simpa [entE, Function.comp_def] using h2
  reads := fun x hx => by
    simp only [List.mem_map] at hx
    obtain ⟨y, hy, rfl⟩ := hx
    exact ⟨_, rd_ent (hw y hy)⟩
theorem owns_m {w : World} {g : Nat} (mok : MOk m clock) (hw : ∀ x ∈ m, (Lit.int .i64 x.1).wf = true) (hl : m.length ≤ 1000000) (hg : w.heap[g]? = some (.map (m.map entE).toArray clock)) :
    ∃ D0 : DataW Unit, w.ownsMap Try.prog 3 rdN g m.length D0 ∧ (intKeys D0).Perm (m.map (·.1)) ∧ Maps.size D0 = m.length := by
  refine ⟨_, ⟨_, clock, hg, fit_m mok hw hl, by simp, rfl⟩, ?_, by simp [Maps.size, length_sorted]⟩
  have h1 : (m.map entE).map (Go.WideElems.rg Try.prog 3 rdN) = m.map fun x => ((Lit.int .i64 x.1), (DataW.nil : DataW Unit)) := by
    rw [List.map_map]
    refine List.map_congr_left fun x hx => ?_
    simp only [Function.comp, Go.WideElems.rg, rd_ent (hw x hx), Option.getD_some]
  show List.Perm (((((m.map entE).map (Go.WideElems.rg Try.prog 3 rdN)).foldr DataW.insert []).map fun p => _root_.Go.intOf p.1)) _
  refine ((Go.WideShapes.sorted_perm _).map _).trans ?_
  rw [h1, List.map_map]
  exact List.Perm.refl _
theorem ownL_row {w : World} {base e n : Nat} {v : Value} {xs : List Value} (he : Nat.blt e BIG = true) (h : w.ownsRow base e 1 v n xs) : ∃ oa, OwnL e 1 v n xs oa ∧ Hd oa w ∧ (Proofs.Ytjianfhodjapgaa.keys oa).Nodup ∧ ∀ k ∈ Proofs.Ytjianfhodjapgaa.keys oa, base ≤ k := by
  obtain ⟨hl, h | ⟨b, cap, cur, rfl, hb, hg, h1, h2, h3, h4⟩⟩ := h
  · exact ⟨[], ⟨hl, .inl ⟨h.1, h.2, rfl⟩, .inl rfl⟩, (fun p hp => by cases hp), by simp [Proofs.Ytjianfhodjapgaa.keys], fun k hk => by simp [Proofs.Ytjianfhodjapgaa.keys] at hk⟩
  · refine ⟨[(b, (cur, e))], ⟨hl, .inr ⟨b, cap, cur, rfl, h1, h2, h3, h4, rfl⟩, .inr he⟩, hd_one (hg.trans (congrArg some (toObj_cells he).symm)), by simp [Proofs.Ytjianfhodjapgaa.keys], fun k hk => ?_⟩
    simp only [Proofs.Ytjianfhodjapgaa.keys, List.map_cons, List.map_nil, List.mem_singleton] at hk
    omega
end
end Go.Proofs.Ytjianfhodjapgaa
namespace Go.Proofs.Ytjianfhodjapgaa
open Go.RowKit Go.Maps Go.Sort
set_option linter.unusedVariables false
set_option linter.unusedSimpArgs false
section
variable {m : List Ent} {clock : Nat}
set_option maxHeartbeats 1000000 in
theorem sortedH_c {w : World} {g n : Nat} (mok : MOk m clock) (hw : ∀ x ∈ m, (Lit.int .i64 x.1).wf = true) (hl : m.length ≤ 1000000) (hn : w.heap[n]? = some (.cells #[.map (some g)] 57)) (hg : w.heap[g]? = some (.map (m.map entE).toArray clock)) :
    Calls Try.prog 33 [.func (.func 39) #[] #[ptr n]].toArray w (RetO (fun v => v) (fun v oa => OwnL 3 1 v m.length (ints (ksort (m.map (·.1)))) oa) w) := by
  obtain ⟨D0, hown, hperm, hsize⟩ := owns_m mok hw hl hg
  have hnl := blk_lt hn
  have h1 : (1000000 : Nat) ≤ maxLen := by decide
  have hseq : SeqGives Fence.wide 2 Try.prog 39 #[.pointer (some ⟨n, 0, none⟩)] encZ (fun ss => ss.Perm (intKeys D0)) (Maps.size D0) w :=
    AnyZI.keys_gives (ρ := keysH_ren) { keysH with } Fence.wide _ trivial rfl (by omega) n g m.length D0 _ hnl (by simp [World.cell?, hn]) hown
  have cS := AnyZI.sorted_in sortedA Fence.wide 5 trivial trivial trivial trivial rfl (by omega) (sortsA _) (enters_of Try.func38 (by kernel_rfl) rfl) 39 #[.pointer (some ⟨n, 0, none⟩)] trivial (enters_of Try.func39 (by kernel_rfl) rfl) _ _ (by omega) (by omega) _ hseq
  refine ((callsIn_wide (n := 5)).1 cS).mono ?_
  rintro e w' ⟨v, ss, rfl, hS, hrow, hnil, hb⟩
  have hp := hS.trans hperm
  have hlen : ss.length = m.length := by rw [hp.length_eq, List.length_map]
  have hsort : (ss.mergeSort fun x y => decide (x ≤ y)) = ksort (m.map (·.1)) := mergeSort_of_perm_i hp
  rw [hsort, hlen] at hrow
  obtain ⟨oa, ho, hhd, hnd, hfr⟩ := ownL_row (e := 3) rfl hrow
  exact ⟨v, oa, rfl, ho, Upd.of_below hb hnd hfr hhd⟩
theorem keysH_c (w : World) (g : Nat) :
    Calls Try.prog 34 [.map (some g)].toArray w (RetO (fun n => .func (.func 39) #[] #[ptr n]) (fun n oa => oa = [(n, (#[.map (some g)], 57))]) w) := by
  refine ((callsIn_wide (n := 5)).1 (AnyZI.keys_in keysH Fence.wide 5 trivial rfl (some g) w)).mono ?_
  rintro e w' ⟨rfl, rfl⟩
  refine ⟨w.heap.size, _, rfl, rfl, Upd.of_below ((Below.refl _ w).alloc (Nat.le_refl _) _) (by simp [Proofs.Ytjianfhodjapgaa.keys]) (fun k hk => ?_) (hd_one ?_)⟩
  · simp only [Proofs.Ytjianfhodjapgaa.keys, List.map_cons, List.map_nil, List.mem_singleton] at hk
    omega
  · show (w.heap.push _)[w.heap.size]? = _
    rw [Array.getElem?_push_size]
    exact congrArg some (toObj_cells rfl).symm
end
end Go.Proofs.Ytjianfhodjapgaa
namespace Go.Proofs.Ytjianfhodjapgaa
open Go.RowKit
set_option linter.unusedVariables false
set_option maxRecDepth 100000
set_option linter.unusedSimpArgs false
theorem Msk.belowO {w0 W w : World} {own : List Nat} {m : Mu} (h : Msk W own m w) (hb : Below w0.heap.size w0 W) (hf : ∀ k ∈ own, w0.heap.size ≤ k) : Below w0.heap.size w0 w :=
  ⟨h.os.trans hb.os, h.tape.trans hb.tape, h.output.trans hb.output, Nat.le_trans hb.size h.size, fun k hk => by
    rw [h.old k (Nat.lt_of_lt_of_le hk hb.size) (fun hin => absurd (hf k hin) (by omega))]
    exact hb.block k hk⟩
theorem Mem.belowO {P : Program} {w0 W w : World} {N : Nat} {own : List Nat} {l : Blks} (h : Mem ⟨P, W, N, own⟩ l w) (hb : Below w0.heap.size w0 W) (hf : ∀ k ∈ own, w0.heap.size ≤ k) : Below w0.heap.size w0 w := h.cls.belowO hb hf
theorem Mem.freshS {P : Program} {W w : World} {N : Nat} {l oa : Blks} {f : Blks → Blks} (h : Mem ⟨P, W, N, []⟩ l w) [hs : Seg l oa f] : ∀ k ∈ keys oa, W.heap.size ≤ k := fun k hk => by
  obtain ⟨pre, post, rfl, _⟩ := hs.out
  rcases Nat.lt_or_ge k W.heap.size with h1 | h1
  · have := h.fresh k (by simp only [keys_app, List.mem_append]; exact .inr (.inl hk)) h1
    cases this
  · exact h1
theorem Mem.freshO {P : Program} {w0 W w : World} {N : Nat} {own : List Nat} {l oa : Blks} {f : Blks → Blks} (h : Mem ⟨P, W, N, own⟩ l w) (hb : Below w0.heap.size w0 W) (hf : ∀ k ∈ own, w0.heap.size ≤ k) [hs : Seg l oa f] : ∀ k ∈ keys oa, w0.heap.size ≤ k := fun k hk => by
  obtain ⟨pre, post, rfl, _⟩ := hs.out
  rcases Nat.lt_or_ge k W.heap.size with h1 | h1
  · exact hf k (h.fresh k (by simp only [keys_app, List.mem_append]; exact .inr (.inl hk)) h1)
  · exact Nat.le_trans hb.size h1
theorem Mem.freshK {P : Program} {W w : World} {N : Nat} {l : Blks} (h : Mem ⟨P, W, N, []⟩ l w) {n : Nat} {x : Array Value × TypeId} (hi : Inn l n x := by repeat (first | exact Inn.here | apply Inn.there | apply Inn.skipA)) : W.heap.size ≤ n := by
  rcases Nat.lt_or_ge n W.heap.size with h1 | h1
  · have := h.fresh n hi.at.mem h1
    cases this
  · exact h1
theorem Mem.ndS {X : Cx} {w : World} {l oa : Blks} {f : Blks → Blks} (h : Mem X l w) [hs : Seg l oa f] : (keys oa).Nodup := by
  obtain ⟨pre, post, rfl, _⟩ := hs.out
  have := h.nd
  simp only [keys_app, List.nodup_append] at this
  exact this.2.1.1
theorem Cs.nl {W : World} {v : Value} {n : Nat} {xs : List Value} (h : Cs W v n xs) (hx : xs ≠ []) : elB v < W.heap.size := by
  cases xs with
  | nil => exact absurd rfl hx
  | cons y r =>
    obtain ⟨b, off, cap, rfl, hc⟩ := h.cell 0 y rfl
    exact World.block_lt_of_cell? _ _ hc
theorem Cs.oldY {W : World} {v : Value} {n : Nat} {xs : List Value} {own : List Nat} (h : Cs W v n xs) (ha : xs ≠ [] → elB v ∉ own) : CsF (Old W own) v n xs := by
  by_cases hx : xs = []
  · subst hx
    exact ⟨h.ln, fun w _ => ⟨h.ln, fun j u hj => by simp at hj⟩⟩
  · exact h.oldX (ha hx)
theorem Cs.oldB {w0 W : World} {v : Value} {n : Nat} {xs : List Value} {own : List Nat} (h : Cs w0 v n xs) (hb : Below w0.heap.size w0 W) (hf : ∀ k ∈ own, w0.heap.size ≤ k) : CsF (Old W own) v n xs :=
  (h.below hb).oldY fun hx hin => by
    have := h.nl hx
    have := hf _ hin
    omega
theorem Cb.oldB {w0 W : World} {v : Value} {n : Nat} {p : List Nat} {own : List Nat} (h : Cb w0 v n p) (hb : Below w0.heap.size w0 W) (hf : ∀ k ∈ own, w0.heap.size ≤ k) : CsB (Old W own) v n p := ⟨h.cs.oldB hb hf, h.ok⟩
theorem cell_of {w : World} {n j : Nat} {c : Array Value} {t : TypeId} {v : Value} (h : w.heap[n]? = some (.cells c t)) (hv : c[j]? = some v) : w.cell? ⟨n, j, none⟩ = some v := by
  simp [World.cell?, h, hv]
end Go.Proofs.Ytjianfhodjapgaa
namespace Go.Proofs.Ytjianfhodjapgaa
open Go.RowKit
set_option linter.unusedVariables false
set_option linter.unusedSimpArgs false
set_option maxRecDepth 100000
def stoB (b g : Nat) (S : Sto) : Blks := [(b, (stoC g S, 59)), (g, mapB (S.m.map kpE) S.clock)]
theorem sto_nd {b g : Nat} {S : Sto} (h : b ≠ g) : (keys (stoB b g S)).Nodup := by simp [keys, stoB, h]
section
variable {X : Cx} {s : Slots} {l : Blks} {o : Oper}
/-- A look at a map that stood when the call began. -/
theorem rd_lookupW {x y : Operand} {mt kt et b clock : Nat} {m : List Ent} {k : Int} {z u : Value} (ho : o.op = .lookup mt x y false) (hx : val s x = some (.map (some b))) (hy : val s y = some (.int .i64 k)) [ht : UT X.P mt (.map kt et)] [hd : UT X.P kt (.int .i64)] [hz : ZR X.P et z]
    (hm : ∀ w, Mem X l w → w.heap[b]? = some (.map (m.map entE).toArray clock)) (hu : mget m k = some u := by with_reducible assumption) : RdV X s l o u := rd_val fun a w he hme => by
  have h1 := run_lookup_m (P := X.P) (k := k) ht.out hd.out (hz.run w) (hm w hme)
  have hf := run_findKey_m (P := X.P) (w := w) hd.out k m
  unfold mget at hu
  cases h : mfind k m 0 with
  | none => rw [h] at hu; cases hu
  | some q =>
    rw [h] at hu hf
    simp only [Option.map_some, Option.some.injEq] at hu
    subst hu
    simp only [execOp, ho, he.eval hx, he.eval hy]
    simp [Instr.lookup, run_underlying ht.out, MapKept.run_getObj_map (hm w hme), run_check_m hd.out, hf, Result.andThen, Sem.run_bind]
theorem rd_lookupG {x y : Operand} {mt kt et b clock : Nat} {m : List Ent} {k : Int} {z u : Value} {W0 : World} (ho : o.op = .lookup mt x y false) (hx : val s x = some (.map (some b))) (hy : val s y = some (.int .i64 k)) [ht : UT X.P mt (.map kt et)] [hd : UT X.P kt (.int .i64)] [hz : ZR X.P et z]
    (hbl : Below W0.heap.size W0 X.W := by with_reducible assumption) (hfo : ∀ k ∈ X.own, W0.heap.size ≤ k := by with_reducible assumption) (hg : W0.heap[b]? = some (.map (m.map entE).toArray clock) := by with_reducible assumption) (hu : mget m k = some u := by with_reducible assumption) : RdV X s l o u :=
  rd_lookupW ho hx hy (fun w hm => ((Mem.belowO hm hbl hfo).block b (blk_lt hg)).trans hg) hu
theorem rd_lookupGT {x y : Operand} {mt kt et b clock : Nat} {m : List Ent} {k : Int} {z u : Value} {W0 : World} (ho : o.op = .lookup mt x y true) (hx : val s x = some (.map (some b))) (hy : val s y = some (.int .i64 k)) [ht : UT X.P mt (.map kt et)] [hd : UT X.P kt (.int .i64)] [hz : ZR X.P et z]
    (hbl : Below W0.heap.size W0 X.W := by with_reducible assumption) (hfo : ∀ k ∈ X.own, W0.heap.size ≤ k := by with_reducible assumption) (hg : W0.heap[b]? = some (.map (m.map entE).toArray clock) := by with_reducible assumption) (hu : mget m k = some u := by with_reducible assumption) : RdV X s l o (.tuple #[u, .bool true]) := rd_val fun a w he hme => by
  have hgw := ((Mem.belowO hme hbl hfo).block b (blk_lt hg)).trans hg
  have h := run_lookup_m (P := X.P) (k := k) ht.out hd.out (hz.run w) hgw
  simp only [execOp, ho, he.eval hx, he.eval hy, Sem.run_bind, h, hu, Result.andThen_ok, Sem.run_pure]
  rfl
theorem rd_lookupGF {x y : Operand} {mt kt et b clock : Nat} {m : List Ent} {k : Int} {z : Value} {W0 : World} (ho : o.op = .lookup mt x y true) (hx : val s x = some (.map (some b))) (hy : val s y = some (.int .i64 k)) [ht : UT X.P mt (.map kt et)] [hd : UT X.P kt (.int .i64)] [hz : ZR X.P et z]
    (hbl : Below W0.heap.size W0 X.W := by with_reducible assumption) (hfo : ∀ k ∈ X.own, W0.heap.size ≤ k := by with_reducible assumption) (hg : W0.heap[b]? = some (.map (m.map entE).toArray clock) := by with_reducible assumption) (hu : mget m k = none := by with_reducible assumption) : RdV X s l o (.tuple #[z, .bool false]) := rd_val fun a w he hme => by
  have hgw := ((Mem.belowO hme hbl hfo).block b (blk_lt hg)).trans hg
  have h := run_lookup_m (P := X.P) (k := k) ht.out hd.out (hz.run w) hgw
  simp only [execOp, ho, he.eval hx, he.eval hy, Sem.run_bind, h, hu, Result.andThen_ok, Sem.run_pure]
  rfl
/-- A load from memory that was there long ago. -/
theorem rd_loadB {t b off : Nat} {x : Operand} {v : Value} {W0 : World} (ho : o.op = .load t x) (hx : val s x = some (.pointer (some ⟨b, off, none⟩))) [hu : KD X.P t false] (hbl : Below W0.heap.size W0 X.W := by with_reducible assumption)
    (hfo : ∀ k ∈ X.own, W0.heap.size ≤ k := by with_reducible assumption) (hc : W0.cell? ⟨b, off, none⟩ = some v := by with_reducible assumption) : RdV X s l o v :=
  (rd_load ho hx fun w hm => by
    have hc' : w.cell? ⟨b, off, none⟩ = some v := ((Mem.belowO hm hbl hfo).cell (World.block_lt_of_cell? _ _ hc)).trans hc
    simp [loadVar, Sem.run_bind, hu.agg, run_load, hc'])
end
theorem ksort_of {l : List Int} (h : l.Pairwise (· < ·)) : ksort l = l := List.mergeSort_of_pairwise (h.imp fun hlt => by simp only [decide_eq_true_eq]; omega)
set_option maxHeartbeats 4000000 in
theorem all_iter {b g : Nat} {S : Sto} {w0 : World} (hd : Hd (stoB b g S) w0) (hS : StoOk S) : Iter Try.prog w0 25 [ptr b] [] kpV S.m := by
  intro l0 W oa J hbl hfo nd hoa h0 hY
  show Calls _ _ [ptr b, .func (.yield l0) #[] #[]].toArray W _
  have hb0 : w0.heap[b]? = some (.cells (stoC g S) 59) := (hd _ (List.mem_cons_self (l := [(g, mapB (S.m.map kpE) S.clock)]))).trans (congrArg some (toObj_cells rfl))
  have hg0 : w0.heap[g]? = some (.map ((S.m.map kpE).map entE).toArray S.clock) := (hd _ (List.mem_cons_of_mem (b, (stoC g S, 59)) (List.mem_singleton.2 rfl))).trans (congrArg some (toObj_map _ _))
  have hbl0 := blk_lt hb0
  have hgl0 := blk_lt hg0
  have hc : w0.cell? ⟨b, 2, none⟩ = some (.map (some g)) := by simp [World.cell?, hb0, stoC]
  have mok := hS.mok
  have hwf := hS.wf
  have hle : (S.m.map kpE).length ≤ 1000000 := by
    have h1 := hS.few
    have h2 := hS.hi
    rw [List.length_map]; omega
  have hik : ksort ((S.m.map kpE).map (·.1)) = S.m.map (·.1) := by
    rw [List.map_map]
    exact ksort_of hS.rise
  have hil : (S.m.map kpE).length = S.m.length := by rw [List.length_map]
  have KC := fun w' => keysH_c w' g
  have SC := fun w' n (h1 : w'.heap[n]? = some (.cells #[.map (some g)] 57)) (hb2 : Below w0.heap.size w0 w') => sortedH_c (w := w') (n := n) mok hwf hle h1 ((hb2.block g hgl0).trans hg0)
  rw [hik, hil] at SC
  have hkeys := hS.keys
  have h16 : S.m.length ≤ 1000000 := by rw [← hil]; exact hle
  clear hd hb0 mok hwf hle hS
  have hbel := hbl
  have hfo2 := hfo
  obtain ⟨o0, ho0⟩ : ∃ o, o = oa := ⟨oa, rfl⟩
  rw [← ho0] at hfo2 nd hoa h0 hY ⊢
  clear hfo ho0
  refine fn_upd (N := _) Try.func25 rfl Try.ntmps25 Try.results25 (by simp) nd hoa ?_
  simp only [initS, Nat.reduceAdd, Nat.zero_add]
  repeat' (first | (refine wlS ?_) | (refine wlB ?_) | ((with_reducible refine sel_load ?_); refine wv rfl rfl (rd_loadB rfl rfl) ?_) | (refine wlE ?_) | (refine efSvao ?_; intro v oa ho) | ((with_reducible refine sel_call ?_); first | (refine wl_newO rfl rfl rfl rfl rfl (fun w hm => by with_reducible exact KC w) ?_; intro x oa hx)) | (refine wl_skip rfl rfl ?_) | ((with_reducible refine wc_seq ?_); intro K hK) | (refine auC ?_) | (refine wc_cond rfl (fun hc => ?_) (fun hc => ?_)) | (refine wc_draw (by kernel_rfl) (by kernel_rfl) (by decide +kernel) ?_; intro w0 hw0 hm0; (try simp only [List.append_eq, List.cons_append, List.nil_append])) | (refine auP ?_) | ((refine auR ?_); clear hK K) | (refine auR ?_) | ((with_reducible refine hK _ _ ?_); clear hK K) | fail)
  subst hx
  repeat' (first | (refine wlS ?_) | (refine wlB ?_) | (refine wlE ?_) | (refine efSvao ?_; intro v oa ho) | ((with_reducible refine sel_call ?_); first | (refine wl_newO rfl rfl rfl rfl rfl (fun w hm => by with_reducible exact SC w _ (Has.sees hm) (Mem.belowO hm (by with_reducible assumption) (by with_reducible assumption))) ?_; intro x oa hx)) | (refine wl_skip rfl rfl ?_) | ((with_reducible refine wc_seq ?_); intro K hK) | (refine auC ?_) | (refine wc_cond rfl (fun hc => ?_) (fun hc => ?_)) | (refine wc_draw (by kernel_rfl) (by kernel_rfl) (by decide +kernel) ?_; intro w0 hw0 hm0; (try simp only [List.append_eq, List.cons_append, List.nil_append])) | (refine auP ?_) | ((refine auR ?_); clear hK K) | (refine auR ?_) | ((with_reducible refine hK _ _ ?_); clear hK K) | fail)
  obtain ⟨u0, rfl⟩ : ∃ u, u = x := ⟨x, rfl⟩
  haveI hOL := hx
  refine wc_loop (σ := Nat × Blks) (fun x => [(0, ptr b), (1, .func (.yield l0) #[] #[]), (11, u0), (12, .int .i64 (S.m.length : Int)), (13, .int .i64 (x.1 : Int))]) (fun x => x.2 ++ oa) (fun x => x.1 ≤ S.m.length ∧ J x.1 x.2) (fun x => S.m.length - x.1) (0, o0) ⟨Nat.zero_le _, h0⟩ (Fits.of ⟨rfl, rfl, rfl, rfl, rfl, trivial⟩ (by
    repeat (first | exact SubL.nil | exact SubL.refl _ | refine SubL.keep ?_ | exact SubL.headA _ _ | refine SubL.keepA ?_ _ | refine SubL.skip ?_ | refine SubL.skipA ?_ _)) rfl) ?_
  clear KC SC
  rintro ⟨j, o1⟩ ⟨hj, hJ⟩
  dsimp only at hj hJ ⊢
  by_cases hlt : j < S.m.length
  · obtain ⟨y, hy⟩ : ∃ y, S.m[j]? = some y := ⟨S.m[j]'hlt, List.getElem?_eq_getElem _⟩
    have hmy := List.mem_of_getElem? hy
    have hmg : mget (S.m.map kpE) y.1 = some (kpV y) := by rw [mget_kp, kget_of hkeys hmy]; rfl
    have g0 : (ints (S.m.map (·.1)))[j]? = some (.int .i64 y.1) := by simp [ints, hy]
    have u1 : decide ((j : Int) < (S.m.length : Int)) = true := decide_eq_true (by omega)
    have u2 : IntKind.i64.wrap ((j : Int) + 1) = ((j + 1 : Nat) : Int) := by rw [wrap_i64 _ (by omega) (by omega)]; omega
    have j1 : (j : Int) < (S.m.length : Int) := by omega
    have tn : (!true) = false := rfl
    iterate 22 (first | (refine wlS ?_) | (refine wlB ?_) | (refine wlE ?_) | (refine efSvao ?_; intro v oa ho) | (refine wl_skip rfl rfl ?_) | ((with_reducible refine wc_seq ?_); intro K hK) | (refine auC ?_) | (refine wc_cond rfl (fun hc => ?_) (fun hc => ?_)) | (refine wc_draw (by kernel_rfl) (by kernel_rfl) (by decide +kernel) ?_; intro w0 hw0 hm0; (try simp only [List.append_eq, List.cons_append, List.nil_append])) | (refine auP ?_) | ((refine auR ?_); clear hK K) | (refine auR ?_) | ((with_reducible refine hK _ _ ?_); clear hK K))
    refine wc_splitN 7 ?_
    intro K hK
    simp only [List.take_succ_cons, List.take_zero, List.drop_succ_cons, List.drop_zero] at hK ⊢
    repeat' (first | (refine wlS ?_) | (refine wlB ?_) | ((with_reducible refine sel_load ?_); refine wv rfl rfl (rd_loadB rfl rfl) ?_) | ((with_reducible refine sel_lookup ?_); refine wv rfl rfl (rd_lookupG rfl rfl rfl) ?_) | (refine wlE ?_) | (refine efSvao ?_; intro v oa ho) | (refine wl_skip rfl rfl ?_) | ((with_reducible refine wc_seq ?_); intro K hK) | (refine auC ?_) | (refine wc_cond rfl (fun hc => ?_) (fun hc => ?_)) | (refine wc_draw (by kernel_rfl) (by kernel_rfl) (by decide +kernel) ?_; intro w0 hw0 hm0; (try simp only [List.append_eq, List.cons_append, List.nil_append])) | (refine auP ?_) | ((refine auR ?_); clear hK K) | (refine auR ?_) | ((with_reducible refine hK _ _ ?_); clear hK K) | fail)
    show K _ _
    refine hK _ _ ?_
    clear hK K
    refine wlI_yld (l0 := l0) (oa := o1) (Φ := fun o => J (j + 1) o) rfl rfl rfl rfl rfl rfl (fun w hm => ?_) rfl ?_
    · exact hY j y w o1 hy hJ (hm.sub (by
        repeat (first | exact SubL.nil | exact SubL.refl _ | refine SubL.keep ?_ | exact SubL.headA _ _ | refine SubL.keepA ?_ _ | refine SubL.skip ?_ | refine SubL.skipA ?_ _))).toUpd
    intro o2 hJ2 K hK
    repeat' (first | (refine wlS ?_) | (refine wlB ?_) | (refine wlE ?_) | (refine efSvao ?_; intro v oa ho) | (refine wl_skip rfl rfl ?_) | ((with_reducible refine wc_seq ?_); intro K hK) | (refine auC ?_) | (refine wc_cond rfl (fun hc => ?_) (fun hc => ?_)) | (refine wc_draw (by kernel_rfl) (by kernel_rfl) (by decide +kernel) ?_; intro w0 hw0 hm0; (try simp only [List.append_eq, List.cons_append, List.nil_append])) | (refine auP ?_) | ((refine auR ?_); clear hK K) | (refine auR ?_) | ((with_reducible refine hK _ _ ?_); clear hK K) | fail)
    show K _ _
    refine hK _ _ ?_
    clear hK K
    repeat' (first | (refine wlS ?_) | (refine wlB ?_) | (refine wlE ?_) | (refine efSvao ?_; intro v oa ho) | (refine wl_skip rfl rfl ?_) | ((with_reducible refine wc_seq ?_); intro K hK) | (refine auC ?_) | (refine wc_cond rfl (fun hc => ?_) (fun hc => ?_)) | (refine wc_draw (by kernel_rfl) (by kernel_rfl) (by decide +kernel) ?_; intro w0 hw0 hm0; (try simp only [List.append_eq, List.cons_append, List.nil_append])) | (refine auP ?_) | ((refine auR ?_); clear hK K) | (refine auR ?_) | ((with_reducible refine hK _ _ ?_); clear hK K) | fail)
    exact ⟨(j + 1, o2), ⟨hlt, hJ2⟩, by dsimp only; omega, Fits.of ⟨rfl, rfl, rfl, rfl, rfl, trivial⟩ (SubL.refl _) rfl⟩
  · obtain rfl : j = S.m.length := by omega
    have u1 : decide ((S.m.length : Int) < (S.m.length : Int)) = false := decide_eq_false (by omega)
    repeat' (first | (refine wlS ?_) | (refine wlB ?_) | (refine wlE ?_) | (refine efSvao ?_; intro v oa ho) | (refine wl_skip rfl rfl ?_) | ((with_reducible refine wc_seq ?_); intro K hK) | (refine auC ?_) | (refine wc_cond rfl (fun hc => ?_) (fun hc => ?_)) | (refine wc_draw (by kernel_rfl) (by kernel_rfl) (by decide +kernel) ?_; intro w0 hw0 hm0; (try simp only [List.append_eq, List.cons_append, List.nil_append])) | (refine auP ?_) | ((refine auR ?_); clear hK K) | (refine auR ?_) | ((with_reducible refine hK _ _ ?_); clear hK K) | fail)
    refine ⟨[], ResP.nil, _, o1, rfl, hJ, ?_⟩
    repeat (first | exact SubL.nil | exact SubL.refl _ | refine SubL.keep ?_ | exact SubL.headA _ _ | refine SubL.keepA ?_ _ | refine SubL.skip ?_ | refine SubL.skipA ?_ _)
end Go.Proofs.Ytjianfhodjapgaa
namespace Go.Proofs.Ytjianfhodjapgaa
open Go.RowKit
set_option linter.unusedVariables false
set_option linter.unusedSimpArgs false
set_option maxRecDepth 100000
section
variable {b g : Nat} {S : Sto}
theorem stoB_heap {w : World} (hd : Hd (stoB b g S) w) : w.heap[b]? = some (.cells (stoC g S) 59) ∧ w.heap[g]? = some (.map ((S.m.map kpE).map entE).toArray S.clock) :=
  ⟨(hd _ (List.mem_cons_self (l := [(g, mapB (S.m.map kpE) S.clock)]))).trans (congrArg some (toObj_cells rfl)), (hd _ (List.mem_cons_of_mem (b, (stoC g S, 59)) (List.mem_singleton.2 rfl))).trans (congrArg some (toObj_map _ _))⟩
theorem next_s (w : World) (hd : Hd (stoB b g S) w) : Calls Try.prog 12 [ptr b].toArray w (Ret (.int .i64 S.next) w) := by
  have hc : w.cell? ⟨b, 1, none⟩ = some (.int .i64 S.next) := by simp [World.cell?, (stoB_heap hd).1, stoC]
  clear hd
  refine fn_ret (N := _) Try.func12 rfl Try.ntmps12 Try.results12 (by simp) ?_
  simp only [initS, Nat.reduceAdd, Nat.zero_add]
  repeat' (first | (refine wlS ?_) | (refine wlB ?_) | (refine wlO ?_) | (refine wl_skip rfl rfl ?_) | ((with_reducible refine wc_seq ?_); intro K hK) | (refine auC ?_) | (refine wc_cond rfl (fun hc => ?_) (fun hc => ?_)) | (refine wc_draw (by kernel_rfl) (by kernel_rfl) (by decide +kernel) ?_; intro w0 hw0 hm0; (try simp only [List.append_eq, List.cons_append, List.nil_append])) | (refine auP ?_) | ((refine auR ?_); clear hK K) | (refine auR ?_) | ((with_reducible refine hK _ _ ?_); clear hK K) | fail)
  first | refine end_ret (ResP.tmp rfl ResP.nil) ?_ | refine end_normal (ResP.tmp rfl ResP.nil) ?_
  first | rfl | (show _ = _; rfl) | (simp only [tupV, *]; done)
theorem drop_no (w : World) (nd : b ≠ g) (hd : Hd (stoB b g S) w) {k : Int} (h : kget S.m k = none) :
    Calls Try.prog 16 [ptr b, .int .i64 k].toArray w (RetU (fun _ : Unit => .int .i64 6) (stoB b g S) (fun _ oa => oa = stoB b g S) w) := by
  obtain ⟨most, next, m, clock⟩ := S
  have hm : mget (m.map kpE) k = none := by rw [mget_kp]; dsimp only at h; rw [h]; rfl
  clear h
  have nk := sto_nd (S := ⟨most, next, m, clock⟩) nd
  have t1 : (!false) = true := rfl
  refine fn_upd (N := _) Try.func16 rfl Try.ntmps16 Try.results16 (by simp) nk hd ?_
  simp only [initS, Nat.reduceAdd, Nat.zero_add]
  unfold stoB stoC
  dsimp only
  repeat' (first | (refine wlS ?_) | (refine wlB ?_) | ((with_reducible refine sel_lookup ?_); refine wv rfl rfl (rd_lookupF rfl rfl rfl) ?_) | (refine wlE ?_) | (refine efSvao ?_; intro v oa ho) | (refine efZCnn ?_; intro n hn) | (refine efBnn ?_; intro n hn) | (refine efB ?_) | (refine efBS ?_) | (refine wl_skip rfl rfl ?_) | ((with_reducible refine wc_seq ?_); intro K hK) | (refine auC ?_) | (refine wc_cond rfl (fun hc => ?_) (fun hc => ?_)) | (refine wc_draw (by kernel_rfl) (by kernel_rfl) (by decide +kernel) ?_; intro w0 hw0 hm0; (try simp only [List.append_eq, List.cons_append, List.nil_append])) | (refine auP ?_) | ((refine auR ?_); clear hK K) | (refine auR ?_) | ((with_reducible refine hK _ _ ?_); clear hK K) | fail)
  first | refine end_ret (ResP.tmp rfl ResP.nil) ?_ | refine end_normal (ResP.tmp rfl ResP.nil) ?_
  (try dsimp only [tupV])
  exact ⟨(), _, rfl, rfl, by repeat (first | exact SubL.refl _ | refine SubL.skip ?_)⟩
theorem drop_yes (w : World) (nd : b ≠ g) (hd : Hd (stoB b g S) w) (hS : StoOk S) {k : Int} {x : Kp} (h : kget S.m k = some x) {n : Nat} (hx : Ln x.2.2.1 n) :
    Calls Try.prog 16 [ptr b, .int .i64 k].toArray w (RetU (fun _ : Unit => .int .i64 0) (stoB b g S) (fun _ oa => oa = stoB b g { S with m := kdel S.m k }) w) := by
  have hk := hS.keys
  obtain ⟨most, next, m, clock⟩ := S
  obtain ⟨p, c, hv, _⟩ := hx.out
  have hm : mget (m.map kpE) k = some (.agg #[.int .i64 x.1, .int .i64 x.2.1, .slice p n c]) := by rw [mget_kp]; dsimp only at h; rw [h, ← hv]; rfl
  have hdl := mdel_kp k hk
  dsimp only at hdl
  clear h hk hS hv hx
  have nk := sto_nd (S := ⟨most, next, m, clock⟩) nd
  have t1 : (!true) = false := rfl
  refine fn_upd (N := _) Try.func16 rfl Try.ntmps16 Try.results16 (by simp) nk hd ?_
  simp only [initS, Nat.reduceAdd, Nat.zero_add]
  unfold stoB stoC
  dsimp only
  repeat' (first | (refine wlS ?_) | (refine wlB ?_) | ((with_reducible refine sel_lookup ?_); refine wv rfl rfl (rd_lookupT rfl rfl rfl) ?_) | (refine wlE ?_) | (refine efSvao ?_; intro v oa ho) | (refine efZCnn ?_; intro n hn) | ((with_reducible refine sel_call ?_); first | (refine wl_mdel rfl rfl rfl rfl rfl ?_)) | (refine efBnn ?_; intro n hn) | (refine efB ?_) | (refine efBS ?_) | (refine wl_skip rfl rfl ?_) | ((with_reducible refine wc_seq ?_); intro K hK) | (refine auC ?_) | (refine wc_cond rfl (fun hc => ?_) (fun hc => ?_)) | (refine wc_draw (by kernel_rfl) (by kernel_rfl) (by decide +kernel) ?_; intro w0 hw0 hm0; (try simp only [List.append_eq, List.cons_append, List.nil_append])) | (refine auP ?_) | ((refine auR ?_); clear hK K) | (refine auR ?_) | ((with_reducible refine hK _ _ ?_); clear hK K) | fail)
  first | refine end_ret (ResP.tmp rfl ResP.nil) ?_ | refine end_normal (ResP.tmp rfl ResP.nil) ?_
  (try dsimp only [tupV])
  refine ⟨(), _, rfl, rfl, ?_⟩
  rw [← hdl]
  repeat (first | exact SubL.refl _ | refine SubL.skip ?_)
theorem put_full (w : World) (nd : b ≠ g) (hd : Hd (stoB b g S) w) {v : Value} {o : Int} [One v] (h : S.most ≤ (S.m.length : Int) ∨ S.next = 1073741824) :
    Calls Try.prog 14 [ptr b, v, .int .i64 o].toArray w (RetU (fun _ : Unit => .tuple #[.int .i64 0, .int .i64 7]) (stoB b g S) (fun _ oa => oa = stoB b g S) w) := by
  have nk := sto_nd (S := S) nd
  obtain ⟨most, next, m, clock⟩ := S
  dsimp only at h
  have hl : ((m.map kpE).length : Int) = m.length := by rw [List.length_map]
  by_cases h1 : most ≤ (m.length : Int)
  · have t1 : decide (((m.map kpE).length : Int) ≥ most) = true := decide_eq_true (by omega)
    clear h
    refine fn_upd (N := _) Try.func14 rfl Try.ntmps14 Try.results14 (by simp) nk hd ?_
    simp only [initS, Nat.reduceAdd, Nat.zero_add]
    unfold stoB stoC
    dsimp only
    repeat' (first | (refine wlS ?_) | (refine wlB ?_) | (refine efB ?_) | (refine efBS ?_) | (refine wl_skip rfl rfl ?_) | (refine wdS ?_) | (refine wdV ?_) | (refine wdB ?_) | ((with_reducible refine seld_call ?_); refine wdv hm0 rfl rfl rfl rfl (rd_lenM rfl rfl rfl rfl rfl) ?_) | (refine wdE ?_) | (refine wd_skip rfl rfl ?_) | ((with_reducible refine seld_nil ?_); refine wd_nil hm0 ?_; clear hm0 hw0) | ((with_reducible refine wc_seq ?_); intro K hK) | (refine auC ?_) | (refine wc_cond rfl (fun hc => ?_) (fun hc => ?_)) | (refine wc_draw (by kernel_rfl) (by kernel_rfl) (by decide +kernel) ?_; intro w0 hw0 hm0; (try simp only [List.append_eq, List.cons_append, List.nil_append])) | (refine auP ?_) | ((refine auR ?_); clear hK K) | (refine auR ?_) | ((with_reducible refine hK _ _ ?_); clear hK K) | fail)
    first | refine end_ret (ResP.tmp rfl (ResP.tmp rfl ResP.nil)) ?_ | refine end_normal (ResP.tmp rfl (ResP.tmp rfl ResP.nil)) ?_
    (try dsimp only [tupV])
    exact ⟨(), _, rfl, rfl, SubL.refl _⟩
  · have t1 : decide (((m.map kpE).length : Int) ≥ most) = false := decide_eq_false (by omega)
    have t2 : (next == 1073741824) = true := by simpa using h.resolve_left h1
    clear h
    refine fn_upd (N := _) Try.func14 rfl Try.ntmps14 Try.results14 (by simp) nk hd ?_
    simp only [initS, Nat.reduceAdd, Nat.zero_add]
    unfold stoB stoC
    dsimp only
    repeat' (first | (refine wlS ?_) | (refine wlB ?_) | (refine efB ?_) | (refine efBS ?_) | (refine wl_skip rfl rfl ?_) | (refine wdS ?_) | (refine wdV ?_) | (refine wdB ?_) | ((with_reducible refine seld_call ?_); refine wdv hm0 rfl rfl rfl rfl (rd_lenM rfl rfl rfl rfl rfl) ?_) | (refine wdE ?_) | (refine wd_skip rfl rfl ?_) | ((with_reducible refine seld_nil ?_); refine wd_nil hm0 ?_; clear hm0 hw0) | ((with_reducible refine wc_seq ?_); intro K hK) | (refine auC ?_) | (refine wc_cond rfl (fun hc => ?_) (fun hc => ?_)) | (refine wc_draw (by kernel_rfl) (by kernel_rfl) (by decide +kernel) ?_; intro w0 hw0 hm0; (try simp only [List.append_eq, List.cons_append, List.nil_append])) | (refine auP ?_) | ((refine auR ?_); clear hK K) | (refine auR ?_) | ((with_reducible refine hK _ _ ?_); clear hK K) | fail)
    first | refine end_ret (ResP.tmp rfl (ResP.tmp rfl ResP.nil)) ?_ | refine end_normal (ResP.tmp rfl (ResP.tmp rfl ResP.nil)) ?_
    (try dsimp only [tupV])
    exact ⟨(), _, rfl, rfl, SubL.refl _⟩
end
end Go.Proofs.Ytjianfhodjapgaa
namespace Go.Proofs.Ytjianfhodjapgaa
open Go.RowKit
set_option linter.unusedVariables false
set_option linter.unusedSimpArgs false
set_option maxRecDepth 100000
section
variable {b g : Nat} {S : Sto}
/-- What is put. -/
def putS (S : Sto) (o : Int) (v : Value) (its : List Att) : Sto := ⟨S.most, S.next + 1, S.m ++ [(S.next, o, v, its, S.clock)], S.clock + 1⟩
theorem own_o {w0 w : World} {v : Value} {l : List Att} (h : Ats w0 v l) (hk : Small l) (h2 : Below w0.heap.size w0 w) : Calls Try.prog 24 [v].toArray w (RetO (fun y : Option Addr × Nat × Nat => .slice y.1 y.2.1 y.2.2) (fun y oa => ∃ its', OwnT (.slice y.1 y.2.1 y.2.2) its' oa ∧ abs its' = abs l) w) :=
  (own_c w (h.below h2) hk).mono fun e w2 ⟨y, oa, h1, ⟨it2, h2, h3⟩, h4⟩ => by
    obtain ⟨pp, cc, rfl, _⟩ := h2.ln.out
    exact ⟨(pp, _, cc), oa, h1, ⟨it2, h2, h3⟩, h4⟩
set_option maxHeartbeats 4000000 in
theorem put_ok {w0 : World} (w : World) (nd : b ≠ g) (hd : Hd (stoB b g S) w) (hS : StoOk S) (hbel : Below w0.heap.size w0 w) (hfo : ∀ k ∈ keys (stoB b g S), w0.heap.size ≤ k) {v : Value} {l : List Att} (ha : Ats w0 v l) (hk : Small l) {o : Int}
    (h1 : (S.m.length : Int) < S.most) (h2 : S.next ≠ 1073741824) :
    Calls Try.prog 14 [ptr b, v, .int .i64 o].toArray w (RetU (fun _ : Unit => .tuple #[.int .i64 S.next, .int .i64 0]) (stoB b g S) (fun _ oa => ∃ vv its oc, oa = stoB b g (putS S o vv its) ++ oc ∧ OwnT vv its oc ∧ abs its = abs l) w) := by
  have nk := sto_nd (S := S) nd
  haveI i0 := ha.cs.ln
  have hnx0 := hS.next0
  have hnx1 := hS.next1
  have hno : kget S.m S.next = none := kget_none.2 fun x hx e => by
    have := (hS.pos x hx).2
    omega
  obtain ⟨most, next, m, clock⟩ := S
  dsimp only at h1 h2 hnx0 hnx1 hno
  have hl : ((m.map kpE).length : Int) = m.length := by rw [List.length_map]
  have t1 : decide (((m.map kpE).length : Int) ≥ most) = false := decide_eq_false (by omega)
  have t2 : (next == 1073741824) = false := by simpa using h2
  have hwr : IntKind.i64.wrap (next + 1) = next + 1 := wrap_i64 _ (by omega) (by omega)
  have CO := fun w' (h2 : Below w0.heap.size w0 w') => own_o ha hk h2
  clear hS ha hk h1 h2 hnx0 hnx1
  refine fn_upd (N := _) Try.func14 rfl Try.ntmps14 Try.results14 (by simp) nk hd ?_
  simp only [initS, Nat.reduceAdd, Nat.zero_add]
  unfold stoB stoC at hfo ⊢
  dsimp only at hfo ⊢
  repeat' (first | (refine wlS ?_) | (refine wlB ?_) | ((with_reducible refine sel_call ?_); refine wv rfl rfl (rd_lenM rfl rfl rfl rfl rfl) ?_) | (refine wlE ?_) | (refine efSvao ?_; intro v oa ho) | ((with_reducible refine sel_mapUpdate ?_); first | (refine wl_mset rfl rfl rfl rfl rfl rfl ?_)) | ((with_reducible refine sel_call ?_); first | (refine wl_newO rfl rfl rfl rfl rfl (fun w hm => by with_reducible exact CO w (Mem.belowO hm (by with_reducible assumption) (by with_reducible assumption))) ?_; intro x oa hx)) | (refine efB ?_) | (refine efBS ?_) | (refine wl_skip rfl rfl ?_) | (refine wdS ?_) | (refine wdV ?_) | (refine wdB ?_) | ((with_reducible refine seld_call ?_); refine wdv hm0 rfl rfl rfl rfl (rd_lenM rfl rfl rfl rfl rfl) ?_) | (refine wdE ?_) | (refine wd_skip rfl rfl ?_) | ((with_reducible refine seld_nil ?_); refine wd_nil hm0 ?_; clear hm0 hw0) | ((with_reducible refine wc_seq ?_); intro K hK) | (refine auC ?_) | (refine wc_cond rfl (fun hc => ?_) (fun hc => ?_)) | (refine wc_draw (id := 1) (by kernel_rfl) (by kernel_rfl) (by decide +kernel) ?_; intro w0 hw0 hm0; (try simp only [List.append_eq, List.cons_append, List.nil_append])) | ((with_reducible refine wc_drawH _ [10] (by kernel_rfl) (SubL.refl _) ?_); (try simp only [List.append_eq, List.cons_append, List.nil_append, List.length_cons, List.length_nil, Nat.reduceAdd])) | ((with_reducible refine sel_wh ?_); (refine wh_if (by decide +kernel) ?_); first | (refine wh_take (lq := []) rfl rfl rfl rfl (by first | exact rvS | exact rvB | ((with_reducible apply selr_call); exact rd_lenM rfl rfl rfl rfl rfl) | exact rvE) (Or.inl rfl) ?_) | (refine wh_takeL rfl rfl rfl rfl (by first | exact rvS | exact rvB | ((with_reducible apply selr_call); exact rd_lenM rfl rfl rfl rfl rfl) | exact rvE) (by decide +kernel) ?_)) | (refine whS ?_; intro v hv hp) | ((with_reducible refine sel_wh ?_); first | (refine wh_pass rfl rfl rfl rfl ?_) | (refine wh_done rfl ?_) | (refine wh_all rfl ?_)) | ((with_reducible refine sel_rest ?_); first | exact rest_nil rfl | refine rest_cons rfl rfl ?_ ?_) | ((with_reducible refine sel_nx ?_); first | refine next_of ?_ | refine next_late (by decide +kernel) ?_) | (refine auP ?_) | ((refine auR ?_); clear hK K) | (refine auR ?_) | ((with_reducible refine hK _ _ ?_); clear hK K) | fail)
  obtain ⟨it2, hT, hab⟩ := hx
  have hms := mset_kp (m := m) (x := (next, o, .slice x.1 x.2.1 x.2.2, it2, clock)) hno rfl
  first | refine end_ret (ResP.tmp rfl (ResP.tmp rfl ResP.nil)) ?_ | refine end_normal (ResP.tmp rfl (ResP.tmp rfl ResP.nil)) ?_
  (try dsimp only [tupV])
  refine ⟨(), _, rfl, ⟨_, it2, oa, rfl, hT, hab⟩, ?_⟩
  show SubL _ ((b, _) :: (g, mapB (mset (m.map kpE) next (kpV (next, o, .slice x.1 x.2.1 x.2.2, it2, clock)) clock).1 (mset (m.map kpE) next (kpV (next, o, .slice x.1 x.2.1 x.2.2, it2, clock)) clock).2) :: oa)
  rw [hms]
  exact SubL.refl _
set_option maxHeartbeats 4000000 in
theorem get_s (w : World) (hd : Hd (stoB b g S) w) {k : Int} {x : Kp} (h : kget S.m k = some x) (ha : Ats w x.2.2.1 x.2.2.2.1) (hk : Small x.2.2.2.1) :
    Calls Try.prog 15 [ptr b, .int .i64 k].toArray w (RetO (fun y : Option Addr × Nat × Nat => .tuple #[.agg #[.int .i64 x.1, .int .i64 x.2.1, .slice y.1 y.2.1 y.2.2], .bool true]) (fun y oa => ∃ its, OwnT (.slice y.1 y.2.1 y.2.2) its oa ∧ abs its = abs x.2.2.2.1) w) := by
  haveI i0 := ha.old
  haveI i1 := ha.cs.old
  obtain ⟨h1, h2⟩ := stoB_heap hd
  have hc : w.cell? ⟨b, 2, none⟩ = some (.map (some g)) := by simp [World.cell?, h1, stoC]
  obtain ⟨p, c, hv, _⟩ := ha.cs.ln.out
  have hm : mget (S.m.map kpE) k = some (.agg #[.int .i64 x.1, .int .i64 x.2.1, .slice p x.2.2.2.1.length c]) := by rw [mget_kp, h, ← hv]; rfl
  have CO := fun w' (h2 : Below w.heap.size w w') => own_o ha hk h2
  rw [hv] at CO
  have hbel := Below.refl w.heap.size w
  have hfo : ∀ k ∈ ([] : List Nat), w.heap.size ≤ k := fun _ h => by cases h
  have hgl := blk_lt h2
  obtain ⟨hh, ow, vx, its, st⟩ := x
  dsimp only at *
  clear hd h1 h ha hk i0 i1
  refine fn_own (N := _) Try.func15 rfl Try.ntmps15 Try.results15 (by simp) ?_
  simp only [initS, Nat.reduceAdd, Nat.zero_add]
  repeat' (first | (refine wlS ?_) | (refine wlB ?_) | (refine wlO ?_) | ((with_reducible refine sel_lookup ?_); refine wv rfl rfl (rd_lookupGT rfl rfl rfl) ?_) | (refine wlE ?_) | (refine efSvao ?_; intro v oa ho) | (refine efZCnn ?_; intro n hn) | ((with_reducible refine sel_call ?_); first | (refine wl_newO rfl rfl rfl rfl rfl (fun w hm => by with_reducible exact CO w (hm.below rfl)) ?_; intro x oa hx)) | (refine efBnn ?_; intro n hn) | (refine efB ?_) | (refine efBS ?_) | (refine wl_skip rfl rfl ?_) | ((with_reducible refine wc_seq ?_); intro K hK) | (refine auC ?_) | (refine wc_cond rfl (fun hc => ?_) (fun hc => ?_)) | (refine wc_draw (by kernel_rfl) (by kernel_rfl) (by decide +kernel) ?_; intro w0 hw0 hm0; (try simp only [List.append_eq, List.cons_append, List.nil_append])) | (refine auP ?_) | ((refine auR ?_); clear hK K) | (refine auR ?_) | ((with_reducible refine hK _ _ ?_); clear hK K) | fail)
  first | refine end_ret (ResP.cell rfl ld_whole (ResP.tmp rfl ResP.nil)) ?_ | refine end_normal (ResP.cell rfl ld_whole (ResP.tmp rfl ResP.nil)) ?_
  (try dsimp only [tupV])
  exact ⟨x, oa, rfl, hx, .skip (.skip (SubL.refl _))⟩
set_option maxHeartbeats 4000000 in
theorem get_n (w : World) (hd : Hd (stoB b g S) w) {k : Int} (h : kget S.m k = none) :
    Calls Try.prog 15 [ptr b, .int .i64 k].toArray w (RetO (fun y : Option Addr × Nat × Nat => .tuple #[.agg #[.int .i64 0, .int .i64 0, .slice y.1 y.2.1 y.2.2], .bool false]) (fun y oa => True) w) := by
  obtain ⟨h1, h2⟩ := stoB_heap hd
  have hc : w.cell? ⟨b, 2, none⟩ = some (.map (some g)) := by simp [World.cell?, h1, stoC]
  have hm : mget (S.m.map kpE) k = none := by rw [mget_kp, h]; rfl
  have ha : Ats w (.slice none 0 0) [] := ⟨⟨OwnL.ln (OwnL.nil 0 2), fun j u hj => by simp [atsC] at hj⟩, fun x hx => by cases hx⟩
  have CO := fun w' (h2 : Below w.heap.size w w') => own_o ha ⟨by simp, fun x hx => by cases hx⟩ h2
  have hbel := Below.refl w.heap.size w
  have hfo : ∀ k ∈ ([] : List Nat), w.heap.size ≤ k := fun _ h => by cases h
  have hgl := blk_lt h2
  clear hd h1 h ha
  refine fn_own (N := _) Try.func15 rfl Try.ntmps15 Try.results15 (by simp) ?_
  simp only [initS, Nat.reduceAdd, Nat.zero_add]
  repeat' (first | (refine wlS ?_) | (refine wlB ?_) | (refine wlO ?_) | ((with_reducible refine sel_lookup ?_); refine wv rfl rfl (rd_lookupGF rfl rfl rfl) ?_) | (refine wlE ?_) | (refine efSvao ?_; intro v oa ho) | (refine efZCnn ?_; intro n hn) | ((with_reducible refine sel_call ?_); first | (refine wl_newO rfl rfl rfl rfl rfl (fun w hm => by with_reducible exact CO w (hm.below rfl)) ?_; intro x oa hx)) | (refine efBnn ?_; intro n hn) | (refine efB ?_) | (refine efBS ?_) | (refine wl_skip rfl rfl ?_) | ((with_reducible refine wc_seq ?_); intro K hK) | (refine auC ?_) | (refine wc_cond rfl (fun hc => ?_) (fun hc => ?_)) | (refine wc_draw (by kernel_rfl) (by kernel_rfl) (by decide +kernel) ?_; intro w0 hw0 hm0; (try simp only [List.append_eq, List.cons_append, List.nil_append])) | (refine auP ?_) | ((refine auR ?_); clear hK K) | (refine auR ?_) | ((with_reducible refine hK _ _ ?_); clear hK K) | fail)
  first | refine end_ret (ResP.cell rfl ld_whole (ResP.tmp rfl ResP.nil)) ?_ | refine end_normal (ResP.cell rfl ld_whole (ResP.tmp rfl ResP.nil)) ?_
  (try dsimp only [tupV])
  exact ⟨x, oa, rfl, trivial, .skip (.skip (SubL.refl _))⟩
end
end Go.Proofs.Ytjianfhodjapgaa
namespace Go.Proofs.Ytjianfhodjapgaa
open Go.RowKit
set_option linter.unusedVariables false
set_option linter.unusedSimpArgs false
set_option maxRecDepth 100000
/-- A held object in memory: its number, whose it is, the slice, the attributes. -/
abbrev He := Int × Int × Value × List Att
def heC (x : He) : List Value := [.int .i64 x.1, .int .i64 x.2.1, x.2.2.1]
def hesC (l : List He) : List Value := (l.map heC).flatten
theorem hesC_len : ∀ l : List He, (hesC l).length = l.length * 3
  | [] => rfl
  | x :: r => by
    have := hesC_len r
    simp only [hesC, List.map_cons, List.flatten_cons, List.length_append, List.length_cons] at *
    rw [this]
    simp only [heC, List.length_cons, List.length_nil]
    omega
theorem hesC_app (a b : List He) : hesC (a ++ b) = hesC a ++ hesC b := by simp [hesC]
theorem hesC_get : ∀ {l : List He} {i : Nat} {x : He}, l[i]? = some x → ((hesC l).drop (i * 3)).take 3 = heC x
  | [], i, x, h => by simp at h
  | y :: r, 0, x, h => by
    simp only [List.getElem?_cons_zero, Option.some.injEq] at h
    subst h
    simp [hesC, heC]
  | y :: r, i + 1, x, h => by
    rw [List.getElem?_cons_succ] at h
    have := hesC_get h
    rw [show (i + 1) * 3 = 3 + i * 3 by omega, ← List.drop_drop]
    have e : (hesC (y :: r)).drop 3 = hesC r := by simp [hesC, heC]
    rw [e]; exact this
/-- What is told of it: number, owner, attributes. -/
abbrev Ho := Int × Int × List Ab
def absH (x : He) : Ho := (x.1, x.2.1, abs x.2.2.2)
def absK (x : Kp) : Ho := (x.1, x.2.1, abs x.2.2.2.1)
/-- The bodies of held objects. -/
def BodH (Ψ : World → Prop) (l : List He) : Prop := ∀ x ∈ l, AtF Ψ x.2.2.1 x.2.2.2
theorem BodH.nil {Ψ : World → Prop} : BodH Ψ [] := fun x hx => by cases hx
theorem BodH.app {a b : Blks} {l m : List He} (h : BodH (Hd a) l) (h' : BodH (Hd b) m) : BodH (Hd (a ++ b)) (l ++ m) := fun x hx => by
  rcases List.mem_append.1 hx with hx | hx
  · exact (h x hx).weak fun w hw => hw.left
  · exact (h' x hx).weak fun w hw => hw.right
theorem BodH.one {h o : Int} {v : Value} {its : List Att} {oa : Blks} (ht : OwnT v its oa) : BodH (Hd oa) [(h, o, v, its)] := fun x hx => by
  simp only [List.mem_singleton] at hx
  subst hx
  exact ht.atf
/-- A slice of held objects of one's own. -/
structure OwnH (v : Value) (l : List He) (oa : Blks) : Prop where
  out : ∃ oo ob, (∀ q ∈ oo ++ ob, q ∈ oa) ∧ OwnL 31 3 v l.length (hesC l) oo ∧ BodH (Hd ob) l
theorem OwnH.cs {v : Value} {l : List He} {oa : Blks} (h : OwnH v l oa) : CsF (Hd oa) v l.length (hesC l) := by
  obtain ⟨oo, ob, hs, h1, h2⟩ := h.out
  exact ⟨h1.ln, fun w hw => h1.cs.out w fun q hq => hw q (hs q (List.mem_append_left _ hq))⟩
theorem OwnH.bod {v : Value} {l : List He} {oa : Blks} (h : OwnH v l oa) : BodH (Hd oa) l := by
  obtain ⟨oo, ob, hs, h1, h2⟩ := h.out
  exact fun x hx => (h2 x hx).weak fun w hw q hq => hw q (hs q (List.mem_append_right _ hq))
set_option maxHeartbeats 8000000 in
theorem list_s {b g : Nat} {S : Sto} {ob : Blks} (w : World) (hd : Hd (stoB b g S) w) (hob : Hd ob w) (hS : StoOk S) (hKp : KpF ob S.m) :
    Calls Try.prog 10 [ptr b].toArray w (RetO (fun v : Value => v) (fun v oa => ∃ hs, OwnH v hs oa ∧ hs.map absH = S.m.map absK) w) := by
  have hit := all_iter hd hS
  have h16 : S.m.length ≤ 16 := by
    have h1 := hS.few
    have h2 := hS.hi
    omega
  refine fn_range Try.func10 rfl Try.ntmps10 (by simp) ?_
  simp only [initS, Nat.reduceAdd, Nat.zero_add]
  refine wm_seq ?_
  intro K hK
  repeat' (first | (refine wlS ?_) | (refine wlB ?_) | (refine wlE ?_) | (refine efSvvp ?_; intro v hv hp) | (refine efSvao ?_; intro v oa ho) | (refine efBnn ?_; intro n hn) | (refine efB ?_) | (refine efBS ?_) | (refine wl_skip rfl rfl ?_) | (refine wdS ?_) | (refine wdV ?_) | (refine wdB ?_) | (refine wdE ?_) | (refine wd_alloc hm0 rfl rfl rfl ?_; intro n hn hn0) | (refine wdT ?_) | (refine wdTO ?_) | (refine wd_skip rfl rfl ?_) | ((with_reducible refine seld_nil ?_); refine wd_nil hm0 ?_; clear hm0 hw0) | ((with_reducible refine wc_seq ?_); intro K hK) | (refine auC ?_) | (refine wc_cond rfl (fun hc => ?_) (fun hc => ?_)) | (refine wc_draw (by kernel_rfl) (by kernel_rfl) (by decide +kernel) ?_; intro w0 hw0 hm0; (try simp only [List.append_eq, List.cons_append, List.nil_append])) | (refine auP ?_) | ((refine auR ?_); clear hK K) | (refine auR ?_) | ((with_reducible refine hK _ _ ?_); clear hK K) | (with_reducible refine endR_n ?_) | fail)
  refine wm_seq ?_
  intro K hK
  repeat' (first | (refine wlS ?_) | (refine wlB ?_) | (refine wlE ?_) | (refine efSvvp ?_; intro v hv hp) | (refine efSvao ?_; intro v oa ho) | (refine efZCnn ?_; intro n hn) | (refine efBnn ?_; intro n hn) | (refine efB ?_) | (refine efBS ?_) | (refine wl_skip rfl rfl ?_) | (refine wdS ?_) | (refine wdV ?_) | (refine wdB ?_) | (refine wdE ?_) | (refine wd_allocC hm0 rfl rfl rfl ?_; intro n hn hn0) | (refine wd_alloc hm0 rfl rfl rfl ?_; intro n hn hn0) | (refine wdT ?_) | (refine wdTO ?_) | (refine wd_skip rfl rfl ?_) | ((with_reducible refine seld_nil ?_); refine wd_nil hm0 ?_; clear hm0 hw0) | ((with_reducible refine wc_seq ?_); intro K hK) | (refine auC ?_) | (refine wc_cond rfl (fun hc => ?_) (fun hc => ?_)) | (refine wc_draw (by kernel_rfl) (by kernel_rfl) (by decide +kernel) ?_; intro w0 hw0 hm0; (try simp only [List.append_eq, List.cons_append, List.nil_append])) | (refine auP ?_) | ((refine auR ?_); clear hK K) | (refine auR ?_) | ((with_reducible refine hK _ _ ?_); clear hK K) | (with_reducible refine endR_n ?_) | fail)
  obtain ⟨n3, rfl⟩ : ∃ n3, n3 = n := ⟨n, rfl⟩
  refine wm_seq2 ?_
  intro K hK
  repeat' (first | (refine wlS ?_) | (refine wlB ?_) | ((with_reducible refine sel_makeFunc ?_); refine wv rfl rfl (rd_mkfunB rfl rfl rfl) ?_) | (refine wlE ?_) | (refine efSvvp ?_; intro v hv hp) | (refine efSvao ?_; intro v oa ho) | (refine efBnn ?_; intro n hn) | (refine efB ?_) | (refine efBS ?_) | (refine wl_skip rfl rfl ?_) | (refine wdS ?_) | (refine wdV ?_) | (refine wdB ?_) | ((with_reducible refine seld_makeFunc ?_); refine wdv hm0 rfl rfl rfl rfl (rd_mkfunB rfl rfl rfl) ?_) | (refine wdE ?_) | (refine wd_alloc hm0 rfl rfl rfl ?_; intro n hn hn0) | (refine wdT ?_) | (refine wdTO ?_) | (refine wd_skip rfl rfl ?_) | ((with_reducible refine seld_nil ?_); refine wd_nil hm0 ?_; clear hm0 hw0) | ((with_reducible refine wc_seq ?_); intro K hK) | (refine auC ?_) | (refine wc_cond rfl (fun hc => ?_) (fun hc => ?_)) | (refine wc_draw (by kernel_rfl) (by kernel_rfl) (by decide +kernel) ?_; intro w0 hw0 hm0; (try simp only [List.append_eq, List.cons_append, List.nil_append])) | (refine auP ?_) | ((refine auR ?_); clear hK K) | (refine auR ?_) | ((with_reducible refine hK _ _ ?_); clear hK K) | (with_reducible refine endR_n ?_) | fail)
  refine wm_range (X := ⟨Try.prog, w, 17, []⟩) (first := [ptr b]) (lb := []) (enc := kpV) (g := .tmp 6) (p := 7) (t := 2) (L := S.m) (by rfl) (by exact Try.results10) (by rfl) (by kernel_rfl) (by rfl) hit
    (fun j o => ∃ u oL oB hs, o = (n3, (#[u], 22)) :: (oL ++ oB) ∧ OwnL 31 3 u hs.length (hesC hs) oL ∧ BodH (Hd oB) hs ∧ hs.map absH = (S.m.take j).map absK) ⟨_, [], [], [], rfl, OwnL.nil _ _, BodH.nil, rfl⟩ ?_ ?_
  · rintro W1 l0 j ⟨hh, ow, vx, its, st⟩ oa1 hx ⟨u, oL, oB, hs, rfl, hOL, hBH, hab⟩ hfo hbl K hK
    have hx2 := hx
    have hmx := List.mem_of_getElem? hx
    obtain ⟨hat, hsm⟩ := hKp _ hmx
    have hax := hat.out w hob
    dsimp only at hat hsm hax
    obtain ⟨px, cx, hvx, _⟩ := hat.cs.ln.out
    subst hvx
    have hjl := (List.getElem?_eq_some_iff.1 hx).1
    have hlen : hs.length ≤ 16 := by
      have := congrArg List.length hab
      rw [List.length_map, List.length_map, List.length_take] at this
      omega
    simp only [sput, Nat.reduceBEq, cond_true, cond_false, kpV]
    repeat' (first | (refine wlS ?_) | (refine wlB ?_) | (refine wlE ?_) | (refine efSvvp ?_; intro v hv hp) | (refine efSvao ?_; intro v oa ho) | (refine efZCnn ?_; intro n hn) | (refine efBnn ?_; intro n hn) | (refine efB ?_) | (refine efBS ?_) | (refine wl_skip rfl rfl ?_) | ((with_reducible refine wr_seq ?_); intro K hK) | (refine auCR ?_) | (refine auP ?_) | ((refine auR ?_); clear hK K) | (refine auR ?_) | ((with_reducible refine hK _ _ ?_); clear hK K) | (with_reducible refine endR_n ?_) | fail)
    intro Wb hbl2 hfo2
    have CO := fun w' (h2 : Below w.heap.size w w') => (show Calls Try.prog 24 [.slice px its.length cx].toArray w' (RetO (fun y : Option Addr × Nat × Nat => .slice y.1 y.2.1 y.2.2) (fun y oa => ∃ its', OwnT (.slice y.1 y.2.1 y.2.2) its' oa ∧ abs its' = abs its) w') from (own_c w' (hax.below h2) hsm).mono fun e w2 ⟨y, oa, h1, ⟨it2, h2, h3⟩, h4⟩ => by
      obtain ⟨pp, cc, rfl, _⟩ := h2.ln.out
      exact ⟨(pp, _, cc), oa, h1, ⟨it2, h2, h3⟩, h4⟩)
    repeat' (first | (refine wlS ?_) | (refine wlB ?_) | (refine wlE ?_) | (refine efSvvp ?_; intro v hv hp) | (refine efSvao ?_; intro v oa ho) | ((with_reducible refine sel_call ?_); first | (refine wl_newO rfl rfl rfl rfl rfl (fun w hm => by with_reducible exact CO w (Mem.belowO hm (by with_reducible assumption) (by with_reducible assumption))) ?_; intro x oa hx)) | (refine efBnn ?_; intro n hn) | (refine efB ?_) | (refine efBS ?_) | (refine wl_skip rfl rfl ?_) | ((with_reducible refine wr_seq ?_); intro K hK) | (refine auCR ?_) | (refine auP ?_) | ((refine auR ?_); clear hK K) | (refine auR ?_) | ((with_reducible refine hK _ _ ?_); clear hK K) | (with_reducible refine endR_n ?_) | fail)
    obtain ⟨it2, hT, hab2⟩ := hx
    rename_i oc vs os hos
    have hol : OwnL 31 3 v (hs ++ [(hh, ow, Value.slice x.1 x.2.1 x.2.2, it2)]).length (hesC (hs ++ [(hh, ow, .slice x.1 x.2.1 x.2.2, it2)])) oa := by rw [hesC_app, List.length_append]; exact ho
    refine ⟨(n3, (#[v], 22)) :: (oa ++ (oB ++ oc)), ⟨v, oa, oB ++ oc, hs ++ [(hh, ow, .slice x.1 x.2.1 x.2.2, it2)], rfl, hol, hBH.app (BodH.one hT), ?_⟩, ?_⟩
    · rw [List.take_add_one, hx2, List.map_append, List.map_append, hab]
      simp [absH, absK, hab2]
    · repeat (first | exact SubL.nil | exact SubL.refl _ | refine SubL.keep ?_ | exact SubL.headA _ _ | refine SubL.keepA ?_ _ | refine SubL.skip ?_ | refine SubL.skipA ?_ _)
  · rintro W2 oa2 ⟨u, oL, oB, hs, rfl, hOL, hBH, hab⟩ hbl
    rw [List.take_length] at hab
    refine ⟨u, oL ++ oB, ⟨hs, ⟨oL, oB, fun q h => h, hOL, hBH⟩, hab⟩, .skip (SubL.refl _), ?_⟩
    refine wt_rd (u := u) rfl rfl rfl (rd_load rfl rfl ld_cell) ?_
    exact wt_rd (u := u) rfl rfl rfl (rd_assign rfl rfl) (wt_nil rfl)
end Go.Proofs.Ytjianfhodjapgaa
