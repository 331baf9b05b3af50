/- The package store, walked: Find. Plain laws of what is found. For StoreHides: stores, a clone of held objects, what is hidden. -/
import Derived.Test.YtjianfhodjapgaaJnAB
import Derived.Test.YtjianfhodjapgaaJnAC
namespace Go.Proofs.Ytjianfhodjapgaa
open Go.RowKit
set_option linter.unusedVariables false
set_option linter.unusedSimpArgs false
set_option maxRecDepth 100000
/-- Is it found? -/
def fitsK (ask : List Att) (x : Kp) : Bool := matchB x.2.2.2.1 ask && !((getA (abs ask) 4).isSome && hiddenB (abs x.2.2.2.1))
def findK (m : List Kp) (ask : List Att) : List Int := (m.filter (fitsK ask)).map (·.1)
theorem findK_step {m : List Kp} {ask : List Att} {j : Nat} {x : Kp} (h : m[j]? = some x) : findK (m.take (j + 1)) ask = if fitsK ask x = true then findK (m.take j) ask ++ [x.1] else findK (m.take j) ask := by
  unfold findK
  rw [List.take_add_one, h, List.filter_append, List.map_append]
  split
  · rename_i hf; simp [hf]
  · rename_i hf; simp [hf]
theorem findK_len (m : List Kp) (ask : List Att) : (findK m ask).length ≤ m.length := by
  unfold findK
  rw [List.length_map]
  exact List.length_filter_le _ _
set_option maxHeartbeats 8000000 in
theorem find_s {b g : Nat} {S : Sto} {ob : Blks} {va : Value} {ask : List Att} (w : World) (hd : Hd (stoB b g S) w) (hob : Hd ob w) (hS : StoOk S) (hKp : KpF ob S.m) (ha : Ats w va ask) (hk : Small ask) :
    Calls Try.prog 21 [ptr b, va].toArray w (RetO (fun v : Value => v) (fun v oa => OwnL 3 1 v (findK S.m ask).length (ints (findK S.m ask)) oa) w) := by
  haveI i0 := ha.old
  haveI i1 := ha.cs.old
  obtain ⟨pa, ca, rfl, _⟩ := ha.cs.ln.out
  have GC := fun w' (h : Ats w' (.slice pa ask.length ca) ask) => getIs_c w' 4 h hk
  have hit := all_iter hd hS
  have h16 : S.m.length ≤ 16 := by
    have h1 := hS.few
    have h2 := hS.hi
    omega
  refine fn_range Try.func21 rfl Try.ntmps21 (by simp) ?_
  simp only [initS, Nat.reduceAdd, Nat.zero_add]
  obtain ⟨vl, hvl⟩ : ∃ vl, (getA (abs ask) 4).isSome = vl := ⟨_, rfl⟩
  rw [hvl] at GC
  refine wm_seq ?_
  intro K hK
  repeat' (first | (refine wlS ?_) | (refine wlB ?_) | (refine wlE ?_) | (refine efSvvp ?_; intro v hv hp) | (refine efSvao ?_; intro v oa ho) | (refine efBnn ?_; intro n hn) | (refine efB ?_) | (refine efBS ?_) | (refine wl_skip rfl rfl ?_) | (refine wdS ?_) | (refine wdV ?_) | (refine wdB ?_) | (refine wdE ?_) | (refine wd_alloc hm0 rfl rfl rfl ?_; intro n hn hn0) | (refine wdT ?_) | (refine wdTO ?_) | (refine wd_skip rfl rfl ?_) | ((with_reducible refine seld_nil ?_); refine wd_nil hm0 ?_; clear hm0 hw0) | ((with_reducible refine wc_seq ?_); intro K hK) | (refine auC ?_) | (refine wc_cond rfl (fun hc => ?_) (fun hc => ?_)) | (refine wc_draw (by kernel_rfl) (by kernel_rfl) (by decide +kernel) ?_; intro w0 hw0 hm0; (try simp only [List.append_eq, List.cons_append, List.nil_append])) | (refine auP ?_) | ((refine auR ?_); clear hK K) | (refine auR ?_) | ((with_reducible refine hK _ _ ?_); clear hK K) | (with_reducible refine endR_n ?_) | fail)
  obtain ⟨n3, rfl⟩ : ∃ n3, n3 = n := ⟨n, rfl⟩
  refine wm_seq ?_
  intro K hK
  repeat' (first | (refine wlS ?_) | (refine wlB ?_) | (refine wlE ?_) | (refine efSvvp ?_; intro v hv hp) | (refine efSvao ?_; intro v oa ho) | (refine efZCnn ?_; intro n hn) | ((with_reducible refine sel_call ?_); first | (refine wl_newO rfl rfl rfl rfl rfl (fun w hm => by with_reducible exact GC w (VwT.out w hm)) ?_; intro x oa hx)) | (refine efBnn ?_; intro n hn) | (refine efB ?_) | (refine efBS ?_) | (refine wl_skip rfl rfl ?_) | (refine wdS ?_) | (refine wdV ?_) | (refine wdB ?_) | (refine wdE ?_) | (refine wd_allocC hm0 rfl rfl rfl ?_; intro n hn hn0) | (refine wd_alloc hm0 rfl rfl rfl ?_; intro n hn hn0) | (refine wdT ?_) | (refine wdTO ?_) | (refine wd_skip rfl rfl ?_) | ((with_reducible refine seld_nil ?_); refine wd_nil hm0 ?_; clear hm0 hw0) | ((with_reducible refine wc_seq ?_); intro K hK) | (refine auC ?_) | (refine wc_cond rfl (fun hc => ?_) (fun hc => ?_)) | (refine wc_draw (by kernel_rfl) (by kernel_rfl) (by decide +kernel) ?_; intro w0 hw0 hm0; (try simp only [List.append_eq, List.cons_append, List.nil_append])) | (refine auP ?_) | ((refine auR ?_); clear hK K) | (refine auR ?_) | ((with_reducible refine hK _ _ ?_); clear hK K) | (with_reducible refine endR_n ?_) | fail)
  obtain ⟨n6, rfl⟩ : ∃ n6, n6 = n := ⟨n, rfl⟩
  refine wm_seq ?_
  intro K hK
  repeat' (first | (refine wlS ?_) | (refine wlB ?_) | (refine wlE ?_) | (refine efSvvp ?_; intro v hv hp) | (refine efSvao ?_; intro v oa ho) | (refine efZCnn ?_; intro n hn) | (refine efBnn ?_; intro n hn) | (refine efB ?_) | (refine efBS ?_) | (refine wl_skip rfl rfl ?_) | (refine wdS ?_) | (refine wdV ?_) | (refine wdB ?_) | (refine wdE ?_) | (refine wd_allocC hm0 rfl rfl rfl ?_; intro n hn hn0) | (refine wd_alloc hm0 rfl rfl rfl ?_; intro n hn hn0) | (refine wdT ?_) | (refine wdTO ?_) | (refine wd_skip rfl rfl ?_) | ((with_reducible refine seld_nil ?_); refine wd_nil hm0 ?_; clear hm0 hw0) | ((with_reducible refine wc_seq ?_); intro K hK) | (refine auC ?_) | (refine wc_cond rfl (fun hc => ?_) (fun hc => ?_)) | (refine wc_draw (by kernel_rfl) (by kernel_rfl) (by decide +kernel) ?_; intro w0 hw0 hm0; (try simp only [List.append_eq, List.cons_append, List.nil_append])) | (refine auP ?_) | ((refine auR ?_); clear hK K) | (refine auR ?_) | ((with_reducible refine hK _ _ ?_); clear hK K) | (with_reducible refine endR_n ?_) | fail)
  obtain ⟨n7, rfl⟩ : ∃ n7, n7 = n := ⟨n, rfl⟩
  refine wm_seq2 ?_
  intro K hK
  repeat' (first | (refine wlS ?_) | (refine wlB ?_) | ((with_reducible refine sel_makeFunc ?_); refine wv rfl rfl (rd_mkfunB rfl rfl rfl) ?_) | (refine wlE ?_) | (refine efSvvp ?_; intro v hv hp) | (refine efSvao ?_; intro v oa ho) | (refine efBnn ?_; intro n hn) | (refine efB ?_) | (refine efBS ?_) | (refine wl_skip rfl rfl ?_) | (refine wdS ?_) | (refine wdV ?_) | (refine wdB ?_) | ((with_reducible refine seld_makeFunc ?_); refine wdv hm0 rfl rfl rfl rfl (rd_mkfunB rfl rfl rfl) ?_) | (refine wdE ?_) | (refine wd_alloc hm0 rfl rfl rfl ?_; intro n hn hn0) | (refine wdT ?_) | (refine wdTO ?_) | (refine wd_skip rfl rfl ?_) | ((with_reducible refine seld_nil ?_); refine wd_nil hm0 ?_; clear hm0 hw0) | ((with_reducible refine wc_seq ?_); intro K hK) | (refine auC ?_) | (refine wc_cond rfl (fun hc => ?_) (fun hc => ?_)) | (refine wc_draw (by kernel_rfl) (by kernel_rfl) (by decide +kernel) ?_; intro w0 hw0 hm0; (try simp only [List.append_eq, List.cons_append, List.nil_append])) | (refine auP ?_) | ((refine auR ?_); clear hK K) | (refine auR ?_) | ((with_reducible refine hK _ _ ?_); clear hK K) | (with_reducible refine endR_n ?_) | fail)
  clear GC
  refine wb_sub (l' := [(n7, (#[.slice none 0 0], 36)), (n6, (#[.bool vl], 4)), (n3, (#[.slice pa ask.length ca], 29))]) (.keep (.keep (.keep .nil))) ?_
  refine wm_range (X := ⟨Try.prog, w, 36, []⟩) (first := [ptr b]) (lb := []) (enc := kpV) (g := .tmp 15) (p := 16) (t := 4) (L := S.m) (by rfl) (by exact Try.results21) (by rfl) (by kernel_rfl) (by rfl) hit
    (fun j o => ∃ u oL, o = (n7, (#[u], 36)) :: (n6, (#[.bool vl], 4)) :: (n3, (#[.slice pa ask.length ca], 29)) :: oL ∧ OwnL 3 1 u (findK (S.m.take j) ask).length (ints (findK (S.m.take j) ask)) oL) ⟨_, _, rfl, OwnL.nil _ _⟩ ?_ ?_
  · rintro W1 l0 j ⟨hh, ow, vx, its, st⟩ oa1 hx ⟨u, oL, rfl, hOL⟩ hfo hbl K hK
    have hmx := List.mem_of_getElem? hx
    obtain ⟨hat, hsm⟩ := hKp _ hmx
    have hax := hat.out w hob
    dsimp only at hat hsm hax
    obtain ⟨px, cx, hvx, _⟩ := hat.cs.ln.out
    subst hvx
    have hstep := findK_step (ask := ask) hx
    simp only [sput, Nat.reduceBEq, cond_true, cond_false, kpV]
    repeat' (first | (refine wlS ?_) | (refine wlB ?_) | (refine wlE ?_) | (refine efSvvp ?_; intro v hv hp) | (refine efSvao ?_; intro v oa ho) | (refine efZCnn ?_; intro n hn) | (refine efBnn ?_; intro n hn) | (refine efB ?_) | (refine efBS ?_) | (refine wl_skip rfl rfl ?_) | ((with_reducible refine wr_seq ?_); intro K hK) | (refine auCR ?_) | (refine auP ?_) | ((refine auR ?_); clear hK K) | (refine auR ?_) | ((with_reducible refine hK _ _ ?_); clear hK K) | (with_reducible refine endR_n ?_) | fail)
    intro Wb hbl2 hfo2
    have CM := fun w' (h2 : Below w.heap.size w w') => match_c w' (hax.below h2) (ha.below h2)
    have CH := fun w' (h2 : Below w.heap.size w w') => hiddenS_c w' (hax.below h2) hsm rfl
    have hfk : fitsK ask (hh, ow, .slice px its.length cx, its, st) = (matchB its ask && !(vl && hiddenB (abs its))) := by rw [fitsK, hvl]
    generalize hmb : matchB its ask = mb at *
    generalize hhb : hiddenB (abs its) = hb at *
    clear hmb hhb hit hbl hfo
    dsimp only
    rw [hfk] at hstep
    have fin : ∀ l2, (mb && !(vl && hb)) = false → SubL ((n7, (#[u], 36)) :: (n6, (#[.bool vl], 4)) :: (n3, (#[.slice pa ask.length ca], 29)) :: oL) l2 → ∃ oa2, (∃ u oL, oa2 = (n7, (#[u], 36)) :: (n6, (#[.bool vl], 4)) :: (n3, (#[.slice pa ask.length ca], 29)) :: oL ∧ OwnL 3 1 u (findK (S.m.take (j + 1)) ask).length (ints (findK (S.m.take (j + 1)) ask)) oL) ∧ SubL oa2 l2 := fun l2 hf hs => by
      rw [hf, if_neg (by simp)] at hstep
      exact ⟨_, ⟨u, oL, rfl, by rw [hstep]; exact hOL⟩, hs⟩
    have hol : (ints (findK (S.m.take j) ask ++ [hh])) = ints (findK (S.m.take j) ask) ++ [.int .i64 hh] := by simp [ints]
    have hlen : (findK (S.m.take j) ask).length ≤ 16 := Nat.le_trans (findK_len _ _) (Nat.le_trans (by rw [List.length_take]; omega) h16)
    generalize findK (S.m.take j) ask = fs at *
    cases mb
    · repeat' (first | (refine wlS ?_) | (refine wlB ?_) | ((with_reducible refine sel_call ?_); refine wl_rd rfl rfl (rd_call rfl rfl rfl (fun w hm => by with_reducible exact CM w (Mem.belowO hm (by with_reducible assumption) (by with_reducible assumption)))) ?_) | (refine wlE ?_) | (refine efSvvp ?_; intro v hv hp) | (refine efSvao ?_; intro v oa ho) | (refine efBnn ?_; intro n hn) | (refine efB ?_) | (refine efBS ?_) | (refine wl_skip rfl rfl ?_) | ((with_reducible refine wr_seq ?_); intro K hK) | (refine auCR ?_) | (refine auP ?_) | ((refine auR ?_); clear hK K) | (refine auR ?_) | ((with_reducible refine hK _ _ ?_); clear hK K) | (with_reducible refine endR_n ?_) | fail)
      refine fin _ rfl ?_
      repeat (first | exact SubL.nil | exact SubL.refl _ | refine SubL.keep ?_ | exact SubL.headA _ _ | refine SubL.keepA ?_ _ | refine SubL.skip ?_ | refine SubL.skipA ?_ _)
    cases vl
    · have t1 : (!false) = true := rfl
      rw [if_pos (by rfl)] at hstep
      clear fin CH
      repeat' (first | (refine wlS ?_) | (refine wlB ?_) | ((with_reducible refine sel_call ?_); refine wl_rd rfl rfl (rd_call rfl rfl rfl (fun w hm => by with_reducible exact CM w (Mem.belowO hm (by with_reducible assumption) (by with_reducible assumption)))) ?_) | (refine wlE ?_) | (refine efSvvp ?_; intro v hv hp) | (refine efSvao ?_; intro v oa ho) | (refine efBnn ?_; intro n hn) | (refine efB ?_) | (refine efBS ?_) | (refine wl_skip rfl rfl ?_) | ((with_reducible refine wr_seq ?_); intro K hK) | (refine auCR ?_) | (refine auP ?_) | ((refine auR ?_); clear hK K) | (refine auR ?_) | ((with_reducible refine hK _ _ ?_); clear hK K) | (with_reducible refine endR_n ?_) | fail)
      refine ⟨_, ⟨_, _, rfl, by rw [hstep, hol, List.length_append]; exact ho⟩, ?_⟩
      repeat (first | exact SubL.nil | exact SubL.refl _ | refine SubL.keep ?_ | exact SubL.headA _ _ | refine SubL.keepA ?_ _ | refine SubL.skip ?_ | refine SubL.skipA ?_ _)
    cases hb
    · have t1 : (!false) = true := rfl
      rw [if_pos (by rfl)] at hstep
      clear fin
      repeat' (first | (refine wlS ?_) | (refine wlB ?_) | ((with_reducible refine sel_call ?_); refine wl_rd rfl rfl (rd_call rfl rfl rfl (fun w hm => by with_reducible first | exact CM w (Mem.belowO hm (by with_reducible assumption) (by with_reducible assumption)) | exact CH w (Mem.belowO hm (by with_reducible assumption) (by with_reducible assumption)))) ?_) | (refine wlE ?_) | (refine efSvvp ?_; intro v hv hp) | (refine efSvao ?_; intro v oa ho) | (refine efBnn ?_; intro n hn) | (refine efB ?_) | (refine efBS ?_) | (refine wl_skip rfl rfl ?_) | ((with_reducible refine wr_seq ?_); intro K hK) | (refine auCR ?_) | (refine auP ?_) | ((refine auR ?_); clear hK K) | (refine auR ?_) | ((with_reducible refine hK _ _ ?_); clear hK K) | (with_reducible refine endR_n ?_) | fail)
      refine ⟨_, ⟨_, _, rfl, by rw [hstep, hol, List.length_append]; exact ho⟩, ?_⟩
      repeat (first | exact SubL.nil | exact SubL.refl _ | refine SubL.keep ?_ | exact SubL.headA _ _ | refine SubL.keepA ?_ _ | refine SubL.skip ?_ | refine SubL.skipA ?_ _)
    · have t1 : (!true) = false := rfl
      repeat' (first | (refine wlS ?_) | (refine wlB ?_) | ((with_reducible refine sel_call ?_); refine wl_rd rfl rfl (rd_call rfl rfl rfl (fun w hm => by with_reducible first | exact CM w (Mem.belowO hm (by with_reducible assumption) (by with_reducible assumption)) | exact CH w (Mem.belowO hm (by with_reducible assumption) (by with_reducible assumption)))) ?_) | (refine wlE ?_) | (refine efSvvp ?_; intro v hv hp) | (refine efSvao ?_; intro v oa ho) | (refine efBnn ?_; intro n hn) | (refine efB ?_) | (refine efBS ?_) | (refine wl_skip rfl rfl ?_) | ((with_reducible refine wr_seq ?_); intro K hK) | (refine auCR ?_) | (refine auP ?_) | ((refine auR ?_); clear hK K) | (refine auR ?_) | ((with_reducible refine hK _ _ ?_); clear hK K) | (with_reducible refine endR_n ?_) | fail)
      refine fin _ rfl ?_
      repeat (first | exact SubL.nil | exact SubL.refl _ | refine SubL.keep ?_ | exact SubL.headA _ _ | refine SubL.keepA ?_ _ | refine SubL.skip ?_ | refine SubL.skipA ?_ _)
  · rintro W2 oa2 ⟨u, oL, rfl, hOL⟩ hbl
    rw [List.take_length] at hOL
    refine ⟨u, oL, hOL, .skip (.skip (.skip (SubL.refl _))), ?_⟩
    refine wt_rd (u := u) rfl rfl rfl ?_ ?_
    · exact rd_load rfl rfl ld_cell
    · refine wt_rd (u := u) rfl rfl rfl (rd_assign rfl rfl) (wt_nil rfl)
end Go.Proofs.Ytjianfhodjapgaa
namespace Go.Proofs.Ytjianfhodjapgaa
open Go.RowKit
set_option linter.unusedVariables false
set_option linter.unusedSimpArgs false
theorem getA_app {a b : List Ab} {k : Int} (h : (getA a k).isSome = true) : (getA (a ++ b) k).isSome = true := by
  unfold getA at *
  rw [Option.isSome_map] at *
  rw [List.find?_append]
  cases hf : a.find? (fun x => x.1 == k) with
  | none => rw [hf] at h; cases h
  | some x => rfl
theorem fitsK_app {a b : List Att} {x : Kp} (h : fitsK (a ++ b) x = true) : fitsK a x = true := by
  unfold fitsK at *
  rw [match_app, abs_app] at h
  simp only [Bool.and_eq_true] at h ⊢
  obtain ⟨⟨h1, _⟩, h3⟩ := h
  refine ⟨h1, ?_⟩
  cases hg : (getA (abs a) 4).isSome with
  | false => rfl
  | true => rw [getA_app hg] at h3; exact h3
theorem findK_app {m : List Kp} {a b : List Att} {z : Int} (h : z ∈ findK m (a ++ b)) : z ∈ findK m a := by
  unfold findK at *
  obtain ⟨x, hx, rfl⟩ := List.mem_map.1 h
  obtain ⟨h1, h2⟩ := List.mem_filter.1 hx
  exact List.mem_map_of_mem (List.mem_filter.2 ⟨h1, fitsK_app h2⟩)
theorem findK_nil (m : List Kp) : findK m [] = m.map (·.1) := by
  unfold findK
  rw [List.filter_eq_self.2 fun x hx => ?_]
  unfold fitsK
  rw [match_nil]
  rfl
/-- What is found hangs on what is told alone. -/
def fitsO (ask : List Ab) (x : Ho) : Bool := matchA x.2.2 ask && !((getA ask 4).isSome && hiddenB x.2.2)
theorem fitsK_abs (ask : List Att) (x : Kp) : fitsK ask x = fitsO (abs ask) (absK x) := by
  unfold fitsK fitsO
  rw [match_abs]
  rfl
theorem findK_abs (m : List Kp) (ask : List Att) : findK m ask = ((m.map absK).filter (fitsO (abs ask))).map (·.1) := by
  unfold findK
  rw [List.filter_map, List.map_map]
  have e : (fitsK ask) = (fitsO (abs ask) ∘ absK) := funext fun x => fitsK_abs ask x
  rw [e]
  rfl
theorem StoOk.sorted {S : Sto} (h : StoOk S) : (S.m.map (·.1)).Pairwise (· ≤ ·) := h.rise.imp fun h => by omega
theorem ats_oneS {w : World} {v : Value} {l : List Att} (h : Ats w v l) : ∀ y ∈ atsC l, y.oneCell' = true := fun y hy => by
  obtain ⟨a, ha, hy⟩ := List.mem_flatten.1 hy
  obtain ⟨x, hx, rfl⟩ := List.mem_map.1 ha
  simp only [atC, List.mem_cons, List.not_mem_nil, or_false] at hy
  rcases hy with rfl | rfl
  · rfl
  · exact ats_one h x hx
end Go.Proofs.Ytjianfhodjapgaa
namespace Go.Proofs.Ytjianfhodjapgaa
open Go.RowKit
set_option linter.unusedVariables false
set_option linter.unusedSimpArgs false
set_option maxRecDepth 100000
section
variable {X : Cx} {s : Slots} {l : Blks} {o : Oper} {v : Value} {Q : Post} {ops : Array Oper} {r : List Oper}
/-- One cell of a block whose cells are not known one by one. -/
theorem wl_cellA {t : Nat} {x y : Operand} {b off : Nat} {c c' : Array Value} {e : Nat} {l' : Blks} {s' : Slots} (hg : gd s ops o = some true) (hd : dOk X.N o.dst = true) (ho : o.op = .store t x y) (hx : val s x = some (.pointer (some ⟨b, off, none⟩))) (hy : val s y = some v) [h1 : One v] [hs : SZ X.P t 1]
    (h : Wl X ops Q r s' l') (ha : At l b (c, e) (c', e) l' := by repeat (first | exact At.here | apply At.there)) (hc : putC c off v = c' := by with_reducible assumption) (hlt : off < c.size := by with_reducible assumption) (hb : Nat.blt e BIG = true := by first | rfl | assumption)
    (hs' : sputO s o.dst undef = s' := by (try dsimp only [sputO, sput, Nat.reduceBEq, cond_true, cond_false, beq_self_eq_true]); first | done | exact rfl) : Wl X ops Q (o :: r) s l :=
  wl_store hg hd (sv_cell ho hx hy h1.out ha hc hlt hb) h hs'
end
theorem restore_1 (w : World) {most next : Int} {v : Value} {l : List He} (hg : ¬ resBad most next) (hl : Hes w v l) (hsm : ∀ x ∈ l, Small x.2.2.2) (hlen : l.length ≤ 1048576) (hr : ¬ RiseH l next) :
    Calls Try.prog 8 [.int .i64 most, .int .i64 next, v].toArray w (RetO (fun _ : Unit => .tuple #[.pointer none, .int .i64 1]) (fun _ oa => oa = []) w) :=
  (restore_c0 w hg hl hsm hlen).mono fun e w2 ⟨y, oa, h3, h4, h5⟩ => by
    rcases h4 with ⟨rfl, _, rfl⟩ | ⟨_, h, _⟩ | ⟨b, g, S, ob, rfl, h, _⟩
    · exact ⟨(), [], h3, rfl, h5⟩
    · exact absurd h hr
    · exact absurd h hr
theorem restore_7 (w : World) {most next : Int} {v : Value} {l : List He} (hg : ¬ resBad most next) (hl : Hes w v l) (hsm : ∀ x ∈ l, Small x.2.2.2) (hlen : l.length ≤ 1048576) (hr : RiseH l next) (hf : most < (l.length : Int)) :
    Calls Try.prog 8 [.int .i64 most, .int .i64 next, v].toArray w (RetO (fun _ : Unit => .tuple #[.pointer none, .int .i64 7]) (fun _ oa => oa = []) w) :=
  (restore_c0 w hg hl hsm hlen).mono fun e w2 ⟨y, oa, h3, h4, h5⟩ => by
    rcases h4 with ⟨_, h, _⟩ | ⟨rfl, _, _, rfl⟩ | ⟨b, g, S, ob, rfl, _, h, _⟩
    · exact absurd hr h
    · exact ⟨(), [], h3, rfl, h5⟩
    · omega
set_option maxHeartbeats 4000000 in
theorem stores_c (w : World) : Calls Try.prog 17 [].toArray w (Ret (.bool true) w) := by
  have NC := fun w' => new_ok w' (most := 1) (by decide)
  have t0 : ((0 : Int) != 0) = false := rfl
  refine fn_ret (N := _) Try.func17 rfl Try.ntmps17 Try.results17 (by simp) ?_
  simp only [initS, Nat.reduceAdd, Nat.zero_add]
  repeat' (first | (refine wlS ?_) | (refine wlB ?_) | (refine wlPN ?_) | (refine wlE ?_) | (refine efSvao ?_; intro v oa ho) | ((with_reducible refine sel_call ?_); first | (refine wl_newO rfl rfl rfl rfl rfl (fun w hm => by with_reducible exact NC w) ?_; intro x oa hx)) | (refine wl_skip rfl rfl ?_) | ((with_reducible refine wc_seq ?_); intro K hK) | (refine auC ?_) | (refine wc_cond rfl (fun hc => ?_) (fun hc => ?_)) | (refine wc_draw (by kernel_rfl) (by kernel_rfl) (by decide +kernel) ?_; intro w0 hw0 hm0; (try simp only [List.append_eq, List.cons_append, List.nil_append])) | (refine auP ?_) | ((refine auR ?_); clear hK K) | (refine auR ?_) | ((with_reducible refine hK _ _ ?_); clear hK K) | fail)
  obtain ⟨g, S, ob, hbg, rfl, hS, hSm, hSn, hKp, hab⟩ := hx
  obtain ⟨b, rfl⟩ : ∃ b, b = x := ⟨x, rfl⟩
  have hm0 : S.m = [] := by simpa using hab
  have hnil : Ats w (.slice none 0 0) [] := ⟨⟨OwnL.ln (OwnL.nil 0 2), fun j u hj => by simp [atsC] at hj⟩, fun x hx => by cases hx⟩
  have PK := fun w' (h1 : Hd (stoB b g S) w') (h2 : Below w.heap.size w w') (h3 : ∀ k ∈ keys (stoB b g S), w.heap.size ≤ k) => put_ok w' hbg h1 hS h2 h3 hnil ⟨by simp, fun x hx => by cases hx⟩ (o := 0) (by rw [hm0, hSm]; decide) (by rw [hSn]; decide)
  rw [hSn] at PK
  clear NC hS hSm hSn hKp hab hm0 hnil
  repeat' (first | (refine wlS ?_) | (refine wlB ?_) | (refine wlE ?_) | (refine efSvao ?_; intro v oa ho) | ((with_reducible refine sel_call ?_); first | (refine wl_updO rfl rfl rfl rfl rfl (fun w hm hw => by with_reducible exact PK w hw (hm.below rfl) (Mem.freshS hm)) ?_; intro x oa hx)) | (refine wl_skip rfl rfl ?_) | ((with_reducible refine wc_seq ?_); intro K hK) | (refine auC ?_) | (refine wc_cond rfl (fun hc => ?_) (fun hc => ?_)) | (refine wc_draw (by kernel_rfl) (by kernel_rfl) (by decide +kernel) ?_; intro w0 hw0 hm0; (try simp only [List.append_eq, List.cons_append, List.nil_append])) | (refine auP ?_) | ((refine auR ?_); clear hK K) | (refine auR ?_) | ((with_reducible refine hK _ _ ?_); clear hK K) | fail)
  repeat' (first | (refine wlS ?_) | (refine wlB ?_) | (refine wlE ?_) | (refine efSvao ?_; intro v oa ho) | (refine wl_skip rfl rfl ?_) | ((with_reducible refine wc_seq ?_); intro K hK) | (refine auC ?_) | (refine wc_cond rfl (fun hc => ?_) (fun hc => ?_)) | (refine wc_draw (by kernel_rfl) (by kernel_rfl) (by decide +kernel) ?_; intro w0 hw0 hm0; (try simp only [List.append_eq, List.cons_append, List.nil_append])) | (refine auP ?_) | ((refine auR ?_); clear hK K) | (refine auR ?_) | ((with_reducible refine hK _ _ ?_); clear hK K) | fail)
  first | refine end_ret (ResP.tmp rfl ResP.nil) ?_ | refine end_normal (ResP.tmp rfl ResP.nil) ?_
  first | rfl | (show _ = _; rfl) | (simp only [tupV, *]; done)
set_option maxHeartbeats 4000000 in
theorem clone_he (w : World) {v : Value} {m : Nat} {cs : List Value} (h : Cs w v m cs) (hl : cs.length = m * 3) (hm : m ≤ 1048576) (one : ∀ y ∈ cs, y.oneCell' = true) :
    Calls Try.prog 19 [v].toArray w (RetO (fun u => u) (fun u oa => OwnL 31 3 u m cs oa) w) := by
  have i1 := h.old
  obtain ⟨p, c, rfl, h1, h2, h3⟩ := h.ln.out
  cases p with
  | none =>
    have hm0 : m = 0 := by
      rcases Nat.eq_zero_or_pos m with h0 | h0
      · exact h0
      · obtain ⟨_, _, hh⟩ := h3 h0; cases hh
    have hd0 : cs = [] := List.eq_nil_of_length_eq_zero (by rw [hl, hm0])
    have E : ∀ w', (binOp .eql 22 (.slice none m c) (.slice none 0 0)).run Try.prog w' = .ok (.bool true) w' := fun w' => sl_nil (e := 31) (by kernel_rfl) w'
    clear h h3
    subst hm0; subst hd0
    refine fn_own (N := _) Try.func19 rfl Try.ntmps19 Try.results19 (by simp) ?_
    simp only [initS, Nat.reduceAdd, Nat.zero_add]
    repeat' (first | (refine wlS ?_) | (refine wlB ?_) | ((with_reducible refine sel_b_eql ?_); refine wv rfl rfl (rd_eqlG rfl rfl rfl (by with_reducible exact E)) ?_) | (refine wlE ?_) | (refine efSvao ?_; intro v oa ho) | (refine wl_skip rfl rfl ?_) | ((with_reducible refine wc_seq ?_); intro K hK) | (refine auC ?_) | (refine wc_cond rfl (fun hc => ?_) (fun hc => ?_)) | (refine wc_draw (by kernel_rfl) (by kernel_rfl) (by decide +kernel) ?_; intro w0 hw0 hm0; (try simp only [List.append_eq, List.cons_append, List.nil_append])) | (refine auP ?_) | ((refine auR ?_); clear hK K) | (refine auR ?_) | ((with_reducible refine hK _ _ ?_); clear hK K) | fail)
    first | refine end_ret (ResP.tmp rfl ResP.nil) ?_ | refine end_normal (ResP.tmp rfl ResP.nil) ?_
    (try dsimp only [tupV])
    exact ⟨_, _, rfl, OwnL.nil _ _, .nil⟩
  | some a =>
    have E : ∀ w', (binOp .eql 22 (.slice (some a) m c) (.slice none 0 0)).run Try.prog w' = .ok (.bool false) w' := fun w' => sl_nil (e := 31) (by kernel_rfl) w'
    clear h h3
    refine fn_own (N := _) Try.func19 rfl Try.ntmps19 Try.results19 (by simp) ?_
    simp only [initS, Nat.reduceAdd, Nat.zero_add]
    repeat' (first | (refine wlS ?_) | (refine wlB ?_) | ((with_reducible refine sel_b_eql ?_); refine wv rfl rfl (rd_eqlG rfl rfl rfl (by with_reducible exact E)) ?_) | (refine wlE ?_) | (refine efSvao ?_; intro v oa ho) | (refine wl_skip rfl rfl ?_) | ((with_reducible refine wc_seq ?_); intro K hK) | (refine auC ?_) | (refine wc_cond rfl (fun hc => ?_) (fun hc => ?_)) | (refine wc_draw (by kernel_rfl) (by kernel_rfl) (by decide +kernel) ?_; intro w0 hw0 hm0; (try simp only [List.append_eq, List.cons_append, List.nil_append])) | (refine auP ?_) | ((refine auR ?_); clear hK K) | (refine auR ?_) | ((with_reducible refine hK _ _ ?_); clear hK K) | fail)
    first | refine end_ret (ResP.tmp rfl ResP.nil) ?_ | refine end_normal (ResP.tmp rfl ResP.nil) ?_
    (try dsimp only [tupV])
    exact ⟨_, _, rfl, by simpa using ho, SubL.refl _⟩
theorem hesC_one {l : List He} (h : ∀ x ∈ l, x.2.2.1.oneCell' = true) : ∀ y ∈ hesC l, y.oneCell' = true := fun y hy => by
  obtain ⟨a, ha, hy⟩ := List.mem_flatten.1 hy
  obtain ⟨x, hx, rfl⟩ := List.mem_map.1 ha
  simp only [heC, List.mem_cons, List.not_mem_nil, or_false] at hy
  rcases hy with rfl | rfl | rfl
  · rfl
  · rfl
  · exact h x hx
/-- With another value. -/
def trA (v : Value) (p : List Nat) (x : Att) : Att := if x.1 = 4 then (4, v, p) else x
theorem abs_tr (v : Value) (p : List Nat) (l : List Att) : abs (l.map (trA v p)) = (abs l).map fun x => if x.1 = 4 then (4, p) else x := by
  unfold abs
  rw [List.map_map, List.map_map]
  refine List.map_congr_left fun x _ => ?_
  simp only [Function.comp, trA]
  split <;> rfl
theorem getA_tr (p : List Nat) (l : List Ab) {k : Int} (hk : k ≠ 4) : getA (l.map fun x => if x.1 = 4 then (4, p) else x) k = getA l k := by
  unfold getA
  induction l with
  | nil => rfl
  | cons x r ih =>
    rw [List.map_cons, List.find?_cons, List.find?_cons]
    by_cases h : x.1 = 4
    · rw [if_pos h]
      have h1 : ((4 : Int) == k) = false := by simpa using fun e => hk e.symm
      have h2 : (x.1 == k) = false := by rw [h]; exact h1
      rw [h2]
      simp only [h1]
      exact ih
    · rw [if_neg h]
      cases x.1 == k with
      | true => rfl
      | false => exact ih
theorem hiddenB_tr (p : List Nat) (l : List Ab) : hiddenB (l.map fun x => if x.1 = 4 then (4, p) else x) = hiddenB l := by
  unfold hiddenB isA
  rw [getA_tr p l (by decide), getA_tr p l (by decide)]
theorem fitsO_tr (ask : List Ab) (h o : Int) (l : List Ab) (p : List Nat) (hh : hiddenB l = true) : fitsO ask (h, o, l.map fun x => if x.1 = 4 then (4, p) else x) = fitsO ask (h, o, l) := by
  unfold fitsO
  dsimp only
  rw [hiddenB_tr, hh]
  cases hv : (getA ask 4).isSome with
  | true => simp
  | false =>
    have hm : matchA (l.map fun x => if x.1 = 4 then (4, p) else x) ask = matchA l ask := by
      unfold matchA
      have h0 : ∀ x ∈ ask, x.1 ≠ 4 := fun x hx e => by
        have h1 : getA ask 4 = none := by simpa using hv
        unfold getA at h1
        rw [Option.map_eq_none_iff, List.find?_eq_none] at h1
        exact h1 x hx (by simpa using e)
      rw [Bool.eq_iff_iff, List.all_eq_true, List.all_eq_true]
      constructor
      · intro h x hx
        have := h x hx
        rwa [getA_tr p l (h0 x hx)] at this
      · intro h x hx
        rw [getA_tr p l (h0 x hx)]
        exact h x hx
    rw [hm]
/-- One of them changed. -/
def setH (l : List He) (i : Nat) (v : Value) (its : List Att) : List He := l.modify i fun x => (x.1, x.2.1, v, its)
theorem setH_len (l : List He) (i : Nat) (v : Value) (its : List Att) : (setH l i v its).length = l.length := by unfold setH; rw [List.length_modify]
theorem setH_cons (x : He) (r : List He) (i : Nat) (v : Value) (its : List Att) : setH (x :: r) (i + 1) v its = x :: setH r i v its := rfl
theorem hesC_set : ∀ (l : List He) (i : Nat) (v : Value) (its : List Att), i < l.length → hesC (setH l i v its) = (hesC l).set (i * 3 + 2) v
  | [], i, v, its, h => by simp at h
  | x :: r, 0, v, its, h => by simp [setH, hesC, heC]
  | x :: r, i + 1, v, its, h => by
    rw [setH_cons]
    have ih := hesC_set r i v its (by simpa using h)
    have e : ∀ l : List He, hesC (x :: l) = heC x ++ hesC l := fun l => by simp [hesC]
    rw [e, e, ih, List.set_append, if_neg (by simp [heC]; omega)]
    congr 2
    simp [heC]
    omega
theorem setH_fst (l : List He) (i : Nat) (v : Value) (its : List Att) : (setH l i v its).map (·.1) = l.map (·.1) := by
  unfold setH
  apply List.ext_getElem?
  intro j
  rw [List.getElem?_map, List.getElem?_map, List.getElem?_modify]
  cases l[j]? with
  | none => rfl
  | some y => by_cases e : i = j <;> simp [e]
theorem setH_mem {l : List He} {i : Nat} {v : Value} {its : List Att} {x : He} (h : x ∈ setH l i v its) : x ∈ l ∨ (x.2.2.1 = v ∧ x.2.2.2 = its) := by
  obtain ⟨j, hj⟩ := List.mem_iff_getElem?.1 h
  unfold setH at hj
  rw [List.getElem?_modify] at hj
  cases hy : l[j]? with
  | none => rw [hy] at hj; cases hj
  | some y =>
    rw [hy] at hj
    by_cases e : i = j
    · simp [e] at hj; subst hj; exact .inr ⟨rfl, rfl⟩
    · simp [e] at hj; subst hj; exact .inl (List.mem_of_getElem? hy)
theorem RiseH.setH {l : List He} {next : Int} {i : Nat} {v : Value} {its : List Att} : RiseH (setH l i v its) next ↔ RiseH l next := by
  have hp : ∀ m : List He, (∀ x ∈ m, 1 ≤ x.1 ∧ x.1 < next) ↔ ∀ k ∈ m.map (·.1), 1 ≤ k ∧ k < next := fun m => by simp
  constructor
  · intro h
    exact ⟨by have := h.rise; rwa [setH_fst] at this, by have := (hp _).1 h.pos; rw [setH_fst] at this; exact (hp _).2 this⟩
  · intro h
    exact ⟨by rw [setH_fst]; exact h.rise, (hp _).2 (by rw [setH_fst]; exact (hp _).1 h.pos)⟩
/-- What is found does not hang on a hidden value. -/
theorem find_setH {l : List He} {i : Nat} {x : He} {v u : Value} {p : List Nat} {ask : List Ab} (hx : l[i]? = some x) (hh : hiddenB (abs x.2.2.2) = true) :
    (((setH l i u (x.2.2.2.map (trA v p))).map absH).filter (fitsO ask)).map (·.1) = ((l.map absH).filter (fitsO ask)).map (·.1) := by
  induction l generalizing i with
  | nil => simp at hx
  | cons y r ih =>
    cases i with
    | zero =>
      simp only [List.getElem?_cons_zero, Option.some.injEq] at hx
      subst hx
      have e : setH (y :: r) 0 u (y.2.2.2.map (trA v p)) = (y.1, y.2.1, u, y.2.2.2.map (trA v p)) :: r := rfl
      rw [e, List.map_cons, List.map_cons, List.filter_cons, List.filter_cons]
      have h1 : fitsO ask (absH (y.1, y.2.1, u, y.2.2.2.map (trA v p))) = fitsO ask (absH y) := by
        show fitsO ask (y.1, y.2.1, abs (y.2.2.2.map (trA v p))) = fitsO ask (y.1, y.2.1, abs y.2.2.2)
        rw [abs_tr]
        exact fitsO_tr ask _ _ _ p hh
      rw [h1]
      split
      · rfl
      · rfl
    | succ i =>
      rw [List.getElem?_cons_succ] at hx
      rw [setH_cons, List.map_cons, List.map_cons, List.filter_cons, List.filter_cons]
      split
      · rw [List.map_cons, List.map_cons, ih hx]
      · exact ih hx
end Go.Proofs.Ytjianfhodjapgaa
