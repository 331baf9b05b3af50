/- The package store, walked: Find. Plain laws of what is found. slices.Contains at ints. -/
import Derived.Test.YtjianfhodjapgaaJnAB
import Derived.Test.YtjianfhodjapgaaJnAC
namespace Go.Proofs.Ytjianfhodjapgaa
open Go.RowKit
set_option linter.unusedVariables false
set_option linter.unusedSimpArgs false
set_option maxRecDepth 100000
/-- Is it found? -/
def fitsK (ask : List Att) (x : Kp) : Bool := matchB x.2.2.2.1 ask && !((getA (abs ask) 4).isSome && hiddenB (abs x.2.2.2.1))
def findK (m : List Kp) (ask : List Att) : List Int := (m.filter (fitsK ask)).map (·.1)
theorem findK_step {m : List Kp} {ask : List Att} {j : Nat} {x : Kp} (h : m[j]? = some x) : findK (m.take (j + 1)) ask = if fitsK ask x = true then findK (m.take j) ask ++ [x.1] else findK (m.take j) ask := by
  unfold findK
  rw [List.take_add_one, h, List.filter_append, List.map_append]
  split
  · rename_i hf; simp [hf]
  · rename_i hf; simp [hf]
theorem findK_len (m : List Kp) (ask : List Att) : (findK m ask).length ≤ m.length := by
  unfold findK
  rw [List.length_map]
  exact List.length_filter_le _ _
set_option maxHeartbeats 8000000 in
theorem find_s {b g : Nat} {S : Sto} {ob : Blks} {va : Value} {ask : List Att} (w : World) (hd : Hd (stoB b g S) w) (hob : Hd ob w) (hS : StoOk S) (hKp : KpF ob S.m) (ha : Ats w va ask) (hk : Small ask) :
    Calls Try.prog 21 [ptr b, va].toArray w (RetO (fun v : Value => v) (fun v oa => OwnL 3 1 v (findK S.m ask).length (ints (findK S.m ask)) oa) w) := by
  haveI i0 := ha.old
  haveI i1 := ha.cs.old
  obtain ⟨pa, ca, rfl, _⟩ := ha.cs.ln.out
  have GC := fun w' (h : Ats w' (.slice pa ask.length ca) ask) => getIs_c w' 4 h hk
  have hit := all_iter hd hS
  have h16 : S.m.length ≤ 16 := by
    have h1 := hS.few
    have h2 := hS.hi
    omega
  refine fn_range Try.func21 rfl Try.ntmps21 (by simp) ?_
  simp only [initS, Nat.reduceAdd, Nat.zero_add]
  obtain ⟨vl, hvl⟩ : ∃ vl, (getA (abs ask) 4).isSome = vl := ⟨_, rfl⟩
  rw [hvl] at GC
  refine wm_seq ?_
  intro K hK
  repeat' (first | (refine wlS ?_) | (refine wlB ?_) | (refine wlE ?_) | (refine efSvvp ?_; intro v hv hp) | (refine efSvao ?_; intro v oa ho) | (refine efBnn ?_; intro n hn) | (refine efB ?_) | (refine efBS ?_) | (refine wl_skip rfl rfl ?_) | (refine wdS ?_) | (refine wdV ?_) | (refine wdB ?_) | (refine wdE ?_) | (refine wd_alloc hm0 rfl rfl rfl ?_; intro n hn hn0) | (refine wdT ?_) | (refine wdTO ?_) | (refine wd_skip rfl rfl ?_) | ((with_reducible refine seld_nil ?_); refine wd_nil hm0 ?_; clear hm0 hw0) | ((with_reducible refine wc_seq ?_); intro K hK) | (refine auC ?_) | (refine wc_cond rfl (fun hc => ?_) (fun hc => ?_)) | (refine wc_draw (by kernel_rfl) (by kernel_rfl) (by decide +kernel) ?_; intro w0 hw0 hm0; (try simp only [List.append_eq, List.cons_append, List.nil_append])) | (refine auP ?_) | ((refine auR ?_); clear hK K) | (refine auR ?_) | ((with_reducible refine hK _ _ ?_); clear hK K) | (with_reducible refine endR_n ?_) | fail)
  obtain ⟨n3, rfl⟩ : ∃ n3, n3 = n := ⟨n, rfl⟩
  refine wm_seq ?_
  intro K hK
  repeat' (first | (refine wlS ?_) | (refine wlB ?_) | (refine wlE ?_) | (refine efSvvp ?_; intro v hv hp) | (refine efSvao ?_; intro v oa ho) | (refine efZCnn ?_; intro n hn) | ((with_reducible refine sel_call ?_); first | (refine wl_newO rfl rfl rfl rfl rfl (fun w hm => by with_reducible exact GC w (VwT.out w hm)) ?_; intro x oa hx)) | (refine efBnn ?_; intro n hn) | (refine efB ?_) | (refine efBS ?_) | (refine wl_skip rfl rfl ?_) | (refine wdS ?_) | (refine wdV ?_) | (refine wdB ?_) | (refine wdE ?_) | (refine wd_allocC hm0 rfl rfl rfl ?_; intro n hn hn0) | (refine wd_alloc hm0 rfl rfl rfl ?_; intro n hn hn0) | (refine wdT ?_) | (refine wdTO ?_) | (refine wd_skip rfl rfl ?_) | ((with_reducible refine seld_nil ?_); refine wd_nil hm0 ?_; clear hm0 hw0) | ((with_reducible refine wc_seq ?_); intro K hK) | (refine auC ?_) | (refine wc_cond rfl (fun hc => ?_) (fun hc => ?_)) | (refine wc_draw (by kernel_rfl) (by kernel_rfl) (by decide +kernel) ?_; intro w0 hw0 hm0; (try simp only [List.append_eq, List.cons_append, List.nil_append])) | (refine auP ?_) | ((refine auR ?_); clear hK K) | (refine auR ?_) | ((with_reducible refine hK _ _ ?_); clear hK K) | (with_reducible refine endR_n ?_) | fail)
  obtain ⟨n6, rfl⟩ : ∃ n6, n6 = n := ⟨n, rfl⟩
  refine wm_seq ?_
  intro K hK
  repeat' (first | (refine wlS ?_) | (refine wlB ?_) | (refine wlE ?_) | (refine efSvvp ?_; intro v hv hp) | (refine efSvao ?_; intro v oa ho) | (refine efZCnn ?_; intro n hn) | (refine efBnn ?_; intro n hn) | (refine efB ?_) | (refine efBS ?_) | (refine wl_skip rfl rfl ?_) | (refine wdS ?_) | (refine wdV ?_) | (refine wdB ?_) | (refine wdE ?_) | (refine wd_allocC hm0 rfl rfl rfl ?_; intro n hn hn0) | (refine wd_alloc hm0 rfl rfl rfl ?_; intro n hn hn0) | (refine wdT ?_) | (refine wdTO ?_) | (refine wd_skip rfl rfl ?_) | ((with_reducible refine seld_nil ?_); refine wd_nil hm0 ?_; clear hm0 hw0) | ((with_reducible refine wc_seq ?_); intro K hK) | (refine auC ?_) | (refine wc_cond rfl (fun hc => ?_) (fun hc => ?_)) | (refine wc_draw (by kernel_rfl) (by kernel_rfl) (by decide +kernel) ?_; intro w0 hw0 hm0; (try simp only [List.append_eq, List.cons_append, List.nil_append])) | (refine auP ?_) | ((refine auR ?_); clear hK K) | (refine auR ?_) | ((with_reducible refine hK _ _ ?_); clear hK K) | (with_reducible refine endR_n ?_) | fail)
  obtain ⟨n7, rfl⟩ : ∃ n7, n7 = n := ⟨n, rfl⟩
  refine wm_seq2 ?_
  intro K hK
  repeat' (first | (refine wlS ?_) | (refine wlB ?_) | ((with_reducible refine sel_makeFunc ?_); refine wv rfl rfl (rd_mkfunB rfl rfl rfl) ?_) | (refine wlE ?_) | (refine efSvvp ?_; intro v hv hp) | (refine efSvao ?_; intro v oa ho) | (refine efBnn ?_; intro n hn) | (refine efB ?_) | (refine efBS ?_) | (refine wl_skip rfl rfl ?_) | (refine wdS ?_) | (refine wdV ?_) | (refine wdB ?_) | ((with_reducible refine seld_makeFunc ?_); refine wdv hm0 rfl rfl rfl rfl (rd_mkfunB rfl rfl rfl) ?_) | (refine wdE ?_) | (refine wd_alloc hm0 rfl rfl rfl ?_; intro n hn hn0) | (refine wdT ?_) | (refine wdTO ?_) | (refine wd_skip rfl rfl ?_) | ((with_reducible refine seld_nil ?_); refine wd_nil hm0 ?_; clear hm0 hw0) | ((with_reducible refine wc_seq ?_); intro K hK) | (refine auC ?_) | (refine wc_cond rfl (fun hc => ?_) (fun hc => ?_)) | (refine wc_draw (by kernel_rfl) (by kernel_rfl) (by decide +kernel) ?_; intro w0 hw0 hm0; (try simp only [List.append_eq, List.cons_append, List.nil_append])) | (refine auP ?_) | ((refine auR ?_); clear hK K) | (refine auR ?_) | ((with_reducible refine hK _ _ ?_); clear hK K) | (with_reducible refine endR_n ?_) | fail)
  clear GC
  refine wb_sub (l' := [(n7, (#[.slice none 0 0], 36)), (n6, (#[.bool vl], 4)), (n3, (#[.slice pa ask.length ca], 29))]) (.keep (.keep (.keep .nil))) ?_
  refine wm_range (X := ⟨Try.prog, w, 36, []⟩) (first := [ptr b]) (lb := []) (enc := kpV) (g := .tmp 15) (p := 16) (t := 4) (L := S.m) (by rfl) (by exact Try.results21) (by rfl) (by kernel_rfl) (by rfl) hit
    (fun j o => ∃ u oL, o = (n7, (#[u], 36)) :: (n6, (#[.bool vl], 4)) :: (n3, (#[.slice pa ask.length ca], 29)) :: oL ∧ OwnL 3 1 u (findK (S.m.take j) ask).length (ints (findK (S.m.take j) ask)) oL) ⟨_, _, rfl, OwnL.nil _ _⟩ ?_ ?_
  · rintro W1 l0 j ⟨hh, ow, vx, its, st⟩ oa1 hx ⟨u, oL, rfl, hOL⟩ hfo hbl K hK
    have hmx := List.mem_of_getElem? hx
    obtain ⟨hat, hsm⟩ := hKp _ hmx
    have hax := hat.out w hob
    dsimp only at hat hsm hax
    obtain ⟨px, cx, hvx, _⟩ := hat.cs.ln.out
    subst hvx
    have hstep := findK_step (ask := ask) hx
    simp only [sput, Nat.reduceBEq, cond_true, cond_false, kpV]
    repeat' (first | (refine wlS ?_) | (refine wlB ?_) | (refine wlE ?_) | (refine efSvvp ?_; intro v hv hp) | (refine efSvao ?_; intro v oa ho) | (refine efZCnn ?_; intro n hn) | (refine efBnn ?_; intro n hn) | (refine efB ?_) | (refine efBS ?_) | (refine wl_skip rfl rfl ?_) | ((with_reducible refine wr_seq ?_); intro K hK) | (refine auCR ?_) | (refine auP ?_) | ((refine auR ?_); clear hK K) | (refine auR ?_) | ((with_reducible refine hK _ _ ?_); clear hK K) | (with_reducible refine endR_n ?_) | fail)
    intro Wb hbl2 hfo2
    have CM := fun w' (h2 : Below w.heap.size w w') => match_c w' (hax.below h2) (ha.below h2)
    have CH := fun w' (h2 : Below w.heap.size w w') => hiddenS_c w' (hax.below h2) hsm rfl
    have hfk : fitsK ask (hh, ow, .slice px its.length cx, its, st) = (matchB its ask && !(vl && hiddenB (abs its))) := by rw [fitsK, hvl]
    generalize hmb : matchB its ask = mb at *
    generalize hhb : hiddenB (abs its) = hb at *
    clear hmb hhb hit hbl hfo
    dsimp only
    rw [hfk] at hstep
    have fin : ∀ l2, (mb && !(vl && hb)) = false → SubL ((n7, (#[u], 36)) :: (n6, (#[.bool vl], 4)) :: (n3, (#[.slice pa ask.length ca], 29)) :: oL) l2 → ∃ oa2, (∃ u oL, oa2 = (n7, (#[u], 36)) :: (n6, (#[.bool vl], 4)) :: (n3, (#[.slice pa ask.length ca], 29)) :: oL ∧ OwnL 3 1 u (findK (S.m.take (j + 1)) ask).length (ints (findK (S.m.take (j + 1)) ask)) oL) ∧ SubL oa2 l2 := fun l2 hf hs => by
      rw [hf, if_neg (by simp)] at hstep
      exact ⟨_, ⟨u, oL, rfl, by rw [hstep]; exact hOL⟩, hs⟩
    have hol : (ints (findK (S.m.take j) ask ++ [hh])) = ints (findK (S.m.take j) ask) ++ [.int .i64 hh] := by simp [ints]
    have hlen : (findK (S.m.take j) ask).length ≤ 16 := Nat.le_trans (findK_len _ _) (Nat.le_trans (by rw [List.length_take]; omega) h16)
    generalize findK (S.m.take j) ask = fs at *
    cases mb
    · repeat' (first | (refine wlS ?_) | (refine wlB ?_) | ((with_reducible refine sel_call ?_); refine wl_rd rfl rfl (rd_call rfl rfl rfl (fun w hm => by with_reducible exact CM w (Mem.belowO hm (by with_reducible assumption) (by with_reducible assumption)))) ?_) | (refine wlE ?_) | (refine efSvvp ?_; intro v hv hp) | (refine efSvao ?_; intro v oa ho) | (refine efBnn ?_; intro n hn) | (refine efB ?_) | (refine efBS ?_) | (refine wl_skip rfl rfl ?_) | ((with_reducible refine wr_seq ?_); intro K hK) | (refine auCR ?_) | (refine auP ?_) | ((refine auR ?_); clear hK K) | (refine auR ?_) | ((with_reducible refine hK _ _ ?_); clear hK K) | (with_reducible refine endR_n ?_) | fail)
      refine fin _ rfl ?_
      repeat (first | exact SubL.nil | exact SubL.refl _ | refine SubL.keep ?_ | exact SubL.headA _ _ | refine SubL.keepA ?_ _ | refine SubL.skip ?_ | refine SubL.skipA ?_ _)
    cases vl
    · have t1 : (!false) = true := rfl
      rw [if_pos (by rfl)] at hstep
      clear fin CH
      repeat' (first | (refine wlS ?_) | (refine wlB ?_) | ((with_reducible refine sel_call ?_); refine wl_rd rfl rfl (rd_call rfl rfl rfl (fun w hm => by with_reducible exact CM w (Mem.belowO hm (by with_reducible assumption) (by with_reducible assumption)))) ?_) | (refine wlE ?_) | (refine efSvvp ?_; intro v hv hp) | (refine efSvao ?_; intro v oa ho) | (refine efBnn ?_; intro n hn) | (refine efB ?_) | (refine efBS ?_) | (refine wl_skip rfl rfl ?_) | ((with_reducible refine wr_seq ?_); intro K hK) | (refine auCR ?_) | (refine auP ?_) | ((refine auR ?_); clear hK K) | (refine auR ?_) | ((with_reducible refine hK _ _ ?_); clear hK K) | (with_reducible refine endR_n ?_) | fail)
      refine ⟨_, ⟨_, _, rfl, by rw [hstep, hol, List.length_append]; exact ho⟩, ?_⟩
      repeat (first | exact SubL.nil | exact SubL.refl _ | refine SubL.keep ?_ | exact SubL.headA _ _ | refine SubL.keepA ?_ _ | refine SubL.skip ?_ | refine SubL.skipA ?_ _)
    cases hb
    · have t1 : (!false) = true := rfl
      rw [if_pos (by rfl)] at hstep
      clear fin
      repeat' (first | (refine wlS ?_) | (refine wlB ?_) | ((with_reducible refine sel_call ?_); refine wl_rd rfl rfl (rd_call rfl rfl rfl (fun w hm => by with_reducible first | exact CM w (Mem.belowO hm (by with_reducible assumption) (by with_reducible assumption)) | exact CH w (Mem.belowO hm (by with_reducible assumption) (by with_reducible assumption)))) ?_) | (refine wlE ?_) | (refine efSvvp ?_; intro v hv hp) | (refine efSvao ?_; intro v oa ho) | (refine efBnn ?_; intro n hn) | (refine efB ?_) | (refine efBS ?_) | (refine wl_skip rfl rfl ?_) | ((with_reducible refine wr_seq ?_); intro K hK) | (refine auCR ?_) | (refine auP ?_) | ((refine auR ?_); clear hK K) | (refine auR ?_) | ((with_reducible refine hK _ _ ?_); clear hK K) | (with_reducible refine endR_n ?_) | fail)
      refine ⟨_, ⟨_, _, rfl, by rw [hstep, hol, List.length_append]; exact ho⟩, ?_⟩
      repeat (first | exact SubL.nil | exact SubL.refl _ | refine SubL.keep ?_ | exact SubL.headA _ _ | refine SubL.keepA ?_ _ | refine SubL.skip ?_ | refine SubL.skipA ?_ _)
    · have t1 : (!true) = false := rfl
      repeat' (first | (refine wlS ?_) | (refine wlB ?_) | ((with_reducible refine sel_call ?_); refine wl_rd rfl rfl (rd_call rfl rfl rfl (fun w hm => by with_reducible first | exact CM w (Mem.belowO hm (by with_reducible assumption) (by with_reducible assumption)) | exact CH w (Mem.belowO hm (by with_reducible assumption) (by with_reducible assumption)))) ?_) | (refine wlE ?_) | (refine efSvvp ?_; intro v hv hp) | (refine efSvao ?_; intro v oa ho) | (refine efBnn ?_; intro n hn) | (refine efB ?_) | (refine efBS ?_) | (refine wl_skip rfl rfl ?_) | ((with_reducible refine wr_seq ?_); intro K hK) | (refine auCR ?_) | (refine auP ?_) | ((refine auR ?_); clear hK K) | (refine auR ?_) | ((with_reducible refine hK _ _ ?_); clear hK K) | (with_reducible refine endR_n ?_) | fail)
      refine fin _ rfl ?_
      repeat (first | exact SubL.nil | exact SubL.refl _ | refine SubL.keep ?_ | exact SubL.headA _ _ | refine SubL.keepA ?_ _ | refine SubL.skip ?_ | refine SubL.skipA ?_ _)
  · rintro W2 oa2 ⟨u, oL, rfl, hOL⟩ hbl
    rw [List.take_length] at hOL
    refine ⟨u, oL, hOL, .skip (.skip (.skip (SubL.refl _))), ?_⟩
    refine wt_rd (u := u) rfl rfl rfl ?_ ?_
    · exact rd_load rfl rfl ld_cell
    · refine wt_rd (u := u) rfl rfl rfl (rd_assign rfl rfl) (wt_nil rfl)
end Go.Proofs.Ytjianfhodjapgaa
namespace Go.Proofs.Ytjianfhodjapgaa
open Go.RowKit
set_option linter.unusedVariables false
set_option linter.unusedSimpArgs false
theorem getA_app {a b : List Ab} {k : Int} (h : (getA a k).isSome = true) : (getA (a ++ b) k).isSome = true := by
  unfold getA at *
  rw [Option.isSome_map] at *
  rw [List.find?_append]
  cases hf : a.find? (fun x => x.1 == k) with
  | none => rw [hf] at h; cases h
  | some x => rfl
theorem fitsK_app {a b : List Att} {x : Kp} (h : fitsK (a ++ b) x = true) : fitsK a x = true := by
  unfold fitsK at *
  rw [match_app, abs_app] at h
  simp only [Bool.and_eq_true] at h ⊢
  obtain ⟨⟨h1, _⟩, h3⟩ := h
  refine ⟨h1, ?_⟩
  cases hg : (getA (abs a) 4).isSome with
  | false => rfl
  | true => rw [getA_app hg] at h3; exact h3
theorem findK_app {m : List Kp} {a b : List Att} {z : Int} (h : z ∈ findK m (a ++ b)) : z ∈ findK m a := by
  unfold findK at *
  obtain ⟨x, hx, rfl⟩ := List.mem_map.1 h
  obtain ⟨h1, h2⟩ := List.mem_filter.1 hx
  exact List.mem_map_of_mem (List.mem_filter.2 ⟨h1, fitsK_app h2⟩)
theorem findK_nil (m : List Kp) : findK m [] = m.map (·.1) := by
  unfold findK
  rw [List.filter_eq_self.2 fun x hx => ?_]
  unfold fitsK
  rw [match_nil]
  rfl
/-- What is found hangs on what is told alone. -/
def fitsO (ask : List Ab) (x : Ho) : Bool := matchA x.2.2 ask && !((getA ask 4).isSome && hiddenB x.2.2)
theorem fitsK_abs (ask : List Att) (x : Kp) : fitsK ask x = fitsO (abs ask) (absK x) := by
  unfold fitsK fitsO
  rw [match_abs]
  rfl
theorem findK_abs (m : List Kp) (ask : List Att) : findK m ask = ((m.map absK).filter (fitsO (abs ask))).map (·.1) := by
  unfold findK
  rw [List.filter_map, List.map_map]
  have e : (fitsK ask) = (fitsO (abs ask) ∘ absK) := funext fun x => fitsK_abs ask x
  rw [e]
  rfl
theorem StoOk.sorted {S : Sto} (h : StoOk S) : (S.m.map (·.1)).Pairwise (· ≤ ·) := h.rise.imp fun h => by omega
theorem ats_oneS {w : World} {v : Value} {l : List Att} (h : Ats w v l) : ∀ y ∈ atsC l, y.oneCell' = true := fun y hy => by
  obtain ⟨a, ha, hy⟩ := List.mem_flatten.1 hy
  obtain ⟨x, hx, rfl⟩ := List.mem_map.1 ha
  simp only [atC, List.mem_cons, List.not_mem_nil, or_false] at hy
  rcases hy with rfl | rfl
  · rfl
  · exact ats_one h x hx
end Go.Proofs.Ytjianfhodjapgaa
namespace Go.Proofs.Ytjianfhodjapgaa
open Go.RowKit
set_option linter.unusedVariables false
set_option linter.unusedSimpArgs false
set_option maxRecDepth 100000
theorem indexI_c (w : World) {v : Value} {n : Nat} {xs : List Int} {x : Int} (hv : Cs w v n (xs.map (Value.int .i64))) (hl : xs.length = n) (hn : n ≤ 1000000) (hx : x ∈ xs) :
    Calls Try.prog 30 [v, .int .i64 x].toArray w (RetO (fun j : Nat => .int .i64 (j : Int)) (fun _ oa => oa = []) w) := by
  haveI := hv.old
  clear hv
  refine fn_own (N := _) Try.func30 rfl Try.ntmps30 Try.results30 (by simp) ?_
  simp only [initS, Nat.reduceAdd, Nat.zero_add]
  repeat' (first | (refine wlS ?_) | (refine wlB ?_) | (refine wlE ?_) | (refine efSvao ?_; intro v oa ho) | (refine wl_skip rfl rfl ?_) | ((with_reducible refine wc_seq ?_); intro K hK) | (refine auC ?_) | (refine wc_cond rfl (fun hc => ?_) (fun hc => ?_)) | (refine wc_draw (by kernel_rfl) (by kernel_rfl) (by decide +kernel) ?_; intro w0 hw0 hm0; (try simp only [List.append_eq, List.cons_append, List.nil_append])) | (refine auP ?_) | ((refine auR ?_); clear hK K) | (refine auR ?_) | ((with_reducible refine hK _ _ ?_); clear hK K) | fail)
  refine wc_loop (σ := Nat) (fun i => [(0, v), (1, .int .i64 x), (7, .int .i64 (n : Int)), (8, .int .i64 (i : Int))]) (fun _ => [])
    (fun i => i ≤ n ∧ x ∈ xs.drop i) (fun i => n - i) 0 ⟨Nat.zero_le _, by simpa using hx⟩ (Fits.of ⟨rfl, rfl, rfl, rfl, trivial⟩ .nil rfl) ?_
  rintro i ⟨hi, hm⟩
  have hlt : i < n := by
    rcases Nat.lt_or_ge i n with h | h
    · exact h
    · rw [List.drop_of_length_le (by omega)] at hm; cases hm
  have t2 : decide ((i : Int) < (n : Int)) = true := decide_eq_true (by omega)
  have t3 : IntKind.i64.wrap ((i : Int) + 1) = ((i + 1 : Nat) : Int) := by rw [wrap_i64 _ (by omega) (by omega)]; omega
  have j1 : (i : Int) < (n : Int) := by omega
  obtain ⟨x0, hx0⟩ : ∃ x, xs[i]? = some x := ⟨xs[i], List.getElem?_eq_getElem (by omega)⟩
  have g0 := map_at hx0
  by_cases he : x = x0
  · have t4 : (x == x0) = true := by simpa using he
    repeat' (first | (refine wlS ?_) | (refine wlB ?_) | (refine wlE ?_) | (refine efSvao ?_; intro v oa ho) | (refine wl_skip rfl rfl ?_) | ((with_reducible refine wc_seq ?_); intro K hK) | (refine auC ?_) | (refine wc_cond rfl (fun hc => ?_) (fun hc => ?_)) | (refine wc_draw (by kernel_rfl) (by kernel_rfl) (by decide +kernel) ?_; intro w0 hw0 hm0; (try simp only [List.append_eq, List.cons_append, List.nil_append])) | (refine auP ?_) | ((refine auR ?_); clear hK K) | (refine auR ?_) | ((with_reducible refine hK _ _ ?_); clear hK K) | fail)
    first | refine end_ret (ResP.tmp rfl ResP.nil) ?_ | refine end_normal (ResP.tmp rfl ResP.nil) ?_
    (try dsimp only [tupV])
    exact ⟨i, [], rfl, rfl, .nil⟩
  · have t4 : (x == x0) = false := by simpa using he
    have hm2 : x ∈ xs.drop (i + 1) := by
      have h1 : xs.drop i = x0 :: xs.drop (i + 1) := by rw [List.drop_eq_getElem_cons (by omega), (List.getElem?_eq_some_iff.1 hx0).2]
      rw [h1] at hm
      rcases List.mem_cons.1 hm with h | h
      · exact absurd h he
      · exact h
    repeat' (first | (refine wlS ?_) | (refine wlB ?_) | (refine wlE ?_) | (refine efSvao ?_; intro v oa ho) | (refine wl_skip rfl rfl ?_) | ((with_reducible refine wc_seq ?_); intro K hK) | (refine auC ?_) | (refine wc_cond rfl (fun hc => ?_) (fun hc => ?_)) | (refine wc_draw (by kernel_rfl) (by kernel_rfl) (by decide +kernel) ?_; intro w0 hw0 hm0; (try simp only [List.append_eq, List.cons_append, List.nil_append])) | (refine auP ?_) | ((refine auR ?_); clear hK K) | (refine auR ?_) | ((with_reducible refine hK _ _ ?_); clear hK K) | fail)
    exact ⟨i + 1, ⟨hlt, hm2⟩, by omega, Fits.of ⟨rfl, rfl, rfl, rfl, trivial⟩ .nil rfl⟩
theorem containsI_c (w : World) {v : Value} {n : Nat} {xs : List Int} {z : Int} (hv : Cs w v n (xs.map (Value.int .i64))) (hl : xs.length = n) (hn : n ≤ 1000000) (hz : z ∈ xs) :
    Calls Try.prog 22 [v, .int .i64 z].toArray w (Ret (.bool true) w) := by
  have IC := fun w' (h : Below w.heap.size w w') => indexI_c w' (hv.below h) hl hn hz
  haveI := hv.ln
  have t1 : ∀ j : Nat, decide ((j : Int) ≥ 0) = true := fun j => decide_eq_true (by omega)
  clear hv
  refine fn_ret (N := _) Try.func22 rfl Try.ntmps22 Try.results22 (by simp) ?_
  simp only [initS, Nat.reduceAdd, Nat.zero_add]
  repeat' (first | (refine wlS ?_) | (refine wlB ?_) | (refine wlE ?_) | (refine efSvao ?_; intro v oa ho) | ((with_reducible refine sel_call ?_); first | (refine wl_newO rfl rfl rfl rfl rfl (fun w hm => by with_reducible exact IC w (hm.below rfl)) ?_; intro x oa hx)) | (refine wl_skip rfl rfl ?_) | ((with_reducible refine wc_seq ?_); intro K hK) | (refine auC ?_) | (refine wc_cond rfl (fun hc => ?_) (fun hc => ?_)) | (refine wc_draw (by kernel_rfl) (by kernel_rfl) (by decide +kernel) ?_; intro w0 hw0 hm0; (try simp only [List.append_eq, List.cons_append, List.nil_append])) | (refine auP ?_) | ((refine auR ?_); clear hK K) | (refine auR ?_) | ((with_reducible refine hK _ _ ?_); clear hK K) | fail)
  have t2 := t1 x
  repeat' (first | (refine wlS ?_) | (refine wlB ?_) | (refine wlE ?_) | (refine efSvao ?_; intro v oa ho) | (refine wl_skip rfl rfl ?_) | ((with_reducible refine wc_seq ?_); intro K hK) | (refine auC ?_) | (refine wc_cond rfl (fun hc => ?_) (fun hc => ?_)) | (refine wc_draw (by kernel_rfl) (by kernel_rfl) (by decide +kernel) ?_; intro w0 hw0 hm0; (try simp only [List.append_eq, List.cons_append, List.nil_append])) | (refine auP ?_) | ((refine auR ?_); clear hK K) | (refine auR ?_) | ((with_reducible refine hK _ _ ?_); clear hK K) | fail)
  first | refine end_ret (ResP.tmp rfl ResP.nil) ?_ | refine end_normal (ResP.tmp rfl ResP.nil) ?_
  first | rfl | (show _ = _; rfl) | (simp only [tupV, *]; done)
end Go.Proofs.Ytjianfhodjapgaa
