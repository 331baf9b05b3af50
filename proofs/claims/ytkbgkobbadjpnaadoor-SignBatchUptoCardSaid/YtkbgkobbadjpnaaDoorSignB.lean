/- The package sign, walked: Batch. -/
import Derived.Test.YtkbgkobbadjpnaaDoorSignV
import Derived.Test.YtkbgkobbadjpnaaDoorRec
namespace Go.Proofs.YtkbgkobbadjpnaaDoor
open Go.RowKit
/-- A record, in a slice of records, as a row of its parts. -/
theorem ld_ORg {X : Cx} {l : Blks} {t n j k : Nat} {u : Value} {xs : List Value} {g : Sg} [hu : KD X.P t true] [hs : SZ X.P t k] [hv : Vw X l u n xs] (hj : (xs.drop j).take k = rwL g := by with_reducible assumption) (hc : (rwL g).length = k ∧ rwL g ≠ [] := by with_reducible assumption) : Ld X l t (elB u) (elO u + j) (.agg (rwA g)) := ld_OR hj hc.1 hc.2
theorem ld_numS {X : Cx} {l : Blks} {t n j y : Nat} {u : Value} {xs : List Value} [hu : KD X.P t true] [hs : SZ X.P t 4] [hv : Vw X l u n xs] (hj : (xs.drop j).take 4 = (numC y).toList := by with_reducible assumption) : Ld X l t (elB u) (elO u + j) (.agg (numC y)) :=
  ld_OR hj (numC_len y) (fun h => by have := numC_len y; rw [h] at this; simp at this)
attribute [local irreducible] rwA bys iw
set_option linter.unusedVariables false
set_option linter.unusedSimpArgs false
set_option maxRecDepth 100000
theorem numC_oneP (y : Nat) : ∀ u ∈ (numC y).toList, u.oneCell' = true := fun u hu => List.all_eq_true.1 (by rw [Array.all_toList]; exact (numC_cells y).one) u hu
def numE : Enc Nat 4 := ⟨fun y => (numC y).toList, fun y => numC_len y, numC_oneP⟩
/-- A text with its signature, as it lies. -/
abbrev SgV := { q : Nat × Value × Value // q.2.1.oneCell' = true ∧ q.2.2.oneCell' = true }
instance (priority := 500) seg_oneS {v : Value} [h : One v] : SegL #[v] 1 := ⟨rfl, by simp [h.out]⟩
abbrev sgG (k : Nat) (t s : Value) : Sg := [(32, bys (lb k)), (1, #[t]), (1, #[s])]
theorem sgG_ok {k : Nat} {t s : Value} (ht : t.oneCell' = true) (hs : s.oneCell' = true) : SgOk (sgG k t s) := by
  haveI : SegL #[t] 1 := ⟨rfl, by simp [ht]⟩
  haveI : SegL #[s] 1 := ⟨rfl, by simp [hs]⟩
  exact inferInstance
def sgE : Enc SgV 34 := ⟨fun q => rwL (sgG q.1.1 q.1.2.1 q.1.2.2), fun q => rwL_len (sgG_ok q.2.1 q.2.2), fun q y hy => List.all_eq_true.1 (rwL_one (sgG_ok q.2.1 q.2.2)) y hy⟩
instance one_nilS : One (.slice none 0 0) := ⟨rfl⟩
instance zg_signed : ZG Tryd.prog 57 [(32, bys (List.replicate 32 0)), (1, #[.slice none 0 0]), (1, #[.slice none 0 0])] := ⟨by kernel_rfl, inferInstance⟩
def bsum (ss ws : List Nat) : Nat → Nat
  | 0 => 0
  | i + 1 => sadd (bsum ss ws i) (smul (ws.getD i 0) (ss.getD i 0))
def ball (ts : List Pt) (ws : List Nat) : Nat → Pt
  | 0 => Pt.zero
  | i + 1 => (ball ts ws i).add ((ts.getD i Pt.zero).times (ws.getD i 0))
theorem bsum_L (ss ws : List Nat) : ∀ i, bsum ss ws i < SLn
  | 0 => SL_pos
  | _ + 1 => sadd_L _ _
theorem bsum_lt (ss ws : List Nat) (i : Nat) : bsum ss ws i < T256 := Nat.lt_trans (bsum_L _ _ _) SL_T
theorem ball_on {ts : List Pt} (h : ∀ t ∈ ts, t.on) (ws : List Nat) : ∀ i, i ≤ ts.length → (ball ts ws i).on
  | 0, _ => zero_on
  | i + 1, hi => add_on (ball_on h ws i (by omega)) (times_on (h _ (by simp [List.getD, show i < ts.length by omega])) _)
/-- One text and its signature, which says something. -/
structure Sgn where
  k : Nat
  f : Nat
  s : Nat
  tv : Value
  n : Nat
  p : List Nat
  sv : Value
def Sgn.T (e : Sgn) : Pt := tP e.k e.f e.p
structure SgnOk (w : World) (e : Sgn) : Prop where
  k : e.k < T256
  f : e.f < T256
  s : e.s < T256
  ok : clOk e.k e.f e.s
  n : e.n ≤ 1048576
  tv : Cb w e.tv e.n e.p
  sv : Cb w e.sv 64 (lb e.f ++ lb e.s)
theorem Cb.oneC {w : World} {v : Value} {n : Nat} {p : List Nat} (h : Cb w v n p) : v.oneCell' = true := by
  obtain ⟨_, _, rfl, _⟩ := h.cs.ln.out; rfl
/-- They lie in this slice. -/
structure SgnsAt (w : World) (v : Value) (es : List Sgn) : Prop where
  cs : ∃ qs : List SgV, qs.map (·.1) = es.map (fun e => (e.k, e.tv, e.sv)) ∧ Cs w v es.length (recs sgE qs)
  ok : ∀ e ∈ es, SgnOk w e
set_option maxHeartbeats 32000000 in
theorem batch_c (w : World) (hT : Tab w) {v : Value} {es : List Sgn} (hv : SgnsAt w v es) {u : Value} {ws : List Nat} (hu : Cs w u ws.length (recs numE ws)) (hw : ∀ y ∈ ws, y < T256) (hl : ws.length = es.length) (h20 : es.length ≤ 20) {E : Int}
    (hE : (Pt.base.times (bsum (es.map (·.s)) ws es.length) = ball (es.map (·.T)) ws es.length ∧ E = 0) ∨ (Pt.base.times (bsum (es.map (·.s)) ws es.length) ≠ ball (es.map (·.T)) ws es.length ∧ E = 5)) :
    Calls Tryd.prog 26 [v, u].toArray w (Ret (.int .i64 E) w) := by
  obtain ⟨⟨qs, hqs, hvc⟩, hok⟩ := hv
  have i1 := hvc.old
  have i2 := hu.old
  have hql : qs.length = es.length := by have := congrArg List.length hqs; simpa using this
  have t1 : decide ((es.length : Int) > 20) = false := decide_eq_false (by omega)
  have t2 : ((es.length : Int) != (ws.length : Int)) = false := by rw [hl]; simp
  have ZP := zero_c
  have BC := base_c
  have onT : ∀ t ∈ es.map (·.T), t.on := fun t ht => by
    obtain ⟨e, he, rfl⟩ := List.mem_map.1 ht
    exact tP_on (s := e.s) (hok e he).k (hok e he).f (hok e he).ok e.p
  have onA := fun i hi => ball_on onT ws i hi
  rw [List.length_map] at onA
  have hb0 : bsum (es.map (·.s)) ws 0 = 0 := rfl
  have ha0 : ball (es.map (·.T)) ws 0 = Pt.zero := rfl
  obtain ⟨m, hm⟩ : ∃ m, m = es.length := ⟨_, rfl⟩
  rw [← hm] at t1 t2 i1 hE onA hql hl h20
  rw [hl] at i2 t2
  refine fn_ret (N := _) Tryd.func26 rfl Tryd.ntmps26 Tryd.results26 (by simp) ?_
  simp only [initS, Nat.reduceAdd, Nat.zero_add]
  repeat' (first | (refine wlS ?_) | (refine wlR ?_) | (refine wlB ?_) | (refine wlNB ?_) | ((with_reducible refine sel_call ?_); refine wl_rd rfl rfl (rd_call rfl rfl rfl (fun w hm => by with_reducible exact ZP w)) ?_) | (refine wlNL ?_) | (refine wlE ?_) | (refine efSvao ?_; intro v oa ho) | (refine efR ?_) | (refine efZCnn ?_; intro n hn) | (refine efBnn ?_; intro n hn) | (refine efB ?_) | (refine efBS ?_) | (refine wl_skip rfl rfl ?_) | (refine wdS ?_) | (refine wdR ?_) | (refine wdV ?_) | (refine wdB ?_) | ((with_reducible refine seld_call ?_); refine wd_rd hm0 rfl rfl rfl rfl (rd_call rfl rfl rfl (fun w hm => by with_reducible exact ZP w)) ?_) | (refine wdE ?_) | (refine wd_allocC hm0 rfl rfl rfl ?_; intro n hn hn0) | (refine wd_alloc hm0 rfl rfl rfl ?_; intro n hn hn0) | (refine wdT ?_) | (refine wdTO ?_) | (refine wd_skip rfl rfl ?_) | ((with_reducible refine seld_nil ?_); refine wd_nil hm0 ?_; clear hm0 hw0) | ((with_reducible refine wc_seq ?_); intro K hK) | (refine auC ?_) | (refine wc_cond rfl (fun hc => ?_) (fun hc => ?_)) | (refine wc_draw (by kernel_rfl) (by kernel_rfl) (by decide +kernel) ?_; intro w0 hw0 hm0; (try simp only [List.append_eq, List.cons_append, List.nil_append])) | (refine auP ?_) | ((refine auR ?_); clear hK K) | (refine auR ?_) | ((with_reducible refine hK _ _ ?_); clear hK K) | fail)
  rename_i n5 _
  obtain ⟨n6, rfl⟩ : ∃ n6, n6 = n := ⟨n, rfl⟩
  refine wc_loop (σ := Nat) (fun i => [(1, u), (5, ptr n5), (6, ptr n6), (24, v), (25, .int .i64 (m : Int)), (26, .int .i64 (i : Int))])
    (fun i => [(n6, (rowC [(ball (es.map (·.T)) ws i).x, (ball (es.map (·.T)) ws i).y], 36)), (n5, (numC (bsum (es.map (·.s)) ws i), 29))])
    (fun i => i ≤ m) (fun i => m - i) 0 (Nat.zero_le _) (Fits.of ⟨rfl, rfl, rfl, rfl, rfl, rfl, trivial⟩ (by rw [hb0, ha0]; exact SubL.refl _) rfl) ?_
  intro i hi
  by_cases hlt : i < m
  · obtain ⟨e, he⟩ : ∃ e, es[i]? = some e := ⟨es[i]'(by omega), List.getElem?_eq_getElem _⟩
    obtain ⟨y, hy⟩ : ∃ y, ws[i]? = some y := ⟨ws[i]'(by omega), List.getElem?_eq_getElem _⟩
    obtain ⟨q, hq⟩ : ∃ q, qs[i]? = some q := ⟨qs[i]'(by omega), List.getElem?_eq_getElem _⟩
    have hqe : q.1 = (e.k, e.tv, e.sv) := by
      have := congrArg (·[i]?) hqs
      simp only [List.getElem?_map, hq, he, Option.map_some, Option.some.injEq] at this
      exact this
    have ho := hok e (List.mem_of_getElem? he)
    have hyT := hw y (List.mem_of_getElem? hy)
    have hget : ((recs sgE qs).drop (i * 34)).take 34 = rwL (sgG e.k e.tv e.sv) := by
      rw [recs_get sgE hq]
      show rwL (sgG q.1.1 q.1.2.1 q.1.2.2) = _
      rw [hqe]
    have hgl : (rwL (sgG e.k e.tv e.sv)).length = 34 := by rw [← hget, recs_get sgE hq]; exact sgE.len q
    have hgc : (rwL (sgG e.k e.tv e.sv)).length = 34 ∧ rwL (sgG e.k e.tv e.sv) ≠ [] := ⟨hgl, fun h => by rw [h] at hgl; simp at hgl⟩
    clear hgl
    have hnum : ((recs numE ws).drop (i * 4)).take 4 = (numC y).toList := recs_get numE hy
    haveI j1 := ho.tv.old
    haveI j2 := ho.sv.old
    have CL : ∀ w'', Below w.heap.size w w'' → Cb w'' e.tv e.n e.p → Cb w'' e.sv 64 (lb e.f ++ lb e.s) → Calls Tryd.prog 37 [.agg (bys (lb e.k)), e.tv, e.sv].toArray w'' (Ret (.tuple #[nu e.s, pv e.T, .int .i64 0]) w'') := fun w'' h1 h2 h3 => claim_ok w hT w'' h1 e.k e.f e.s ho.k ho.f ho.s ho.ok h2 ho.n h3
    have on1 : e.T.on := onT _ (List.mem_map.2 ⟨e, List.mem_of_getElem? he, rfl⟩)
    have MC := mulS y e.s hyT ho.s
    have AC := addS (bsum (es.map (·.s)) ws i) (smul y e.s) (bsum_lt _ _ _) (smul_lt _ _)
    have TC := times_yes y hyT on1.red.lt on1
    have on2 := times_on on1 y
    have on3 := onA i (by omega)
    have PC := add_yes on3.red.lt on3 on2.red.lt on2
    have hbs : bsum (es.map (·.s)) ws (i + 1) = sadd (bsum (es.map (·.s)) ws i) (smul y e.s) := by
      show sadd _ (smul (ws.getD i 0) ((es.map (·.s)).getD i 0)) = _
      simp [List.getD, hy, he]
    have hba : ball (es.map (·.T)) ws (i + 1) = (ball (es.map (·.T)) ws i).add (e.T.times y) := by
      show (ball _ _ _).add (((es.map (·.T)).getD i Pt.zero).times (ws.getD i 0)) = _
      simp [List.getD, hy, he]
    have u1 : decide ((i : Int) < (m : Int)) = true := decide_eq_true (by omega)
    have u2 : IntKind.i64.wrap ((i : Int) + 1) = ((i + 1 : Nat) : Int) := by rw [wrap_i64 _ (by omega) (by omega)]; omega
    have l1 : (i : Int) < (m : Int) := by omega
    have z0 : ((0 : Int) != 0) = false := rfl
    have okT : Ln e.tv e.n := j1.cs.ln
    have okS : Ln e.sv 64 := j2.cs.ln
    clear hok hw hE onA onT hqs hvc hu hqe ho hT hyT on1 on2 on3 hq hy he
    generalize recs sgE qs = cs at *
    generalize recs numE ws = cn at *
    generalize ball (es.map (·.T)) ws i = P0 at *
    generalize bsum (es.map (·.s)) ws i = b0 at *
    generalize smul y e.s = ys at *
    generalize e.T.times y = P2 at *
    repeat' (first | (refine wlS ?_) | (refine wlG ?_) | (refine wlR ?_) | (refine wlB ?_) | (refine wlNB ?_) | ((with_reducible refine sel_load ?_); refine wv rfl rfl (rd_load rfl rfl ld_ORg) ?_) | ((with_reducible refine sel_load ?_); refine wv rfl rfl (rd_load rfl rfl ld_numS) ?_) | ((with_reducible refine sel_call ?_); refine wl_rd rfl rfl (rd_call rfl rfl rfl (fun w hm => by with_reducible first | exact CL w (hm.below rfl) (VwB.out w hm) (VwB.out w hm) | exact MC w | exact AC w | exact TC w | exact PC w)) ?_) | (refine wlE ?_) | (refine efSvao ?_; intro v oa ho) | (refine efG ?_) | (refine efGnn ?_; intro n hn) | (refine efR ?_) | (refine efZCnn ?_; intro n hn) | (refine efBnn ?_; intro n hn) | (refine efB ?_) | (refine efBS ?_) | (refine wl_skip rfl rfl ?_) | (refine wdS ?_) | (refine wdG ?_) | (refine wdR ?_) | (refine wdV ?_) | (refine wdB ?_) | ((with_reducible refine seld_load ?_); refine wdv hm0 rfl rfl rfl rfl (rd_load rfl rfl ld_ORg) ?_) | ((with_reducible refine seld_load ?_); refine wdv hm0 rfl rfl rfl rfl (rd_load rfl rfl ld_numS) ?_) | ((with_reducible refine seld_call ?_); refine wd_rd hm0 rfl rfl rfl rfl (rd_call rfl rfl rfl (fun w hm => by with_reducible first | exact CL w (hm.below rfl) (VwB.out w hm) (VwB.out w hm) | exact MC w | exact AC w | exact TC w | exact PC w)) ?_) | (refine wdE ?_) | (refine wd_allocC hm0 rfl rfl rfl ?_; intro n hn hn0) | (refine wd_alloc hm0 rfl rfl rfl ?_; intro n hn hn0) | (refine wdT ?_) | (refine wdTO ?_) | (refine wd_skip rfl rfl ?_) | ((with_reducible refine seld_nil ?_); refine wd_nil hm0 ?_; clear hm0 hw0) | ((with_reducible refine wc_seq ?_); intro K hK) | (refine auC ?_) | (refine wc_cond rfl (fun hc => ?_) (fun hc => ?_)) | (refine wc_draw (by kernel_rfl) (by kernel_rfl) (by decide +kernel) ?_; intro w0 hw0 hm0; (try simp only [List.append_eq, List.cons_append, List.nil_append])) | (refine auP ?_) | ((refine auR ?_); clear hK K) | (refine auR ?_) | ((with_reducible refine hK _ _ ?_); clear hK K) | fail)
    refine ⟨i + 1, hlt, by omega, Fits.of ⟨rfl, rfl, rfl, rfl, rfl, rfl, trivial⟩ ?_ rfl⟩
    rw [hbs, hba]
    repeat (first | exact SubL.nil | exact SubL.refl _ | refine SubL.keep ?_ | exact SubL.headA _ _ | refine SubL.keepA ?_ _ | refine SubL.skip ?_ | refine SubL.skipA ?_ _)
  · obtain rfl : i = m := by omega
    have u1 : decide ((i : Int) < (i : Int)) = false := decide_eq_false (by omega)
    have hbl := bsum_lt (es.map (·.s)) ws i
    have TC := times_yes (bsum (es.map (·.s)) ws i) hbl base_red.lt base_on
    have on1 := times_on base_on (bsum (es.map (·.s)) ws i)
    have on3 := onA i (Nat.le_refl _)
    rcases hE with ⟨h1, rfl⟩ | ⟨h1, rfl⟩
    · have q1 := eq_pt_yes on3.red.lt (rfl : ball (es.map (·.T)) ws i = ball (es.map (·.T)) ws i)
      rw [h1] at TC
      clear hok hw onA onT hqs hvc hu hT on1 on3 h1 hbl
      generalize ball (es.map (·.T)) ws i = P0 at *
      generalize bsum (es.map (·.s)) ws i = b0 at *
      generalize Pt.base = B at *
      repeat' (first | (refine wlS ?_) | (refine wlR ?_) | (refine wlB ?_) | ((with_reducible refine sel_b_neq ?_); refine wv rfl rfl (rd_neqV rfl rfl rfl (by with_reducible exact q1)) ?_) | (refine wlNB ?_) | ((with_reducible refine sel_call ?_); refine wl_rd rfl rfl (rd_call rfl rfl rfl (fun w hm => by with_reducible first | exact BC w | exact TC w)) ?_) | (refine wlE ?_) | (refine efSvao ?_; intro v oa ho) | (refine efR ?_) | (refine efZCnn ?_; intro n hn) | (refine efBnn ?_; intro n hn) | (refine efB ?_) | (refine efBS ?_) | (refine wl_skip rfl rfl ?_) | (refine wdS ?_) | (refine wdR ?_) | (refine wdV ?_) | (refine wdB ?_) | ((with_reducible refine seld_call ?_); refine wd_rd hm0 rfl rfl rfl rfl (rd_call rfl rfl rfl (fun w hm => by with_reducible first | exact BC w | exact TC w)) ?_) | (refine wdE ?_) | (refine wd_allocC hm0 rfl rfl rfl ?_; intro n hn hn0) | (refine wd_alloc hm0 rfl rfl rfl ?_; intro n hn hn0) | (refine wdT ?_) | (refine wdTO ?_) | (refine wd_skip rfl rfl ?_) | ((with_reducible refine seld_nil ?_); refine wd_nil hm0 ?_; clear hm0 hw0) | ((with_reducible refine wc_seq ?_); intro K hK) | (refine auC ?_) | (refine wc_cond rfl (fun hc => ?_) (fun hc => ?_)) | (refine wc_draw (by kernel_rfl) (by kernel_rfl) (by decide +kernel) ?_; intro w0 hw0 hm0; (try simp only [List.append_eq, List.cons_append, List.nil_append])) | (refine auP ?_) | ((refine auR ?_); clear hK K) | (refine auR ?_) | ((with_reducible refine hK _ _ ?_); clear hK K) | fail)
      first | refine end_ret (ResP.tmp rfl ResP.nil) ?_ | refine end_normal (ResP.tmp rfl ResP.nil) ?_
      first | rfl | (show _ = _; rfl) | (simp only [tupV, *]; done)
    · have q1 := eq_pt_no on1.red.lt on3.red.lt h1
      clear hok hw onA onT hqs hvc hu hT on1 on3 h1 hbl
      generalize Pt.base.times (bsum (es.map (·.s)) ws i) = P1 at *
      generalize ball (es.map (·.T)) ws i = P0 at *
      generalize bsum (es.map (·.s)) ws i = b0 at *
      generalize Pt.base = B at *
      repeat' (first | (refine wlS ?_) | (refine wlR ?_) | (refine wlB ?_) | ((with_reducible refine sel_b_neq ?_); refine wv rfl rfl (rd_neqV rfl rfl rfl (by with_reducible exact q1)) ?_) | (refine wlNB ?_) | ((with_reducible refine sel_call ?_); refine wl_rd rfl rfl (rd_call rfl rfl rfl (fun w hm => by with_reducible first | exact BC w | exact TC w)) ?_) | (refine wlE ?_) | (refine efSvao ?_; intro v oa ho) | (refine efR ?_) | (refine efZCnn ?_; intro n hn) | (refine efBnn ?_; intro n hn) | (refine efB ?_) | (refine efBS ?_) | (refine wl_skip rfl rfl ?_) | (refine wdS ?_) | (refine wdR ?_) | (refine wdV ?_) | (refine wdB ?_) | ((with_reducible refine seld_call ?_); refine wd_rd hm0 rfl rfl rfl rfl (rd_call rfl rfl rfl (fun w hm => by with_reducible first | exact BC w | exact TC w)) ?_) | (refine wdE ?_) | (refine wd_allocC hm0 rfl rfl rfl ?_; intro n hn hn0) | (refine wd_alloc hm0 rfl rfl rfl ?_; intro n hn hn0) | (refine wdT ?_) | (refine wdTO ?_) | (refine wd_skip rfl rfl ?_) | ((with_reducible refine seld_nil ?_); refine wd_nil hm0 ?_; clear hm0 hw0) | ((with_reducible refine wc_seq ?_); intro K hK) | (refine auC ?_) | (refine wc_cond rfl (fun hc => ?_) (fun hc => ?_)) | (refine wc_draw (by kernel_rfl) (by kernel_rfl) (by decide +kernel) ?_; intro w0 hw0 hm0; (try simp only [List.append_eq, List.cons_append, List.nil_append])) | (refine auP ?_) | ((refine auR ?_); clear hK K) | (refine auR ?_) | ((with_reducible refine hK _ _ ?_); clear hK K) | fail)
      first | refine end_ret (ResP.tmp rfl ResP.nil) ?_ | refine end_normal (ResP.tmp rfl ResP.nil) ?_
      first | rfl | (show _ = _; rfl) | (simp only [tupV, *]; done)
end Go.Proofs.YtkbgkobbadjpnaaDoor
