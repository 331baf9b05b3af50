/- attr.Over, walked. -/
import Derived.Test.YtlpalhagndmpjaaJnAB
namespace Go.Proofs.Ytlpalhagndmpjaa
open Go.RowKit
set_option linter.unusedVariables false
set_option linter.unusedSimpArgs false
set_option maxRecDepth 100000
set_option maxHeartbeats 2000000 in
theorem over_e1 (w : World) {u v : Value} {l t : List Att} {e : Int} (hl : Ats w u l) (ht : Ats w v t) (he : chkA (abs l) = e) (h0 : e ≠ 0) : Calls Try.prog 16 [u, v].toArray w (Ret (.tuple #[.slice none 0 0, .int .i64 e]) w) := by
  haveI := hl.old
  have CK := fun w' (h : Ats w' u l) => (show Calls Try.prog 13 [u].toArray w' (Ret (.int .i64 e) w') by rw [← he]; exact check_a w' h)
  have t1 : (e != 0) = true := by simpa using h0
  clear hl ht he
  refine fn_ret (N := _) Try.func16 rfl Try.ntmps16 Try.results16 (by simp) ?_
  simp only [initS, Nat.reduceAdd, Nat.zero_add]
  repeat' (first | (refine wlS ?_) | (refine wlB ?_) | ((with_reducible refine sel_call ?_); refine wl_rd rfl rfl (rd_call rfl rfl rfl (fun w hm => by with_reducible exact CK w (VwT.out w hm))) ?_) | (refine wlE ?_) | (refine efSvao ?_; intro v oa ho) | (refine efBnn ?_; intro n hn) | (refine efB ?_) | (refine efBS ?_) | (refine wl_skip rfl rfl ?_) | ((with_reducible refine wc_seq ?_); intro K hK) | (refine auC ?_) | (refine wc_cond rfl (fun hc => ?_) (fun hc => ?_)) | (refine wc_draw (by kernel_rfl) (by kernel_rfl) (by decide +kernel) ?_; intro w0 hw0 hm0; (try simp only [List.append_eq, List.cons_append, List.nil_append])) | (refine auP ?_) | ((refine auR ?_); clear hK K) | (refine auR ?_) | ((with_reducible refine hK _ _ ?_); clear hK K) | fail)
  first | refine end_ret (ResP.tmp rfl (ResP.tmp rfl ResP.nil)) ?_ | refine end_normal (ResP.tmp rfl (ResP.tmp rfl ResP.nil)) ?_
  first | rfl | (show _ = _; rfl) | (simp only [tupV, *]; done)
set_option maxHeartbeats 2000000 in
theorem over_e2 (w : World) {u v : Value} {l t : List Att} {e : Int} (hl : Ats w u l) (ht : Ats w v t) (hk : AbOk (abs l)) (he : chkA (abs t) = e) (h0 : e ≠ 0) : Calls Try.prog 16 [u, v].toArray w (Ret (.tuple #[.slice none 0 0, .int .i64 e]) w) := by
  haveI := hl.old
  haveI := ht.old
  have CK := fun w' (h : Ats w' u l) => (show Calls Try.prog 13 [u].toArray w' (Ret (.int .i64 0) w') by
    have := check_a w' h
    rwa [chkA_zero.2 hk] at this)
  have CT := fun w' (h : Ats w' v t) => (show Calls Try.prog 13 [v].toArray w' (Ret (.int .i64 e) w') by rw [← he]; exact check_a w' h)
  have t0 : ((0 : Int) != 0) = false := rfl
  have t1 : (e != 0) = true := by simpa using h0
  clear hl ht he hk
  refine fn_ret (N := _) Try.func16 rfl Try.ntmps16 Try.results16 (by simp) ?_
  simp only [initS, Nat.reduceAdd, Nat.zero_add]
  repeat' (first | (refine wlS ?_) | (refine wlB ?_) | ((with_reducible refine sel_call ?_); refine wl_rd rfl rfl (rd_call rfl rfl rfl (fun w hm => by with_reducible first | exact CK w (VwT.out w hm) | exact CT w (VwT.out w hm))) ?_) | (refine wlE ?_) | (refine efSvao ?_; intro v oa ho) | (refine efBnn ?_; intro n hn) | (refine efB ?_) | (refine efBS ?_) | (refine wl_skip rfl rfl ?_) | ((with_reducible refine wc_seq ?_); intro K hK) | (refine auC ?_) | (refine wc_cond rfl (fun hc => ?_) (fun hc => ?_)) | (refine wc_draw (by kernel_rfl) (by kernel_rfl) (by decide +kernel) ?_; intro w0 hw0 hm0; (try simp only [List.append_eq, List.cons_append, List.nil_append])) | (refine auP ?_) | ((refine auR ?_); clear hK K) | (refine auR ?_) | ((with_reducible refine hK _ _ ?_); clear hK K) | fail)
  first | refine end_ret (ResP.tmp rfl (ResP.tmp rfl ResP.nil)) ?_ | refine end_normal (ResP.tmp rfl (ResP.tmp rfl ResP.nil)) ?_
  first | rfl | (show _ = _; rfl) | (simp only [tupV, *]; done)
/-- The loop's state. -/
structure OvS where
  i : Nat
  al : List Att
  v : Value
  oo : Blks
structure OvS.Ok (W : World) (l t : List Att) (x : OvS) : Prop where
  le : x.i ≤ l.length
  own : OwnL 29 2 x.v x.al.length (atsC x.al) x.oo
  bod : BodF (Old W []) x.al
  eq : abs x.al = overA (abs (l.take x.i)) (abs t)
  len : x.al.length ≤ t.length + x.i
theorem overA_step (l t : List Ab) {i : Nat} {x : Ab} (h : l[i]? = some x) : overA (l.take (i + 1)) t = if getA t x.1 = none then overA (l.take i) t ++ [x] else overA (l.take i) t := by
  unfold overA
  rw [List.take_add_one, h, List.filter_append]
  split
  · rename_i hn
    rw [← List.append_assoc]; simp [hn]
  · rename_i hn
    cases hg : getA t x.1 with
    | none => exact absurd hg hn
    | some q => simp [hg]
set_option maxHeartbeats 8000000 in
theorem over_yes (w : World) {u v : Value} {l t : List Att} (hl : Ats w u l) (ht : Ats w v t) (hk : AbOk (abs l)) (hkt : AbOk (abs t)) :
    Calls Try.prog 16 [u, v].toArray w (RetO (fun y : Value => .tuple #[y, .int .i64 0]) (fun y oa => ∃ its, OwnT y its oa ∧ IsNorm (abs its) (overA (abs l) (abs t))) w) := by
  haveI i0 := hl.old
  haveI i1 := hl.cs.old
  haveI i2 := ht.old
  haveI i3 := ht.cs.old
  have CK := fun w' (h : Ats w' u l) => (show Calls Try.prog 13 [u].toArray w' (Ret (.int .i64 0) w') by
    have := check_a w' h
    rwa [chkA_zero.2 hk] at this)
  have CT := fun w' (h : Ats w' v t) => (show Calls Try.prog 13 [v].toArray w' (Ret (.int .i64 0) w') by
    have := check_a w' h
    rwa [chkA_zero.2 hkt] at this)
  have hll : l.length ≤ 24 := by have := hk.len; rwa [abs_len] at this
  have htl : t.length ≤ 24 := by have := hkt.len; rwa [abs_len] at this
  have hbl := hl.bodF
  have hbt := ht.bodF
  have h1t : ∀ y ∈ atsC t, y.oneCell' = true := fun y hy => by
    obtain ⟨x, hx, hy⟩ := List.mem_flatten.1 hy
    obtain ⟨z, hz, rfl⟩ := List.mem_map.1 hx
    simp only [atC, List.mem_cons, List.not_mem_nil, or_false] at hy
    rcases hy with rfl | rfl
    · rfl
    · exact ats_one ht z hz
  have h1l := ats_one hl
  have CA := fun w' (h : Cs w' v t.length (atsC t)) => clone_a w' h (atsC_len t) (by omega) h1t
  have FC := fun w' (h : Ats w' v t) (k : Int) => find_c w' (k := k) h
  have t0 : ((0 : Int) != 0) = false := rfl
  have hbody := hl.body
  clear hl ht
  refine fn_own (N := _) Try.func16 rfl Try.ntmps16 Try.results16 (by simp) ?_
  simp only [initS, Nat.reduceAdd, Nat.zero_add]
  repeat' (first | (refine wlS ?_) | (refine wlB ?_) | ((with_reducible refine sel_call ?_); refine wl_rd rfl rfl (rd_call rfl rfl rfl (fun w hm => by with_reducible first | exact CK w (VwT.out w hm) | exact CT w (VwT.out w hm))) ?_) | (refine wlE ?_) | (refine efSvao ?_; intro v oa ho) | ((with_reducible refine sel_call ?_); first | (refine wl_newO rfl rfl rfl rfl rfl (fun w hm => by with_reducible exact CA w (Vw.out w hm)) ?_; intro x oa hx)) | (refine efBnn ?_; intro n hn) | (refine efB ?_) | (refine efBS ?_) | (refine wl_skip rfl rfl ?_) | ((with_reducible refine wc_seq ?_); intro K hK) | (refine auC ?_) | (refine wc_cond rfl (fun hc => ?_) (fun hc => ?_)) | (refine wc_draw (by kernel_rfl) (by kernel_rfl) (by decide +kernel) ?_; intro w0 hw0 hm0; (try simp only [List.append_eq, List.cons_append, List.nil_append])) | (refine auP ?_) | ((refine auR ?_); clear hK K) | (refine auR ?_) | ((with_reducible refine hK _ _ ?_); clear hK K) | fail)
  obtain ⟨v8, rfl⟩ : ∃ v8, v8 = x := ⟨x, rfl⟩
  refine wc_loop (σ := OvS) (fun x => [(1, v), (8, x.v), (23, u), (24, .int .i64 (l.length : Int)), (25, .int .i64 (x.i : Int))]) (fun x => x.oo) (OvS.Ok w l t) (fun x => l.length - x.i) ⟨0, t, v8, oa⟩
    ⟨Nat.zero_le _, hx, hbt, by simp [overA, abs], by simp⟩ (Fits.of ⟨rfl, rfl, rfl, rfl, rfl, trivial⟩ (SubL.refl _) rfl) ?_
  clear CK CT CA hx
  rintro ⟨i, al, va, oo⟩ ⟨hi, ho, hb, he, hil⟩
  dsimp only at hi ho hb he hil ⊢
  by_cases hlt : i < l.length
  · obtain ⟨⟨k, bv, p⟩, hlx⟩ : ∃ x, l[i]? = some x := ⟨l[i]'(by omega), List.getElem?_eq_getElem _⟩
    have hmem := List.mem_of_getElem? hlx
    have hget := atsC_get hlx
    have hstep := overA_step (abs l) (abs t) (i := i) (x := (k, p)) (by simp [abs, hlx])
    have habt : ∀ n, abs (l.take n) = (abs l).take n := fun n => by simp [abs, List.map_take]
    rw [← habt, ← habt] at hstep
    haveI : One bv := ⟨h1l _ hmem⟩
    dsimp only at hget hstep
    have u1 : decide ((i : Int) < (l.length : Int)) = true := decide_eq_true (by omega)
    have u2 : IntKind.i64.wrap ((i : Int) + 1) = ((i + 1 : Nat) : Int) := by rw [wrap_i64 _ (by omega) (by omega)]; omega
    have j1 : (i : Int) < (l.length : Int) := by omega
    cases hg : getA (abs t) k with
    | none =>
      rw [if_pos hg, ← he] at hstep
      have FC1 := fun w' (h : Ats w' v t) => (show Calls Try.prog 35 [v, .int .i64 k].toArray w' (Ret (.int .i64 (-1)) w') by
        have := FC w' h k
        rwa [getA_none hg] at this)
      have u3 : decide ((-1 : Int) < 0) = true := rfl
      clear FC hbody hk hkt h1l
      repeat' (first | (refine wlS ?_) | (refine wlB ?_) | ((with_reducible refine sel_call ?_); refine wl_rd rfl rfl (rd_call rfl rfl rfl (fun w hm => by with_reducible exact FC1 w (VwT.out w hm))) ?_) | (refine wlE ?_) | (refine efSvao ?_; intro v oa ho) | (refine efZCnn ?_; intro n hn) | (refine efBnn ?_; intro n hn) | (refine efB ?_) | (refine efBS ?_) | (refine wl_skip rfl rfl ?_) | ((with_reducible refine wc_seq ?_); intro K hK) | (refine auC ?_) | (refine wc_cond rfl (fun hc => ?_) (fun hc => ?_)) | (refine wc_draw (by kernel_rfl) (by kernel_rfl) (by decide +kernel) ?_; intro w0 hw0 hm0; (try simp only [List.append_eq, List.cons_append, List.nil_append])) | (refine auP ?_) | ((refine auR ?_); clear hK K) | (refine auR ?_) | ((with_reducible refine hK _ _ ?_); clear hK K) | fail)
      refine ⟨⟨i + 1, al ++ [(k, bv, p)], v, oa⟩, ⟨hlt, by dsimp only; rw [atsC_app, List.length_append]; exact ho, fun y hy => ?_, by dsimp only; rw [hstep, abs_app]; rfl, by simp; omega⟩, by dsimp only; omega, Fits.of ⟨rfl, rfl, rfl, rfl, rfl, trivial⟩ ?_ rfl⟩
      · rcases List.mem_append.1 hy with hy | hy
        · exact hb y hy
        · simp only [List.mem_singleton] at hy
          subst hy
          exact hbl _ hmem
      · dsimp only
        repeat (first | exact SubL.nil | exact SubL.refl _ | refine SubL.keep ?_ | exact SubL.headA _ _ | refine SubL.keepA ?_ _ | refine SubL.skip ?_ | refine SubL.skipA ?_ _)
    | some q =>
      rw [if_neg (by rw [hg]; simp), ← he] at hstep
      obtain ⟨j, _, hj, _⟩ := getA_some hg
      have FC1 := fun w' (h : Ats w' v t) => (show Calls Try.prog 35 [v, .int .i64 k].toArray w' (Ret (.int .i64 (j : Int)) w') by
        have := FC w' h k
        rwa [hj] at this)
      have u3 : decide ((j : Int) < 0) = false := decide_eq_false (by omega)
      clear FC hbody hk hkt h1l
      repeat' (first | (refine wlS ?_) | (refine wlB ?_) | ((with_reducible refine sel_call ?_); refine wl_rd rfl rfl (rd_call rfl rfl rfl (fun w hm => by with_reducible exact FC1 w (VwT.out w hm))) ?_) | (refine wlE ?_) | (refine efSvao ?_; intro v oa ho) | (refine efZCnn ?_; intro n hn) | (refine efBnn ?_; intro n hn) | (refine efB ?_) | (refine efBS ?_) | (refine wl_skip rfl rfl ?_) | ((with_reducible refine wc_seq ?_); intro K hK) | (refine auC ?_) | (refine wc_cond rfl (fun hc => ?_) (fun hc => ?_)) | (refine wc_draw (by kernel_rfl) (by kernel_rfl) (by decide +kernel) ?_; intro w0 hw0 hm0; (try simp only [List.append_eq, List.cons_append, List.nil_append])) | (refine auP ?_) | ((refine auR ?_); clear hK K) | (refine auR ?_) | ((with_reducible refine hK _ _ ?_); clear hK K) | fail)
      refine ⟨⟨i + 1, al, va, oo⟩, ⟨hlt, ho, hb, by dsimp only; rw [hstep], by dsimp only; omega⟩, by dsimp only; omega, Fits.of ⟨rfl, rfl, rfl, rfl, rfl, trivial⟩ ?_ rfl⟩
      repeat (first | exact SubL.nil | exact SubL.refl _ | refine SubL.keep ?_ | exact SubL.headA _ _ | refine SubL.keepA ?_ _ | refine SubL.skip ?_ | refine SubL.skipA ?_ _)
  · obtain rfl : i = l.length := by omega
    have u1 : decide ((l.length : Int) < (l.length : Int)) = false := decide_eq_false (by omega)
    rw [List.take_length] at he
    haveI hA : AtF _ va al := AtF.mk' (OwnL.cs (h := ho)) hb
    have hok := over_ok hk hkt
    rw [← he] at hok
    have NC := fun w' (h : Ats w' va al) => norm_ok w' h hok
    rw [he] at NC
    clear FC hbody hk hkt h1l hok
    repeat' (first | (refine wlS ?_) | (refine wlB ?_) | (refine wlE ?_) | (refine efSvao ?_; intro v oa ho) | ((with_reducible refine sel_call ?_); first | (refine wl_newO rfl rfl rfl rfl rfl (fun w hm => by with_reducible exact NC w (VwT.out w hm)) ?_; intro x oa hx)) | (refine efBnn ?_; intro n hn) | (refine efB ?_) | (refine efBS ?_) | (refine wl_skip rfl rfl ?_) | ((with_reducible refine wc_seq ?_); intro K hK) | (refine auC ?_) | (refine wc_cond rfl (fun hc => ?_) (fun hc => ?_)) | (refine wc_draw (by kernel_rfl) (by kernel_rfl) (by decide +kernel) ?_; intro w0 hw0 hm0; (try simp only [List.append_eq, List.cons_append, List.nil_append])) | (refine auP ?_) | ((refine auR ?_); clear hK K) | (refine auR ?_) | ((with_reducible refine hK _ _ ?_); clear hK K) | fail)
    first | refine end_ret (ResP.tmp rfl (ResP.tmp rfl ResP.nil)) ?_ | refine end_normal (ResP.tmp rfl (ResP.tmp rfl ResP.nil)) ?_
    (try dsimp only [tupV])
    exact ⟨_, _, rfl, hx, by
      repeat (first | exact SubL.nil | exact SubL.refl _ | refine SubL.keep ?_ | exact SubL.headA _ _ | refine SubL.keepA ?_ _ | refine SubL.skip ?_ | refine SubL.skipA ?_ _)⟩
end Go.Proofs.Ytlpalhagndmpjaa
