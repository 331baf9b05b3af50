/- rule.Make, walked. -/
import Derived.Test.YtlpalhagndmpjaaJnAC
import Derived.Test.YtlpalhagndmpjaaMissB
namespace Go.Proofs.Ytlpalhagndmpjaa
open Go.RowKit
set_option linter.unusedVariables false
set_option linter.unusedSimpArgs false
set_option maxRecDepth 100000
def ixN (ks : List Int) (k : Int) : Int := match ks.findIdx? fun z => k == z with
  | some i => (i : Int)
  | none => -1
theorem ixN_mem (ks : List Int) (k : Int) : decide (ixN ks k ≥ 0) = decide (k ∈ ks) := by
  unfold ixN
  cases h : ks.findIdx? fun z => k == z with
  | none =>
    rw [List.findIdx?_eq_none_iff] at h
    rw [decide_eq_decide]
    refine ⟨fun h' => absurd h' (by decide), fun hm => ?_⟩
    have := h k hm
    simp at this
  | some i =>
    rw [List.findIdx?_eq_some_iff_getElem] at h
    obtain ⟨h1, h2, _⟩ := h
    rw [decide_eq_decide]
    refine ⟨fun _ => ?_, fun _ => by show ((i : Nat) : Int) ≥ 0; omega⟩
    rw [show k = ks[i] by simpa using h2]
    exact List.getElem_mem h1
set_option maxHeartbeats 4000000 in
theorem index_i (w : World) {u : Value} {ks : List Int} {k : Int} (hu : Cs w u ks.length (ksC ks)) (hn : ks.length ≤ 1048576) : Calls Try.prog 53 [u, .int .i64 k].toArray w (Ret (.int .i64 (ixN ks k)) w) := by
  have i0 := hu.old
  clear hu
  refine fn_ret (N := _) Try.func53 rfl Try.ntmps53 Try.results53 (by simp) ?_
  simp only [initS, Nat.reduceAdd, Nat.zero_add]
  repeat' (first | (refine wlS ?_) | (refine wlB ?_) | (refine wlE ?_) | (refine efSvao ?_; intro v oa ho) | (refine wl_skip rfl rfl ?_) | ((with_reducible refine wc_seq ?_); intro K hK) | (refine auC ?_) | (refine wc_cond rfl (fun hc => ?_) (fun hc => ?_)) | (refine wc_draw (by kernel_rfl) (by kernel_rfl) (by decide +kernel) ?_; intro w0 hw0 hm0; (try simp only [List.append_eq, List.cons_append, List.nil_append])) | (refine auP ?_) | ((refine auR ?_); clear hK K) | (refine auR ?_) | ((with_reducible refine hK _ _ ?_); clear hK K) | fail)
  refine wc_loop (σ := Nat) (fun i => [(0, u), (1, .int .i64 k), (7, .int .i64 (ks.length : Int)), (8, .int .i64 (i : Int))]) (fun _ => [])
    (fun i => i ≤ ks.length ∧ ∀ j z, j < i → ks[j]? = some z → (k == z) = false) (fun i => ks.length - i) 0 ⟨Nat.zero_le _, fun j z hj => absurd hj (by omega)⟩ (Fits.of ⟨rfl, rfl, rfl, rfl, trivial⟩ .nil rfl) ?_
  rintro i ⟨hi, hno⟩
  by_cases hlt : i < ks.length
  · obtain ⟨z, hk⟩ : ∃ z, ks[i]? = some z := ⟨ks[i], List.getElem?_eq_getElem hlt⟩
    have hget := ksC_get hk
    have t1 : decide ((i : Int) < (ks.length : Int)) = true := decide_eq_true (by omega)
    have t2 : IntKind.i64.wrap ((i : Int) + 1) = ((i + 1 : Nat) : Int) := by rw [wrap_i64 _ (by omega) (by omega)]; omega
    have j1 : (i : Int) < (ks.length : Int) := by omega
    cases hz : (k == z) with
    | true =>
      have hf : ixN ks k = (i : Int) := by
        have : ks.findIdx? (fun z => k == z) = some i := by
          rw [List.findIdx?_eq_some_iff_getElem]
          refine ⟨hlt, ?_, fun j hj => ?_⟩
          · have := (List.getElem?_eq_some_iff.1 hk).2; rw [this]; exact hz
          · have := hno j _ hj (List.getElem?_eq_getElem (by omega)); simpa using this
        rw [ixN, this]
      rw [hf]
      clear hno
      repeat' (first | (refine wlS ?_) | (refine wlB ?_) | (refine wlE ?_) | (refine efSvao ?_; intro v oa ho) | (refine wl_skip rfl rfl ?_) | ((with_reducible refine wc_seq ?_); intro K hK) | (refine auC ?_) | (refine wc_cond rfl (fun hc => ?_) (fun hc => ?_)) | (refine wc_draw (by kernel_rfl) (by kernel_rfl) (by decide +kernel) ?_; intro w0 hw0 hm0; (try simp only [List.append_eq, List.cons_append, List.nil_append])) | (refine auP ?_) | ((refine auR ?_); clear hK K) | (refine auR ?_) | ((with_reducible refine hK _ _ ?_); clear hK K) | fail)
      first | refine end_ret (ResP.tmp rfl ResP.nil) ?_ | refine end_normal (ResP.tmp rfl ResP.nil) ?_
      first | rfl | (show _ = _; rfl) | (simp only [tupV, *]; done)
    | false =>
      have hno2 : ∀ j x, j < i + 1 → ks[j]? = some x → (k == x) = false := fun j x hj hjx => by
        rcases Nat.lt_or_ge j i with h1 | h1
        · exact hno j x h1 hjx
        · obtain rfl : j = i := by omega
          rw [hk] at hjx
          cases hjx
          exact hz
      repeat' (first | (refine wlS ?_) | (refine wlB ?_) | (refine wlE ?_) | (refine efSvao ?_; intro v oa ho) | (refine wl_skip rfl rfl ?_) | ((with_reducible refine wc_seq ?_); intro K hK) | (refine auC ?_) | (refine wc_cond rfl (fun hc => ?_) (fun hc => ?_)) | (refine wc_draw (by kernel_rfl) (by kernel_rfl) (by decide +kernel) ?_; intro w0 hw0 hm0; (try simp only [List.append_eq, List.cons_append, List.nil_append])) | (refine auP ?_) | ((refine auR ?_); clear hK K) | (refine auR ?_) | ((with_reducible refine hK _ _ ?_); clear hK K) | fail)
      exact ⟨i + 1, ⟨hlt, hno2⟩, by omega, Fits.of ⟨rfl, rfl, rfl, rfl, trivial⟩ .nil rfl⟩
  · obtain rfl : i = ks.length := by omega
    have t1 : decide ((ks.length : Int) < (ks.length : Int)) = false := decide_eq_false (by omega)
    have hf : ixN ks k = -1 := by
      have : ks.findIdx? (fun z => k == z) = none := by
        rw [List.findIdx?_eq_none_iff]
        intro x hx
        obtain ⟨j, hj, he⟩ := List.mem_iff_getElem.1 hx
        exact hno j x hj (by rw [List.getElem?_eq_getElem hj, he])
      rw [ixN, this]
    rw [hf]
    clear hno
    repeat' (first | (refine wlS ?_) | (refine wlB ?_) | (refine wlE ?_) | (refine efSvao ?_; intro v oa ho) | (refine wl_skip rfl rfl ?_) | ((with_reducible refine wc_seq ?_); intro K hK) | (refine auC ?_) | (refine wc_cond rfl (fun hc => ?_) (fun hc => ?_)) | (refine wc_draw (by kernel_rfl) (by kernel_rfl) (by decide +kernel) ?_; intro w0 hw0 hm0; (try simp only [List.append_eq, List.cons_append, List.nil_append])) | (refine auP ?_) | ((refine auR ?_); clear hK K) | (refine auR ?_) | ((with_reducible refine hK _ _ ?_); clear hK K) | fail)
    first | refine end_ret (ResP.tmp rfl ResP.nil) ?_ | refine end_normal (ResP.tmp rfl ResP.nil) ?_
    first | rfl | (show _ = _; rfl) | (simp only [tupV, *]; done)
set_option maxHeartbeats 4000000 in
theorem contains_i (w : World) {u : Value} {ks : List Int} {k : Int} (hu : Cs w u ks.length (ksC ks)) (hn : ks.length ≤ 1048576) : Calls Try.prog 41 [u, .int .i64 k].toArray w (Ret (.bool (decide (k ∈ ks))) w) := by
  have i0 := hu.old
  have IX := fun w' (hu : Cs w' u ks.length (ksC ks)) => index_i w' (k := k) hu hn
  have hd := ixN_mem ks k
  clear hu
  generalize ixN ks k = ix at *
  generalize decide (k ∈ ks) = r at *
  refine fn_ret (N := _) Try.func41 rfl Try.ntmps41 Try.results41 (by simp) ?_
  simp only [initS, Nat.reduceAdd, Nat.zero_add]
  repeat' (first | (refine wlS ?_) | (refine wlB ?_) | ((with_reducible refine sel_call ?_); refine wl_rd rfl rfl (rd_call rfl rfl rfl (fun w hm => by with_reducible exact IX w (Vw.out w hm))) ?_) | (refine wlE ?_) | (refine efSvao ?_; intro v oa ho) | (refine wl_skip rfl rfl ?_) | ((with_reducible refine wc_seq ?_); intro K hK) | (refine auC ?_) | (refine wc_cond rfl (fun hc => ?_) (fun hc => ?_)) | (refine wc_draw (by kernel_rfl) (by kernel_rfl) (by decide +kernel) ?_; intro w0 hw0 hm0; (try simp only [List.append_eq, List.cons_append, List.nil_append])) | (refine auP ?_) | ((refine auR ?_); clear hK K) | (refine auR ?_) | ((with_reducible refine hK _ _ ?_); clear hK K) | fail)
  first | refine end_ret (ResP.tmp rfl ResP.nil) ?_ | refine end_normal (ResP.tmp rfl ResP.nil) ?_
  first | rfl | (show _ = _; rfl) | (simp only [tupV, *]; done)
/-- What Make answers. -/
def MkP (t : List Ab) (loc : Bool) (x : Value × Int) (oa : Blks) : Prop := x.2 = makeE t loc ∧ ((x.2 ≠ 0 ∧ x.1 = .slice none 0 0 ∧ oa = []) ∨ (x.2 = 0 ∧ ∃ its, OwnT x.1 its oa ∧ abs its = makeL t loc))
/-- The second loop's state. -/
structure MkS where
  i : Nat
  its : List Att
  v : Value
  oo : Blks
  ob : Blks
structure MkS.Ok (L : List Ab) (x : MkS) : Prop where
  le : x.i ≤ L.length
  own : OwnL 29 2 x.v x.i (atsC x.its) x.oo
  bod : BodF (Hd x.ob) x.its
  eq : abs x.its = L.take x.i
  len : x.its.length = x.i
theorem MkS.Ok.step {L : List Ab} {x : MkS} (h : x.Ok L) {k : Int} {q : List Nat} (hx : L[x.i]? = some (k, q)) {v vb : Value} {oo oc : Blks} {e m : Nat} (ho : OwnL 29 2 v (x.i + 1) (atsC x.its ++ [.int .i64 k, vb]) oo) (hb : OwnB e vb m q oc) : MkS.Ok L ⟨x.i + 1, x.its ++ [(k, vb, q)], v, oo, x.ob ++ oc⟩ :=
  ⟨(List.getElem?_eq_some_iff.1 hx).1, by dsimp only; rw [atsC_app]; exact ho, h.bod.app (BodF.one hb), by dsimp only; rw [abs_app, h.eq, List.take_add_one, hx]; rfl, by simp [h.len]⟩
set_option maxHeartbeats 16000000 in
theorem make_c (w : World) {v : Value} {t : List Att} (loc : Bool) (h : Ats w v t) : Calls Try.prog 23 [v, .bool loc].toArray w (RetO (fun x : Value × Int => .tuple #[x.1, .int .i64 x.2]) (MkP (abs t) loc) w) := by
  haveI i0 := h.old
  haveI i1 := h.cs.old
  by_cases hc : chkA (abs t) ≠ 0
  · have CK := fun w' (h : Ats w' v t) => check_a w' h
    have t1 : (chkA (abs t) != 0) = true := by simpa using hc
    have e : chkA (abs t) = makeE (abs t) loc := by rw [makeE, if_pos hc]
    clear h
    refine fn_own (N := _) Try.func23 rfl Try.ntmps23 Try.results23 (by simp) ?_
    simp only [initS, Nat.reduceAdd, Nat.zero_add]
    repeat' (first | (refine wlS ?_) | (refine wlB ?_) | ((with_reducible refine sel_call ?_); refine wl_rd rfl rfl (rd_call rfl rfl rfl (fun w hm => by with_reducible exact CK w (VwT.out w hm))) ?_) | (refine wlE ?_) | (refine efSvao ?_; intro v oa ho) | (refine efBnn ?_; intro n hn) | (refine efB ?_) | (refine efBS ?_) | (refine wl_skip rfl rfl ?_) | ((with_reducible refine wc_seq ?_); intro K hK) | (refine auC ?_) | (refine wc_cond rfl (fun hc => ?_) (fun hc => ?_)) | (refine wc_draw (by kernel_rfl) (by kernel_rfl) (by decide +kernel) ?_; intro w0 hw0 hm0; (try simp only [List.append_eq, List.cons_append, List.nil_append])) | (refine auP ?_) | ((refine auR ?_); clear hK K) | (refine auR ?_) | ((with_reducible refine hK _ _ ?_); clear hK K) | fail)
    first | refine end_ret (ResP.tmp rfl (ResP.tmp rfl ResP.nil)) ?_ | refine end_normal (ResP.tmp rfl (ResP.tmp rfl ResP.nil)) ?_
    (try dsimp only [tupV])
    exact ⟨(.slice none 0 0, chkA (abs t)), [], rfl, ⟨e, .inl ⟨hc, rfl, rfl⟩⟩, .nil⟩
  have hc' : chkA (abs t) = 0 := Decidable.of_not_not hc
  have hk := chkA_zero.1 hc'
  have CK := fun w' (h : Ats w' v t) => (show Calls Try.prog 13 [v].toArray w' (Ret (.int .i64 0) w') by
    have := check_a w' h
    rwa [hc'] at this)
  have CO := fun w' (h : Ats w' v t) => class_c w' h hk
  have t0 : ((0 : Int) != 0) = false := rfl
  by_cases h0 : clsA (abs t) = 0
  · have e : (1 : Int) = makeE (abs t) loc := by rw [makeE, if_neg hc, if_pos h0]
    rw [h0] at CO
    have t1 : ((((0 : Nat) : Int)) == 0) = true := rfl
    clear h
    refine fn_own (N := _) Try.func23 rfl Try.ntmps23 Try.results23 (by simp) ?_
    simp only [initS, Nat.reduceAdd, Nat.zero_add]
    repeat' (first | (refine wlS ?_) | (refine wlB ?_) | ((with_reducible refine sel_call ?_); refine wl_rd rfl rfl (rd_call rfl rfl rfl (fun w hm => by with_reducible first | exact CK w (VwT.out w hm) | exact CO w (VwT.out w hm))) ?_) | (refine wlE ?_) | (refine efSvao ?_; intro v oa ho) | (refine efBnn ?_; intro n hn) | (refine efB ?_) | (refine efBS ?_) | (refine wl_skip rfl rfl ?_) | ((with_reducible refine wc_seq ?_); intro K hK) | (refine auC ?_) | (refine wc_cond rfl (fun hc => ?_) (fun hc => ?_)) | (refine wc_draw (by kernel_rfl) (by kernel_rfl) (by decide +kernel) ?_; intro w0 hw0 hm0; (try simp only [List.append_eq, List.cons_append, List.nil_append])) | (refine auP ?_) | ((refine auR ?_); clear hK K) | (refine auR ?_) | ((with_reducible refine hK _ _ ?_); clear hK K) | fail)
    first | refine end_ret (ResP.tmp rfl (ResP.tmp rfl ResP.nil)) ?_ | refine end_normal (ResP.tmp rfl (ResP.tmp rfl ResP.nil)) ?_
    (try dsimp only [tupV])
    exact ⟨((.slice none 0 0 : Value), (1 : Int)), [], rfl, ⟨e, .inl ⟨by decide, rfl, rfl⟩⟩, .nil⟩
  have t1 : ((clsA (abs t) : Int) == 0) = false := by simp only [beq_eq_false_iff_ne, ne_eq]; omega
  have KD := fun w' => kinds_c w' (clsA (abs t))
  have hone := ats_one h
  have hKl := kinds_len (clsA (abs t))
  have CT := fun w' {u : Value} (k : Int) (hu : Cs w' u (kindsA (clsA (abs t))).length (ksC (kindsA (clsA (abs t))))) => contains_i w' (k := k) hu (by omega)
  have GN := fun {k : Int} (hg : getA (abs t) k = none) w' (h : Ats w' v t) => get_no w' h hg
  have GY := fun {k : Int} {q : List Nat} (hg : getA (abs t) k = some q) w' (h : Ats w' v t) => get_yesA w' h hk hg
  have MS := fun (k : Int) w' (h : Ats w' v t) => miss_c w' k (clsA (abs t)) loc h hk
  have SZ := fun w' (n : Nat) (hn : n ≤ 1048576) => sized_c w' (clsA (abs t)) n hn
  have htl : t.length ≤ 24 := by have := hk.len; rwa [abs_len] at this
  have hL : (makeL (abs t) loc).length = (kindsA (clsA (abs t))).length := by rw [makeL, List.length_map]
  have hLx : ∀ i k, (kindsA (clsA (abs t)))[i]? = some k → (makeL (abs t) loc)[i]? = some (k, (getA (abs t) k).getD (missA (abs t) k (clsA (abs t)) loc)) := fun i k hi => by rw [makeL, List.getElem?_map, hi]; rfl
  have hme : makeE (abs t) loc = if mkEach (kindsA (clsA (abs t))) (abs t) ≠ 0 then mkEach (kindsA (clsA (abs t))) (abs t) else if getA (abs t) 4 = none then 3 else if sizedB (clsA (abs t)) (valN (abs t)) = false then 4 else if validB (makeL (abs t) loc) = false then 12 else 0 := by
    rw [makeE, if_neg hc, if_neg h0]
  have hmk := fun h4 => (make_ok loc hk h0 h4).1
  obtain ⟨ME, hME⟩ : ∃ e, e = makeE (abs t) loc := ⟨_, rfl⟩
  obtain ⟨ML, hML⟩ : ∃ e, e = makeL (abs t) loc := ⟨_, rfl⟩
  have hPhi : ∀ x oa, (x.2 = ME ∧ ((x.2 ≠ 0 ∧ x.1 = .slice none 0 0 ∧ oa = []) ∨ (x.2 = 0 ∧ ∃ its, OwnT x.1 its oa ∧ abs its = ML))) → MkP (abs t) loc x oa := fun x oa h => by rw [hME, hML] at h; exact h
  rw [← hML] at hL hLx hme hmk
  rw [← hME] at hme
  clear h hc hc' h0 hML hME
  generalize hC : clsA (abs t) = C at *
  generalize hKK : kindsA C = KL at *
  generalize hEE : mkEach KL (abs t) = E at *
  generalize hP : MkP (abs t) loc = PP at *
  refine fn_own (N := _) Try.func23 rfl Try.ntmps23 Try.results23 (by simp) ?_
  simp only [initS, Nat.reduceAdd, Nat.zero_add]
  repeat' (first | (refine wlS ?_) | (refine wlB ?_) | ((with_reducible refine sel_call ?_); refine wl_rd rfl rfl (rd_call rfl rfl rfl (fun w hm => by with_reducible first | exact CK w (VwT.out w hm) | exact CO w (VwT.out w hm))) ?_) | (refine wlE ?_) | (refine efSvao ?_; intro v oa ho) | ((with_reducible refine sel_call ?_); first | (refine wl_newO rfl rfl rfl rfl rfl (fun w hm => by with_reducible exact KD w) ?_; intro x oa hx)) | (refine efBnn ?_; intro n hn) | (refine efB ?_) | (refine efBS ?_) | (refine wl_skip rfl rfl ?_) | ((with_reducible refine wc_seq ?_); intro K hK) | (refine auC ?_) | (refine wc_cond rfl (fun hc => ?_) (fun hc => ?_)) | (refine wc_draw (by kernel_rfl) (by kernel_rfl) (by decide +kernel) ?_; intro w0 hw0 hm0; (try simp only [List.append_eq, List.cons_append, List.nil_append])) | (refine auP ?_) | ((refine auR ?_); clear hK K) | (refine auR ?_) | ((with_reducible refine hK _ _ ?_); clear hK K) | fail)
  obtain ⟨u, rfl⟩ : ∃ u, u = x := ⟨x, rfl⟩
  obtain ⟨oK, rfl⟩ : ∃ u, u = oa := ⟨oa, rfl⟩
  refine wc_loop (σ := Nat) (fun i => [(0, v), (1, .bool loc), (7, .int .u8 (C : Int)), (8, u), (29, v), (30, .int .i64 (t.length : Int)), (31, .int .i64 (i : Int))]) (fun _ => oK) (fun i => i ≤ t.length ∧ mkEach KL ((abs t).drop i) = E) (fun i => t.length - i) 0 ⟨Nat.zero_le _, hEE⟩ (Fits.of ⟨rfl, rfl, rfl, rfl, rfl, rfl, rfl, trivial⟩ (SubL.refl _) rfl) ?_
  clear CK CO KD hEE
  rintro i ⟨hi, hE⟩
  by_cases hlt : i < t.length
  · obtain ⟨⟨k, bv, p⟩, hlx⟩ : ∃ x, t[i]? = some x := ⟨t[i]'(by omega), List.getElem?_eq_getElem _⟩
    have hget := atsC_get hlx
    haveI : One bv := ⟨hone _ (List.mem_of_getElem? hlx)⟩
    dsimp only at hget
    have u1 : decide ((i : Int) < (t.length : Int)) = true := decide_eq_true (by omega)
    have u2 : IntKind.i64.wrap ((i : Int) + 1) = ((i + 1 : Nat) : Int) := by rw [wrap_i64 _ (by omega) (by omega)]; omega
    have j1 : (i : Int) < (t.length : Int) := by omega
    have hdr : (abs t).drop i = (k, p) :: (abs t).drop (i + 1) := by
      have hb : (abs t)[i]? = some (k, p) := by simp [abs, hlx]
      rw [List.drop_eq_getElem_cons (List.getElem?_eq_some_iff.1 hb).1, (List.getElem?_eq_some_iff.1 hb).2]
    rw [hdr, mkEach] at hE
    dsimp only at hE
    have CT1 := fun w' (hu : Cs w' u KL.length (ksC KL)) => CT w' k hu
    by_cases hm : k ∉ KL
    · rw [if_pos hm] at hE
      have e : ME = 13 := by rw [hme, ← hE]; rfl
      rw [decide_eq_false hm] at CT1
      clear GN GY MS SZ CT hLx hmk hme hdr
      repeat' (first | (refine wlS ?_) | (refine wlB ?_) | ((with_reducible refine sel_call ?_); refine wl_rd rfl rfl (rd_call rfl rfl rfl (fun w hm => by with_reducible exact CT1 w (Vw.out w hm))) ?_) | (refine wlE ?_) | (refine efSvao ?_; intro v oa ho) | (refine efZCnn ?_; intro n hn) | (refine efBnn ?_; intro n hn) | (refine efB ?_) | (refine efBS ?_) | (refine wl_skip rfl rfl ?_) | ((with_reducible refine wc_seq ?_); intro K hK) | (refine auC ?_) | (refine wc_cond rfl (fun hc => ?_) (fun hc => ?_)) | (refine wc_draw (by kernel_rfl) (by kernel_rfl) (by decide +kernel) ?_; intro w0 hw0 hm0; (try simp only [List.append_eq, List.cons_append, List.nil_append])) | (refine auP ?_) | ((refine auR ?_); clear hK K) | (refine auR ?_) | ((with_reducible refine hK _ _ ?_); clear hK K) | fail)
      first | refine end_ret (ResP.tmp rfl (ResP.tmp rfl ResP.nil)) ?_ | refine end_normal (ResP.tmp rfl (ResP.tmp rfl ResP.nil)) ?_
      (try dsimp only [tupV])
      exact ⟨((.slice none 0 0 : Value), (13 : Int)), [], rfl, hPhi _ _ ⟨e.symm, .inl ⟨by decide, rfl, rfl⟩⟩, .nil⟩
    rw [if_neg hm] at hE
    rw [decide_eq_true (Decidable.of_not_not hm)] at CT1
    by_cases hd : k = 10 ∨ k = 11 ∨ k = 12
    · rw [if_pos hd] at hE
      have e : ME = 12 := by rw [hme, ← hE]; rfl
      have hPh := hPhi (.slice none 0 0, 12) [] ⟨e.symm, .inl ⟨by decide, rfl, rfl⟩⟩
      clear GN GY MS SZ CT hLx hmk hme hdr hlx hPhi
      rcases hd with rfl | rfl | rfl
      · have f10 : ((10 : Int) == 10) = true := rfl
        repeat' (first | (refine wlS ?_) | (refine wlB ?_) | ((with_reducible refine sel_call ?_); refine wl_rd rfl rfl (rd_call rfl rfl rfl (fun w hm => by with_reducible exact CT1 w (Vw.out w hm))) ?_) | (refine wlE ?_) | (refine efSvao ?_; intro v oa ho) | (refine efZCnn ?_; intro n hn) | (refine efBnn ?_; intro n hn) | (refine efB ?_) | (refine efBS ?_) | (refine wl_skip rfl rfl ?_) | ((with_reducible refine wc_seq ?_); intro K hK) | (refine auC ?_) | (refine wc_cond rfl (fun hc => ?_) (fun hc => ?_)) | (refine wc_draw (by kernel_rfl) (by kernel_rfl) (by decide +kernel) ?_; intro w0 hw0 hm0; (try simp only [List.append_eq, List.cons_append, List.nil_append])) | (refine auP ?_) | ((refine auR ?_); clear hK K) | (refine auR ?_) | ((with_reducible refine hK _ _ ?_); clear hK K) | fail)
        first | refine end_ret (ResP.tmp rfl (ResP.tmp rfl ResP.nil)) ?_ | refine end_normal (ResP.tmp rfl (ResP.tmp rfl ResP.nil)) ?_
        (try dsimp only [tupV])
        exact ⟨((.slice none 0 0 : Value), (12 : Int)), [], rfl, hPh, .nil⟩
      · have f10 : ((11 : Int) == 10) = false := rfl
        have f11 : ((11 : Int) == 11) = true := rfl
        repeat' (first | (refine wlS ?_) | (refine wlB ?_) | ((with_reducible refine sel_call ?_); refine wl_rd rfl rfl (rd_call rfl rfl rfl (fun w hm => by with_reducible exact CT1 w (Vw.out w hm))) ?_) | (refine wlE ?_) | (refine efSvao ?_; intro v oa ho) | (refine efZCnn ?_; intro n hn) | (refine efBnn ?_; intro n hn) | (refine efB ?_) | (refine efBS ?_) | (refine wl_skip rfl rfl ?_) | ((with_reducible refine wc_seq ?_); intro K hK) | (refine auC ?_) | (refine wc_cond rfl (fun hc => ?_) (fun hc => ?_)) | (refine wc_draw (by kernel_rfl) (by kernel_rfl) (by decide +kernel) ?_; intro w0 hw0 hm0; (try simp only [List.append_eq, List.cons_append, List.nil_append])) | (refine auP ?_) | ((refine auR ?_); clear hK K) | (refine auR ?_) | ((with_reducible refine hK _ _ ?_); clear hK K) | fail)
        first | refine end_ret (ResP.tmp rfl (ResP.tmp rfl ResP.nil)) ?_ | refine end_normal (ResP.tmp rfl (ResP.tmp rfl ResP.nil)) ?_
        (try dsimp only [tupV])
        exact ⟨((.slice none 0 0 : Value), (12 : Int)), [], rfl, hPh, .nil⟩
      · have f10 : ((12 : Int) == 10) = false := rfl
        have f11 : ((12 : Int) == 11) = false := rfl
        have f12 : ((12 : Int) == 12) = true := rfl
        repeat' (first | (refine wlS ?_) | (refine wlB ?_) | ((with_reducible refine sel_call ?_); refine wl_rd rfl rfl (rd_call rfl rfl rfl (fun w hm => by with_reducible exact CT1 w (Vw.out w hm))) ?_) | (refine wlE ?_) | (refine efSvao ?_; intro v oa ho) | (refine efZCnn ?_; intro n hn) | (refine efBnn ?_; intro n hn) | (refine efB ?_) | (refine efBS ?_) | (refine wl_skip rfl rfl ?_) | ((with_reducible refine wc_seq ?_); intro K hK) | (refine auC ?_) | (refine wc_cond rfl (fun hc => ?_) (fun hc => ?_)) | (refine wc_draw (by kernel_rfl) (by kernel_rfl) (by decide +kernel) ?_; intro w0 hw0 hm0; (try simp only [List.append_eq, List.cons_append, List.nil_append])) | (refine auP ?_) | ((refine auR ?_); clear hK K) | (refine auR ?_) | ((with_reducible refine hK _ _ ?_); clear hK K) | fail)
        first | refine end_ret (ResP.tmp rfl (ResP.tmp rfl ResP.nil)) ?_ | refine end_normal (ResP.tmp rfl (ResP.tmp rfl ResP.nil)) ?_
        (try dsimp only [tupV])
        exact ⟨((.slice none 0 0 : Value), (12 : Int)), [], rfl, hPh, .nil⟩
    · rw [if_neg hd] at hE
      have f10 : (k == 10) = false := by simp only [beq_eq_false_iff_ne, ne_eq]; omega
      have f11 : (k == 11) = false := by simp only [beq_eq_false_iff_ne, ne_eq]; omega
      have f12 : (k == 12) = false := by simp only [beq_eq_false_iff_ne, ne_eq]; omega
      clear GN GY MS SZ CT hLx hmk hme hdr
      repeat' (first | (refine wlS ?_) | (refine wlB ?_) | ((with_reducible refine sel_call ?_); refine wl_rd rfl rfl (rd_call rfl rfl rfl (fun w hm => by with_reducible exact CT1 w (Vw.out w hm))) ?_) | (refine wlE ?_) | (refine efSvao ?_; intro v oa ho) | (refine efZCnn ?_; intro n hn) | (refine efBnn ?_; intro n hn) | (refine efB ?_) | (refine efBS ?_) | (refine wl_skip rfl rfl ?_) | ((with_reducible refine wc_seq ?_); intro K hK) | (refine auC ?_) | (refine wc_cond rfl (fun hc => ?_) (fun hc => ?_)) | (refine wc_draw (by kernel_rfl) (by kernel_rfl) (by decide +kernel) ?_; intro w0 hw0 hm0; (try simp only [List.append_eq, List.cons_append, List.nil_append])) | (refine auP ?_) | ((refine auR ?_); clear hK K) | (refine auR ?_) | ((with_reducible refine hK _ _ ?_); clear hK K) | fail)
      refine ⟨i + 1, ⟨hlt, hE⟩, by omega, Fits.of ⟨rfl, rfl, rfl, rfl, rfl, rfl, rfl, trivial⟩ ?_ rfl⟩
      repeat (first | exact SubL.nil | exact SubL.refl _ | refine SubL.keep ?_ | exact SubL.headA _ _ | refine SubL.keepA ?_ _ | refine SubL.skip ?_ | refine SubL.skipA ?_ _)
  · obtain rfl : i = t.length := by omega
    have u1 : decide ((t.length : Int) < (t.length : Int)) = false := decide_eq_false (by omega)
    rw [List.drop_of_length_le (by rw [abs_len]; exact Nat.le_refl _)] at hE
    have hE0 : E = 0 := hE.symm
    rw [if_neg (by rw [hE0]; simp)] at hme
    clear CT
    cases h4 : getA (abs t) 4 with
    | none =>
      rw [if_pos h4] at hme
      have GN1 := GN h4
      clear GN GY MS SZ hLx hmk
      repeat' (first | (refine wlS ?_) | (refine wlB ?_) | ((with_reducible refine sel_call ?_); refine wl_rd rfl rfl (rd_call rfl rfl rfl (fun w hm => by with_reducible exact GN1 w (VwT.out w hm))) ?_) | (refine wlE ?_) | (refine efSvao ?_; intro v oa ho) | (refine efBnn ?_; intro n hn) | (refine efB ?_) | (refine efBS ?_) | (refine wl_skip rfl rfl ?_) | ((with_reducible refine wc_seq ?_); intro K hK) | (refine auC ?_) | (refine wc_cond rfl (fun hc => ?_) (fun hc => ?_)) | (refine wc_draw (by kernel_rfl) (by kernel_rfl) (by decide +kernel) ?_; intro w0 hw0 hm0; (try simp only [List.append_eq, List.cons_append, List.nil_append])) | (refine auP ?_) | ((refine auR ?_); clear hK K) | (refine auR ?_) | ((with_reducible refine hK _ _ ?_); clear hK K) | fail)
      first | refine end_ret (ResP.tmp rfl (ResP.tmp rfl ResP.nil)) ?_ | refine end_normal (ResP.tmp rfl (ResP.tmp rfl ResP.nil)) ?_
      (try dsimp only [tupV])
      exact ⟨((.slice none 0 0 : Value), (3 : Int)), [], rfl, hPhi _ _ ⟨hme.symm, .inl ⟨by decide, rfl, rfl⟩⟩, .nil⟩
    | some q4 =>
      rw [if_neg (by rw [h4]; simp)] at hme
      have GY1 := GY h4
      have hv4 : valN (abs t) = q4.length := by rw [valN, h4]; rfl
      have hq4 := fitsB_le (hk.each _ ((getA_mem hk.nd).1 h4)).2.2
      dsimp only at hq4
      have SZ1 := fun w' => SZ w' q4.length (by omega)
      rw [hv4] at hme
      have hmk2 := hmk (by rw [h4]; simp)
      clear SZ hmk hv4
      by_cases hz : sizedB C q4.length = false
      · rw [if_pos hz] at hme
        rw [hz] at SZ1
        clear GN GY MS hLx
        repeat' (first | (refine wlS ?_) | (refine wlB ?_) | ((with_reducible refine sel_call ?_); refine wl_rd rfl rfl (rd_call rfl rfl rfl (fun w hm => by with_reducible exact SZ1 w)) ?_) | (refine wlE ?_) | (refine efSvao ?_; intro v oa ho) | ((with_reducible refine sel_call ?_); first | (refine wl_newO rfl rfl rfl rfl rfl (fun w hm => by with_reducible exact GY1 w (VwT.out w hm)) ?_; intro x oa hx)) | (refine efBnn ?_; intro n hn) | (refine efB ?_) | (refine efBS ?_) | (refine wl_skip rfl rfl ?_) | ((with_reducible refine wc_seq ?_); intro K hK) | (refine auC ?_) | (refine wc_cond rfl (fun hc => ?_) (fun hc => ?_)) | (refine wc_draw (by kernel_rfl) (by kernel_rfl) (by decide +kernel) ?_; intro w0 hw0 hm0; (try simp only [List.append_eq, List.cons_append, List.nil_append])) | (refine auP ?_) | ((refine auR ?_); clear hK K) | (refine auR ?_) | ((with_reducible refine hK _ _ ?_); clear hK K) | fail)
        first | refine end_ret (ResP.tmp rfl (ResP.tmp rfl ResP.nil)) ?_ | refine end_normal (ResP.tmp rfl (ResP.tmp rfl ResP.nil)) ?_
        (try dsimp only [tupV])
        exact ⟨((.slice none 0 0 : Value), (4 : Int)), [], rfl, hPhi _ _ ⟨hme.symm, .inl ⟨by decide, rfl, rfl⟩⟩, .nil⟩
      rw [if_neg hz] at hme
      have hz' : sizedB C q4.length = true := by simpa using hz
      rw [hz'] at SZ1
      repeat' (first | (refine wlS ?_) | (refine wlB ?_) | ((with_reducible refine sel_call ?_); refine wl_rd rfl rfl (rd_call rfl rfl rfl (fun w hm => by with_reducible exact SZ1 w)) ?_) | (refine wlE ?_) | (refine efSvao ?_; intro v oa ho) | ((with_reducible refine sel_call ?_); first | (refine wl_newO rfl rfl rfl rfl rfl (fun w hm => by with_reducible exact GY1 w (VwT.out w hm)) ?_; intro x oa hx)) | (refine efBnn ?_; intro n hn) | (refine efB ?_) | (refine efBS ?_) | (refine wl_skip rfl rfl ?_) | ((with_reducible refine wc_seq ?_); intro K hK) | (refine auC ?_) | (refine wc_cond rfl (fun hc => ?_) (fun hc => ?_)) | (refine wc_draw (by kernel_rfl) (by kernel_rfl) (by decide +kernel) ?_; intro w0 hw0 hm0; (try simp only [List.append_eq, List.cons_append, List.nil_append])) | (refine auP ?_) | ((refine auR ?_); clear hK K) | (refine auR ?_) | ((with_reducible refine hK _ _ ?_); clear hK K) | fail)
      refine wc_loop (σ := MkS) (fun x => [(0, v), (1, .bool loc), (7, .int .u8 (C : Int)), (13, x.v), (66, u), (67, .int .i64 (KL.length : Int)), (68, .int .i64 (x.i : Int))]) (fun x => oK ++ (x.oo ++ x.ob)) (MkS.Ok ML) (fun x => KL.length - x.i) ⟨0, [], .slice none 0 0, [], []⟩
        ⟨Nat.zero_le _, OwnL.nil _ _, BodF.nil, rfl, rfl⟩ (Fits.of ⟨rfl, rfl, rfl, rfl, rfl, rfl, rfl, trivial⟩ ?_ rfl) ?_
      · dsimp only
        repeat (first | exact SubL.nil | exact SubL.refl _ | refine SubL.keep ?_ | exact SubL.headA _ _ | refine SubL.keepA ?_ _ | refine SubL.skip ?_ | refine SubL.skipA ?_ _)
      clear GY1 SZ1 hz hz' hq4
      rintro ⟨i, its, va, oo, ob⟩ hok
      have hok' := hok
      obtain ⟨hi2, ho, hb, he, hil⟩ := hok'
      dsimp only at hi2 ho hb he hil ⊢
      by_cases hlt2 : i < KL.length
      · obtain ⟨k, hkx⟩ : ∃ k, KL[i]? = some k := ⟨KL[i]'(by omega), List.getElem?_eq_getElem _⟩
        have hgk := ksC_get hkx
        have hx := hLx i k hkx
        have u3 : decide ((i : Int) < (KL.length : Int)) = true := decide_eq_true (by omega)
        have u2 : IntKind.i64.wrap ((i : Int) + 1) = ((i + 1 : Nat) : Int) := by rw [wrap_i64 _ (by omega) (by omega)]; omega
        have j1 : (i : Int) < (KL.length : Int) := by omega
        cases hg : getA (abs t) k with
        | some q =>
          rw [hg] at hx
          have GY2 := GY hg
          have hst := fun {v vb : Value} {oo oc : Blks} {e m : Nat} => hok.step (v := v) (vb := vb) (oo := oo) (oc := oc) (e := e) (m := m) hx
          clear GN GY MS hLx hok hmk2 hme
          repeat' (first | (refine wlS ?_) | (refine wlB ?_) | (refine wlE ?_) | (refine efSvao ?_; intro v oa ho) | ((with_reducible refine sel_call ?_); first | (refine wl_newO rfl rfl rfl rfl rfl (fun w hm => by with_reducible exact GY2 w (VwT.out w hm)) ?_; intro x oa hx)) | (refine efBnn ?_; intro n hn) | (refine efB ?_) | (refine efBS ?_) | (refine wl_skip rfl rfl ?_) | ((with_reducible refine wc_seq ?_); intro K hK) | (refine auC ?_) | (refine wc_cond rfl (fun hc => ?_) (fun hc => ?_)) | (refine wc_draw (by kernel_rfl) (by kernel_rfl) (by decide +kernel) ?_; intro w0 hw0 hm0; (try simp only [List.append_eq, List.cons_append, List.nil_append])) | (refine auP ?_) | ((refine auR ?_); clear hK K) | (refine auR ?_) | ((with_reducible refine hK _ _ ?_); clear hK K) | fail)
          rename_i oc hc vs os hs
          refine ⟨_, hst ho hx, by dsimp only; omega, Fits.of ⟨rfl, rfl, rfl, rfl, rfl, rfl, rfl, trivial⟩ ?_ rfl⟩
          dsimp only
          repeat (first | exact SubL.nil | exact SubL.refl _ | refine SubL.keep ?_ | exact SubL.headA _ _ | refine SubL.keepA ?_ _ | refine SubL.skip ?_ | refine SubL.skipA ?_ _)
        | none =>
          rw [hg] at hx
          have GN2 := GN hg
          have MS2 := MS k
          have hst := fun {v vb : Value} {oo oc : Blks} {e m : Nat} => hok.step (v := v) (vb := vb) (oo := oo) (oc := oc) (e := e) (m := m) hx
          clear GN GY MS hLx hok hmk2 hme
          dsimp only [Option.getD] at hst
          generalize missA (abs t) k C loc = q at *
          repeat' (first | (refine wlS ?_) | (refine wlB ?_) | ((with_reducible refine sel_call ?_); refine wl_rd rfl rfl (rd_call rfl rfl rfl (fun w hm => by with_reducible exact GN2 w (VwT.out w hm))) ?_) | (refine wlE ?_) | (refine efSvao ?_; intro v oa ho) | ((with_reducible refine sel_call ?_); first | (refine wl_newO rfl rfl rfl rfl rfl (fun w hm => by with_reducible exact MS2 w (VwT.out w hm)) ?_; intro x oa hx)) | (refine efBnn ?_; intro n hn) | (refine efB ?_) | (refine efBS ?_) | (refine wl_skip rfl rfl ?_) | ((with_reducible refine wc_seq ?_); intro K hK) | (refine auC ?_) | (refine wc_cond rfl (fun hc => ?_) (fun hc => ?_)) | (refine wc_draw (by kernel_rfl) (by kernel_rfl) (by decide +kernel) ?_; intro w0 hw0 hm0; (try simp only [List.append_eq, List.cons_append, List.nil_append])) | (refine auP ?_) | ((refine auR ?_); clear hK K) | (refine auR ?_) | ((with_reducible refine hK _ _ ?_); clear hK K) | fail)
          refine ⟨_, hst ho hx, by dsimp only; omega, Fits.of ⟨rfl, rfl, rfl, rfl, rfl, rfl, rfl, trivial⟩ ?_ rfl⟩
          dsimp only
          repeat (first | exact SubL.nil | exact SubL.refl _ | refine SubL.keep ?_ | exact SubL.headA _ _ | refine SubL.keepA ?_ _ | refine SubL.skip ?_ | refine SubL.skipA ?_ _)
      · obtain rfl : i = KL.length := by omega
        have u3 : decide ((KL.length : Int) < (KL.length : Int)) = false := decide_eq_false (by omega)
        rw [List.take_of_length_le (by rw [hL]; exact Nat.le_refl _)] at he
        have ho' : OwnL 29 2 va its.length (atsC its) oo := by rw [hil]; exact ho
        haveI hA : AtF _ va its := AtF.mk' (OwnL.cs (h := ho')) hb
        have VC := fun w' (h : Ats w' va its) => valid_c w' h (r := validB ML) (by rw [he]; exact hmk2) (by rw [he])
        clear GN GY MS hLx hok
        cases hv : validB ML with
        | false =>
          rw [hv] at VC
          rw [if_pos hv] at hme
          repeat' (first | (refine wlS ?_) | (refine wlB ?_) | ((with_reducible refine sel_call ?_); refine wl_rd rfl rfl (rd_call rfl rfl rfl (fun w hm => by with_reducible exact VC w (VwT.out w hm))) ?_) | (refine wlE ?_) | (refine efSvao ?_; intro v oa ho) | (refine efBnn ?_; intro n hn) | (refine efB ?_) | (refine efBS ?_) | (refine wl_skip rfl rfl ?_) | ((with_reducible refine wc_seq ?_); intro K hK) | (refine auC ?_) | (refine wc_cond rfl (fun hc => ?_) (fun hc => ?_)) | (refine wc_draw (by kernel_rfl) (by kernel_rfl) (by decide +kernel) ?_; intro w0 hw0 hm0; (try simp only [List.append_eq, List.cons_append, List.nil_append])) | (refine auP ?_) | ((refine auR ?_); clear hK K) | (refine auR ?_) | ((with_reducible refine hK _ _ ?_); clear hK K) | fail)
          first | refine end_ret (ResP.tmp rfl (ResP.tmp rfl ResP.nil)) ?_ | refine end_normal (ResP.tmp rfl (ResP.tmp rfl ResP.nil)) ?_
          (try dsimp only [tupV])
          exact ⟨((.slice none 0 0 : Value), (12 : Int)), [], rfl, hPhi _ _ ⟨hme.symm, .inl ⟨by decide, rfl, rfl⟩⟩, .nil⟩
        | true =>
          rw [hv] at VC
          rw [if_neg (by rw [hv]; simp)] at hme
          repeat' (first | (refine wlS ?_) | (refine wlB ?_) | ((with_reducible refine sel_call ?_); refine wl_rd rfl rfl (rd_call rfl rfl rfl (fun w hm => by with_reducible exact VC w (VwT.out w hm))) ?_) | (refine wlE ?_) | (refine efSvao ?_; intro v oa ho) | (refine efBnn ?_; intro n hn) | (refine efB ?_) | (refine efBS ?_) | (refine wl_skip rfl rfl ?_) | ((with_reducible refine wc_seq ?_); intro K hK) | (refine auC ?_) | (refine wc_cond rfl (fun hc => ?_) (fun hc => ?_)) | (refine wc_draw (by kernel_rfl) (by kernel_rfl) (by decide +kernel) ?_; intro w0 hw0 hm0; (try simp only [List.append_eq, List.cons_append, List.nil_append])) | (refine auP ?_) | ((refine auR ?_); clear hK K) | (refine auR ?_) | ((with_reducible refine hK _ _ ?_); clear hK K) | fail)
          first | refine end_ret (ResP.tmp rfl (ResP.tmp rfl ResP.nil)) ?_ | refine end_normal (ResP.tmp rfl (ResP.tmp rfl ResP.nil)) ?_
          (try dsimp only [tupV])
          refine ⟨(va, (0 : Int)), oo ++ ob, rfl, hPhi _ _ ⟨hme.symm, .inr ⟨rfl, its, ⟨oo, ob, fun q h => h, ho', hb⟩, he⟩⟩, ?_⟩
          repeat (first | exact SubL.nil | exact SubL.refl _ | refine SubL.keep ?_ | exact SubL.headA _ _ | refine SubL.keepA ?_ _ | refine SubL.skip ?_ | refine SubL.skipA ?_ _)
theorem make_bad (w : World) {v : Value} {t : List Att} {loc : Bool} (h : Ats w v t) (he : makeE (abs t) loc ≠ 0) : Calls Try.prog 23 [v, .bool loc].toArray w (Ret (.tuple #[.slice none 0 0, .int .i64 (makeE (abs t) loc)]) w) :=
  (make_c w loc h).mono fun e w2 ⟨x, oa, he2, ⟨h1, h2⟩, hu⟩ => by
    rcases h2 with ⟨_, h4, h5⟩ | ⟨h3, _⟩
    · subst h5
      exact ⟨by rw [he2]; dsimp only; rw [h1, h4], hu.below⟩
    · exact absurd (h1.symm.trans h3) he
theorem make_good (w : World) {v : Value} {t : List Att} {loc : Bool} (h : Ats w v t) (he : makeE (abs t) loc = 0) : Calls Try.prog 23 [v, .bool loc].toArray w (RetO (fun u : Value => .tuple #[u, .int .i64 0]) (fun u oa => ∃ its, OwnT u its oa ∧ abs its = makeL (abs t) loc) w) :=
  (make_c w loc h).mono fun e w2 ⟨x, oa, he2, ⟨h1, h2⟩, hu⟩ => by
    rcases h2 with ⟨h3, _⟩ | ⟨h3, h4⟩
    · exact absurd (h1.trans he) h3
    · exact ⟨x.1, oa, by rw [he2]; dsimp only; rw [h3], h4, hu⟩
end Go.Proofs.Ytlpalhagndmpjaa
