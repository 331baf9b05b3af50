/- rule.turn, Change, Copy, the laws' turned: walked. -/
import Derived.Test.YtlpalhagndmpjaaJnAC
import Derived.Test.YtlpalhagndmpjaaTurnsB
import Derived.Test.YtlpalhagndmpjaaJnAD
namespace Go.Proofs.Ytlpalhagndmpjaa
open Go.RowKit
set_option linter.unusedVariables false
set_option linter.unusedSimpArgs false
set_option maxRecDepth 100000
/-- An error's number. -/
noncomputable def turnE (l t : List Ab) (c : Bool) : Int :=
  if chkA t ≠ 0 then chkA t else if (!c && !isA l 7) = true then 12 else if eachE l c t ≠ 0 then eachE l c t
  else @ite _ (∃ m, IsNorm m (overA l t) ∧ validB m = true) (Classical.propDecidable _) 0 12
/-- What turn answers. -/
def TuP (l t : List Ab) (c : Bool) (x : Value × Int) (oa : Blks) : Prop := x.2 = turnE l t c ∧ ((x.2 ≠ 0 ∧ x.1 = .slice none 0 0 ∧ oa = []) ∨ (x.2 = 0 ∧ ∃ its, OwnT x.1 its oa ∧ Turn l t c (abs its)))
set_option maxHeartbeats 16000000 in
theorem turn_c (w : World) {u v : Value} {l t : List Att} (c : Bool) (hl : Ats w u l) (ht : Ats w v t) (hob : Obj (abs l)) : Calls Try.prog 44 [u, v, .bool c].toArray w (RetO (fun x : Value × Int => .tuple #[x.1, .int .i64 x.2]) (TuP (abs l) (abs t) c) w) := by
  haveI i0 := hl.old
  haveI i2 := ht.old
  haveI i3 := ht.cs.old
  have VL := fun w' (h : Ats w' u l) => valid_c w' h (r := true) hob.ok hob.valid
  by_cases hc : chkA (abs t) ≠ 0
  · have CK := fun w' (h : Ats w' v t) => check_a w' h
    have t1 : (chkA (abs t) != 0) = true := by simpa using hc
    have e : chkA (abs t) = turnE (abs l) (abs t) c := by rw [turnE, if_pos hc]
    clear hl ht
    refine fn_own (N := _) Try.func44 rfl Try.ntmps44 Try.results44 (by simp) ?_
    simp only [initS, Nat.reduceAdd, Nat.zero_add]
    repeat' (first | (refine wlS ?_) | (refine wlB ?_) | ((with_reducible refine sel_call ?_); refine wl_rd rfl rfl (rd_call rfl rfl rfl (fun w hm => by with_reducible first | exact VL w (VwT.out w hm) | exact CK w (VwT.out w hm))) ?_) | (refine wlE ?_) | (refine efSvao ?_; intro v oa ho) | (refine efBnn ?_; intro n hn) | (refine efB ?_) | (refine efBS ?_) | (refine wl_skip rfl rfl ?_) | ((with_reducible refine wc_seq ?_); intro K hK) | (refine auC ?_) | (refine wc_cond rfl (fun hc => ?_) (fun hc => ?_)) | (refine wc_draw (by kernel_rfl) (by kernel_rfl) (by decide +kernel) ?_; intro w0 hw0 hm0; (try simp only [List.append_eq, List.cons_append, List.nil_append])) | (refine auP ?_) | ((refine auR ?_); clear hK K) | (refine auR ?_) | ((with_reducible refine hK _ _ ?_); clear hK K) | fail)
    first | refine end_ret (ResP.tmp rfl (ResP.tmp rfl ResP.nil)) ?_ | refine end_normal (ResP.tmp rfl (ResP.tmp rfl ResP.nil)) ?_
    (try dsimp only [tupV])
    exact ⟨(.slice none 0 0, chkA (abs t)), [], rfl, ⟨e, .inl ⟨hc, rfl, rfl⟩⟩, .nil⟩
  have hc' : chkA (abs t) = 0 := Decidable.of_not_not hc
  have hk := chkA_zero.1 hc'
  have CK := fun w' (h : Ats w' v t) => (show Calls Try.prog 13 [v].toArray w' (Ret (.int .i64 0) w') by
    have := check_a w' h
    rwa [hc'] at this)
  have t0 : ((0 : Int) != 0) = false := rfl
  obtain ⟨x7, hx7⟩ : ∃ x, isA (abs l) 7 = x := ⟨_, rfl⟩
  have I7 := fun w' (h : Ats w' u l) => is_c w' h hx7
  have hme : turnE (abs l) (abs t) c = if (!c && !x7) = true then 12 else if eachE (abs l) c (abs t) ≠ 0 then eachE (abs l) c (abs t) else @ite _ (∃ m, IsNorm m (overA (abs l) (abs t)) ∧ validB m = true) (Classical.propDecidable _) 0 12 := by
    rw [turnE, if_neg hc, hx7]
  by_cases h7 : (!c && !x7) = true
  · rw [if_pos h7] at hme
    clear hl ht hx7
    cases c <;> cases x7 <;> simp at h7
    refine fn_own (N := _) Try.func44 rfl Try.ntmps44 Try.results44 (by simp) ?_
    simp only [initS, Nat.reduceAdd, Nat.zero_add]
    repeat' (first | (refine wlS ?_) | (refine wlB ?_) | ((with_reducible refine sel_call ?_); refine wl_rd rfl rfl (rd_call rfl rfl rfl (fun w hm => by with_reducible first | exact VL w (VwT.out w hm) | exact CK w (VwT.out w hm) | exact I7 w (VwT.out w hm))) ?_) | (refine wlE ?_) | (refine efSvao ?_; intro v oa ho) | (refine efBnn ?_; intro n hn) | (refine efB ?_) | (refine efBS ?_) | (refine wl_skip rfl rfl ?_) | ((with_reducible refine wc_seq ?_); intro K hK) | (refine auC ?_) | (refine wc_cond rfl (fun hc => ?_) (fun hc => ?_)) | (refine wc_draw (by kernel_rfl) (by kernel_rfl) (by decide +kernel) ?_; intro w0 hw0 hm0; (try simp only [List.append_eq, List.cons_append, List.nil_append])) | (refine auP ?_) | ((refine auR ?_); clear hK K) | (refine auR ?_) | ((with_reducible refine hK _ _ ?_); clear hK K) | fail)
    first | refine end_ret (ResP.tmp rfl (ResP.tmp rfl ResP.nil)) ?_ | refine end_normal (ResP.tmp rfl (ResP.tmp rfl ResP.nil)) ?_
    (try dsimp only [tupV])
    exact ⟨((.slice none 0 0 : Value), (12 : Int)), [], rfl, ⟨hme.symm, .inl ⟨by decide, rfl, rfl⟩⟩, .nil⟩
  rw [if_neg h7] at hme
  have hmod : c = false → isA (abs l) 7 = true := fun h => by
    subst h; rw [hx7]; simpa using h7
  have hone := ats_one ht
  have hbody := ht.body
  have GN := fun {k : Int} (hg : getA (abs l) k = none) w' (h : Ats w' u l) => get_no w' h hg
  have GY := fun {k : Int} {q : List Nat} (hg : getA (abs l) k = some q) w' (h : Ats w' u l) => get_yesA w' h hob.ok hg
  have TU := fun (k : Int) {bv : Value} {p : List Nat} (hf : fitsB (k, p) = true) w' (h : Ats w' u l) (hb : Cb w' bv p.length p) => turns_c w' k c h hb hf
  have OV := fun w' (h : Ats w' u l) (h' : Ats w' v t) => over_yes w' h h' hob.ok hk
  have htl : t.length ≤ 24 := by have := hk.len; rwa [abs_len] at this
  have hPhi : ∀ (x : Value × Int) oa, (x.2 = turnE (abs l) (abs t) c ∧ ((x.2 ≠ 0 ∧ x.1 = .slice none 0 0 ∧ oa = []) ∨ (x.2 = 0 ∧ ∃ its, OwnT x.1 its oa ∧ Turn (abs l) (abs t) c (abs its)))) → TuP (abs l) (abs t) c x oa := fun x oa h => h
  clear hl ht
  generalize hEE : eachE (abs l) c (abs t) = E at *
  generalize hP : TuP (abs l) (abs t) c = PP at *
  generalize hTE : turnE (abs l) (abs t) c = TE at *
  have hcx : (c = false ∧ x7 = true) ∨ c = true := by
    cases c
    · exact .inl ⟨rfl, by rw [← hx7]; exact hmod rfl⟩
    · exact .inr rfl
  rcases hcx with ⟨rfl, rfl⟩ | rfl
  · clear h7 hx7
    refine fn_own (N := _) Try.func44 rfl Try.ntmps44 Try.results44 (by simp) ?_
    simp only [initS, Nat.reduceAdd, Nat.zero_add]
    repeat' (first | (refine wlS ?_) | (refine wlB ?_) | ((with_reducible refine sel_call ?_); refine wl_rd rfl rfl (rd_call rfl rfl rfl (fun w hm => by with_reducible first | exact VL w (VwT.out w hm) | exact CK w (VwT.out w hm) | exact I7 w (VwT.out w hm))) ?_) | (refine wlE ?_) | (refine efSvao ?_; intro v oa ho) | (refine efBnn ?_; intro n hn) | (refine efB ?_) | (refine efBS ?_) | (refine wl_skip rfl rfl ?_) | ((with_reducible refine wc_seq ?_); intro K hK) | (refine auC ?_) | (refine wc_cond rfl (fun hc => ?_) (fun hc => ?_)) | (refine wc_draw (by kernel_rfl) (by kernel_rfl) (by decide +kernel) ?_; intro w0 hw0 hm0; (try simp only [List.append_eq, List.cons_append, List.nil_append])) | (refine auP ?_) | ((refine auR ?_); clear hK K) | (refine auR ?_) | ((with_reducible refine hK _ _ ?_); clear hK K) | fail)
    refine wc_loop (σ := Nat) (fun i => [(0, u), (1, v), (2, .bool false), (30, v), (31, .int .i64 (t.length : Int)), (32, .int .i64 (i : Int))]) (fun _ => []) (fun i => i ≤ t.length ∧ eachE (abs l) false ((abs t).drop i) = E) (fun i => t.length - i) 0 ⟨Nat.zero_le _, hEE⟩ (Fits.of ⟨rfl, rfl, rfl, rfl, rfl, rfl, trivial⟩ .nil rfl) ?_
    clear CK I7
    rintro i ⟨hi, hE⟩
    by_cases hlt : i < t.length
    · obtain ⟨⟨k, bv, p⟩, hlx⟩ : ∃ x, t[i]? = some x := ⟨t[i]'(by omega), List.getElem?_eq_getElem _⟩
      have hmem := List.mem_of_getElem? hlx
      have hget := atsC_get hlx
      have hfb := (hk.each (k, p) (List.mem_map.2 ⟨_, hmem, rfl⟩)).2.2
      haveI : One bv := ⟨hone _ hmem⟩
      haveI i5 := (hbody _ hmem).old
      dsimp only at hget i5
      have u1 : decide ((i : Int) < (t.length : Int)) = true := decide_eq_true (by omega)
      have u2 : IntKind.i64.wrap ((i : Int) + 1) = ((i + 1 : Nat) : Int) := by rw [wrap_i64 _ (by omega) (by omega)]; omega
      have j1 : (i : Int) < (t.length : Int) := by omega
      have hdr : (abs t).drop i = (k, p) :: (abs t).drop (i + 1) := by
        have hb : (abs t)[i]? = some (k, p) := by simp [abs, hlx]
        rw [List.drop_eq_getElem_cons (List.getElem?_eq_some_iff.1 hb).1, (List.getElem?_eq_some_iff.1 hb).2]
      rw [hdr, eachE] at hE
      dsimp only at hE
      have TU1 := fun w' (h : Ats w' u l) (hb : Cb w' bv p.length p) => TU k hfb w' h hb
      cases hg : getA (abs l) k with
      | none =>
        rw [if_pos hg] at hE
        have hPh := hPhi (.slice none 0 0, 13) [] ⟨by rw [hme, ← hE]; rfl, .inl ⟨by decide, rfl, rfl⟩⟩
        have GN1 := GN hg
        clear GN GY TU TU1 OV hme hPhi hdr hlx hEE hE
        repeat' (first | (refine wlS ?_) | (refine wlB ?_) | ((with_reducible refine sel_call ?_); refine wl_rd rfl rfl (rd_call rfl rfl rfl (fun w hm => by with_reducible exact GN1 w (VwT.out w hm))) ?_) | (refine wlE ?_) | (refine efSvao ?_; intro v oa ho) | (refine efZCnn ?_; intro n hn) | (refine efBnn ?_; intro n hn) | (refine efB ?_) | (refine efBS ?_) | (refine wl_skip rfl rfl ?_) | ((with_reducible refine wc_seq ?_); intro K hK) | (refine auC ?_) | (refine wc_cond rfl (fun hc => ?_) (fun hc => ?_)) | (refine wc_draw (by kernel_rfl) (by kernel_rfl) (by decide +kernel) ?_; intro w0 hw0 hm0; (try simp only [List.append_eq, List.cons_append, List.nil_append])) | (refine auP ?_) | ((refine auR ?_); clear hK K) | (refine auR ?_) | ((with_reducible refine hK _ _ ?_); clear hK K) | fail)
        first | refine end_ret (ResP.tmp rfl (ResP.tmp rfl ResP.nil)) ?_ | refine end_normal (ResP.tmp rfl (ResP.tmp rfl ResP.nil)) ?_
        (try dsimp only [tupV])
        exact ⟨((.slice none 0 0 : Value), (13 : Int)), [], rfl, hPh, .nil⟩
      | some q =>
        rw [if_neg (by rw [hg]; simp)] at hE
        have GY1 := GY hg
        cases htb : turnsB (abs l) (k, p) false with
        | false =>
          rw [if_pos htb] at hE
          rw [htb] at TU1
          have hPh := hPhi (.slice none 0 0, 12) [] ⟨by rw [hme, ← hE]; rfl, .inl ⟨by decide, rfl, rfl⟩⟩
          clear GN GY TU OV hme hPhi hdr hlx hEE hE
          repeat' (first | (refine wlS ?_) | (refine wlB ?_) | ((with_reducible refine sel_call ?_); refine wl_rd rfl rfl (rd_call rfl rfl rfl (fun w hm => by with_reducible exact TU1 w (VwT.out w hm) (VwB.out w hm))) ?_) | (refine wlE ?_) | (refine efSvao ?_; intro v oa ho) | (refine efZCnn ?_; intro n hn) | ((with_reducible refine sel_call ?_); first | (refine wl_newO rfl rfl rfl rfl rfl (fun w hm => by with_reducible exact GY1 w (VwT.out w hm)) ?_; intro x oa hx)) | (refine efBnn ?_; intro n hn) | (refine efB ?_) | (refine efBS ?_) | (refine wl_skip rfl rfl ?_) | ((with_reducible refine wc_seq ?_); intro K hK) | (refine auC ?_) | (refine wc_cond rfl (fun hc => ?_) (fun hc => ?_)) | (refine wc_draw (by kernel_rfl) (by kernel_rfl) (by decide +kernel) ?_; intro w0 hw0 hm0; (try simp only [List.append_eq, List.cons_append, List.nil_append])) | (refine auP ?_) | ((refine auR ?_); clear hK K) | (refine auR ?_) | ((with_reducible refine hK _ _ ?_); clear hK K) | fail)
          first | refine end_ret (ResP.tmp rfl (ResP.tmp rfl ResP.nil)) ?_ | refine end_normal (ResP.tmp rfl (ResP.tmp rfl ResP.nil)) ?_
          (try dsimp only [tupV])
          exact ⟨((.slice none 0 0 : Value), (12 : Int)), [], rfl, hPh, .nil⟩
        | true =>
          rw [if_neg (by rw [htb]; simp)] at hE
          rw [htb] at TU1
          clear GN GY TU OV hme hPhi hdr hlx
          repeat' (first | (refine wlS ?_) | (refine wlB ?_) | ((with_reducible refine sel_call ?_); refine wl_rd rfl rfl (rd_call rfl rfl rfl (fun w hm => by with_reducible exact TU1 w (VwT.out w hm) (VwB.out w hm))) ?_) | (refine wlE ?_) | (refine efSvao ?_; intro v oa ho) | (refine efZCnn ?_; intro n hn) | ((with_reducible refine sel_call ?_); first | (refine wl_newO rfl rfl rfl rfl rfl (fun w hm => by with_reducible exact GY1 w (VwT.out w hm)) ?_; intro x oa hx)) | (refine efBnn ?_; intro n hn) | (refine efB ?_) | (refine efBS ?_) | (refine wl_skip rfl rfl ?_) | ((with_reducible refine wc_seq ?_); intro K hK) | (refine auC ?_) | (refine wc_cond rfl (fun hc => ?_) (fun hc => ?_)) | (refine wc_draw (by kernel_rfl) (by kernel_rfl) (by decide +kernel) ?_; intro w0 hw0 hm0; (try simp only [List.append_eq, List.cons_append, List.nil_append])) | (refine auP ?_) | ((refine auR ?_); clear hK K) | (refine auR ?_) | ((with_reducible refine hK _ _ ?_); clear hK K) | fail)
          exact ⟨i + 1, ⟨hlt, hE⟩, by omega, Fits.of ⟨rfl, rfl, rfl, rfl, rfl, rfl, trivial⟩ .nil rfl⟩
    · obtain rfl : i = t.length := by omega
      have u1 : decide ((t.length : Int) < (t.length : Int)) = false := decide_eq_false (by omega)
      rw [List.drop_of_length_le (by rw [abs_len]; exact Nat.le_refl _)] at hE
      have hE0 : E = 0 := hE.symm
      have t00 : ((0 : Int) == 0) = true := rfl
      rw [if_neg (by rw [hE0]; simp)] at hme
      clear GN GY TU
      repeat' (first | (refine wlS ?_) | (refine wlB ?_) | (refine wlE ?_) | (refine efSvao ?_; intro v oa ho) | ((with_reducible refine sel_call ?_); first | (refine wl_newO rfl rfl rfl rfl rfl (fun w hm => by with_reducible exact OV w (VwT.out w hm) (VwT.out w hm)) ?_; intro x oa hx)) | (refine efBnn ?_; intro n hn) | (refine efB ?_) | (refine efBS ?_) | (refine wl_skip rfl rfl ?_) | ((with_reducible refine wc_seq ?_); intro K hK) | (refine auC ?_) | (refine wc_cond rfl (fun hc => ?_) (fun hc => ?_)) | (refine wc_draw (by kernel_rfl) (by kernel_rfl) (by decide +kernel) ?_; intro w0 hw0 hm0; (try simp only [List.append_eq, List.cons_append, List.nil_append])) | (refine auP ?_) | ((refine auR ?_); clear hK K) | (refine auR ?_) | ((with_reducible refine hK _ _ ?_); clear hK K) | fail)
      obtain ⟨y, rfl⟩ : ∃ y, y = x := ⟨x, rfl⟩
      obtain ⟨its, hot, hnm⟩ := hx
      haveI hA := hot.atf
      have hok := norm_okA (over_ok hob.ok hk) hnm
      have VC := fun w' (h : Ats w' y its) => valid_c w' h (r := validB (abs its)) hok rfl
      cases hv : validB (abs its) with
      | false =>
        rw [hv] at VC
        have hno : ¬ ∃ m, IsNorm m (overA (abs l) (abs t)) ∧ validB m = true := fun ⟨m, h1, h2⟩ => by
          rw [IsNorm.only h1 hnm, hv] at h2; cases h2
        rw [if_neg hno] at hme
        have hPh := hPhi (.slice none 0 0, 12) [] ⟨hme.symm, .inl ⟨by decide, rfl, rfl⟩⟩
        clear OV hme hPhi hEE hE
        repeat' (first | (refine wlS ?_) | (refine wlB ?_) | ((with_reducible refine sel_call ?_); refine wl_rd rfl rfl (rd_call rfl rfl rfl (fun w hm => by with_reducible exact VC w (VwT.out w hm))) ?_) | (refine wlE ?_) | (refine efSvao ?_; intro v oa ho) | (refine efBnn ?_; intro n hn) | (refine efB ?_) | (refine efBS ?_) | (refine wl_skip rfl rfl ?_) | ((with_reducible refine wc_seq ?_); intro K hK) | (refine auC ?_) | (refine wc_cond rfl (fun hc => ?_) (fun hc => ?_)) | (refine wc_draw (by kernel_rfl) (by kernel_rfl) (by decide +kernel) ?_; intro w0 hw0 hm0; (try simp only [List.append_eq, List.cons_append, List.nil_append])) | (refine auP ?_) | ((refine auR ?_); clear hK K) | (refine auR ?_) | ((with_reducible refine hK _ _ ?_); clear hK K) | fail)
        first | refine end_ret (ResP.tmp rfl (ResP.tmp rfl ResP.nil)) ?_ | refine end_normal (ResP.tmp rfl (ResP.tmp rfl ResP.nil)) ?_
        (try dsimp only [tupV])
        exact ⟨((.slice none 0 0 : Value), (12 : Int)), [], rfl, hPh, .nil⟩
      | true =>
        rw [hv] at VC
        rw [if_pos ⟨_, hnm, hv⟩] at hme
        have hPh := hPhi (y, 0) oa ⟨hme.symm, .inr ⟨rfl, its, hot, ⟨hk, hmod, by rw [hEE, hE0], hnm, hv⟩⟩⟩
        clear OV hme hPhi hE
        repeat' (first | (refine wlS ?_) | (refine wlB ?_) | ((with_reducible refine sel_call ?_); refine wl_rd rfl rfl (rd_call rfl rfl rfl (fun w hm => by with_reducible exact VC w (VwT.out w hm))) ?_) | (refine wlE ?_) | (refine efSvao ?_; intro v oa ho) | (refine efBnn ?_; intro n hn) | (refine efB ?_) | (refine efBS ?_) | (refine wl_skip rfl rfl ?_) | ((with_reducible refine wc_seq ?_); intro K hK) | (refine auC ?_) | (refine wc_cond rfl (fun hc => ?_) (fun hc => ?_)) | (refine wc_draw (by kernel_rfl) (by kernel_rfl) (by decide +kernel) ?_; intro w0 hw0 hm0; (try simp only [List.append_eq, List.cons_append, List.nil_append])) | (refine auP ?_) | ((refine auR ?_); clear hK K) | (refine auR ?_) | ((with_reducible refine hK _ _ ?_); clear hK K) | fail)
        first | refine end_ret (ResP.tmp rfl (ResP.tmp rfl ResP.nil)) ?_ | refine end_normal (ResP.tmp rfl (ResP.tmp rfl ResP.nil)) ?_
        (try dsimp only [tupV])
        exact ⟨(y, (0 : Int)), oa, rfl, hPh, SubL.refl _⟩
  · clear h7 hx7
    refine fn_own (N := _) Try.func44 rfl Try.ntmps44 Try.results44 (by simp) ?_
    simp only [initS, Nat.reduceAdd, Nat.zero_add]
    repeat' (first | (refine wlS ?_) | (refine wlB ?_) | ((with_reducible refine sel_call ?_); refine wl_rd rfl rfl (rd_call rfl rfl rfl (fun w hm => by with_reducible first | exact VL w (VwT.out w hm) | exact CK w (VwT.out w hm) | exact I7 w (VwT.out w hm))) ?_) | (refine wlE ?_) | (refine efSvao ?_; intro v oa ho) | (refine efBnn ?_; intro n hn) | (refine efB ?_) | (refine efBS ?_) | (refine wl_skip rfl rfl ?_) | ((with_reducible refine wc_seq ?_); intro K hK) | (refine auC ?_) | (refine wc_cond rfl (fun hc => ?_) (fun hc => ?_)) | (refine wc_draw (by kernel_rfl) (by kernel_rfl) (by decide +kernel) ?_; intro w0 hw0 hm0; (try simp only [List.append_eq, List.cons_append, List.nil_append])) | (refine auP ?_) | ((refine auR ?_); clear hK K) | (refine auR ?_) | ((with_reducible refine hK _ _ ?_); clear hK K) | fail)
    refine wc_loop (σ := Nat) (fun i => [(0, u), (1, v), (2, .bool true), (30, v), (31, .int .i64 (t.length : Int)), (32, .int .i64 (i : Int))]) (fun _ => []) (fun i => i ≤ t.length ∧ eachE (abs l) true ((abs t).drop i) = E) (fun i => t.length - i) 0 ⟨Nat.zero_le _, hEE⟩ (Fits.of ⟨rfl, rfl, rfl, rfl, rfl, rfl, trivial⟩ .nil rfl) ?_
    clear CK I7
    rintro i ⟨hi, hE⟩
    by_cases hlt : i < t.length
    · obtain ⟨⟨k, bv, p⟩, hlx⟩ : ∃ x, t[i]? = some x := ⟨t[i]'(by omega), List.getElem?_eq_getElem _⟩
      have hmem := List.mem_of_getElem? hlx
      have hget := atsC_get hlx
      have hfb := (hk.each (k, p) (List.mem_map.2 ⟨_, hmem, rfl⟩)).2.2
      haveI : One bv := ⟨hone _ hmem⟩
      haveI i5 := (hbody _ hmem).old
      dsimp only at hget i5
      have u1 : decide ((i : Int) < (t.length : Int)) = true := decide_eq_true (by omega)
      have u2 : IntKind.i64.wrap ((i : Int) + 1) = ((i + 1 : Nat) : Int) := by rw [wrap_i64 _ (by omega) (by omega)]; omega
      have j1 : (i : Int) < (t.length : Int) := by omega
      have hdr : (abs t).drop i = (k, p) :: (abs t).drop (i + 1) := by
        have hb : (abs t)[i]? = some (k, p) := by simp [abs, hlx]
        rw [List.drop_eq_getElem_cons (List.getElem?_eq_some_iff.1 hb).1, (List.getElem?_eq_some_iff.1 hb).2]
      rw [hdr, eachE] at hE
      dsimp only at hE
      have TU1 := fun w' (h : Ats w' u l) (hb : Cb w' bv p.length p) => TU k hfb w' h hb
      cases hg : getA (abs l) k with
      | none =>
        rw [if_pos hg] at hE
        have hPh := hPhi (.slice none 0 0, 13) [] ⟨by rw [hme, ← hE]; rfl, .inl ⟨by decide, rfl, rfl⟩⟩
        have GN1 := GN hg
        clear GN GY TU TU1 OV hme hPhi hdr hlx hEE hE
        repeat' (first | (refine wlS ?_) | (refine wlB ?_) | ((with_reducible refine sel_call ?_); refine wl_rd rfl rfl (rd_call rfl rfl rfl (fun w hm => by with_reducible exact GN1 w (VwT.out w hm))) ?_) | (refine wlE ?_) | (refine efSvao ?_; intro v oa ho) | (refine efZCnn ?_; intro n hn) | (refine efBnn ?_; intro n hn) | (refine efB ?_) | (refine efBS ?_) | (refine wl_skip rfl rfl ?_) | ((with_reducible refine wc_seq ?_); intro K hK) | (refine auC ?_) | (refine wc_cond rfl (fun hc => ?_) (fun hc => ?_)) | (refine wc_draw (by kernel_rfl) (by kernel_rfl) (by decide +kernel) ?_; intro w0 hw0 hm0; (try simp only [List.append_eq, List.cons_append, List.nil_append])) | (refine auP ?_) | ((refine auR ?_); clear hK K) | (refine auR ?_) | ((with_reducible refine hK _ _ ?_); clear hK K) | fail)
        first | refine end_ret (ResP.tmp rfl (ResP.tmp rfl ResP.nil)) ?_ | refine end_normal (ResP.tmp rfl (ResP.tmp rfl ResP.nil)) ?_
        (try dsimp only [tupV])
        exact ⟨((.slice none 0 0 : Value), (13 : Int)), [], rfl, hPh, .nil⟩
      | some q =>
        rw [if_neg (by rw [hg]; simp)] at hE
        have GY1 := GY hg
        cases htb : turnsB (abs l) (k, p) true with
        | false =>
          rw [if_pos htb] at hE
          rw [htb] at TU1
          have hPh := hPhi (.slice none 0 0, 12) [] ⟨by rw [hme, ← hE]; rfl, .inl ⟨by decide, rfl, rfl⟩⟩
          clear GN GY TU OV hme hPhi hdr hlx hEE hE
          repeat' (first | (refine wlS ?_) | (refine wlB ?_) | ((with_reducible refine sel_call ?_); refine wl_rd rfl rfl (rd_call rfl rfl rfl (fun w hm => by with_reducible exact TU1 w (VwT.out w hm) (VwB.out w hm))) ?_) | (refine wlE ?_) | (refine efSvao ?_; intro v oa ho) | (refine efZCnn ?_; intro n hn) | ((with_reducible refine sel_call ?_); first | (refine wl_newO rfl rfl rfl rfl rfl (fun w hm => by with_reducible exact GY1 w (VwT.out w hm)) ?_; intro x oa hx)) | (refine efBnn ?_; intro n hn) | (refine efB ?_) | (refine efBS ?_) | (refine wl_skip rfl rfl ?_) | ((with_reducible refine wc_seq ?_); intro K hK) | (refine auC ?_) | (refine wc_cond rfl (fun hc => ?_) (fun hc => ?_)) | (refine wc_draw (by kernel_rfl) (by kernel_rfl) (by decide +kernel) ?_; intro w0 hw0 hm0; (try simp only [List.append_eq, List.cons_append, List.nil_append])) | (refine auP ?_) | ((refine auR ?_); clear hK K) | (refine auR ?_) | ((with_reducible refine hK _ _ ?_); clear hK K) | fail)
          first | refine end_ret (ResP.tmp rfl (ResP.tmp rfl ResP.nil)) ?_ | refine end_normal (ResP.tmp rfl (ResP.tmp rfl ResP.nil)) ?_
          (try dsimp only [tupV])
          exact ⟨((.slice none 0 0 : Value), (12 : Int)), [], rfl, hPh, .nil⟩
        | true =>
          rw [if_neg (by rw [htb]; simp)] at hE
          rw [htb] at TU1
          clear GN GY TU OV hme hPhi hdr hlx
          repeat' (first | (refine wlS ?_) | (refine wlB ?_) | ((with_reducible refine sel_call ?_); refine wl_rd rfl rfl (rd_call rfl rfl rfl (fun w hm => by with_reducible exact TU1 w (VwT.out w hm) (VwB.out w hm))) ?_) | (refine wlE ?_) | (refine efSvao ?_; intro v oa ho) | (refine efZCnn ?_; intro n hn) | ((with_reducible refine sel_call ?_); first | (refine wl_newO rfl rfl rfl rfl rfl (fun w hm => by with_reducible exact GY1 w (VwT.out w hm)) ?_; intro x oa hx)) | (refine efBnn ?_; intro n hn) | (refine efB ?_) | (refine efBS ?_) | (refine wl_skip rfl rfl ?_) | ((with_reducible refine wc_seq ?_); intro K hK) | (refine auC ?_) | (refine wc_cond rfl (fun hc => ?_) (fun hc => ?_)) | (refine wc_draw (by kernel_rfl) (by kernel_rfl) (by decide +kernel) ?_; intro w0 hw0 hm0; (try simp only [List.append_eq, List.cons_append, List.nil_append])) | (refine auP ?_) | ((refine auR ?_); clear hK K) | (refine auR ?_) | ((with_reducible refine hK _ _ ?_); clear hK K) | fail)
          exact ⟨i + 1, ⟨hlt, hE⟩, by omega, Fits.of ⟨rfl, rfl, rfl, rfl, rfl, rfl, trivial⟩ .nil rfl⟩
    · obtain rfl : i = t.length := by omega
      have u1 : decide ((t.length : Int) < (t.length : Int)) = false := decide_eq_false (by omega)
      rw [List.drop_of_length_le (by rw [abs_len]; exact Nat.le_refl _)] at hE
      have hE0 : E = 0 := hE.symm
      have t00 : ((0 : Int) == 0) = true := rfl
      rw [if_neg (by rw [hE0]; simp)] at hme
      clear GN GY TU
      repeat' (first | (refine wlS ?_) | (refine wlB ?_) | (refine wlE ?_) | (refine efSvao ?_; intro v oa ho) | ((with_reducible refine sel_call ?_); first | (refine wl_newO rfl rfl rfl rfl rfl (fun w hm => by with_reducible exact OV w (VwT.out w hm) (VwT.out w hm)) ?_; intro x oa hx)) | (refine efBnn ?_; intro n hn) | (refine efB ?_) | (refine efBS ?_) | (refine wl_skip rfl rfl ?_) | ((with_reducible refine wc_seq ?_); intro K hK) | (refine auC ?_) | (refine wc_cond rfl (fun hc => ?_) (fun hc => ?_)) | (refine wc_draw (by kernel_rfl) (by kernel_rfl) (by decide +kernel) ?_; intro w0 hw0 hm0; (try simp only [List.append_eq, List.cons_append, List.nil_append])) | (refine auP ?_) | ((refine auR ?_); clear hK K) | (refine auR ?_) | ((with_reducible refine hK _ _ ?_); clear hK K) | fail)
      obtain ⟨y, rfl⟩ : ∃ y, y = x := ⟨x, rfl⟩
      obtain ⟨its, hot, hnm⟩ := hx
      haveI hA := hot.atf
      have hok := norm_okA (over_ok hob.ok hk) hnm
      have VC := fun w' (h : Ats w' y its) => valid_c w' h (r := validB (abs its)) hok rfl
      cases hv : validB (abs its) with
      | false =>
        rw [hv] at VC
        have hno : ¬ ∃ m, IsNorm m (overA (abs l) (abs t)) ∧ validB m = true := fun ⟨m, h1, h2⟩ => by
          rw [IsNorm.only h1 hnm, hv] at h2; cases h2
        rw [if_neg hno] at hme
        have hPh := hPhi (.slice none 0 0, 12) [] ⟨hme.symm, .inl ⟨by decide, rfl, rfl⟩⟩
        clear OV hme hPhi hEE hE
        repeat' (first | (refine wlS ?_) | (refine wlB ?_) | ((with_reducible refine sel_call ?_); refine wl_rd rfl rfl (rd_call rfl rfl rfl (fun w hm => by with_reducible exact VC w (VwT.out w hm))) ?_) | (refine wlE ?_) | (refine efSvao ?_; intro v oa ho) | (refine efBnn ?_; intro n hn) | (refine efB ?_) | (refine efBS ?_) | (refine wl_skip rfl rfl ?_) | ((with_reducible refine wc_seq ?_); intro K hK) | (refine auC ?_) | (refine wc_cond rfl (fun hc => ?_) (fun hc => ?_)) | (refine wc_draw (by kernel_rfl) (by kernel_rfl) (by decide +kernel) ?_; intro w0 hw0 hm0; (try simp only [List.append_eq, List.cons_append, List.nil_append])) | (refine auP ?_) | ((refine auR ?_); clear hK K) | (refine auR ?_) | ((with_reducible refine hK _ _ ?_); clear hK K) | fail)
        first | refine end_ret (ResP.tmp rfl (ResP.tmp rfl ResP.nil)) ?_ | refine end_normal (ResP.tmp rfl (ResP.tmp rfl ResP.nil)) ?_
        (try dsimp only [tupV])
        exact ⟨((.slice none 0 0 : Value), (12 : Int)), [], rfl, hPh, .nil⟩
      | true =>
        rw [hv] at VC
        rw [if_pos ⟨_, hnm, hv⟩] at hme
        have hPh := hPhi (y, 0) oa ⟨hme.symm, .inr ⟨rfl, its, hot, ⟨hk, hmod, by rw [hEE, hE0], hnm, hv⟩⟩⟩
        clear OV hme hPhi hE
        repeat' (first | (refine wlS ?_) | (refine wlB ?_) | ((with_reducible refine sel_call ?_); refine wl_rd rfl rfl (rd_call rfl rfl rfl (fun w hm => by with_reducible exact VC w (VwT.out w hm))) ?_) | (refine wlE ?_) | (refine efSvao ?_; intro v oa ho) | (refine efBnn ?_; intro n hn) | (refine efB ?_) | (refine efBS ?_) | (refine wl_skip rfl rfl ?_) | ((with_reducible refine wc_seq ?_); intro K hK) | (refine auC ?_) | (refine wc_cond rfl (fun hc => ?_) (fun hc => ?_)) | (refine wc_draw (by kernel_rfl) (by kernel_rfl) (by decide +kernel) ?_; intro w0 hw0 hm0; (try simp only [List.append_eq, List.cons_append, List.nil_append])) | (refine auP ?_) | ((refine auR ?_); clear hK K) | (refine auR ?_) | ((with_reducible refine hK _ _ ?_); clear hK K) | fail)
        first | refine end_ret (ResP.tmp rfl (ResP.tmp rfl ResP.nil)) ?_ | refine end_normal (ResP.tmp rfl (ResP.tmp rfl ResP.nil)) ?_
        (try dsimp only [tupV])
        exact ⟨(y, (0 : Int)), oa, rfl, hPh, SubL.refl _⟩
theorem turn_bad (w : World) {u v : Value} {l t : List Att} {c : Bool} (hl : Ats w u l) (ht : Ats w v t) (hob : Obj (abs l)) (he : turnE (abs l) (abs t) c ≠ 0) : Calls Try.prog 44 [u, v, .bool c].toArray w (Ret (.tuple #[.slice none 0 0, .int .i64 (turnE (abs l) (abs t) c)]) w) :=
  (turn_c w c hl ht hob).mono fun e w2 ⟨x, oa, he2, ⟨h1, h2⟩, hu⟩ => by
    rcases h2 with ⟨_, h4, h5⟩ | ⟨h3, _⟩
    · subst h5
      exact ⟨by rw [he2]; dsimp only; rw [h1, h4], hu.below⟩
    · exact absurd (h1.symm.trans h3) he
theorem turn_good (w : World) {u v : Value} {l t : List Att} {c : Bool} (hl : Ats w u l) (ht : Ats w v t) (hob : Obj (abs l)) (he : turnE (abs l) (abs t) c = 0) : Calls Try.prog 44 [u, v, .bool c].toArray w (RetO (fun u : Value => .tuple #[u, .int .i64 0]) (fun u oa => ∃ its, OwnT u its oa ∧ Turn (abs l) (abs t) c (abs its)) w) :=
  (turn_c w c hl ht hob).mono fun e w2 ⟨x, oa, he2, ⟨h1, h2⟩, hu⟩ => by
    rcases h2 with ⟨h3, _⟩ | ⟨h3, h4⟩
    · exact absurd (h1.trans he) h3
    · exact ⟨x.1, oa, by rw [he2]; dsimp only; rw [h3], h4, hu⟩
end Go.Proofs.Ytlpalhagndmpjaa
