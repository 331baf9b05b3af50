/- field.pow, Inv, Sqrt. -/
import Derived.Test.YtkbgkobbadjpnaaDoorPlainA
import Derived.Test.YtkbgkobbadjpnaaDoorFe
import Derived.Test.YtkbgkobbadjpnaaDoorLimbAll
namespace Go.Proofs.YtkbgkobbadjpnaaDoor
open Go.RowKit
set_option maxRecDepth 100000
set_option linter.unusedVariables false
set_option linter.unusedSimpArgs false
set_option maxRecDepth 8000
set_option maxHeartbeats 4000000 in
theorem powG (a q : Nat) (ha : a < T256) (hq : q < T256) (w : World) : Calls Tryd.prog 94 [nu a, nu q].toArray w (Ret (nu (fpow a q)) w) := by
  have hlen := len_nu q hq
  have h256 : blen q ≤ 256 := blen_le.2 (by rw [← T256_eq]; exact hq)
  have htop := fpow_top a q
  obtain ⟨k0, hk0⟩ : ∃ k0, k0 = blen q := ⟨_, rfl⟩
  rw [← hk0] at hlen h256 htop
  clear hk0
  have s0 : IntKind.i64.wrap ((k0 : Int) - 1) = (k0 : Int) - 1 := wrap_i64 _ (by omega) (by omega)
  refine fn_ret (N := _) Tryd.func94 rfl Tryd.ntmps94 Tryd.results94 (by simp) ?_
  simp only [initS, Nat.reduceAdd, Nat.zero_add]
  repeat' (first | (refine wlB ?_) | (refine wlNL ?_) | ((with_reducible refine sel_call ?_); refine wl_rd rfl rfl (rd_call rfl rfl rfl (fun w hm => by with_reducible exact hlen w)) ?_) | (refine wlE ?_) | (refine efZCnn ?_; intro n hn) | (refine efBnn ?_; intro n hn) | (refine efB ?_) | (refine wl_skip rfl rfl ?_) | ((with_reducible refine wc_seq ?_); intro K hK) | (refine auC ?_) | (refine wc_cond rfl (fun hc => ?_) (fun hc => ?_)) | (refine wc_draw (by kernel_rfl) (by kernel_rfl) (by decide +kernel) ?_; intro w0 hw0 hm0; (try simp only [List.append_eq, List.cons_append, List.nil_append])) | (refine auP ?_) | ((refine auR ?_); clear hK K) | (refine auR ?_) | ((with_reducible refine hK _ _ ?_); clear hK K) | fail)
  rename_i n2 g2 n3 g3 n4 g4
  obtain ⟨n5, rfl⟩ : ∃ n5, n5 = n := ⟨_, rfl⟩
  refine wc_loop (σ := Nat) (fun k => [(2, ptr n2), (3, ptr n3), (4, ptr n4), (5, ptr n5), (6, .int .i64 ((k : Int) - 1))])
    (fun k => [(n5, numC (fpow a (q / 2 ^ k)), 29), (n4, numC 0, 29), (n3, numC q, 29), (n2, numC a, 29)])
    (fun k => k ≤ 256) id k0 h256 (Fits.of ⟨rfl, rfl, rfl, rfl, rfl, trivial⟩ (by
      rw [htop]
      repeat (first | exact SubL.nil | exact SubL.refl _ | refine SubL.keep ?_ | exact SubL.headA _ _ | refine SubL.keepA ?_ _ | refine SubL.skip ?_ | refine SubL.skipA ?_ _)) rfl) ?_
  clear hlen htop s0 h256
  intro k hk
  rcases k with _ | j
  · have ht : decide ((((0 : Nat) : Int) - 1) ≥ 0) = false := rfl
    rw [Nat.pow_zero, Nat.div_one]
    clear ha hq
    repeat' (first | (refine wlB ?_) | (refine wlE ?_) | (refine efBnn ?_; intro n hn) | (refine efB ?_) | (refine wl_skip rfl rfl ?_) | ((with_reducible refine wc_seq ?_); intro K hK) | (refine auC ?_) | (refine wc_cond rfl (fun hc => ?_) (fun hc => ?_)) | (refine wc_draw (by kernel_rfl) (by kernel_rfl) (by decide +kernel) ?_; intro w0 hw0 hm0; (try simp only [List.append_eq, List.cons_append, List.nil_append])) | (refine auP ?_) | ((refine auR ?_); clear hK K) | (refine auR ?_) | ((with_reducible refine hK _ _ ?_); clear hK K) | fail)
    first | refine end_ret (ResP.cell rfl ld_whole ResP.nil) ?_ | refine end_normal (ResP.cell rfl ld_whole ResP.nil) ?_
    first | rfl | (show _ = _; rfl) | (simp only [tupV, *]; done)
  · have ej : (((j + 1 : Nat) : Int) - 1) = (j : Int) := by omega
    simp only [ej]
    have ht : decide ((j : Int) ≥ 0) = true := decide_eq_true (by omega)
    have s1 : IntKind.i64.wrap ((j : Int) - 1) = (j : Int) - 1 := wrap_i64 _ (by omega) (by omega)
    have hb := bit_nu q j hq (by omega)
    have hs := fpow_bit a q j
    have hX := fpow_lt a (q / 2 ^ (j + 1))
    generalize fpow a (q / 2 ^ (j + 1)) = X at *
    obtain ⟨Y, hY⟩ : ∃ Y, Y = fpow a (q / 2 ^ j) := ⟨_, rfl⟩
    obtain ⟨b, hb2⟩ : ∃ b, b = q / 2 ^ j % 2 := ⟨_, rfl⟩
    rw [← hb2] at hb hs
    rw [← hY] at hs
    have M1 := mulG X X hX hX
    have M2 := mulG (fmul X X) a (fmul_lt _ _) ha
    by_cases h1 : b = 1
    · subst h1
      rw [if_pos rfl] at hs
      have t1 : ((((1 : Nat)) : Int) == 1) = true := rfl
      clear hb2 ha hq hX
      repeat' (first | (refine wlB ?_) | ((with_reducible refine sel_call ?_); refine wl_rd rfl rfl (rd_call rfl rfl rfl (fun w hm => by with_reducible first | exact hb w | exact M1 w | exact M2 w)) ?_) | (refine wlE ?_) | (refine efZCnn ?_; intro n hn) | (refine efBnn ?_; intro n hn) | (refine efB ?_) | (refine wl_skip rfl rfl ?_) | ((with_reducible refine wc_seq ?_); intro K hK) | (refine auC ?_) | (refine wc_cond rfl (fun hc => ?_) (fun hc => ?_)) | (refine wc_draw (by kernel_rfl) (by kernel_rfl) (by decide +kernel) ?_; intro w0 hw0 hm0; (try simp only [List.append_eq, List.cons_append, List.nil_append])) | (refine auP ?_) | ((refine auR ?_); clear hK K) | (refine auR ?_) | ((with_reducible refine hK _ _ ?_); clear hK K) | fail)
      exact ⟨j, by omega, Nat.lt_succ_self j, Fits.of ⟨rfl, rfl, rfl, rfl, rfl, trivial⟩ (by
        rw [← hY, hs]
        repeat (first | exact SubL.nil | exact SubL.refl _ | refine SubL.keep ?_ | exact SubL.headA _ _ | refine SubL.keepA ?_ _ | refine SubL.skip ?_ | refine SubL.skipA ?_ _)) rfl⟩
    · obtain rfl : b = 0 := by omega
      rw [if_neg h1] at hs
      have t1 : ((((0 : Nat)) : Int) == 1) = false := rfl
      clear hb2 ha hq hX h1 M2
      repeat' (first | (refine wlB ?_) | ((with_reducible refine sel_call ?_); refine wl_rd rfl rfl (rd_call rfl rfl rfl (fun w hm => by with_reducible first | exact hb w | exact M1 w)) ?_) | (refine wlE ?_) | (refine efZCnn ?_; intro n hn) | (refine efBnn ?_; intro n hn) | (refine efB ?_) | (refine wl_skip rfl rfl ?_) | ((with_reducible refine wc_seq ?_); intro K hK) | (refine auC ?_) | (refine wc_cond rfl (fun hc => ?_) (fun hc => ?_)) | (refine wc_draw (by kernel_rfl) (by kernel_rfl) (by decide +kernel) ?_; intro w0 hw0 hm0; (try simp only [List.append_eq, List.cons_append, List.nil_append])) | (refine auP ?_) | ((refine auR ?_); clear hK K) | (refine auR ?_) | ((with_reducible refine hK _ _ ?_); clear hK K) | fail)
      exact ⟨j, by omega, Nat.lt_succ_self j, Fits.of ⟨rfl, rfl, rfl, rfl, rfl, trivial⟩ (by
        rw [← hY, hs]
        repeat (first | exact SubL.nil | exact SubL.refl _ | refine SubL.keep ?_ | exact SubL.headA _ _ | refine SubL.keepA ?_ _ | refine SubL.skip ?_ | refine SubL.skipA ?_ _)) rfl⟩
set_option maxHeartbeats 1000000 in
theorem invG (a : Nat) (ha : a < T256) (w : World) : Calls Tryd.prog 85 [nu a].toArray w (Ret (nu (finv a)) w) := by
  have P := p_f
  have hP := PP_pos
  have Sc := sub_nu PP 2 PP_lt (by decide)
  have e : (PP + T256 - 2) % T256 = PP - 2 := by
    have := PP_lt
    rw [show PP + T256 - 2 = (PP - 2) + T256 by omega, Nat.add_mod_right, Nat.mod_eq_of_lt (by omega)]
  rw [e, if_neg (by omega)] at Sc
  have W := powG a (PP - 2) ha (by have := PP_lt; omega)
  rw [show fpow a (PP - 2) = finv a from rfl] at W
  generalize PP - 2 = z at *
  clear hP e ha
  refine fn_ret (N := _) Tryd.func85 rfl Tryd.ntmps85 Tryd.results85 (by simp) ?_
  simp only [initS, Nat.reduceAdd, Nat.zero_add]
  repeat' (first | (refine wlB ?_) | (refine wlNL ?_) | ((with_reducible refine sel_call ?_); refine wl_rd rfl rfl (rd_call rfl rfl rfl (fun w hm => by with_reducible first | exact P w | exact Sc w | exact W w)) ?_) | (refine wlE ?_) | (refine efZCnn ?_; intro n hn) | (refine efBnn ?_; intro n hn) | (refine efB ?_) | (refine wl_skip rfl rfl ?_) | ((with_reducible refine wc_seq ?_); intro K hK) | (refine auC ?_) | (refine wc_cond rfl (fun hc => ?_) (fun hc => ?_)) | (refine wc_draw (by kernel_rfl) (by kernel_rfl) (by decide +kernel) ?_; intro w0 hw0 hm0; (try simp only [List.append_eq, List.cons_append, List.nil_append])) | (refine auP ?_) | ((refine auR ?_); clear hK K) | (refine auR ?_) | ((with_reducible refine hK _ _ ?_); clear hK K) | fail)
  first | refine end_ret (ResP.cell rfl ld_whole ResP.nil) ?_ | refine end_normal (ResP.cell rfl ld_whole ResP.nil) ?_
  first | rfl | (show _ = _; rfl) | (simp only [tupV, *]; done)
theorem sqrt_n1 : ∃ z y, (∀ w, Calls Tryd.prog 76 [nu 1, .int .i64 252].toArray w (Ret (nu z) w)) ∧ (∀ w, Calls Tryd.prog 55 [nu z, nu 2].toArray w (Ret (.tuple #[nu E1, .int .u64 y]) w)) := by
  have e2 : (1 * 2 ^ 252 % T256 + T256 - 2) % T256 = E1 := by decide +kernel
  have D := sub_nu (1 * 2 ^ 252 % T256) 2 (Nat.mod_lt _ (by decide)) (by decide)
  rw [e2] at D
  exact ⟨_, _, fun w => shl_nu 1 252 (by decide) (by decide) w, D⟩
theorem sqrt_n2 : ∃ z y, (∀ w, Calls Tryd.prog 76 [nu 1, .int .i64 253].toArray w (Ret (nu z) w)) ∧ (∀ w, Calls Tryd.prog 55 [nu z, nu 5].toArray w (Ret (.tuple #[nu E2, .int .u64 y]) w)) := by
  have e2 : (1 * 2 ^ 253 % T256 + T256 - 5) % T256 = E2 := by decide +kernel
  have D := sub_nu (1 * 2 ^ 253 % T256) 5 (Nat.mod_lt _ (by decide)) (by decide)
  rw [e2] at D
  exact ⟨_, _, fun w => shl_nu 1 253 (by decide) (by decide) w, D⟩
theorem odd_word (n : Nat) : bits .and .u64 (limb n 0) 1 = ((n % 2 : Nat) : Int) := by
  have h := bits_and_u64_nat (n % 18446744073709551616) 1 (Nat.mod_lt _ (by decide)) (by omega)
  rw [Nat.and_one_is_mod] at h
  rw [limb0]
  refine h.trans ?_
  congr 1
  omega
set_option maxHeartbeats 8000000 in
theorem sqrtG (a : Nat) (ha : a < T256) (w : World) : Calls Tryd.prog 84 [nu a].toArray w (Ret (.tuple #[nu (froot a), .bool (isSq a)]) w) := by
  obtain ⟨z1, y1, S1, D1⟩ := sqrt_n1
  obtain ⟨z2, y2, S2, D2⟩ := sqrt_n2
  have L := lowG a ha
  have W1 := powG a E1 ha (by decide)
  have W2 := powG 2 E2 (by decide) (by decide)
  rw [show fpow a E1 = rootA a from rfl] at W1
  have hA : rootA a < T256 := fpow_lt _ _
  have hlow := flow_lt a
  have M1 := mulG (rootA a) (rootA a) hA hA
  have M2 := mulG (rootA a) (fpow 2 E2) hA (fpow_lt _ _)
  have hB := rootB_lt a
  have MB := mulG (rootB a) (rootB a) hB hB
  have SB := subG 0 (rootB a) (by decide) hB
  have hand := odd_word (rootB a)
  have g0 := numC_get (rootB a) 0 (by decide)
  have ho2 : rootB a % 2 < 2 := by omega
  have dq : isSq a = decide (fmul (rootB a) (rootB a) = flow a) := rfl
  have df : froot a = if isSq a = true then rootC a else 0 := rfl
  have dc : rootC a = if rootB a % 2 = 1 then fsub 0 (rootB a) else rootB a := rfl
  have db : rootB a = if fmul (rootA a) (rootA a) = flow a then rootA a else fmul (rootA a) (fpow 2 E2) := rfl
  generalize rootA a = rA at *
  generalize fpow 2 E2 = r2 at *
  by_cases h1 : fmul rA rA = flow a
  · rw [if_pos h1] at db
    have e1 : (decide (fmul rA rA = flow a)) = true := decide_eq_true h1
    rw [db] at hB MB SB hand g0 ho2 dq dc
    rw [e1] at dq
    rw [dq, if_pos rfl, dc] at df
    rw [dq, df]
    clear dq df dc db h1 D2 S2 W2 M2 MB ha
    generalize rA % 2 = o at *
    by_cases h2 : o = 1
    · subst h2
      rw [if_pos rfl]
      have t1 : ((((1 : Nat)) : Int) == 1) = true := rfl
      clear ho2
      refine fn_ret (N := _) Tryd.func84 rfl Tryd.ntmps84 Tryd.results84 (by simp) ?_
      simp only [initS, Nat.reduceAdd, Nat.zero_add]
      repeat' (first | (refine wlB ?_) | (refine wlNL ?_) | ((with_reducible refine sel_call ?_); refine wl_rd rfl rfl (rd_call rfl rfl rfl (fun w hm => by with_reducible first | exact S1 w | exact D1 w | exact W1 w | exact M1 w | exact L w | exact SB w)) ?_) | (refine wlEQ ?_) | (refine wlE ?_) | (refine efZCnn ?_; intro n hn) | (refine efBnn ?_; intro n hn) | (refine efB ?_) | (refine wl_skip rfl rfl ?_) | (refine wdV ?_) | (refine wdB ?_) | (refine wdNL ?_) | ((with_reducible refine seld_call ?_); refine wd_rd hm0 rfl rfl rfl rfl (rd_call rfl rfl rfl (fun w hm => by with_reducible first | exact S1 w | exact D1 w | exact W1 w | exact M1 w | exact L w | exact SB w)) ?_) | (refine wdEQ ?_) | (refine wdE ?_) | (refine wdT ?_) | (refine wd_skip rfl rfl ?_) | ((with_reducible refine seld_nil ?_); refine wd_nil hm0 ?_; clear hm0 hw0) | ((with_reducible refine wc_seq ?_); intro K hK) | (refine auC ?_) | (refine wc_cond rfl (fun hc => ?_) (fun hc => ?_)) | (refine wc_draw (by kernel_rfl) (by kernel_rfl) (by decide +kernel) ?_; intro w0 hw0 hm0; (try simp only [List.append_eq, List.cons_append, List.nil_append])) | (refine auP ?_) | ((refine auR ?_); clear hK K) | (refine auR ?_) | ((with_reducible refine hK _ _ ?_); clear hK K) | fail)
      first | refine end_ret (ResP.cell rfl ld_whole (ResP.tmp rfl ResP.nil)) ?_ | refine end_normal (ResP.cell rfl ld_whole (ResP.tmp rfl ResP.nil)) ?_
      first | rfl | (show _ = _; rfl) | (simp only [tupV, *]; done)
    · rw [if_neg h2]
      obtain rfl : o = 0 := by omega
      have t1 : ((((0 : Nat)) : Int) == 1) = false := rfl
      clear ho2 SB h2
      refine fn_ret (N := _) Tryd.func84 rfl Tryd.ntmps84 Tryd.results84 (by simp) ?_
      simp only [initS, Nat.reduceAdd, Nat.zero_add]
      repeat' (first | (refine wlB ?_) | (refine wlNL ?_) | ((with_reducible refine sel_call ?_); refine wl_rd rfl rfl (rd_call rfl rfl rfl (fun w hm => by with_reducible first | exact S1 w | exact D1 w | exact W1 w | exact M1 w | exact L w)) ?_) | (refine wlEQ ?_) | (refine wlE ?_) | (refine efZCnn ?_; intro n hn) | (refine efBnn ?_; intro n hn) | (refine efB ?_) | (refine wl_skip rfl rfl ?_) | (refine wdV ?_) | (refine wdB ?_) | (refine wdNL ?_) | ((with_reducible refine seld_call ?_); refine wd_rd hm0 rfl rfl rfl rfl (rd_call rfl rfl rfl (fun w hm => by with_reducible first | exact S1 w | exact D1 w | exact W1 w | exact M1 w | exact L w)) ?_) | (refine wdEQ ?_) | (refine wdE ?_) | (refine wdT ?_) | (refine wd_skip rfl rfl ?_) | ((with_reducible refine seld_nil ?_); refine wd_nil hm0 ?_; clear hm0 hw0) | ((with_reducible refine wc_seq ?_); intro K hK) | (refine auC ?_) | (refine wc_cond rfl (fun hc => ?_) (fun hc => ?_)) | (refine wc_draw (by kernel_rfl) (by kernel_rfl) (by decide +kernel) ?_; intro w0 hw0 hm0; (try simp only [List.append_eq, List.cons_append, List.nil_append])) | (refine auP ?_) | ((refine auR ?_); clear hK K) | (refine auR ?_) | ((with_reducible refine hK _ _ ?_); clear hK K) | fail)
      first | refine end_ret (ResP.cell rfl ld_whole (ResP.tmp rfl ResP.nil)) ?_ | refine end_normal (ResP.cell rfl ld_whole (ResP.tmp rfl ResP.nil)) ?_
      first | rfl | (show _ = _; rfl) | (simp only [tupV, *]; done)
  · rw [if_neg h1] at db
    have e1 : (decide (fmul rA rA = flow a)) = false := decide_eq_false h1
    rw [← db] at M2
    clear db h1
    generalize rootB a = rB at *
    by_cases h3 : fmul rB rB = flow a
    · have e3 : (decide (fmul rB rB = flow a)) = true := decide_eq_true h3
      rw [e3] at dq
      rw [dq, if_pos rfl, dc] at df
      rw [dq, df]
      clear dq df dc h3 ha
      generalize rB % 2 = o at *
      by_cases h2 : o = 1
      · subst h2
        rw [if_pos rfl]
        have t1 : ((((1 : Nat)) : Int) == 1) = true := rfl
        clear ho2
        refine fn_ret (N := _) Tryd.func84 rfl Tryd.ntmps84 Tryd.results84 (by simp) ?_
        simp only [initS, Nat.reduceAdd, Nat.zero_add]
        repeat' (first | (refine wlB ?_) | (refine wlNL ?_) | ((with_reducible refine sel_call ?_); refine wl_rd rfl rfl (rd_call rfl rfl rfl (fun w hm => by with_reducible first | exact S1 w | exact D1 w | exact W1 w | exact M1 w | exact L w | exact S2 w | exact D2 w | exact W2 w | exact M2 w | exact MB w | exact SB w)) ?_) | (refine wlEQ ?_) | (refine wlE ?_) | (refine efZCnn ?_; intro n hn) | (refine efBnn ?_; intro n hn) | (refine efB ?_) | (refine wl_skip rfl rfl ?_) | (refine wdV ?_) | (refine wdB ?_) | (refine wdNL ?_) | ((with_reducible refine seld_call ?_); refine wd_rd hm0 rfl rfl rfl rfl (rd_call rfl rfl rfl (fun w hm => by with_reducible first | exact S1 w | exact D1 w | exact W1 w | exact M1 w | exact L w | exact S2 w | exact D2 w | exact W2 w | exact M2 w | exact MB w | exact SB w)) ?_) | (refine wdEQ ?_) | (refine wdE ?_) | (refine wdT ?_) | (refine wd_skip rfl rfl ?_) | ((with_reducible refine seld_nil ?_); refine wd_nil hm0 ?_; clear hm0 hw0) | ((with_reducible refine wc_seq ?_); intro K hK) | (refine auC ?_) | (refine wc_cond rfl (fun hc => ?_) (fun hc => ?_)) | (refine wc_draw (by kernel_rfl) (by kernel_rfl) (by decide +kernel) ?_; intro w0 hw0 hm0; (try simp only [List.append_eq, List.cons_append, List.nil_append])) | (refine auP ?_) | ((refine auR ?_); clear hK K) | (refine auR ?_) | ((with_reducible refine hK _ _ ?_); clear hK K) | fail)
        first | refine end_ret (ResP.cell rfl ld_whole (ResP.tmp rfl ResP.nil)) ?_ | refine end_normal (ResP.cell rfl ld_whole (ResP.tmp rfl ResP.nil)) ?_
        first | rfl | (show _ = _; rfl) | (simp only [tupV, *]; done)
      · rw [if_neg h2]
        obtain rfl : o = 0 := by omega
        have t1 : ((((0 : Nat)) : Int) == 1) = false := rfl
        clear ho2 SB h2
        refine fn_ret (N := _) Tryd.func84 rfl Tryd.ntmps84 Tryd.results84 (by simp) ?_
        simp only [initS, Nat.reduceAdd, Nat.zero_add]
        repeat' (first | (refine wlB ?_) | (refine wlNL ?_) | ((with_reducible refine sel_call ?_); refine wl_rd rfl rfl (rd_call rfl rfl rfl (fun w hm => by with_reducible first | exact S1 w | exact D1 w | exact W1 w | exact M1 w | exact L w | exact S2 w | exact D2 w | exact W2 w | exact M2 w | exact MB w)) ?_) | (refine wlEQ ?_) | (refine wlE ?_) | (refine efZCnn ?_; intro n hn) | (refine efBnn ?_; intro n hn) | (refine efB ?_) | (refine wl_skip rfl rfl ?_) | (refine wdV ?_) | (refine wdB ?_) | (refine wdNL ?_) | ((with_reducible refine seld_call ?_); refine wd_rd hm0 rfl rfl rfl rfl (rd_call rfl rfl rfl (fun w hm => by with_reducible first | exact S1 w | exact D1 w | exact W1 w | exact M1 w | exact L w | exact S2 w | exact D2 w | exact W2 w | exact M2 w | exact MB w)) ?_) | (refine wdEQ ?_) | (refine wdE ?_) | (refine wdT ?_) | (refine wd_skip rfl rfl ?_) | ((with_reducible refine seld_nil ?_); refine wd_nil hm0 ?_; clear hm0 hw0) | ((with_reducible refine wc_seq ?_); intro K hK) | (refine auC ?_) | (refine wc_cond rfl (fun hc => ?_) (fun hc => ?_)) | (refine wc_draw (by kernel_rfl) (by kernel_rfl) (by decide +kernel) ?_; intro w0 hw0 hm0; (try simp only [List.append_eq, List.cons_append, List.nil_append])) | (refine auP ?_) | ((refine auR ?_); clear hK K) | (refine auR ?_) | ((with_reducible refine hK _ _ ?_); clear hK K) | fail)
        first | refine end_ret (ResP.cell rfl ld_whole (ResP.tmp rfl ResP.nil)) ?_ | refine end_normal (ResP.cell rfl ld_whole (ResP.tmp rfl ResP.nil)) ?_
        first | rfl | (show _ = _; rfl) | (simp only [tupV, *]; done)
    · have e3 : (decide (fmul rB rB = flow a)) = false := decide_eq_false h3
      rw [e3] at dq
      rw [dq, if_neg Bool.false_ne_true] at df
      rw [dq, df]
      clear dq df dc h3 ha ho2 hand g0 SB
      refine fn_ret (N := _) Tryd.func84 rfl Tryd.ntmps84 Tryd.results84 (by simp) ?_
      simp only [initS, Nat.reduceAdd, Nat.zero_add]
      repeat' (first | (refine wlB ?_) | (refine wlNL ?_) | ((with_reducible refine sel_call ?_); refine wl_rd rfl rfl (rd_call rfl rfl rfl (fun w hm => by with_reducible first | exact S1 w | exact D1 w | exact W1 w | exact M1 w | exact L w | exact S2 w | exact D2 w | exact W2 w | exact M2 w | exact MB w)) ?_) | (refine wlEQ ?_) | (refine wlE ?_) | (refine efZCnn ?_; intro n hn) | (refine efBnn ?_; intro n hn) | (refine efB ?_) | (refine wl_skip rfl rfl ?_) | (refine wdV ?_) | (refine wdB ?_) | (refine wdNL ?_) | ((with_reducible refine seld_call ?_); refine wd_rd hm0 rfl rfl rfl rfl (rd_call rfl rfl rfl (fun w hm => by with_reducible first | exact S1 w | exact D1 w | exact W1 w | exact M1 w | exact L w | exact S2 w | exact D2 w | exact W2 w | exact M2 w | exact MB w)) ?_) | (refine wdEQ ?_) | (refine wdE ?_) | (refine wdT ?_) | (refine wd_skip rfl rfl ?_) | ((with_reducible refine seld_nil ?_); refine wd_nil hm0 ?_; clear hm0 hw0) | ((with_reducible refine wc_seq ?_); intro K hK) | (refine auC ?_) | (refine wc_cond rfl (fun hc => ?_) (fun hc => ?_)) | (refine wc_draw (by kernel_rfl) (by kernel_rfl) (by decide +kernel) ?_; intro w0 hw0 hm0; (try simp only [List.append_eq, List.cons_append, List.nil_append])) | (refine auP ?_) | ((refine auR ?_); clear hK K) | (refine auR ?_) | ((with_reducible refine hK _ _ ?_); clear hK K) | fail)
      first | refine end_ret (ResP.cell rfl ld_whole (ResP.tmp rfl ResP.nil)) ?_ | refine end_normal (ResP.cell rfl ld_whole (ResP.tmp rfl ResP.nil)) ?_
      first | rfl | (show _ = _; rfl) | (simp only [tupV, *]; done)
end Go.Proofs.YtkbgkobbadjpnaaDoor
