/- The package store, walked: Restore, New. The package store, walked: New, DropOf. The laws' sameAttrs and attrs: walked. slices.Equal and slices.IsSorted at ints. Pointers against nil. Plain laws of stores, for the laws. What came in: attributes, lists of these, held objects; how large they are. Arguments that are slices of slices of bytes, and slices of integers. What a []int is that came in. Numbers of 256 bits as rows of four words: plain facts, no program in sight. What an argument is that came in: arrays of integers, numbers of 256 and 512 bits. Closed facts of the translation that hang on its long word of the order of beginnings: read once, by the signs of the word. rule.Hidden at lists that are small; attr.Get, asked for whether there is one. Match, told of kinds and bytes alone. -/
import Derived.Test.YtjianfhodjapgaaJnAB
import Derived.Test.YtjianfhodjapgaaJnAA
import Derived.Test.YtjianfhodjapgaaLwH
import Derived.Test.YtjianfhodjapgaaTyS
import Derived.Test.YtjianfhodjapgaaLwDraw
import Derived.WalkKit
import Derived.Test.YtjianfhodjapgaaCom
import Derived.ProofKit
import Derived.OpenShut
import Derived.Test.YtjianfhodjapgaaProg
import Derived.JoinedOf
namespace Go.Proofs.Ytjianfhodjapgaa
open Go.RowKit
set_option linter.unusedVariables false
set_option linter.unusedSimpArgs false
set_option maxRecDepth 100000
/-- Held objects that came in. -/
structure Hes (w : World) (v : Value) (l : List He) : Prop where
  cs : Cs w v l.length (hesC l)
  body : ∀ x ∈ l, Ats w x.2.2.1 x.2.2.2
/-- They rise, below a number. -/
structure RiseH (l : List He) (next : Int) : Prop where
  rise : (l.map (·.1)).Pairwise (· < ·)
  pos : ∀ x ∈ l, 1 ≤ x.1 ∧ x.1 < next
/-- The last number of those at the front. -/
structure LastH (l : List He) (next last : Int) : Prop where
  ok : RiseH l next
  le : ∀ x ∈ l, x.1 ≤ last
  is : (l = [] ∧ last = 0) ∨ ∃ y ∈ l, y.1 = last
theorem LastH.step {l : List He} {next last : Int} (h : LastH l next last) (x : He) : (last < x.1 ∧ x.1 < next → LastH (l ++ [x]) next x.1) ∧ (¬ (last < x.1 ∧ x.1 < next) → ¬ RiseH (l ++ [x]) next) := by
  constructor
  · rintro ⟨h1, h2⟩
    have h0 : 0 ≤ last := by
      rcases h.is with ⟨_, h⟩ | ⟨y, hy, rfl⟩
      · omega
      · have := h.ok.pos y hy; omega
    refine ⟨⟨?_, fun y hy => ?_⟩, fun y hy => ?_, .inr ⟨x, by simp, rfl⟩⟩
    · rw [List.map_append, List.pairwise_append]
      refine ⟨h.ok.rise, by simp, fun a ha b hb => ?_⟩
      simp at hb; subst hb
      obtain ⟨y, hy, rfl⟩ := List.mem_map.1 ha
      have := h.le y hy
      omega
    · rcases List.mem_append.1 hy with hy | hy
      · exact h.ok.pos y hy
      · simp only [List.mem_singleton] at hy; subst hy; omega
    · rcases List.mem_append.1 hy with hy | hy
      · have := h.le y hy; omega
      · simp only [List.mem_singleton] at hy; subst hy; omega
  · intro hn hr
    apply hn
    have hx := hr.pos x (by simp)
    refine ⟨?_, hx.2⟩
    rcases h.is with ⟨_, h⟩ | ⟨y, hy, rfl⟩
    · omega
    · have h1 := hr.rise
      rw [List.map_append, List.pairwise_append] at h1
      exact h1.2.2 y.1 (List.mem_map_of_mem hy) x.1 (by simp)
theorem RiseH.take {l : List He} {next : Int} (h : RiseH l next) (i : Nat) : RiseH (l.take i) next :=
  ⟨h.rise.sublist ((List.take_sublist i l).map _), fun x hx => h.pos x (List.mem_of_mem_take hx)⟩
theorem small_abs {l m : List Att} (h : abs m = abs l) (hs : Small l) : Small m := by
  have hl : m.length = l.length := by have := congrArg List.length h; rwa [abs_len, abs_len] at this
  refine ⟨by rw [hl]; exact hs.len, fun x hx => ?_⟩
  have h1 : (x.1, x.2.2) ∈ abs l := by rw [← h]; exact List.mem_map.2 ⟨x, hx, rfl⟩
  obtain ⟨y, hy, he⟩ := List.mem_map.1 h1
  have h2 : y.2.2 = x.2.2 := congrArg (·.2) he
  rw [← h2]; exact hs.each y hy
/-- What Restore says. -/
def resBad (most next : Int) : Prop := most < 1 ∨ 16 < most ∨ next < 1 ∨ 1073741824 < next
set_option maxHeartbeats 4000000 in
theorem restore_bad (w : World) {most next : Int} {v : Value} [One v] (h : resBad most next) : Calls Try.prog 8 [.int .i64 most, .int .i64 next, v].toArray w (Ret (.tuple #[.pointer none, .int .i64 1]) w) := by
  unfold resBad at h
  by_cases h1 : most < 1
  · have t1 : decide (most < 1) = true := decide_eq_true h1
    clear h
    refine fn_ret (N := _) Try.func8 rfl Try.ntmps8 Try.results8 (by simp) ?_
    simp only [initS, Nat.reduceAdd, Nat.zero_add]
    repeat' (first | (refine wlS ?_) | (refine wlB ?_) | (refine wlE ?_) | (refine efSvao ?_; intro v oa ho) | (refine efBnn ?_; intro n hn) | (refine efB ?_) | (refine efBS ?_) | (refine wl_skip rfl rfl ?_) | (refine wdS ?_) | (refine wdV ?_) | (refine wdB ?_) | (refine wd_skip rfl rfl ?_) | ((with_reducible refine seld_nil ?_); refine wd_nil hm0 ?_; clear hm0 hw0) | ((with_reducible refine wc_seq ?_); intro K hK) | (refine auC ?_) | (refine wc_cond rfl (fun hc => ?_) (fun hc => ?_)) | (refine wc_draw (by kernel_rfl) (by kernel_rfl) (by decide +kernel) ?_; intro w0 hw0 hm0; (try simp only [List.append_eq, List.cons_append, List.nil_append])) | (refine auP ?_) | ((refine auR ?_); clear hK K) | (refine auR ?_) | ((with_reducible refine hK _ _ ?_); clear hK K) | fail)
    first | refine end_ret (ResP.tmp rfl (ResP.tmp rfl ResP.nil)) ?_ | refine end_normal (ResP.tmp rfl (ResP.tmp rfl ResP.nil)) ?_
    first | rfl | (show _ = _; rfl) | (simp only [tupV, *]; done)
  have t1 : decide (most < 1) = false := decide_eq_false h1
  by_cases h2 : 16 < most
  · have t2 : decide (most > 16) = true := decide_eq_true h2
    clear h
    refine fn_ret (N := _) Try.func8 rfl Try.ntmps8 Try.results8 (by simp) ?_
    simp only [initS, Nat.reduceAdd, Nat.zero_add]
    repeat' (first | (refine wlS ?_) | (refine wlB ?_) | (refine wlE ?_) | (refine efSvao ?_; intro v oa ho) | (refine efBnn ?_; intro n hn) | (refine efB ?_) | (refine efBS ?_) | (refine wl_skip rfl rfl ?_) | (refine wdS ?_) | (refine wdV ?_) | (refine wdB ?_) | (refine wd_skip rfl rfl ?_) | ((with_reducible refine seld_nil ?_); refine wd_nil hm0 ?_; clear hm0 hw0) | ((with_reducible refine wc_seq ?_); intro K hK) | (refine auC ?_) | (refine wc_cond rfl (fun hc => ?_) (fun hc => ?_)) | (refine wc_draw (by kernel_rfl) (by kernel_rfl) (by decide +kernel) ?_; intro w0 hw0 hm0; (try simp only [List.append_eq, List.cons_append, List.nil_append])) | (refine auP ?_) | ((refine auR ?_); clear hK K) | (refine auR ?_) | ((with_reducible refine hK _ _ ?_); clear hK K) | fail)
    first | refine end_ret (ResP.tmp rfl (ResP.tmp rfl ResP.nil)) ?_ | refine end_normal (ResP.tmp rfl (ResP.tmp rfl ResP.nil)) ?_
    first | rfl | (show _ = _; rfl) | (simp only [tupV, *]; done)
  have t2 : decide (most > 16) = false := decide_eq_false h2
  by_cases h3 : next < 1
  · have t3 : decide (next < 1) = true := decide_eq_true h3
    clear h
    refine fn_ret (N := _) Try.func8 rfl Try.ntmps8 Try.results8 (by simp) ?_
    simp only [initS, Nat.reduceAdd, Nat.zero_add]
    repeat' (first | (refine wlS ?_) | (refine wlB ?_) | (refine wlE ?_) | (refine efSvao ?_; intro v oa ho) | (refine efBnn ?_; intro n hn) | (refine efB ?_) | (refine efBS ?_) | (refine wl_skip rfl rfl ?_) | (refine wdS ?_) | (refine wdV ?_) | (refine wdB ?_) | (refine wd_skip rfl rfl ?_) | ((with_reducible refine seld_nil ?_); refine wd_nil hm0 ?_; clear hm0 hw0) | ((with_reducible refine wc_seq ?_); intro K hK) | (refine auC ?_) | (refine wc_cond rfl (fun hc => ?_) (fun hc => ?_)) | (refine wc_draw (by kernel_rfl) (by kernel_rfl) (by decide +kernel) ?_; intro w0 hw0 hm0; (try simp only [List.append_eq, List.cons_append, List.nil_append])) | (refine auP ?_) | ((refine auR ?_); clear hK K) | (refine auR ?_) | ((with_reducible refine hK _ _ ?_); clear hK K) | fail)
    first | refine end_ret (ResP.tmp rfl (ResP.tmp rfl ResP.nil)) ?_ | refine end_normal (ResP.tmp rfl (ResP.tmp rfl ResP.nil)) ?_
    first | rfl | (show _ = _; rfl) | (simp only [tupV, *]; done)
  have t3 : decide (next < 1) = false := decide_eq_false h3
  have t4 : decide (next > 1073741824) = true := decide_eq_true (by omega)
  clear h
  refine fn_ret (N := _) Try.func8 rfl Try.ntmps8 Try.results8 (by simp) ?_
  simp only [initS, Nat.reduceAdd, Nat.zero_add]
  repeat' (first | (refine wlS ?_) | (refine wlB ?_) | (refine wlE ?_) | (refine efSvao ?_; intro v oa ho) | (refine efBnn ?_; intro n hn) | (refine efB ?_) | (refine efBS ?_) | (refine wl_skip rfl rfl ?_) | (refine wdS ?_) | (refine wdV ?_) | (refine wdB ?_) | (refine wd_skip rfl rfl ?_) | ((with_reducible refine seld_nil ?_); refine wd_nil hm0 ?_; clear hm0 hw0) | ((with_reducible refine wc_seq ?_); intro K hK) | (refine auC ?_) | (refine wc_cond rfl (fun hc => ?_) (fun hc => ?_)) | (refine wc_draw (by kernel_rfl) (by kernel_rfl) (by decide +kernel) ?_; intro w0 hw0 hm0; (try simp only [List.append_eq, List.cons_append, List.nil_append])) | (refine auP ?_) | ((refine auR ?_); clear hK K) | (refine auR ?_) | ((with_reducible refine hK _ _ ?_); clear hK K) | fail)
  first | refine end_ret (ResP.tmp rfl (ResP.tmp rfl ResP.nil)) ?_ | refine end_normal (ResP.tmp rfl (ResP.tmp rfl ResP.nil)) ?_
  first | rfl | (show _ = _; rfl) | (simp only [tupV, *]; done)
/-- What came in, as it is kept. -/
structure RsS where
  i : Nat
  m : List Kp
  ob : Blks
structure RsS.Ok (most next : Int) (l : List He) (x : RsS) : Prop where
  le : x.i ≤ l.length
  ok : StoOk ⟨most, next, x.m, x.i⟩
  kp : KpF x.ob x.m
  eq : x.m.map absK = (l.take x.i).map absH
set_option maxHeartbeats 16000000 in
theorem restore_c0 (w : World) {most next : Int} {v : Value} {l : List He} (hg : ¬ resBad most next) (hl : Hes w v l) (hsm : ∀ x ∈ l, Small x.2.2.2) (hlen : l.length ≤ 1048576) :
    Calls Try.prog 8 [.int .i64 most, .int .i64 next, v].toArray w (RetO (fun y : Option Nat × Int => .tuple #[.pointer (y.1.map fun b => ⟨b, 0, none⟩), .int .i64 y.2])
      (fun y oa => (y = (none, 1) ∧ ¬ RiseH l next ∧ oa = []) ∨ (y = (none, 7) ∧ RiseH l next ∧ most < (l.length : Int) ∧ oa = []) ∨
        ∃ b g S ob, y = (some b, 0) ∧ RiseH l next ∧ (l.length : Int) ≤ most ∧ oa = stoB b g S ++ ob ∧ StoOk S ∧ S.most = most ∧ S.next = next ∧ KpF ob S.m ∧ S.m.map absK = l.map absH) w) := by
  haveI i0 := hl.cs.old
  unfold resBad at hg
  have t1 : decide (most < 1) = false := decide_eq_false (by omega)
  have t2 : decide (most > 16) = false := decide_eq_false (by omega)
  have t3 : decide (next < 1) = false := decide_eq_false (by omega)
  have t4 : decide (next > 1073741824) = false := decide_eq_false (by omega)
  have hbody := hl.body
  clear hl
  refine fn_own (N := _) Try.func8 rfl Try.ntmps8 Try.results8 (by simp) ?_
  simp only [initS, Nat.reduceAdd, Nat.zero_add]
  repeat' (first | (refine wlS ?_) | (refine wlB ?_) | (refine wlE ?_) | (refine efSvao ?_; intro v oa ho) | (refine efBnn ?_; intro n hn) | (refine efB ?_) | (refine efBS ?_) | (refine wl_skip rfl rfl ?_) | (refine wdS ?_) | (refine wdV ?_) | (refine wdB ?_) | (refine wd_skip rfl rfl ?_) | ((with_reducible refine seld_nil ?_); refine wd_nil hm0 ?_; clear hm0 hw0) | ((with_reducible refine wc_seq ?_); intro K hK) | (refine auC ?_) | (refine wc_cond rfl (fun hc => ?_) (fun hc => ?_)) | (refine wc_draw (by kernel_rfl) (by kernel_rfl) (by decide +kernel) ?_; intro w0 hw0 hm0; (try simp only [List.append_eq, List.cons_append, List.nil_append])) | (refine auP ?_) | ((refine auR ?_); clear hK K) | (refine auR ?_) | ((with_reducible refine hK _ _ ?_); clear hK K) | fail)
  refine wc_loop (σ := Nat × Int) (fun x => [(0, .int .i64 most), (1, .int .i64 next), (2, v), (8, .int .i64 x.2), (28, v), (29, .int .i64 (l.length : Int)), (30, .int .i64 (x.1 : Int))]) (fun _ => [])
    (fun x => x.1 ≤ l.length ∧ LastH (l.take x.1) next x.2) (fun x => l.length - x.1) (0, 0) ⟨Nat.zero_le _, ⟨⟨by simp, by simp⟩, by simp, .inl ⟨rfl, rfl⟩⟩⟩ (Fits.of ⟨rfl, rfl, rfl, rfl, rfl, rfl, rfl, trivial⟩ .nil rfl) ?_
  rintro ⟨i, last⟩ ⟨hi, hla⟩
  dsimp only at hi hla ⊢
  by_cases hlt : i < l.length
  · obtain ⟨⟨hh, ow, vx, its⟩, hx⟩ : ∃ x, l[i]? = some x := ⟨l[i]'hlt, List.getElem?_eq_getElem _⟩
    have hget := hesC_get hx
    obtain ⟨pv, cv, hv, _⟩ := (hbody _ (List.mem_of_getElem? hx)).cs.ln.out
    dsimp only at hv
    subst hv
    have hget2 : ((hesC l).drop (i * 3)).take 3 = [.int .i64 hh, .int .i64 ow, .slice pv its.length cv] := hget
    obtain ⟨hs1, hs2⟩ := hla.step (hh, ow, .slice pv its.length cv, its)
    rw [← show l.take (i + 1) = l.take i ++ [(hh, ow, .slice pv its.length cv, its)] by rw [List.take_add_one, hx]; rfl] at hs1 hs2
    dsimp only at hs1 hs2
    have u1 : decide ((i : Int) < (l.length : Int)) = true := decide_eq_true (by omega)
    have u2 : IntKind.i64.wrap ((i : Int) + 1) = ((i + 1 : Nat) : Int) := by rw [wrap_i64 _ (by omega) (by omega)]; omega
    have j1 : (i : Int) < (l.length : Int) := by omega
    clear hget
    by_cases hc1 : hh ≤ last
    · have t5 : decide (hh ≤ last) = true := decide_eq_true hc1
      have hno : ¬ RiseH l next := fun h => hs2 (by omega) (h.take _)
      clear hs1 hs2 hla hbody hsm
      repeat' (first | (refine wlS ?_) | (refine wlB ?_) | (refine wlE ?_) | (refine efSvao ?_; intro v oa ho) | (refine efZCnn ?_; intro n hn) | (refine efBnn ?_; intro n hn) | (refine efB ?_) | (refine efBS ?_) | (refine wl_skip rfl rfl ?_) | (refine wdS ?_) | (refine wdV ?_) | (refine wdB ?_) | (refine wd_skip rfl rfl ?_) | ((with_reducible refine seld_nil ?_); refine wd_nil hm0 ?_; clear hm0 hw0) | ((with_reducible refine wc_seq ?_); intro K hK) | (refine auC ?_) | (refine wc_cond rfl (fun hc => ?_) (fun hc => ?_)) | (refine wc_draw (by kernel_rfl) (by kernel_rfl) (by decide +kernel) ?_; intro w0 hw0 hm0; (try simp only [List.append_eq, List.cons_append, List.nil_append])) | (refine auP ?_) | ((refine auR ?_); clear hK K) | (refine auR ?_) | ((with_reducible refine hK _ _ ?_); clear hK K) | fail)
      first | refine end_ret (ResP.tmp rfl (ResP.tmp rfl ResP.nil)) ?_ | refine end_normal (ResP.tmp rfl (ResP.tmp rfl ResP.nil)) ?_
      (try dsimp only [tupV])
      exact ⟨(none, 1), [], rfl, .inl ⟨rfl, hno, rfl⟩, .nil⟩
    have t5 : decide (hh ≤ last) = false := decide_eq_false hc1
    by_cases hc2 : next ≤ hh
    · have t6 : decide (hh ≥ next) = true := decide_eq_true hc2
      have hno : ¬ RiseH l next := fun h => hs2 (by omega) (h.take _)
      clear hs1 hs2 hla hbody hsm
      repeat' (first | (refine wlS ?_) | (refine wlB ?_) | (refine wlE ?_) | (refine efSvao ?_; intro v oa ho) | (refine efZCnn ?_; intro n hn) | (refine efBnn ?_; intro n hn) | (refine efB ?_) | (refine efBS ?_) | (refine wl_skip rfl rfl ?_) | (refine wdS ?_) | (refine wdV ?_) | (refine wdB ?_) | (refine wd_skip rfl rfl ?_) | ((with_reducible refine seld_nil ?_); refine wd_nil hm0 ?_; clear hm0 hw0) | ((with_reducible refine wc_seq ?_); intro K hK) | (refine auC ?_) | (refine wc_cond rfl (fun hc => ?_) (fun hc => ?_)) | (refine wc_draw (by kernel_rfl) (by kernel_rfl) (by decide +kernel) ?_; intro w0 hw0 hm0; (try simp only [List.append_eq, List.cons_append, List.nil_append])) | (refine auP ?_) | ((refine auR ?_); clear hK K) | (refine auR ?_) | ((with_reducible refine hK _ _ ?_); clear hK K) | fail)
      first | refine end_ret (ResP.tmp rfl (ResP.tmp rfl ResP.nil)) ?_ | refine end_normal (ResP.tmp rfl (ResP.tmp rfl ResP.nil)) ?_
      (try dsimp only [tupV])
      exact ⟨(none, 1), [], rfl, .inl ⟨rfl, hno, rfl⟩, .nil⟩
    have t6 : decide (hh ≥ next) = false := decide_eq_false hc2
    have hnx := hs1 (by omega)
    clear hs1 hs2 hla hbody hsm
    repeat' (first | (refine wlS ?_) | (refine wlB ?_) | (refine wlE ?_) | (refine efSvao ?_; intro v oa ho) | (refine efZCnn ?_; intro n hn) | (refine efBnn ?_; intro n hn) | (refine efB ?_) | (refine efBS ?_) | (refine wl_skip rfl rfl ?_) | (refine wdS ?_) | (refine wdV ?_) | (refine wdB ?_) | (refine wd_skip rfl rfl ?_) | ((with_reducible refine seld_nil ?_); refine wd_nil hm0 ?_; clear hm0 hw0) | ((with_reducible refine wc_seq ?_); intro K hK) | (refine auC ?_) | (refine wc_cond rfl (fun hc => ?_) (fun hc => ?_)) | (refine wc_draw (by kernel_rfl) (by kernel_rfl) (by decide +kernel) ?_; intro w0 hw0 hm0; (try simp only [List.append_eq, List.cons_append, List.nil_append])) | (refine auP ?_) | ((refine auR ?_); clear hK K) | (refine auR ?_) | ((with_reducible refine hK _ _ ?_); clear hK K) | fail)
    refine ⟨(i + 1, hh), ⟨hlt, hnx⟩, by dsimp only; omega, Fits.of ⟨rfl, rfl, rfl, rfl, rfl, rfl, rfl, trivial⟩ .nil rfl⟩
  · obtain rfl : i = l.length := by omega
    have u1 : decide ((l.length : Int) < (l.length : Int)) = false := decide_eq_false (by omega)
    rw [List.take_length] at hla
    have hrise := hla.ok
    by_cases hfull : most < (l.length : Int)
    · have t5 : decide ((l.length : Int) > most) = true := decide_eq_true hfull
      clear hbody hsm hla
      repeat' (first | (refine wlS ?_) | (refine wlB ?_) | (refine wlE ?_) | (refine efSvao ?_; intro v oa ho) | (refine efBnn ?_; intro n hn) | (refine efB ?_) | (refine efBS ?_) | (refine wl_skip rfl rfl ?_) | (refine wdS ?_) | (refine wdV ?_) | (refine wdB ?_) | (refine wd_skip rfl rfl ?_) | ((with_reducible refine seld_nil ?_); refine wd_nil hm0 ?_; clear hm0 hw0) | ((with_reducible refine wc_seq ?_); intro K hK) | (refine auC ?_) | (refine wc_cond rfl (fun hc => ?_) (fun hc => ?_)) | (refine wc_draw (by kernel_rfl) (by kernel_rfl) (by decide +kernel) ?_; intro w0 hw0 hm0; (try simp only [List.append_eq, List.cons_append, List.nil_append])) | (refine auP ?_) | ((refine auR ?_); clear hK K) | (refine auR ?_) | ((with_reducible refine hK _ _ ?_); clear hK K) | fail)
      first | refine end_ret (ResP.tmp rfl (ResP.tmp rfl ResP.nil)) ?_ | refine end_normal (ResP.tmp rfl (ResP.tmp rfl ResP.nil)) ?_
      (try dsimp only [tupV])
      exact ⟨(none, 7), [], rfl, .inr (.inl ⟨rfl, hrise, hfull, rfl⟩), .nil⟩
    have t5 : decide ((l.length : Int) > most) = false := decide_eq_false hfull
    clear hla
    repeat' (first | (refine wlS ?_) | (refine wlB ?_) | (refine wlE ?_) | (refine efSvao ?_; intro v oa ho) | (refine efBnn ?_; intro n hn) | (refine efB ?_) | (refine efBS ?_) | (refine wl_skip rfl rfl ?_) | (refine wdS ?_) | (refine wdV ?_) | (refine wdB ?_) | (refine wd_skip rfl rfl ?_) | ((with_reducible refine seld_nil ?_); refine wd_nil hm0 ?_; clear hm0 hw0) | ((with_reducible refine wc_seq ?_); intro K hK) | (refine auC ?_) | (refine wc_cond rfl (fun hc => ?_) (fun hc => ?_)) | (refine wc_draw (by kernel_rfl) (by kernel_rfl) (by decide +kernel) ?_; intro w0 hw0 hm0; (try simp only [List.append_eq, List.cons_append, List.nil_append])) | (refine auP ?_) | ((refine auR ?_); clear hK K) | (refine auR ?_) | ((with_reducible refine hK _ _ ?_); clear hK K) | fail)
    repeat' (first | (refine wlB ?_) | (refine wlE ?_) | ((with_reducible refine sel_makeMap ?_); first | (refine wl_mmap rfl rfl rfl ?_; intro g hg)) | (refine efBnn ?_; intro n hn) | (refine efB ?_) | (refine wl_skip rfl rfl ?_) | (refine wdV ?_) | (refine wdB ?_) | (refine wd_skip rfl rfl ?_) | ((with_reducible refine seld_nil ?_); refine wd_nil hm0 ?_; clear hm0 hw0) | ((with_reducible refine wc_seq ?_); intro K hK) | (refine auC ?_) | (refine wc_cond rfl (fun hc => ?_) (fun hc => ?_)) | (refine wc_draw (by kernel_rfl) (by kernel_rfl) (by decide +kernel) ?_; intro w0 hw0 hm0; (try simp only [List.append_eq, List.cons_append, List.nil_append])) | (refine auP ?_) | ((refine auR ?_); clear hK K) | (refine auR ?_) | ((with_reducible refine hK _ _ ?_); clear hK K) | fail)

    obtain ⟨b, rfl⟩ : ∃ b, b = n := ⟨n, rfl⟩
    repeat' (first | (refine wlS ?_) | (refine wlB ?_) | (refine wlE ?_) | (refine efSvao ?_; intro v oa ho) | (refine efBnn ?_; intro n hn) | (refine efB ?_) | (refine efBS ?_) | (refine wl_skip rfl rfl ?_) | (refine wdS ?_) | (refine wdV ?_) | (refine wdB ?_) | (refine wd_skip rfl rfl ?_) | ((with_reducible refine seld_nil ?_); refine wd_nil hm0 ?_; clear hm0 hw0) | ((with_reducible refine wc_seq ?_); intro K hK) | (refine auC ?_) | (refine wc_cond rfl (fun hc => ?_) (fun hc => ?_)) | (refine wc_draw (by kernel_rfl) (by kernel_rfl) (by decide +kernel) ?_; intro w0 hw0 hm0; (try simp only [List.append_eq, List.cons_append, List.nil_append])) | (refine auP ?_) | ((refine auR ?_); clear hK K) | (refine auR ?_) | ((with_reducible refine hK _ _ ?_); clear hK K) | fail)
    refine wc_loop (σ := RsS) (fun x => [(0, .int .i64 most), (1, .int .i64 next), (11, ptr b), (56, v), (57, .int .i64 (l.length : Int)), (58, .int .i64 (x.i : Int))]) (fun x => stoB b g ⟨most, next, x.m, x.i⟩ ++ x.ob)
      (RsS.Ok most next l) (fun x => l.length - x.i) ⟨0, [], []⟩ ⟨Nat.zero_le _, sto_new (by omega) (by omega), KpF.nil _, rfl⟩ (Fits.of ⟨rfl, rfl, rfl, rfl, rfl, rfl, trivial⟩ (SubL.refl _) rfl) ?_
    rintro ⟨i, m, ob⟩ ⟨hi, hS, hKp, hab⟩
    dsimp only at hi hS hKp hab ⊢
    by_cases hlt : i < l.length
    · obtain ⟨⟨hh, ow, vx, its⟩, hx⟩ : ∃ x, l[i]? = some x := ⟨l[i]'hlt, List.getElem?_eq_getElem _⟩
      have hget := hesC_get hx
      have hmem := List.mem_of_getElem? hx
      have hax := hbody _ hmem
      have hsx := hsm _ hmem
      dsimp only at hax hsx
      obtain ⟨pv, cv, hv, _⟩ := hax.cs.ln.out
      subst hv
      have hget2 : ((hesC l).drop (i * 3)).take 3 = [.int .i64 hh, .int .i64 ow, .slice pv its.length cv] := hget
      have CO := fun w' (h2 : Below w.heap.size w w') => own_o hax hsx h2
      have u1 : decide ((i : Int) < (l.length : Int)) = true := decide_eq_true (by omega)
      have u2 : IntKind.i64.wrap ((i : Int) + 1) = ((i + 1 : Nat) : Int) := by rw [wrap_i64 _ (by omega) (by omega)]; omega
      have j1 : (i : Int) < (l.length : Int) := by omega
      have hpos := hrise.pos _ hmem
      have hlen2 : m.length = i := by
        have := congrArg List.length hab
        rw [List.length_map, List.length_map, List.length_take] at this
        omega
      have hbe : ∀ x ∈ m, x.1 < hh := fun x hxm => by
        have h1 : absK x ∈ (l.take i).map absH := by rw [← hab]; exact List.mem_map_of_mem hxm
        obtain ⟨y, hy, he⟩ := List.mem_map.1 h1
        obtain ⟨q, hq1, hq2⟩ := List.mem_iff_getElem.1 hy
        have hqi : q < i := by rw [List.length_take] at hq1; omega
        have h2 := List.pairwise_iff_getElem.1 hrise.rise q i (by rw [List.length_map]; omega) (by rw [List.length_map]; omega) hqi
        rw [List.getElem_map, List.getElem_map] at h2
        rw [List.getElem_take] at hq2
        rw [List.getElem?_eq_getElem hlt] at hx
        have h3 : l[i] = (hh, ow, Value.slice pv its.length cv, its) := Option.some.inj hx
        rw [hq2, h3] at h2
        have h4 : y.1 = x.1 := congrArg (·.1) he
        dsimp only at h2
        omega
      have hno : kget m hh = none := kget_none.2 fun x hxm e => by have := hbe x hxm; omega
      have hok : ∀ v' its', StoOk ⟨most, next, m ++ [(hh, ow, v', its', i)], i + 1⟩ := fun v' its' =>
        hS.add (o := ow) (v := v') (its := its') (nx := next) (by dsimp only; omega) hpos.1 hbe hpos.2 (Int.le_refl _) (by omega)
      clear hget hbody hsm hS hax hpos hbe
      unfold stoB stoC
      dsimp only
      repeat' (first | (refine wlS ?_) | (refine wlB ?_) | (refine wlE ?_) | (refine efSvao ?_; intro v oa ho) | (refine efZCnn ?_; intro n hn) | ((with_reducible refine sel_call ?_); first | (refine wl_newO rfl rfl rfl rfl rfl (fun w hm => by with_reducible exact CO w (hm.below rfl)) ?_; intro x oa hx)) | ((with_reducible refine sel_mapUpdate ?_); first | (refine wl_mset rfl rfl rfl rfl rfl rfl ?_)) | (refine efBnn ?_; intro n hn) | (refine efB ?_) | (refine efBS ?_) | (refine wl_skip rfl rfl ?_) | ((with_reducible refine wc_seq ?_); intro K hK) | (refine auC ?_) | (refine wc_cond rfl (fun hc => ?_) (fun hc => ?_)) | ((with_reducible refine wc_drawH _ [7] (by kernel_rfl) (SubL.refl _) ?_); (try simp only [List.append_eq, List.cons_append, List.nil_append, List.length_cons, List.length_nil, Nat.reduceAdd])) | ((with_reducible refine sel_wh ?_); (refine wh_if (by decide +kernel) ?_); first | (refine wh_take (lq := []) rfl rfl rfl rfl (by first | exact rvS | exact rvB) (Or.inl rfl) ?_) | (refine wh_takeL rfl rfl rfl rfl (by first | exact rvS | exact rvB) (by decide +kernel) ?_)) | (refine whS ?_; intro v hv hp) | ((with_reducible refine sel_wh ?_); first | (refine wh_pass rfl rfl rfl rfl ?_) | (refine wh_done rfl ?_) | (refine wh_all rfl ?_)) | ((with_reducible refine sel_rest ?_); first | exact rest_nil rfl | refine rest_cons rfl rfl ?_ ?_) | ((with_reducible refine sel_nx ?_); first | refine next_of ?_ | refine next_late (by decide +kernel) ?_) | (refine auP ?_) | ((refine auR ?_); clear hK K) | (refine auR ?_) | ((with_reducible refine hK _ _ ?_); clear hK K) | fail)
      rename_i hx1
      obtain ⟨it2, hT, hab2⟩ := hx
      have hms := mset_kp (m := m) (x := (hh, ow, .slice x.1 x.2.1 x.2.2, it2, i)) hno rfl
      refine ⟨⟨i + 1, m ++ [(hh, ow, .slice x.1 x.2.1 x.2.2, it2, i)], ob ++ oa⟩, ⟨hlt, hok _ _, ?_, ?_⟩, by dsimp only; omega, Fits.of ⟨rfl, rfl, rfl, rfl, rfl, rfl, trivial⟩ ?_ rfl⟩
      · exact (hKp.more fun p hp => List.mem_append_left _ hp).app fun y hy => by
          simp only [List.mem_singleton] at hy
          subst hy
          exact ⟨hT.atf.weak fun w hw => hw.right, small_abs hab2 hsx⟩
      · dsimp only
        rw [List.take_add_one, hx1, List.map_append, List.map_append, hab]
        simp [absH, absK, hab2]
      · dsimp only
        have hms2 := hms
        dsimp only [kpV] at hms2
        show SubL _ ((n, _) :: (b, _) :: (g, mapB (mset (m.map kpE) hh (kpV (hh, ow, .slice x.1 x.2.1 x.2.2, it2, i)) i).1 (mset (m.map kpE) hh (kpV (hh, ow, .slice x.1 x.2.1 x.2.2, it2, i)) i).2) :: (ob ++ oa))
        rw [hms]
        exact .skip (SubL.refl _)
    · obtain rfl : i = l.length := by omega
      have u1 : decide ((l.length : Int) < (l.length : Int)) = false := decide_eq_false (by omega)
      rw [List.take_length] at hab
      repeat' (first | (refine wlS ?_) | (refine wlB ?_) | (refine wlE ?_) | (refine efSvao ?_; intro v oa ho) | (refine efBnn ?_; intro n hn) | (refine efB ?_) | (refine efBS ?_) | (refine wl_skip rfl rfl ?_) | (refine wdS ?_) | (refine wdV ?_) | (refine wdB ?_) | (refine wd_skip rfl rfl ?_) | ((with_reducible refine seld_nil ?_); refine wd_nil hm0 ?_; clear hm0 hw0) | ((with_reducible refine wc_seq ?_); intro K hK) | (refine auC ?_) | (refine wc_cond rfl (fun hc => ?_) (fun hc => ?_)) | (refine wc_draw (by kernel_rfl) (by kernel_rfl) (by decide +kernel) ?_; intro w0 hw0 hm0; (try simp only [List.append_eq, List.cons_append, List.nil_append])) | (refine auP ?_) | ((refine auR ?_); clear hK K) | (refine auR ?_) | ((with_reducible refine hK _ _ ?_); clear hK K) | fail)
      first | refine end_ret (ResP.tmp rfl (ResP.tmp rfl ResP.nil)) ?_ | refine end_normal (ResP.tmp rfl (ResP.tmp rfl ResP.nil)) ?_
      (try dsimp only [tupV])
      exact ⟨(some b, 0), stoB b g ⟨most, next, m, l.length⟩ ++ ob, rfl, .inr (.inr ⟨b, g, _, ob, rfl, hrise, by omega, rfl, hS, rfl, rfl, hKp, hab⟩), SubL.refl _⟩
end Go.Proofs.Ytjianfhodjapgaa
namespace Go.Proofs.Ytjianfhodjapgaa
open Go.RowKit
set_option linter.unusedVariables false
set_option linter.unusedSimpArgs false
set_option maxRecDepth 100000
/-- What Restore gives where it gives a store. -/
theorem restore_ok (w : World) {most next : Int} {v : Value} {l : List He} (hg : ¬ resBad most next) (hl : Hes w v l) (hsm : ∀ x ∈ l, Small x.2.2.2) (hlen : l.length ≤ 1048576) (hr : RiseH l next) (hf : (l.length : Int) ≤ most) :
    Calls Try.prog 8 [.int .i64 most, .int .i64 next, v].toArray w (RetO (fun b : Nat => .tuple #[ptr b, .int .i64 0])
      (fun b oa => ∃ g S ob, b ≠ g ∧ oa = stoB b g S ++ ob ∧ StoOk S ∧ S.most = most ∧ S.next = next ∧ KpF ob S.m ∧ S.m.map absK = l.map absH) w) :=
  (restore_c0 w hg hl hsm hlen).mono fun e w2 ⟨y, oa, h1, h2, h3⟩ => by
    rcases h2 with ⟨_, h, _⟩ | ⟨_, _, h, _⟩ | ⟨b, g, S, ob, rfl, _, _, rfl, hS, hm, hn, hK, hab⟩
    · exact absurd hr h
    · omega
    · refine ⟨b, _, h1, ⟨g, S, ob, ?_, rfl, hS, hm, hn, hK, hab⟩, h3⟩
      have := h3.nd
      simp only [keys, stoB, List.map_append, List.map_cons, List.map_nil, List.cons_append, List.nil_append, List.nodup_cons, List.mem_cons, not_or] at this
      exact this.1.1
/-- What it gives where it gives none. -/
theorem restore_no (w : World) {most next : Int} {v : Value} {l : List He} (hg : ¬ resBad most next) (hl : Hes w v l) (hsm : ∀ x ∈ l, Small x.2.2.2) (hlen : l.length ≤ 1048576) (hr : ¬ (RiseH l next ∧ (l.length : Int) ≤ most)) :
    ∃ e : Int, (e = 1 ∨ e = 7) ∧ (∀ w', (Hes w' v l) → Calls Try.prog 8 [.int .i64 most, .int .i64 next, v].toArray w' (RetO (fun _ : Unit => .tuple #[.pointer none, .int .i64 e]) (fun _ oa => oa = []) w')) := by
  by_cases h1 : RiseH l next
  · have h2 : most < (l.length : Int) := by
      by_cases h : (l.length : Int) ≤ most
      · exact absurd ⟨h1, h⟩ hr
      · omega
    exact ⟨7, .inr rfl, fun w' hl' => (restore_c0 w' hg hl' hsm hlen).mono fun e w2 ⟨y, oa, h3, h4, h5⟩ => by
      rcases h4 with ⟨_, h, _⟩ | ⟨rfl, _, _, rfl⟩ | ⟨b, g, S, ob, rfl, _, h, _⟩
      · exact absurd h1 h
      · exact ⟨(), [], h3, rfl, h5⟩
      · omega⟩
  · exact ⟨1, .inl rfl, fun w' hl' => (restore_c0 w' hg hl' hsm hlen).mono fun e w2 ⟨y, oa, h3, h4, h5⟩ => by
      rcases h4 with ⟨rfl, _, rfl⟩ | ⟨_, h, _⟩ | ⟨b, g, S, ob, rfl, h, _⟩
      · exact ⟨(), [], h3, rfl, h5⟩
      · exact absurd h h1
      · exact absurd h h1⟩
theorem hes_nil (w : World) : Hes w (.slice none 0 0) [] := ⟨⟨OwnL.ln (OwnL.nil 0 3), fun j u hj => by simp [hesC] at hj⟩, fun x hx => by cases hx⟩
theorem new_no (w : World) {most : Int} (h : most < 1 ∨ 16 < most) : Calls Try.prog 13 [.int .i64 most].toArray w (Ret (.tuple #[.pointer none, .int .i64 1]) w) := by
  have RB := fun w' => restore_bad w' (most := most) (next := 1) (v := .slice none 0 0) (by unfold resBad; omega)
  clear h
  refine fn_ret (N := _) Try.func13 rfl Try.ntmps13 Try.results13 (by simp) ?_
  simp only [initS, Nat.reduceAdd, Nat.zero_add]
  repeat' (first | (refine wlS ?_) | (refine wlB ?_) | ((with_reducible refine sel_call ?_); refine wl_rd rfl rfl (rd_call rfl rfl rfl (fun w hm => by with_reducible exact RB w)) ?_) | (refine wlE ?_) | (refine efSvao ?_; intro v oa ho) | (refine wl_skip rfl rfl ?_) | ((with_reducible refine wc_seq ?_); intro K hK) | (refine auC ?_) | (refine wc_cond rfl (fun hc => ?_) (fun hc => ?_)) | (refine wc_draw (by kernel_rfl) (by kernel_rfl) (by decide +kernel) ?_; intro w0 hw0 hm0; (try simp only [List.append_eq, List.cons_append, List.nil_append])) | (refine auP ?_) | ((refine auR ?_); clear hK K) | (refine auR ?_) | ((with_reducible refine hK _ _ ?_); clear hK K) | fail)
  first | refine end_ret (ResP.tmp rfl (ResP.tmp rfl ResP.nil)) ?_ | refine end_normal (ResP.tmp rfl (ResP.tmp rfl ResP.nil)) ?_
  first | rfl | (show _ = _; rfl) | (simp only [tupV, *]; done)
theorem new_ok (w : World) {most : Int} (h : 1 ≤ most ∧ most ≤ 16) : Calls Try.prog 13 [.int .i64 most].toArray w (RetO (fun b : Nat => .tuple #[ptr b, .int .i64 0])
    (fun b oa => ∃ g S ob, b ≠ g ∧ oa = stoB b g S ++ ob ∧ StoOk S ∧ S.most = most ∧ S.next = 1 ∧ KpF ob S.m ∧ S.m.map absK = []) w) := by
  have RO := fun w' => restore_ok w' (most := most) (next := 1) (by unfold resBad; omega) (hes_nil w') (fun x hx => by cases hx) (by simp) ⟨by simp, fun x hx => by cases hx⟩ (by simp; omega)
  clear h
  refine fn_own (N := _) Try.func13 rfl Try.ntmps13 Try.results13 (by simp) ?_
  simp only [initS, Nat.reduceAdd, Nat.zero_add]
  repeat' (first | (refine wlS ?_) | (refine wlB ?_) | (refine wlE ?_) | (refine efSvao ?_; intro v oa ho) | ((with_reducible refine sel_call ?_); first | (refine wl_newO rfl rfl rfl rfl rfl (fun w hm => by with_reducible exact RO w) ?_; intro x oa hx)) | (refine wl_skip rfl rfl ?_) | ((with_reducible refine wc_seq ?_); intro K hK) | (refine auC ?_) | (refine wc_cond rfl (fun hc => ?_) (fun hc => ?_)) | (refine wc_draw (by kernel_rfl) (by kernel_rfl) (by decide +kernel) ?_; intro w0 hw0 hm0; (try simp only [List.append_eq, List.cons_append, List.nil_append])) | (refine auP ?_) | ((refine auR ?_); clear hK K) | (refine auR ?_) | ((with_reducible refine hK _ _ ?_); clear hK K) | fail)
  first | refine end_ret (ResP.tmp rfl (ResP.tmp rfl ResP.nil)) ?_ | refine end_normal (ResP.tmp rfl (ResP.tmp rfl ResP.nil)) ?_
  (try dsimp only [tupV])
  exact ⟨_, _, rfl, hx, SubL.refl _⟩
/-! ### DropOf -/
def dropS (S : Sto) (o : Int) : Sto := { S with m := S.m.filter fun x => x.2.1 != o }
/-- How it stands behind i of them. -/
def dropM (m : List Kp) (o : Int) (i : Nat) : List Kp := (m.take i).filter (fun x => x.2.1 != o) ++ m.drop i
def dropN (m : List Kp) (o : Int) (i : Nat) : Nat := ((m.take i).filter fun x => x.2.1 == o).length
theorem dropM_step {m : List Kp} {o : Int} {i : Nat} {x : Kp} (hk : (m.map (·.1)).Nodup) (h : m[i]? = some x) :
    dropM m o (i + 1) = if x.2.1 = o then kdel (dropM m o i) x.1 else dropM m o i := by
  have hi := (List.getElem?_eq_some_iff.1 h).1
  have hx : m.drop i = x :: m.drop (i + 1) := by
    rw [List.drop_eq_getElem_cons hi]
    have := (List.getElem?_eq_some_iff.1 h).2
    rw [this]
  have hsp : m = m.take i ++ x :: m.drop (i + 1) := by rw [← hx, List.take_append_drop]
  have hk2 := hk
  rw [hsp, List.map_append, List.map_cons, List.nodup_append] at hk2
  obtain ⟨_, h2, h3⟩ := hk2
  rw [List.nodup_cons] at h2
  unfold dropM
  rw [List.take_add_one, h, List.filter_append, hx]
  split
  · rename_i he
    have e1 : (some x : Option Kp).toList.filter (fun x => x.2.1 != o) = [] := by simp [he]
    rw [e1, List.append_nil, kdel, List.filter_append, List.filter_cons]
    simp only [bne_self_eq_false, Bool.false_eq_true, if_false]
    have e2 : (m.drop (i + 1)).filter (fun y => y.1 != x.1) = m.drop (i + 1) := List.filter_eq_self.2 fun y hy => by
      simp only [bne_iff_ne, ne_eq]
      exact fun e => h2.1 (by rw [← e]; exact List.mem_map_of_mem hy)
    have e3 : ((m.take i).filter (fun x => x.2.1 != o)).filter (fun y => y.1 != x.1) = (m.take i).filter fun x => x.2.1 != o := List.filter_eq_self.2 fun y hy => by
      simp only [bne_iff_ne, ne_eq]
      exact fun e => h3 y.1 (List.mem_map_of_mem (List.mem_filter.1 hy).1) x.1 (by simp) e
    rw [e2, e3]
  · rename_i he
    have e1 : (some x : Option Kp).toList.filter (fun x => x.2.1 != o) = [x] := by simp [he]
    rw [e1, List.append_assoc]; rfl
theorem dropN_step {m : List Kp} {o : Int} {i : Nat} {x : Kp} (h : m[i]? = some x) : dropN m o (i + 1) = if x.2.1 = o then dropN m o i + 1 else dropN m o i := by
  unfold dropN
  rw [List.take_add_one, h, List.filter_append, List.length_append]
  split
  · rename_i he; simp [he]
  · rename_i he; simp [he]
theorem StoOk.dropM {S : Sto} (h : StoOk S) (o : Int) (i : Nat) : StoOk { S with m := Proofs.Ytjianfhodjapgaa.dropM S.m o i } := by
  have hs : (Proofs.Ytjianfhodjapgaa.dropM S.m o i).Sublist S.m := by
    have h1 : ((S.m.take i).filter (fun x => x.2.1 != o) ++ S.m.drop i).Sublist (S.m.take i ++ S.m.drop i) := List.filter_sublist.append (List.Sublist.refl _)
    rwa [List.take_append_drop] at h1
  exact ⟨h.lo, h.hi, h.next0, h.next1, by have := h.few; have := hs.length_le; dsimp only; omega, fun x hx => h.lt x (hs.subset hx), (hs.map _).nodup h.nd, h.rise.sublist (hs.map _), fun x hx => h.pos x (hs.subset hx)⟩
set_option maxHeartbeats 8000000 in
theorem dropOf_s {b g : Nat} {S : Sto} {ob : Blks} (w : World) (nd : (keys (stoB b g S ++ ob)).Nodup) (hd : Hd (stoB b g S ++ ob) w) (hS : StoOk S) (hKp : KpF ob S.m) (ow : Int) :
    Calls Try.prog 9 [ptr b, .int .i64 ow].toArray w (RetU (fun n : Int => .int .i64 n) (stoB b g S ++ ob) (fun n oa => n = (dropN S.m ow S.m.length : Int) ∧ oa = stoB b g (dropS S ow) ++ ob) w) := by
  have LS := fun w' (h1 : Hd (stoB b g S) w') (h2 : Hd ob w') => list_s w' h1 h2 hS hKp
  have hSi := hS.dropM ow
  have hkeys := hS.keys
  have h16 : S.m.length ≤ 16 := by
    have h1 := hS.few
    have h2 := hS.hi
    omega
  refine fn_upd (N := _) Try.func9 rfl Try.ntmps9 Try.results9 (by simp) nd hd ?_
  simp only [initS, Nat.reduceAdd, Nat.zero_add]
  repeat' (first | (refine wlS ?_) | (refine wlB ?_) | (refine wlE ?_) | (refine efSvao ?_; intro v oa ho) | ((with_reducible refine sel_call ?_); first | (refine wl_newO rfl rfl rfl rfl rfl (fun w hm => by with_reducible exact LS w (Mem.hd hm) (Mem.hd hm)) ?_; intro x oa hx)) | (refine efBnn ?_; intro n hn) | (refine efB ?_) | (refine efBS ?_) | (refine wl_skip rfl rfl ?_) | (refine wdS ?_) | (refine wdV ?_) | (refine wdB ?_) | (refine wdE ?_) | (refine wd_skip rfl rfl ?_) | ((with_reducible refine seld_nil ?_); refine wd_nil hm0 ?_; clear hm0 hw0) | ((with_reducible refine wc_seq ?_); intro K hK) | (refine auC ?_) | (refine wc_cond rfl (fun hc => ?_) (fun hc => ?_)) | (refine wc_draw (by kernel_rfl) (by kernel_rfl) (by decide +kernel) ?_; intro w0 hw0 hm0; (try simp only [List.append_eq, List.cons_append, List.nil_append])) | (refine auP ?_) | ((refine auR ?_); clear hK K) | (refine auR ?_) | ((with_reducible refine hK _ _ ?_); clear hK K) | fail)
  obtain ⟨hs, hOH, hab⟩ := hx
  have hlen : hs.length = S.m.length := by have := congrArg List.length hab; rwa [List.length_map, List.length_map] at this
  obtain ⟨u0, rfl⟩ : ∃ u, u = x := ⟨x, rfl⟩
  obtain ⟨oL, rfl⟩ : ∃ o, o = oa := ⟨oa, rfl⟩
  haveI hcs := hOH.cs
  rw [hlen] at hcs
  clear LS
  repeat' (first | (refine wlS ?_) | (refine wlB ?_) | (refine wlE ?_) | (refine efSvao ?_; intro v oa ho) | (refine efBnn ?_; intro n hn) | (refine efB ?_) | (refine efBS ?_) | (refine wl_skip rfl rfl ?_) | (refine wdS ?_) | (refine wdV ?_) | (refine wdB ?_) | (refine wdE ?_) | (refine wd_skip rfl rfl ?_) | ((with_reducible refine seld_nil ?_); refine wd_nil hm0 ?_; clear hm0 hw0) | ((with_reducible refine wc_seq ?_); intro K hK) | (refine auC ?_) | (refine wc_cond rfl (fun hc => ?_) (fun hc => ?_)) | (refine wc_draw (by kernel_rfl) (by kernel_rfl) (by decide +kernel) ?_; intro w0 hw0 hm0; (try simp only [List.append_eq, List.cons_append, List.nil_append])) | (refine auP ?_) | ((refine auR ?_); clear hK K) | (refine auR ?_) | ((with_reducible refine hK _ _ ?_); clear hK K) | fail)
  refine wc_loop (σ := Nat) (fun i => [(0, ptr b), (1, .int .i64 ow), (5, .int .i64 (dropN S.m ow i : Int)), (9, u0), (10, .int .i64 (S.m.length : Int)), (11, .int .i64 (i : Int))]) (fun i => stoB b g { S with m := dropM S.m ow i } ++ (ob ++ oL)) (fun i => i ≤ S.m.length) (fun i => S.m.length - i) 0 (Nat.zero_le _)
    (Fits.of ⟨rfl, rfl, rfl, rfl, rfl, rfl, trivial⟩ (SubL.refl _) rfl) ?_
  rintro i hi
  by_cases hlt : i < S.m.length
  · obtain ⟨x, hx⟩ : ∃ x, S.m[i]? = some x := ⟨S.m[i]'hlt, List.getElem?_eq_getElem _⟩
    obtain ⟨y, hy⟩ : ∃ y, hs[i]? = some y := ⟨hs[i]'(by omega), List.getElem?_eq_getElem (by omega)⟩
    have hxy : absH y = absK x := by
      have := congrArg (·[i]?) hab
      simpa [hx, hy] using this
    have hget := hesC_get hy
    obtain ⟨p, c, hv, _⟩ := (hOH.bod y (List.mem_of_getElem? hy)).cs.ln.out
    have hy1 : y.1 = x.1 := congrArg (·.1) hxy
    have hy2 : y.2.1 = x.2.1 := congrArg (·.2.1) hxy
    have hget2 : ((hesC hs).drop (i * 3)).take 3 = [.int .i64 x.1, .int .i64 x.2.1, .slice p y.2.2.2.length c] := by rw [hget, heC, hy1, hy2, hv]
    have hstep := dropM_step (o := ow) hkeys hx
    have hnstep := dropN_step (o := ow) hx
    have hmk := (hSi i).keys
    have u1 : decide ((i : Int) < (S.m.length : Int)) = true := decide_eq_true (by omega)
    have u2 : IntKind.i64.wrap ((i : Int) + 1) = ((i + 1 : Nat) : Int) := by rw [wrap_i64 _ (by omega) (by omega)]; omega
    have j1 : (i : Int) < (S.m.length : Int) := by omega
    have hdn : dropN S.m ow i ≤ 16 := by
      unfold dropN
      have := List.length_filter_le (fun x : Kp => x.2.1 == ow) (S.m.take i)
      rw [List.length_take] at this
      omega
    clear hget hab hSi hKp
    dsimp only at hmk
    by_cases hc : x.2.1 = ow
    · have t5 : (x.2.1 == ow) = true := by simpa using hc
      have u3 : IntKind.i64.wrap ((dropN S.m ow i : Int) + 1) = (dropN S.m ow (i + 1) : Int) := by rw [wrap_i64 _ (by omega) (by omega), hnstep, if_pos hc]; omega
      rw [if_pos hc] at hstep
      have hdl := mdel_kp x.1 hmk
      rw [← hstep] at hdl
      unfold stoB stoC
      dsimp only
      repeat' (first | (refine wlS ?_) | (refine wlB ?_) | (refine wlE ?_) | (refine efSvao ?_; intro v oa ho) | (refine efZCnn ?_; intro n hn) | ((with_reducible refine sel_call ?_); first | (refine wl_mdel rfl rfl rfl rfl rfl ?_)) | (refine efBnn ?_; intro n hn) | (refine efB ?_) | (refine efBS ?_) | (refine wl_skip rfl rfl ?_) | ((with_reducible refine wc_seq ?_); intro K hK) | (refine auC ?_) | (refine wc_cond rfl (fun hc => ?_) (fun hc => ?_)) | ((with_reducible refine wc_drawH _ [6] (by kernel_rfl) (SubL.refl _) ?_); (try simp only [List.append_eq, List.cons_append, List.nil_append, List.length_cons, List.length_nil, Nat.reduceAdd])) | ((with_reducible refine sel_wh ?_); (refine wh_if (by decide +kernel) ?_); first | (refine wh_take (lq := []) rfl rfl rfl rfl (by first | exact rvS | exact rvB | exact rvE) (Or.inl rfl) ?_) | (refine wh_takeL rfl rfl rfl rfl (by first | exact rvS | exact rvB | exact rvE) (by decide +kernel) ?_)) | (refine whS ?_; intro v hv hp) | ((with_reducible refine sel_wh ?_); first | (refine wh_pass rfl rfl rfl rfl ?_) | (refine wh_done rfl ?_) | (refine wh_all rfl ?_)) | ((with_reducible refine sel_rest ?_); first | exact rest_nil rfl | refine rest_cons rfl rfl ?_ ?_) | ((with_reducible refine sel_nx ?_); first | refine next_of ?_ | refine next_late (by decide +kernel) ?_) | (refine auP ?_) | ((refine auR ?_); clear hK K) | (refine auR ?_) | ((with_reducible refine hK _ _ ?_); clear hK K) | fail)
      refine ⟨i + 1, hlt, by omega, Fits.of ⟨rfl, rfl, rfl, rfl, rfl, rfl, trivial⟩ ?_ rfl⟩
      rw [hdl]
      exact .skip (SubL.refl _)
    · have t5 : (x.2.1 == ow) = false := by simpa using hc
      rw [if_neg hc] at hstep hnstep
      unfold stoB stoC
      dsimp only
      repeat' (first | (refine wlS ?_) | (refine wlB ?_) | (refine wlE ?_) | (refine efSvao ?_; intro v oa ho) | (refine efZCnn ?_; intro n hn) | (refine efBnn ?_; intro n hn) | (refine efB ?_) | (refine efBS ?_) | (refine wl_skip rfl rfl ?_) | (refine wdS ?_) | (refine wdV ?_) | (refine wdB ?_) | (refine wdE ?_) | (refine wd_skip rfl rfl ?_) | ((with_reducible refine seld_nil ?_); refine wd_nil hm0 ?_; clear hm0 hw0) | ((with_reducible refine wc_seq ?_); intro K hK) | (refine auC ?_) | (refine wc_cond rfl (fun hc => ?_) (fun hc => ?_)) | (refine wc_draw (by kernel_rfl) (by kernel_rfl) (by decide +kernel) ?_; intro w0 hw0 hm0; (try simp only [List.append_eq, List.cons_append, List.nil_append])) | (refine auP ?_) | ((refine auR ?_); clear hK K) | (refine auR ?_) | ((with_reducible refine hK _ _ ?_); clear hK K) | fail)
      refine ⟨i + 1, hlt, by omega, Fits.of ⟨rfl, rfl, by rw [hnstep]; rfl, rfl, rfl, rfl, trivial⟩ ?_ rfl⟩
      rw [hstep]
      exact .skip (SubL.refl _)
  · obtain rfl : i = S.m.length := by omega
    have u1 : decide ((S.m.length : Int) < (S.m.length : Int)) = false := decide_eq_false (by omega)
    have hfin : dropM S.m ow S.m.length = S.m.filter fun x => x.2.1 != ow := by unfold dropM; rw [List.take_length, List.drop_length, List.append_nil]
    rw [hfin]
    repeat' (first | (refine wlS ?_) | (refine wlB ?_) | (refine wlE ?_) | (refine efSvao ?_; intro v oa ho) | (refine efBnn ?_; intro n hn) | (refine efB ?_) | (refine efBS ?_) | (refine wl_skip rfl rfl ?_) | (refine wdS ?_) | (refine wdV ?_) | (refine wdB ?_) | (refine wdE ?_) | (refine wd_skip rfl rfl ?_) | ((with_reducible refine seld_nil ?_); refine wd_nil hm0 ?_; clear hm0 hw0) | ((with_reducible refine wc_seq ?_); intro K hK) | (refine auC ?_) | (refine wc_cond rfl (fun hc => ?_) (fun hc => ?_)) | (refine wc_draw (by kernel_rfl) (by kernel_rfl) (by decide +kernel) ?_; intro w0 hw0 hm0; (try simp only [List.append_eq, List.cons_append, List.nil_append])) | (refine auP ?_) | ((refine auR ?_); clear hK K) | (refine auR ?_) | ((with_reducible refine hK _ _ ?_); clear hK K) | fail)
    first | refine end_ret (ResP.tmp rfl ResP.nil) ?_ | refine end_normal (ResP.tmp rfl ResP.nil) ?_
    (try dsimp only [tupV])
    refine ⟨_, _, rfl, ⟨rfl, rfl⟩, ?_⟩
    repeat (first | exact SubL.nil | exact SubL.refl _ | refine SubL.keep ?_ | exact SubL.headA _ _ | refine SubL.keepA ?_ _ | refine SubL.skip ?_ | refine SubL.skipA ?_ _)
end Go.Proofs.Ytjianfhodjapgaa
namespace Go.Proofs.Ytjianfhodjapgaa
open Go.RowKit
set_option linter.unusedVariables false
set_option linter.unusedSimpArgs false
set_option maxRecDepth 100000
theorem atsC_kind {l : List Att} {i : Nat} {x : Att} (h : l[i]? = some x) : (atsC l)[i * 2]? = some (.int .i64 x.1) := by
  have := congrArg (·[0]?) (atsC_get h)
  simpa using this
theorem abs_get {l : List Att} {i : Nat} {x : Att} (h : l[i]? = some x) : (abs l)[i]? = some (x.1, x.2.2) := by simp [abs, h]
set_option maxHeartbeats 8000000 in
theorem sameA_c (w : World) {va vb : Value} {ps qs : List Att} {r : Bool} (h1 : Ats w va ps) (h2 : Ats w vb qs) (hr : (abs ps == abs qs) = r) :
    Calls Try.prog 11 [va, vb].toArray w (Ret (.bool r) w) := by
  haveI i1 := h1.cs.old
  haveI i2 := h2.cs.old
  have hl63 : ps.length ≤ 9223372036854775807 := by obtain ⟨_, _, _, h1, h2, _⟩ := h1.cs.ln.out; simp only [maxLen] at h2; omega
  have hpl := abs_len ps
  have hql := abs_len qs
  have hB := h1.body
  have hC := h2.body
  clear h1 h2
  by_cases hl : ps.length = qs.length
  · have t1 : ((ps.length : Int) != (qs.length : Int)) = false := by rw [hl]; simp
    have BE := fun w' {v u : Value} {n m : Nat} {p q : List Nat} {r : Bool} (hv : Cb w' v n p) (hu : Cb w' u m q) (h : (p == q) = r) => beq_r w' hv hu h
    refine fn_ret (N := _) Try.func11 rfl Try.ntmps11 Try.results11 (by simp) ?_
    simp only [initS, Nat.reduceAdd, Nat.zero_add]
    repeat' (first | (refine wlS ?_) | (refine wlB ?_) | (refine wlE ?_) | (refine efSvao ?_; intro v oa ho) | (refine wl_skip rfl rfl ?_) | (refine wdS ?_) | (refine wdV ?_) | (refine wdB ?_) | (refine wdE ?_) | (refine wd_skip rfl rfl ?_) | ((with_reducible refine seld_nil ?_); refine wd_nil hm0 ?_; clear hm0 hw0) | ((with_reducible refine wc_seq ?_); intro K hK) | (refine auC ?_) | (refine wc_cond rfl (fun hc => ?_) (fun hc => ?_)) | (refine wc_draw (by kernel_rfl) (by kernel_rfl) (by decide +kernel) ?_; intro w0 hw0 hm0; (try simp only [List.append_eq, List.cons_append, List.nil_append])) | (refine auP ?_) | ((refine auR ?_); clear hK K) | (refine auR ?_) | ((with_reducible refine hK _ _ ?_); clear hK K) | fail)
    refine wc_loop (σ := Nat) (fun i => [(0, va), (1, vb), (12, .int .i64 (ps.length : Int)), (13, .int .i64 (i : Int))]) (fun _ => []) (fun i => i ≤ ps.length ∧ (abs ps).take i = (abs qs).take i) (fun i => ps.length - i) 0 ⟨Nat.zero_le _, rfl⟩ (Fits.of ⟨rfl, rfl, rfl, rfl, trivial⟩ .nil rfl) ?_
    rintro i ⟨hi, ht⟩
    by_cases hlt : i < ps.length
    · have t2 : decide ((i : Int) < (ps.length : Int)) = true := decide_eq_true (by omega)
      have k1 : IntKind.i64.wrap ((i : Int) + 1) = ((i + 1 : Nat) : Int) := by rw [wrap_i64 _ (by omega) (by omega)]; omega
      have j1 : (i : Int) < (ps.length : Int) := by omega
      have j2 : (i : Int) < (qs.length : Int) := by omega
      obtain ⟨⟨k, x, p⟩, g1⟩ : ∃ x, ps[i]? = some x := ⟨ps[i], List.getElem?_eq_getElem hlt⟩
      obtain ⟨⟨m, y, q⟩, f1⟩ : ∃ x, qs[i]? = some x := ⟨qs[i], List.getElem?_eq_getElem (by omega)⟩
      have c1 := (hB _ (List.mem_of_getElem? g1)).old
      have c2 := (hC _ (List.mem_of_getElem? f1)).old
      have gk := atsC_kind g1
      have fk := atsC_kind f1
      have gv := atsC_val g1
      have fv := atsC_val f1
      have ga := abs_get g1
      have fa := abs_get f1
      dsimp only at c1 c2 gk fk gv fv ga fa
      by_cases hkm : k = m
      · subst hkm
        have t3 : (k != k) = false := by simp
        by_cases hpq : p = q
        · subst hpq
          have hb : (p == p) = true := by simp
          have hn : (abs ps).take (i + 1) = (abs qs).take (i + 1) := by rw [List.take_add_one, List.take_add_one, ht, ga, fa]
          clear hB hC g1 f1 ga fa
          repeat' (first | (refine wlS ?_) | (refine wlB ?_) | ((with_reducible refine sel_call ?_); refine wl_rd rfl rfl (rd_call rfl rfl rfl (fun w hm => by with_reducible exact BE w (VwB.out w hm) (VwB.out w hm) (by with_reducible assumption))) ?_) | (refine wlE ?_) | (refine efSvao ?_; intro v oa ho) | (refine wl_skip rfl rfl ?_) | (refine wdS ?_) | (refine wdV ?_) | (refine wdB ?_) | ((with_reducible refine seld_call ?_); refine wd_rd hm0 rfl rfl rfl rfl (rd_call rfl rfl rfl (fun w hm => by with_reducible exact BE w (VwB.out w hm) (VwB.out w hm) (by with_reducible assumption))) ?_) | (refine wdE ?_) | (refine wd_skip rfl rfl ?_) | ((with_reducible refine seld_nil ?_); refine wd_nil hm0 ?_; clear hm0 hw0) | ((with_reducible refine wc_seq ?_); intro K hK) | (refine auC ?_) | (refine wc_cond rfl (fun hc => ?_) (fun hc => ?_)) | (refine wc_draw (by kernel_rfl) (by kernel_rfl) (by decide +kernel) ?_; intro w0 hw0 hm0; (try simp only [List.append_eq, List.cons_append, List.nil_append])) | (refine auP ?_) | ((refine auR ?_); clear hK K) | (refine auR ?_) | ((with_reducible refine hK _ _ ?_); clear hK K) | fail)
          exact ⟨i + 1, ⟨hlt, hn⟩, by omega, Fits.of ⟨rfl, rfl, rfl, rfl, trivial⟩ .nil rfl⟩
        · have hb : (p == q) = false := by simpa using hpq
          have hne : r = false := by
            rw [← hr, beq_eq_false_iff_ne]
            intro e
            rw [e, fa] at ga
            have := Option.some.inj ga
            simp only [Prod.mk.injEq, true_and] at this
            exact hpq this.symm
          subst hne
          clear hB hC g1 f1 ga fa
          repeat' (first | (refine wlS ?_) | (refine wlB ?_) | ((with_reducible refine sel_call ?_); refine wl_rd rfl rfl (rd_call rfl rfl rfl (fun w hm => by with_reducible exact BE w (VwB.out w hm) (VwB.out w hm) (by with_reducible assumption))) ?_) | (refine wlE ?_) | (refine efSvao ?_; intro v oa ho) | (refine wl_skip rfl rfl ?_) | (refine wdS ?_) | (refine wdV ?_) | (refine wdB ?_) | ((with_reducible refine seld_call ?_); refine wd_rd hm0 rfl rfl rfl rfl (rd_call rfl rfl rfl (fun w hm => by with_reducible exact BE w (VwB.out w hm) (VwB.out w hm) (by with_reducible assumption))) ?_) | (refine wdE ?_) | (refine wd_skip rfl rfl ?_) | ((with_reducible refine seld_nil ?_); refine wd_nil hm0 ?_; clear hm0 hw0) | ((with_reducible refine wc_seq ?_); intro K hK) | (refine auC ?_) | (refine wc_cond rfl (fun hc => ?_) (fun hc => ?_)) | (refine wc_draw (by kernel_rfl) (by kernel_rfl) (by decide +kernel) ?_; intro w0 hw0 hm0; (try simp only [List.append_eq, List.cons_append, List.nil_append])) | (refine auP ?_) | ((refine auR ?_); clear hK K) | (refine auR ?_) | ((with_reducible refine hK _ _ ?_); clear hK K) | fail)
          first | refine end_ret (ResP.tmp rfl ResP.nil) ?_ | refine end_normal (ResP.tmp rfl ResP.nil) ?_
          first | rfl | (show _ = _; rfl) | (simp only [tupV, *]; done)
      · have t3 : (k != m) = true := by simpa using hkm
        have hne : r = false := by
          rw [← hr, beq_eq_false_iff_ne]
          intro e
          rw [e, fa] at ga
          have := Option.some.inj ga
          simp only [Prod.mk.injEq] at this
          exact hkm this.1.symm
        subst hne
        clear hB hC g1 f1 ga fa BE
        repeat' (first | (refine wlS ?_) | (refine wlB ?_) | (refine wlE ?_) | (refine efSvao ?_; intro v oa ho) | (refine wl_skip rfl rfl ?_) | (refine wdS ?_) | (refine wdV ?_) | (refine wdB ?_) | (refine wdE ?_) | (refine wd_skip rfl rfl ?_) | ((with_reducible refine seld_nil ?_); refine wd_nil hm0 ?_; clear hm0 hw0) | ((with_reducible refine wc_seq ?_); intro K hK) | (refine auC ?_) | (refine wc_cond rfl (fun hc => ?_) (fun hc => ?_)) | (refine wc_draw (by kernel_rfl) (by kernel_rfl) (by decide +kernel) ?_; intro w0 hw0 hm0; (try simp only [List.append_eq, List.cons_append, List.nil_append])) | (refine auP ?_) | ((refine auR ?_); clear hK K) | (refine auR ?_) | ((with_reducible refine hK _ _ ?_); clear hK K) | fail)
        first | refine end_ret (ResP.tmp rfl ResP.nil) ?_ | refine end_normal (ResP.tmp rfl ResP.nil) ?_
        first | rfl | (show _ = _; rfl) | (simp only [tupV, *]; done)
    · obtain rfl : i = ps.length := by omega
      have t2 : decide ((ps.length : Int) < (ps.length : Int)) = false := decide_eq_false (by omega)
      have hrt : r = true := by
        rw [← hr, beq_iff_eq]
        rw [List.take_of_length_le (by omega), List.take_of_length_le (by omega)] at ht; exact ht
      subst hrt
      clear BE
      repeat' (first | (refine wlS ?_) | (refine wlB ?_) | (refine wlE ?_) | (refine efSvao ?_; intro v oa ho) | (refine wl_skip rfl rfl ?_) | (refine wdS ?_) | (refine wdV ?_) | (refine wdB ?_) | (refine wdE ?_) | (refine wd_skip rfl rfl ?_) | ((with_reducible refine seld_nil ?_); refine wd_nil hm0 ?_; clear hm0 hw0) | ((with_reducible refine wc_seq ?_); intro K hK) | (refine auC ?_) | (refine wc_cond rfl (fun hc => ?_) (fun hc => ?_)) | (refine wc_draw (by kernel_rfl) (by kernel_rfl) (by decide +kernel) ?_; intro w0 hw0 hm0; (try simp only [List.append_eq, List.cons_append, List.nil_append])) | (refine auP ?_) | ((refine auR ?_); clear hK K) | (refine auR ?_) | ((with_reducible refine hK _ _ ?_); clear hK K) | fail)
      first | refine end_ret (ResP.tmp rfl ResP.nil) ?_ | refine end_normal (ResP.tmp rfl ResP.nil) ?_
      first | rfl | (show _ = _; rfl) | (simp only [tupV, *]; done)
  · have t1 : ((ps.length : Int) != (qs.length : Int)) = true := by simp only [bne_iff_ne, ne_eq]; omega
    have hne : r = false := by
      rw [← hr, beq_eq_false_iff_ne]
      intro e
      have := congrArg List.length e
      omega
    subst hne
    refine fn_ret (N := _) Try.func11 rfl Try.ntmps11 Try.results11 (by simp) ?_
    simp only [initS, Nat.reduceAdd, Nat.zero_add]
    repeat' (first | (refine wlS ?_) | (refine wlB ?_) | (refine wlE ?_) | (refine efSvao ?_; intro v oa ho) | (refine wl_skip rfl rfl ?_) | (refine wdS ?_) | (refine wdV ?_) | (refine wdB ?_) | (refine wdE ?_) | (refine wd_skip rfl rfl ?_) | ((with_reducible refine seld_nil ?_); refine wd_nil hm0 ?_; clear hm0 hw0) | ((with_reducible refine wc_seq ?_); intro K hK) | (refine auC ?_) | (refine wc_cond rfl (fun hc => ?_) (fun hc => ?_)) | (refine wc_draw (by kernel_rfl) (by kernel_rfl) (by decide +kernel) ?_; intro w0 hw0 hm0; (try simp only [List.append_eq, List.cons_append, List.nil_append])) | (refine auP ?_) | ((refine auR ?_); clear hK K) | (refine auR ?_) | ((with_reducible refine hK _ _ ?_); clear hK K) | fail)
    first | refine end_ret (ResP.tmp rfl ResP.nil) ?_ | refine end_normal (ResP.tmp rfl ResP.nil) ?_
    first | rfl | (show _ = _; rfl) | (simp only [tupV, *]; done)
end Go.Proofs.Ytjianfhodjapgaa
namespace Go.Proofs.Ytjianfhodjapgaa
open Go.RowKit
set_option linter.unusedVariables false
set_option linter.unusedSimpArgs false
set_option maxRecDepth 100000
theorem map_at {xs : List Int} {i : Nat} {x : Int} (h : xs[i]? = some x) : (xs.map (Value.int .i64))[i]? = some (.int .i64 x) := by rw [List.getElem?_map, h]; rfl
theorem eqI_c (w : World) {v u : Value} {n : Nat} {xs : List Int} (hv : Cs w v n (xs.map (Value.int .i64))) (hu : Cs w u n (xs.map (Value.int .i64))) (hl : xs.length = n) (hn : n ≤ 1000000) :
    Calls Try.prog 20 [v, u].toArray w (Ret (.bool true) w) := by
  haveI := hv.old
  haveI := hu.old
  have t1 : ((n : Int) != (n : Int)) = false := by simp
  clear hv hu
  refine fn_ret (N := _) Try.func20 rfl Try.ntmps20 Try.results20 (by simp) ?_
  simp only [initS, Nat.reduceAdd, Nat.zero_add]
  repeat' (first | (refine wlS ?_) | (refine wlB ?_) | (refine wlE ?_) | (refine efSvao ?_; intro v oa ho) | (refine wl_skip rfl rfl ?_) | (refine wdS ?_) | (refine wdV ?_) | (refine wdB ?_) | (refine wd_skip rfl rfl ?_) | ((with_reducible refine seld_nil ?_); refine wd_nil hm0 ?_; clear hm0 hw0) | ((with_reducible refine wc_seq ?_); intro K hK) | (refine auC ?_) | (refine wc_cond rfl (fun hc => ?_) (fun hc => ?_)) | (refine wc_draw (by kernel_rfl) (by kernel_rfl) (by decide +kernel) ?_; intro w0 hw0 hm0; (try simp only [List.append_eq, List.cons_append, List.nil_append])) | (refine auP ?_) | ((refine auR ?_); clear hK K) | (refine auR ?_) | ((with_reducible refine hK _ _ ?_); clear hK K) | fail)
  refine wc_loop (σ := Nat) (fun i => [(0, v), (1, u), (12, .int .i64 (n : Int)), (13, .int .i64 (i : Int))]) (fun _ => [])
    (fun i => i ≤ n) (fun i => n - i) 0 (Nat.zero_le _) (Fits.of ⟨rfl, rfl, rfl, rfl, trivial⟩ .nil rfl) ?_
  rintro i hi
  by_cases hlt : i < n
  · have t2 : decide ((i : Int) < (n : Int)) = true := decide_eq_true (by omega)
    have t3 : IntKind.i64.wrap ((i : Int) + 1) = ((i + 1 : Nat) : Int) := by rw [wrap_i64 _ (by omega) (by omega)]; omega
    have j1 : (i : Int) < (n : Int) := by omega
    obtain ⟨x0, hx0⟩ : ∃ x, xs[i]? = some x := ⟨xs[i], List.getElem?_eq_getElem (by omega)⟩
    have g0 := map_at hx0
    have t4 : (x0 != x0) = false := by simp
    repeat' (first | (refine wlS ?_) | (refine wlB ?_) | (refine wlE ?_) | (refine efSvao ?_; intro v oa ho) | (refine wl_skip rfl rfl ?_) | (refine wdS ?_) | (refine wdV ?_) | (refine wdB ?_) | (refine wd_skip rfl rfl ?_) | ((with_reducible refine seld_nil ?_); refine wd_nil hm0 ?_; clear hm0 hw0) | ((with_reducible refine wc_seq ?_); intro K hK) | (refine auC ?_) | (refine wc_cond rfl (fun hc => ?_) (fun hc => ?_)) | (refine wc_draw (by kernel_rfl) (by kernel_rfl) (by decide +kernel) ?_; intro w0 hw0 hm0; (try simp only [List.append_eq, List.cons_append, List.nil_append])) | (refine auP ?_) | ((refine auR ?_); clear hK K) | (refine auR ?_) | ((with_reducible refine hK _ _ ?_); clear hK K) | fail)
    exact ⟨i + 1, hlt, by omega, Fits.of ⟨rfl, rfl, rfl, rfl, trivial⟩ .nil rfl⟩
  · obtain rfl : i = n := by omega
    have t2 : decide ((i : Int) < (i : Int)) = false := decide_eq_false (by omega)
    repeat' (first | (refine wlS ?_) | (refine wlB ?_) | (refine wlE ?_) | (refine efSvao ?_; intro v oa ho) | (refine wl_skip rfl rfl ?_) | (refine wdS ?_) | (refine wdV ?_) | (refine wdB ?_) | (refine wd_skip rfl rfl ?_) | ((with_reducible refine seld_nil ?_); refine wd_nil hm0 ?_; clear hm0 hw0) | ((with_reducible refine wc_seq ?_); intro K hK) | (refine auC ?_) | (refine wc_cond rfl (fun hc => ?_) (fun hc => ?_)) | (refine wc_draw (by kernel_rfl) (by kernel_rfl) (by decide +kernel) ?_; intro w0 hw0 hm0; (try simp only [List.append_eq, List.cons_append, List.nil_append])) | (refine auP ?_) | ((refine auR ?_); clear hK K) | (refine auR ?_) | ((with_reducible refine hK _ _ ?_); clear hK K) | fail)
    first | refine end_ret (ResP.tmp rfl ResP.nil) ?_ | refine end_normal (ResP.tmp rfl ResP.nil) ?_
    first | rfl | (show _ = _; rfl) | (simp only [tupV, *]; done)
theorem isNaN_c (w : World) (x : Int) : Calls Try.prog 36 [.int .i64 x].toArray w (Ret (.bool false) w) := by
  have t4 : (x != x) = false := by simp
  refine fn_ret (N := _) Try.func36 rfl Try.ntmps36 Try.results36 (by simp) ?_
  simp only [initS, Nat.reduceAdd, Nat.zero_add]
  repeat' (first | (refine wlB ?_) | (refine wl_skip rfl rfl ?_) | ((with_reducible refine wc_seq ?_); intro K hK) | (refine auC ?_) | (refine wc_cond rfl (fun hc => ?_) (fun hc => ?_)) | (refine wc_draw (by kernel_rfl) (by kernel_rfl) (by decide +kernel) ?_; intro w0 hw0 hm0; (try simp only [List.append_eq, List.cons_append, List.nil_append])) | (refine auP ?_) | ((refine auR ?_); clear hK K) | (refine auR ?_) | ((with_reducible refine hK _ _ ?_); clear hK K) | fail)
  first | refine end_ret (ResP.tmp rfl ResP.nil) ?_ | refine end_normal (ResP.tmp rfl ResP.nil) ?_
  first | rfl | (show _ = _; rfl) | (simp only [tupV, *]; done)
theorem less_c (w : World) (x y : Int) {r : Bool} (h : decide (x < y) = r) : Calls Try.prog 31 [.int .i64 x, .int .i64 y].toArray w (Ret (.bool r) w) := by
  have C1 := fun w' => isNaN_c w' x
  refine fn_ret (N := _) Try.func31 rfl Try.ntmps31 Try.results31 (by simp) ?_
  simp only [initS, Nat.reduceAdd, Nat.zero_add]
  repeat' (first | (refine wlS ?_) | (refine wlB ?_) | ((with_reducible refine sel_call ?_); refine wl_rd rfl rfl (rd_call rfl rfl rfl (fun w hm => by with_reducible exact C1 w)) ?_) | (refine wlE ?_) | (refine efSvao ?_; intro v oa ho) | (refine wl_skip rfl rfl ?_) | ((with_reducible refine wc_seq ?_); intro K hK) | (refine auC ?_) | (refine wc_cond rfl (fun hc => ?_) (fun hc => ?_)) | (refine wc_draw (by kernel_rfl) (by kernel_rfl) (by decide +kernel) ?_; intro w0 hw0 hm0; (try simp only [List.append_eq, List.cons_append, List.nil_append])) | (refine auP ?_) | ((refine auR ?_); clear hK K) | (refine auR ?_) | ((with_reducible refine hK _ _ ?_); clear hK K) | fail)
  first | refine end_ret (ResP.tmp rfl ResP.nil) ?_ | refine end_normal (ResP.tmp rfl ResP.nil) ?_
  first | rfl | (show _ = _; rfl) | (simp only [tupV, *]; done)
theorem isSorted_c (w : World) {v : Value} {n : Nat} {xs : List Int} (hv : Cs w v n (xs.map (Value.int .i64))) (hl : xs.length = n) (hn : n ≤ 1000000) (hs : xs.Pairwise (· ≤ ·)) :
    Calls Try.prog 23 [v].toArray w (Ret (.bool true) w) := by
  haveI := hv.old
  have t0 : IntKind.i64.wrap ((n : Int) - 1) = (n : Int) - 1 := wrap_i64 _ (by omega) (by omega)
  clear hv
  refine fn_ret (N := _) Try.func23 rfl Try.ntmps23 Try.results23 (by simp) ?_
  simp only [initS, Nat.reduceAdd, Nat.zero_add]
  repeat' (first | (refine wlS ?_) | (refine wlB ?_) | (refine wlE ?_) | (refine efSvao ?_; intro v oa ho) | (refine wl_skip rfl rfl ?_) | (refine wdS ?_) | (refine wdV ?_) | (refine wdB ?_) | (refine wdE ?_) | (refine wd_skip rfl rfl ?_) | ((with_reducible refine seld_nil ?_); refine wd_nil hm0 ?_; clear hm0 hw0) | ((with_reducible refine wc_seq ?_); intro K hK) | (refine auC ?_) | (refine wc_cond rfl (fun hc => ?_) (fun hc => ?_)) | (refine wc_draw (by kernel_rfl) (by kernel_rfl) (by decide +kernel) ?_; intro w0 hw0 hm0; (try simp only [List.append_eq, List.cons_append, List.nil_append])) | (refine auP ?_) | ((refine auR ?_); clear hK K) | (refine auR ?_) | ((with_reducible refine hK _ _ ?_); clear hK K) | fail)
  refine wc_loop (σ := Int) (fun i => [(0, v), (3, .int .i64 i)]) (fun _ => [])
    (fun i => i < n) (fun i => i.toNat) ((n : Int) - 1) (by omega) (Fits.of ⟨rfl, rfl, trivial⟩ .nil rfl) ?_
  rintro i hi
  by_cases hlt : 0 < i
  · obtain ⟨j, rfl⟩ : ∃ j : Nat, i = ((j + 1 : Nat) : Int) := ⟨i.toNat - 1, by omega⟩
    have t2 : decide (((j + 1 : Nat) : Int) > 0) = true := decide_eq_true (by omega)
    have t3 : IntKind.i64.wrap (((j + 1 : Nat) : Int) - 1) = (j : Int) := by rw [wrap_i64 _ (by omega) (by omega)]; omega
    have j1 : ((j + 1 : Nat) : Int) < (n : Int) := by omega
    have j2 : (j : Int) < (n : Int) := by omega
    obtain ⟨x0, hx0⟩ : ∃ x, xs[j + 1]? = some x := ⟨xs[j + 1]'(by omega), List.getElem?_eq_getElem (by omega)⟩
    obtain ⟨x1, hx1⟩ : ∃ x, xs[j]? = some x := ⟨xs[j]'(by omega), List.getElem?_eq_getElem (by omega)⟩
    have hle : x1 ≤ x0 := by
      have h := List.pairwise_iff_getElem.1 hs j (j + 1) (by omega) (by omega) (by omega)
      rw [List.getElem?_eq_getElem (by omega)] at hx0 hx1
      cases hx0; cases hx1; exact h
    have g0 := map_at hx0
    have g1 := map_at hx1
    have LC := fun w' => less_c w' x0 x1 (r := false) (decide_eq_false (by omega))
    clear hle hx0 hx1
    repeat' (first | (refine wlS ?_) | (refine wlB ?_) | ((with_reducible refine sel_call ?_); refine wl_rd rfl rfl (rd_call rfl rfl rfl (fun w hm => by with_reducible exact LC w)) ?_) | (refine wlE ?_) | (refine efSvao ?_; intro v oa ho) | (refine wl_skip rfl rfl ?_) | (refine wdS ?_) | (refine wdV ?_) | (refine wdB ?_) | ((with_reducible refine seld_call ?_); refine wd_rd hm0 rfl rfl rfl rfl (rd_call rfl rfl rfl (fun w hm => by with_reducible exact LC w)) ?_) | (refine wdE ?_) | (refine wd_skip rfl rfl ?_) | ((with_reducible refine seld_nil ?_); refine wd_nil hm0 ?_; clear hm0 hw0) | ((with_reducible refine wc_seq ?_); intro K hK) | (refine auC ?_) | (refine wc_cond rfl (fun hc => ?_) (fun hc => ?_)) | (refine wc_draw (by kernel_rfl) (by kernel_rfl) (by decide +kernel) ?_; intro w0 hw0 hm0; (try simp only [List.append_eq, List.cons_append, List.nil_append])) | (refine auP ?_) | ((refine auR ?_); clear hK K) | (refine auR ?_) | ((with_reducible refine hK _ _ ?_); clear hK K) | fail)
    exact ⟨(j : Int), by omega, by omega, Fits.of ⟨rfl, rfl, trivial⟩ .nil rfl⟩
  · have t2 : decide (i > 0) = false := decide_eq_false (by omega)
    repeat' (first | (refine wlS ?_) | (refine wlB ?_) | (refine wlE ?_) | (refine efSvao ?_; intro v oa ho) | (refine wl_skip rfl rfl ?_) | (refine wdS ?_) | (refine wdV ?_) | (refine wdB ?_) | (refine wdE ?_) | (refine wd_skip rfl rfl ?_) | ((with_reducible refine seld_nil ?_); refine wd_nil hm0 ?_; clear hm0 hw0) | ((with_reducible refine wc_seq ?_); intro K hK) | (refine auC ?_) | (refine wc_cond rfl (fun hc => ?_) (fun hc => ?_)) | (refine wc_draw (by kernel_rfl) (by kernel_rfl) (by decide +kernel) ?_; intro w0 hw0 hm0; (try simp only [List.append_eq, List.cons_append, List.nil_append])) | (refine auP ?_) | ((refine auR ?_); clear hK K) | (refine auR ?_) | ((with_reducible refine hK _ _ ?_); clear hK K) | fail)
    first | refine end_ret (ResP.tmp rfl ResP.nil) ?_ | refine end_normal (ResP.tmp rfl ResP.nil) ?_
    first | rfl | (show _ = _; rfl) | (simp only [tupV, *]; done)
end Go.Proofs.Ytjianfhodjapgaa
namespace Go.Proofs.Ytjianfhodjapgaa
open Go.RowKit
set_option linter.unusedVariables false
set_option linter.unusedSimpArgs false
section
variable {X : Cx} {s : Slots} {l : Blks} {o : Oper}
theorem rd_eqlP {t yt n : Nat} {x y : Operand} (ho : o.op = .binOp .eql t x y yt) (hx : val s x = some (ptr n)) (hy : val s y = some (.pointer none))
    (q : ∀ w : World, (Op.equalIn 10000 t (ptr n) (.pointer none)).run X.P w = .ok false w) (hg : X.P.eqGuardType X.P.depth t = false := by kernel_rfl) : RdV X s l o (.bool false) :=
  rd_val fun e w he hm => by
    simp only [execOp, ho, he.eval hx, he.eval hy, eqGuard]
    simp [run_eql w rfl (q w), hg]
theorem rd_neqP {t yt n : Nat} {x y : Operand} (ho : o.op = .binOp .neq t x y yt) (hx : val s x = some (ptr n)) (hy : val s y = some (.pointer none))
    (q : ∀ w : World, (Op.equalIn 10000 t (ptr n) (.pointer none)).run X.P w = .ok false w) (hg : X.P.eqGuardType X.P.depth t = false := by kernel_rfl) : RdV X s l o (.bool true) :=
  rd_val fun e w he hm => by
    simp only [execOp, ho, he.eval hx, he.eval hy, eqGuard]
    simp [run_neq w rfl (q w), hg]
theorem rd_eqlPN {t yt : Nat} {x y : Operand} (ho : o.op = .binOp .eql t x y yt) (hx : val s x = some (.pointer none)) (hy : val s y = some (.pointer none))
    (q : ∀ w : World, (Op.equalIn 10000 t (.pointer none) (.pointer none)).run X.P w = .ok true w) (hg : X.P.eqGuardType X.P.depth t = false := by kernel_rfl) : RdV X s l o (.bool true) :=
  rd_val fun e w he hm => by
    simp only [execOp, ho, he.eval hx, he.eval hy, eqGuard]
    simp [run_eql w rfl (q w), hg]
end
end Go.Proofs.Ytjianfhodjapgaa
namespace Go.Proofs.Ytjianfhodjapgaa
open Go.RowKit
set_option linter.unusedVariables false
set_option linter.unusedSimpArgs false
instance segA2 {a b r : Blks} : Seg (a ++ (b ++ r)) (a ++ b) (fun o => o ++ r) := ⟨[], r, by simp, fun _ => rfl⟩
instance (priority := 800) segA3 {a b c oa : Blks} {f : Blks → Blks} [h : Seg (a ++ (b ++ c)) oa f] : Seg (a ++ b ++ c) oa f := by
  obtain ⟨pre, post, h1, h2⟩ := h.out
  exact ⟨pre, post, by rw [List.append_assoc]; exact h1, h2⟩
theorem ptr_nil {n : Nat} (w : World) : (Op.equalIn 10000 23 (ptr n) (.pointer none)).run Try.prog w = .ok false w := by
  have h : Try.prog.underlying 23 = some (.pointer 59) := by kernel_rfl
  rw [show (10000 : Nat) = 9999 + 1 from rfl, Op.equalIn, Sem.run_bind, run_underlying h]
  rfl
theorem ptr_nil2 (w : World) : (Op.equalIn 10000 23 (.pointer none) (.pointer none)).run Try.prog w = .ok true w := by
  have h : Try.prog.underlying 23 = some (.pointer 59) := by kernel_rfl
  rw [show (10000 : Nat) = 9999 + 1 from rfl, Op.equalIn, Sem.run_bind, run_underlying h]
  rfl
theorem hesC_h {l : List He} {i : Nat} {x : He} (h : l[i]? = some x) : (hesC l)[i * 3]? = some (.int .i64 x.1) := by
  have := congrArg (·[0]?) (hesC_get h)
  simpa [heC] using this
theorem hesC_v {l : List He} {i : Nat} {x : He} (h : l[i]? = some x) : (hesC l)[i * 3 + 2]? = some x.2.2.1 := by
  have := congrArg (·[2]?) (hesC_get h)
  simpa [heC] using this
/-- Those of others. -/
def flt (l : List He) (ow : Int) : List He := l.filter fun x => x.2.1 != ow
theorem flt_at {l : List He} {ow : Int} {i : Nat} {x : He} (h : l[i]? = some x) (ho : x.2.1 ≠ ow) : (flt l ow)[(flt (l.take i) ow).length]? = some x := by
  have hi := (List.getElem?_eq_some_iff.1 h).1
  have hx : l.drop i = x :: l.drop (i + 1) := by
    rw [List.drop_eq_getElem_cons hi, (List.getElem?_eq_some_iff.1 h).2]
  have hs : flt l ow = flt (l.take i) ow ++ x :: flt (l.drop (i + 1)) ow := by
    have e : flt l ow = flt (l.take i ++ l.drop i) ow := by rw [List.take_append_drop]
    rw [e, hx, flt, List.filter_append, List.filter_cons, if_pos (by simpa using ho)]
    rfl
  rw [hs, List.getElem?_append_right (Nat.le_refl _), Nat.sub_self]
  rfl
theorem flt_step {l : List He} {ow : Int} {i : Nat} {x : He} (h : l[i]? = some x) : (flt (l.take (i + 1)) ow).length = if x.2.1 = ow then (flt (l.take i) ow).length else (flt (l.take i) ow).length + 1 := by
  unfold flt
  rw [List.take_add_one, h, List.filter_append, List.length_append]
  split
  · rename_i he; simp [he]
  · rename_i he; simp [he]
theorem absK_flt (m : List Kp) (ow : Int) : (m.filter fun x => x.2.1 != ow).map absK = (m.map absK).filter fun y => y.2.1 != ow := by
  rw [List.filter_map]; rfl
theorem absH_flt (l : List He) (ow : Int) : (flt l ow).map absH = (l.map absH).filter fun y => y.2.1 != ow := by
  rw [List.filter_map]; rfl
theorem StoOk.dropS {S : Sto} (h : StoOk S) (o : Int) : StoOk (dropS S o) := by
  have := h.dropM o S.m.length
  rwa [show Proofs.Ytjianfhodjapgaa.dropM S.m o S.m.length = S.m.filter fun x => x.2.1 != o by unfold Proofs.Ytjianfhodjapgaa.dropM; rw [List.take_length, List.drop_length, List.append_nil]] at this
theorem dropN_all (m : List Kp) (o : Int) : dropN m o m.length = m.length - (m.filter fun x => x.2.1 != o).length := by
  unfold dropN
  rw [List.take_length]
  induction m with
  | nil => rfl
  | cons x r ih =>
    rw [List.filter_cons, List.filter_cons]
    have hle := List.length_filter_le (fun x : Kp => x.2.1 != o) r
    by_cases h : x.2.1 = o
    · rw [if_pos (by simpa using h), if_neg (by simpa using h), List.length_cons, List.length_cons, ih]; omega
    · rw [if_neg (by simpa using h), if_pos (by simpa using h), List.length_cons, List.length_cons, ih]; omega
theorem dropN_none (S : Sto) (o : Int) : dropN (dropS S o).m o (dropS S o).m.length = 0 := by
  unfold dropN
  rw [List.take_length, List.length_eq_zero_iff, List.filter_eq_nil_iff]
  intro x hx
  have := (List.mem_filter.1 hx).2
  simpa using this
theorem keys_sub {S : Sto} {b g : Nat} {o : Int} : keys (stoB b g (dropS S o)) = keys (stoB b g S) := rfl
end Go.Proofs.Ytjianfhodjapgaa
namespace Go.Proofs.Ytjianfhodjapgaa
open Go.RowKit Go.ChangeShapes Go.WideShapes
set_option linter.unusedVariables false
set_option linter.unusedSimpArgs false
set_option maxRecDepth 100000
/-- No larger than a number. -/
structure SmB (k : Nat) (l : List Att) : Prop where
  len : l.length ≤ k
  each : ∀ x ∈ l, x.2.2.length ≤ k
theorem SmB.small {k : Nat} {l : List Att} (h : SmB k l) (hk : k ≤ 1048576) : Small l := ⟨Nat.le_trans h.len hk, fun x hx => Nat.le_trans (h.each x hx) hk⟩
theorem SmB.mono {k m : Nat} {l : List Att} (h : SmB k l) (hk : k ≤ m) : SmB m l := ⟨Nat.le_trans h.len hk, fun x hx => Nat.le_trans (h.each x hx) hk⟩
structure SmH (k : Nat) (l : List He) : Prop where
  len : l.length ≤ k
  each : ∀ x ∈ l, SmB k x.2.2.2
/-- A slice of lists of attributes. -/
abbrev At2 := Value × List Att
structure AtsL (w : World) (v : Value) (l : List At2) : Prop where
  cs : Cs w v l.length (l.map (·.1))
  body : ∀ x ∈ l, Ats w x.1 x.2
structure SmL (k : Nat) (l : List At2) : Prop where
  len : l.length ≤ k
  each : ∀ x ∈ l, SmB k x.2
section
variable {W : World}
theorem rdg_attsK : Rdg Try.prog W 29 fun cs b => ∃ v, ∃ l : List Att, cs = [v] ∧ Ats W v l ∧ SmB b l ∧ 1 ≤ b := fun H enc fuel cs x hx => by
  obtain ⟨v, n, cc, h1, h2, h3, h4, h5⟩ := rdg_slice (e := 49) (by kernel_rfl) cells_att (by decide) rdg_att H enc fuel cs x hx
  have key : ∀ l : List (List Value × Nat), (∀ c ∈ l, (∃ x : Att, c.1 = atC x ∧ Cb W x.2.1 x.2.2.length x.2.2 ∧ x.2.2.length + 2 ≤ c.2) ∧ c.1.length = 2) → ∃ its : List Att, (l.map (·.1)).flatten = atsC its ∧ its.length = l.length ∧ (∀ x ∈ its, Cb W x.2.1 x.2.2.length x.2.2) ∧ l.length ≤ (l.map (·.2)).sum ∧ ∀ x ∈ its, x.2.2.length ≤ (l.map (·.2)).sum := by
    intro l
    induction l with
    | nil => intro _; exact ⟨[], rfl, rfl, by simp, by simp, by simp⟩
    | cons c r ih =>
      intro h
      obtain ⟨its, e1, e2, e3, e4, e5⟩ := ih fun d hd => h d (by simp [hd])
      obtain ⟨⟨x, f1, f2, f4⟩, _⟩ := h c (by simp)
      refine ⟨x :: its, ?_, by simp [e2], fun y hy => ?_, by simp only [List.map_cons, List.sum_cons, List.length_cons]; omega, fun y hy => ?_⟩
      · rw [List.map_cons, List.flatten_cons, e1, f1]; simp [atsC]
      · rcases List.mem_cons.1 hy with rfl | hy
        · exact f2
        · exact e3 y hy
      · simp only [List.map_cons, List.sum_cons]
        rcases List.mem_cons.1 hy with rfl | hy
        · omega
        · have := e5 y hy; omega
  obtain ⟨its, e1, e2, e3, e4, e5⟩ := key cc h3
  rw [e1] at h4
  exact ⟨v, its, h1, ⟨by rw [e2, h2]; exact h4, e3⟩, ⟨by omega, fun x hx => by have := e5 x hx; omega⟩, by omega⟩
theorem open_attsK {r : Reach} {b0 : Nat} {v : Value} {H : Type} {enc : TypeId × Value → H} {d : DataW H} {q : List MemPlace} (hv : Value.okWide Try.prog W r b0 29 v) (h : DataW.Trod enc Try.prog W 0 (fun _ => true) true 29 v d q) :
    ∃ l : List Att, Ats W v l ∧ SmB (Rows.uptoBulk d) l := by
  obtain ⟨a, len, cap, rfl⟩ := okWide_slice (e := 49) (by kernel_rfl) hv
  obtain ⟨v', l, h1, h2, h3, _⟩ := open_cell (r := r) (b0 := b0) rdg_attsK rfl h
  cases h1
  exact ⟨l, h2, h3⟩
theorem cells_attsK : Try.prog.cellsOf 29 = 1 := by kernel_rfl
theorem open_atts2 {r : Reach} {b0 : Nat} {v : Value} {H : Type} {enc : TypeId × Value → H} {d : DataW H} {q : List MemPlace} (hv : Value.okWide Try.prog W r b0 35 v) (h : DataW.Trod enc Try.prog W 0 (fun _ => true) true 35 v d q) :
    ∃ l : List At2, AtsL W v l ∧ SmL (Rows.uptoBulk d) l := by
  obtain ⟨a, len, cap, rfl⟩ := okWide_slice (e := 29) (by kernel_rfl) hv
  obtain ⟨v', n, cc, h1, h2, h3, h4, h5⟩ := open_cell (r := r) (b0 := b0) (rdg_slice (e := 29) (by kernel_rfl) cells_attsK (by decide) rdg_attsK) rfl h
  cases h1
  have key : ∀ l : List (List Value × Nat), (∀ c ∈ l, (∃ v, ∃ l : List Att, c.1 = [v] ∧ Ats W v l ∧ SmB c.2 l ∧ 1 ≤ c.2) ∧ c.1.length = 1) → ∃ its : List At2, (l.map (·.1)).flatten = its.map (·.1) ∧ its.length = l.length ∧ (∀ x ∈ its, Ats W x.1 x.2) ∧ l.length ≤ (l.map (·.2)).sum ∧ ∀ x ∈ its, SmB (l.map (·.2)).sum x.2 := by
    intro l
    induction l with
    | nil => intro _; exact ⟨[], rfl, rfl, by simp, by simp, by simp⟩
    | cons c r ih =>
      intro h
      obtain ⟨its, e1, e2, e3, e4, e5⟩ := ih fun d hd => h d (by simp [hd])
      obtain ⟨⟨u, m, f1, f2, f3, f4⟩, _⟩ := h c (by simp)
      refine ⟨(u, m) :: its, ?_, by simp [e2], fun y hy => ?_, by simp only [List.map_cons, List.sum_cons, List.length_cons]; omega, fun y hy => ?_⟩
      · rw [List.map_cons, List.flatten_cons, e1, f1]; rfl
      · rcases List.mem_cons.1 hy with rfl | hy
        · exact f2
        · exact e3 y hy
      · simp only [List.map_cons, List.sum_cons]
        rcases List.mem_cons.1 hy with rfl | hy
        · exact f3.mono (by omega)
        · exact (e5 y hy).mono (by omega)
  obtain ⟨its, e1, e2, e3, e4, e5⟩ := key cc h3
  rw [e1] at h4
  refine ⟨its, ⟨?_, e3⟩, ⟨by omega, fun x hx => (e5 x hx).mono (by omega)⟩⟩
  rw [e2, h2]; exact h4
theorem cells_held : Try.prog.cellsOf 31 = 3 := by kernel_rfl
theorem cells_intH : Try.prog.cellsOf 3 = 1 := by kernel_rfl
theorem rdg_held : Rdg Try.prog W 31 fun cs b => ∃ x : He, cs = heC x ∧ Ats W x.2.2.1 x.2.2.2 ∧ SmB b x.2.2.2 ∧ 1 ≤ b :=
  (rdg_struct Try.underlying31 (fun i cs b => if i = 2 then ∃ v, ∃ l : List Att, cs = [v] ∧ Ats W v l ∧ SmB b l ∧ 1 ≤ b else ∃ z, cs = [.int .i64 z]) (fun i f hf => by
    match i, hf with
    | 0, hf => simp at hf; subst hf; exact (rdg_int (k := .i64) (by kernel_rfl)).mono fun cs b ⟨z, hz, _⟩ => ⟨z, hz⟩
    | 1, hf => simp at hf; subst hf; exact (rdg_int (k := .i64) (by kernel_rfl)).mono fun cs b ⟨z, hz, _⟩ => ⟨z, hz⟩
    | 2, hf => simp at hf; subst hf; exact rdg_attsK
    | n + 3, hf => simp at hf)).mono fun cs b ⟨bs, hl, hbs, hf, hb⟩ => by
    rw [cells_held] at hl
    obtain ⟨c0, c1, c2, rfl⟩ : ∃ c0 c1 c2, cs = [c0, c1, c2] := by
      match cs, hl with | [c0, c1, c2], _ => exact ⟨c0, c1, c2, rfl⟩
    obtain ⟨z0, h0⟩ : ∃ z, List.take (Try.prog.cellsOf 3) (List.drop 0 [c0, c1, c2]) = [.int .i64 z] := hf 0 _ rfl
    obtain ⟨z1, h1⟩ : ∃ z, List.take (Try.prog.cellsOf 3) (List.drop 1 [c0, c1, c2]) = [.int .i64 z] := hf 1 _ rfl
    obtain ⟨v, l, h2, h3, h4, h5⟩ : ∃ v, ∃ l : List Att, List.take (Try.prog.cellsOf 29) (List.drop 2 [c0, c1, c2]) = [v] ∧ Ats W v l ∧ SmB (bs.getD 2 0) l ∧ 1 ≤ bs.getD 2 0 := hf 2 _ rfl
    rw [cells_intH] at h0 h1
    rw [cells_attsK] at h2
    simp at h0 h1 h2
    subst h0; subst h1; subst h2
    have hle : bs.getD 2 0 ≤ bs.sum := by
      match bs, hbs with
      | [a, b, c], _ => simp; omega
    exact ⟨(z0, z1, c2, l), rfl, h3, h4.mono (by omega), by omega⟩
theorem open_held {r : Reach} {b0 : Nat} {v : Value} {H : Type} {enc : TypeId × Value → H} {d : DataW H} {q : List MemPlace} (hv : Value.okWide Try.prog W r b0 22 v) (h : DataW.Trod enc Try.prog W 0 (fun _ => true) true 22 v d q) :
    ∃ l : List He, Hes W v l ∧ SmH (Rows.uptoBulk d) l := by
  obtain ⟨a, len, cap, rfl⟩ := okWide_slice (e := 31) (by kernel_rfl) hv
  obtain ⟨v', n, cc, h1, h2, h3, h4, h5⟩ := open_cell (r := r) (b0 := b0) (rdg_slice (e := 31) (by kernel_rfl) cells_held (by decide) rdg_held) rfl h
  cases h1
  have key : ∀ l : List (List Value × Nat), (∀ c ∈ l, (∃ x : He, c.1 = heC x ∧ Ats W x.2.2.1 x.2.2.2 ∧ SmB c.2 x.2.2.2 ∧ 1 ≤ c.2) ∧ c.1.length = 3) → ∃ its : List He, (l.map (·.1)).flatten = hesC its ∧ its.length = l.length ∧ (∀ x ∈ its, Ats W x.2.2.1 x.2.2.2) ∧ l.length ≤ (l.map (·.2)).sum ∧ ∀ x ∈ its, SmB (l.map (·.2)).sum x.2.2.2 := by
    intro l
    induction l with
    | nil => intro _; exact ⟨[], rfl, rfl, by simp, by simp, by simp⟩
    | cons c r ih =>
      intro h
      obtain ⟨its, e1, e2, e3, e4, e5⟩ := ih fun d hd => h d (by simp [hd])
      obtain ⟨⟨x, f1, f2, f3, f4⟩, _⟩ := h c (by simp)
      refine ⟨x :: its, ?_, by simp [e2], fun y hy => ?_, by simp only [List.map_cons, List.sum_cons, List.length_cons]; omega, fun y hy => ?_⟩
      · rw [List.map_cons, List.flatten_cons, e1, f1]; simp [hesC]
      · rcases List.mem_cons.1 hy with rfl | hy
        · exact f2
        · exact e3 y hy
      · simp only [List.map_cons, List.sum_cons]
        rcases List.mem_cons.1 hy with rfl | hy
        · exact f3.mono (by omega)
        · exact (e5 y hy).mono (by omega)
  obtain ⟨its, e1, e2, e3, e4, e5⟩ := key cc h3
  rw [e1] at h4
  refine ⟨its, ⟨?_, e3⟩, ⟨by omega, fun x hx => (e5 x hx).mono (by omega)⟩⟩
  rw [e2, h2]; exact h4
end
end Go.Proofs.Ytjianfhodjapgaa
namespace Go.Proofs.Ytjianfhodjapgaa
open Go.RowKit Go.ChangeShapes Go.WideShapes
set_option linter.unusedVariables false
set_option linter.unusedSimpArgs false
/-- Each of these reads as the bytes named. -/
def Els (w : World) : List Value → List (List Nat) → Prop
  | [], [] => True
  | x :: xs, q :: qs => Cb w x q.length q ∧ Els w xs qs
  | _, _ => False
theorem Els.len {w : World} : ∀ {xs : List Value} {qs : List (List Nat)}, Els w xs qs → qs.length = xs.length
  | [], [], _ => rfl
  | _ :: _, _ :: _, h => by rw [List.length_cons, List.length_cons, Els.len h.2]
theorem Els.at {w : World} : ∀ {xs : List Value} {qs : List (List Nat)} {i : Nat}, Els w xs qs → i < xs.length → ∃ x q, xs[i]? = some x ∧ qs[i]? = some q ∧ Cb w x q.length q
  | x :: _, q :: _, 0, h, _ => ⟨x, q, rfl, rfl, h.1⟩
  | _ :: _, _ :: _, i + 1, h, hi => by
    obtain ⟨x, q, h1, h2, h3⟩ := Els.at (i := i) h.2 (by simpa using hi)
    exact ⟨x, q, by simpa using h1, by simpa using h2, h3⟩
theorem Els.below {w w' : World} (hb : Below w.heap.size w w') : ∀ {xs : List Value} {qs : List (List Nat)}, Els w xs qs → Els w' xs qs
  | [], [], _ => trivial
  | _ :: _, _ :: _, h => ⟨h.1.below hb, Els.below hb h.2⟩
theorem Els.app {w : World} : ∀ {xs ys : List Value} {qs rs : List (List Nat)}, Els w xs qs → Els w ys rs → Els w (xs ++ ys) (qs ++ rs)
  | [], _, [], _, _, h => h
  | _ :: _, _, _ :: _, _, h, h' => ⟨h.1, Els.app h.2 h'⟩
theorem Els.one {w : World} : ∀ {xs : List Value} {qs : List (List Nat)}, Els w xs qs → ∀ y ∈ xs, y.oneCell' = true
  | [], [], _, y, hy => by cases hy
  | x :: _, _ :: _, h, y, hy => by
    rcases List.mem_cons.1 hy with rfl | hy
    · obtain ⟨_, _, hv, _⟩ := h.1.cs.ln.out
      rw [hv]; rfl
    · exact Els.one h.2 y hy
theorem Els.take {w : World} (k : Nat) : ∀ {xs : List Value} {qs : List (List Nat)}, Els w xs qs → Els w (xs.take k) (qs.take k) := by
  induction k with
  | zero => intro xs qs _; simp [Els]
  | succ k ih =>
    intro xs qs h
    match xs, qs, h with
    | [], [], _ => trivial
    | _ :: _, _ :: _, h => exact ⟨h.1, ih h.2⟩
theorem Els.drop {w : World} (k : Nat) : ∀ {xs : List Value} {qs : List (List Nat)}, Els w xs qs → Els w (xs.drop k) (qs.drop k) := by
  induction k with
  | zero => intro xs qs h; exact h
  | succ k ih =>
    intro xs qs h
    match xs, qs, h with
    | [], [], h => exact h
    | _ :: _, _ :: _, h => exact ih h.2
/-- A slice of slices of bytes. -/
structure Cll (w : World) (v : Value) (n : Nat) (xs : List Value) (qs : List (List Nat)) : Prop where
  cs : Cs w v n xs
  len : xs.length = n
  el : Els w xs qs
theorem Cll.below {w w' : World} {v : Value} {n : Nat} {xs : List Value} {qs : List (List Nat)} (h : Cll w v n xs qs) (hb : Below w.heap.size w w') : Cll w' v n xs qs := ⟨h.cs.below hb, h.len, Els.below hb h.el⟩
section
variable {P : Program} {W : World} {t e e' : TypeId}
theorem rdg_bll (ht : P.underlying t = some (.slice e)) (hk : P.cellsOf e = 1) (ht' : P.underlying e = some (.slice e')) (he : P.underlying e' = some (.int .u8)) (hk' : P.cellsOf e' = 1) :
    Rdg P W t fun cs b => ∃ v n xs qs, cs = [v] ∧ Cll W v n xs qs ∧ qs.length + (qs.map List.length).sum + 1 ≤ b := fun H enc fuel cs x hx => by
  obtain ⟨v, n, cc, h1, h2, h3, h4, h5⟩ := rdg_slice ht hk (by decide) (rdg_bytes ht' he hk') H enc fuel cs x hx
  have hgo : ∀ l : List (List Value × Nat), (∀ c ∈ l, c ∈ cc) → ∃ xs qs, (l.map (·.1)).flatten = xs ∧ xs.length = l.length ∧ Els W xs qs ∧ qs.length + (qs.map List.length).sum ≤ (l.map (·.2)).sum := fun l => by
    induction l with
    | nil => intro _; exact ⟨[], [], rfl, rfl, trivial, by simp⟩
    | cons c r ih =>
      intro h
      obtain ⟨xs, qs, e1, e2, e3, e4⟩ := ih fun d hd => h d (by simp [hd])
      obtain ⟨⟨y, m, p, f1, f2, f3⟩, _⟩ := h3 c (h c (by simp))
      refine ⟨y :: xs, p :: qs, by rw [List.map_cons, List.flatten_cons, e1, f1]; rfl, by simp [e2], ⟨by rw [f2.ok.len]; exact f2, e3⟩, ?_⟩
      have := f2.ok.len
      simp only [List.map_cons, List.sum_cons, List.length_cons]
      omega
  obtain ⟨xs, qs, e1, e2, e3, e4⟩ := hgo cc fun _ h => h
  rw [e1] at h4
  exact ⟨v, n, xs, qs, h1, ⟨h4, by rw [e2, h2], e3⟩, by omega⟩
theorem rdg_ints (ht : P.underlying t = some (.slice e)) (he : P.underlying e = some (.int .i64)) (hk : P.cellsOf e = 1) :
    Rdg P W t fun cs b => ∃ v n, ∃ zs : List Int, cs = [v] ∧ Cs W v n (zs.map (Value.int .i64)) ∧ zs.length = n ∧ (∀ z ∈ zs, -9223372036854775808 ≤ z ∧ z < 9223372036854775808) ∧ n + 1 ≤ b := fun H enc fuel cs x hx => by
  have hb : Rdg P W e fun cs b => (∃ z, cs = [.int .i64 z] ∧ (Lit.int .i64 z).wf = true) ∧ 1 ≤ b := fun H enc fuel cs x hx => ⟨rdg_int he H enc fuel cs x hx, bulk_one _⟩
  obtain ⟨v, n, cc, h1, h2, h3, h4, h5⟩ := rdg_slice ht hk (by decide) hb H enc fuel cs x hx
  have hgo : ∀ l : List (List Value × Nat), (∀ c ∈ l, c ∈ cc) → ∃ zs : List Int, (l.map (·.1)).flatten = zs.map (Value.int .i64) ∧ zs.length = l.length ∧ (∀ z ∈ zs, -9223372036854775808 ≤ z ∧ z < 9223372036854775808) ∧ l.length ≤ (l.map (·.2)).sum := fun l => by
    induction l with
    | nil => intro _; exact ⟨[], rfl, rfl, by simp, by simp⟩
    | cons c r ih =>
      intro h
      obtain ⟨zs, e1, e2, e3, e4⟩ := ih fun d hd => h d (by simp [hd])
      obtain ⟨⟨⟨z, f1, f2⟩, f3⟩, _⟩ := h3 c (h c (by simp))
      simp [Lit.wf, IntKind.min, IntKind.max, IntKind.signed, IntKind.bits] at f2
      refine ⟨z :: zs, by rw [List.map_cons, List.flatten_cons, e1, f1]; rfl, by simp [e2], fun y hy => ?_, by simp only [List.map_cons, List.sum_cons, List.length_cons]; omega⟩
      rcases List.mem_cons.1 hy with rfl | hy
      · omega
      · exact e3 y hy
  obtain ⟨zs, e1, e2, e3, e4⟩ := hgo cc fun _ h => h
  rw [e1] at h4
  exact ⟨v, n, zs, h1, h4, by rw [e2, h2], e3, by omega⟩
end
section
variable {H : Type} {enc : TypeId × Value → H} {P : Program} {W : World}
theorem open_bll' {t e e' : TypeId} {r : Reach} {b0 : Nat} {v : Value} {d : DataW H} {q : List MemPlace} (ht : P.underlying t = some (.slice e)) (hk : P.cellsOf e = 1) (ht' : P.underlying e = some (.slice e')) (he : P.underlying e' = some (.int .u8)) (hk' : P.cellsOf e' = 1) (hv : Value.okWide P W r b0 t v) (h : DataW.Trod enc P W 0 (fun _ => true) true t v d q) :
    ∃ x : Nat × List Value × List (List Nat), Cll W v x.1 x.2.1 x.2.2 ∧ x.2.2.length + (x.2.2.map List.length).sum + 1 ≤ Rows.uptoBulk d := by
  obtain ⟨a, len, cap, rfl⟩ := okWide_slice ht hv
  obtain ⟨v', n, xs, qs, h1, h2, h3⟩ := open_cell (r := r) (b0 := b0) (rdg_bll ht hk ht' he hk') rfl h
  cases h1
  exact ⟨(n, xs, qs), h2, h3⟩
theorem open_ints' {t e : TypeId} {r : Reach} {b0 : Nat} {v : Value} {d : DataW H} {q : List MemPlace} (ht : P.underlying t = some (.slice e)) (he : P.underlying e = some (.int .i64)) (hk : P.cellsOf e = 1) (hv : Value.okWide P W r b0 t v) (h : DataW.Trod enc P W 0 (fun _ => true) true t v d q) :
    ∃ zs : List Int, (Cs W v zs.length (zs.map (Value.int .i64)) ∧ ∀ z ∈ zs, -9223372036854775808 ≤ z ∧ z < 9223372036854775808) ∧ zs.length + 1 ≤ Rows.uptoBulk d := by
  obtain ⟨a, len, cap, rfl⟩ := okWide_slice ht hv
  obtain ⟨v', n, zs, h1, h2, h3, h4, h5⟩ := open_cell (r := r) (b0 := b0) (rdg_ints ht he hk) rfl h
  cases h1
  subst h3
  exact ⟨zs, ⟨h2, h4⟩, h5⟩
end
theorem hold_old {P : Program} {W w : World} {N : Nat} (hb : Below W.heap.size W w) (l : Blks) : Hold ⟨P, w, N, []⟩ l (Old W []) :=
  ⟨fun w' hm k hk _ => (hm.cls.old k (Nat.lt_of_lt_of_le hk hb.size) (by simp)).trans (hb.block k hk)⟩
end Go.Proofs.Ytjianfhodjapgaa
namespace Go.Proofs.Ytjianfhodjapgaa
open Go.RowKit Go.ChangeShapes Go.WideShapes
set_option linter.unusedVariables false
set_option maxRecDepth 100000 in
theorem open_ints {H : Type} {enc : TypeId × Value → H} {W : World} {r : Reach} {b0 : Nat} {v : Value} {d : DataW H} {q : List MemPlace} (hv : Value.okWide Try.prog W r b0 36 v) (h : DataW.Trod enc Try.prog W 0 (fun _ => true) true 36 v d q) :
    ∃ zs : List Int, (Cs W v zs.length (zs.map (Value.int .i64)) ∧ ∀ z ∈ zs, -9223372036854775808 ≤ z ∧ z < 9223372036854775808) ∧ zs.length + 1 ≤ Rows.uptoBulk d := open_ints' (t := 36) (e := 3) (by kernel_rfl) (by kernel_rfl) (by kernel_rfl) hv h
end Go.Proofs.Ytjianfhodjapgaa
namespace Go.Proofs.Ytjianfhodjapgaa
open Go.RowKit

/-- A word of 64 bits. -/
def U (x : Int) : Prop := 0 ≤ x ∧ x < 18446744073709551616
def limb (n i : Nat) : Int := ((n / 2 ^ (64 * i) % 18446744073709551616 : Nat) : Int)
abbrev num (n : Nat) : Value := .agg #[.int .u64 (limb n 0), .int .u64 (limb n 1), .int .u64 (limb n 2), .int .u64 (limb n 3)]
abbrev wide (n : Nat) : Value := .agg #[.int .u64 (limb n 0), .int .u64 (limb n 1), .int .u64 (limb n 2), .int .u64 (limb n 3), .int .u64 (limb n 4), .int .u64 (limb n 5), .int .u64 (limb n 6), .int .u64 (limb n 7)]
def T256 : Nat := 115792089237316195423570985008687907853269984665640564039457584007913129639936
/-- Less than 2^256, by what it is. -/
class SmT (a : Nat) : Prop where
  out : a < T256
def T512 : Nat := T256 * T256
theorem T256_eq : T256 = 2 ^ 256 := by decide +kernel
theorem T512_eq : T512 = 2 ^ 512 := by decide +kernel

theorem limb_U (n i : Nat) : U (limb n i) := by
  unfold limb U
  have := Nat.mod_lt (n / 2 ^ (64 * i)) (show 0 < 18446744073709551616 by omega)
  omega
theorem limb_nonneg (n i : Nat) : 0 ≤ limb n i := (limb_U n i).1

def sumLo (x y c : Int) : Int := (x + y + c) % 18446744073709551616
def sumHi (x y c : Int) : Int := (x + y + c) / 18446744073709551616
def subLo (x y c : Int) : Int := (x - y - c) % 18446744073709551616
def subHi (x y c : Int) : Int := if x < y + c then 1 else 0
theorem sumHi_bd {x y c : Int} (hx : U x) (hy : U y) (h0 : 0 ≤ c) (h1 : c ≤ 1) : 0 ≤ sumHi x y c ∧ sumHi x y c ≤ 1 := by
  unfold sumHi U at *; omega
theorem subHi_bd (x y c : Int) : 0 ≤ subHi x y c ∧ subHi x y c ≤ 1 := by
  unfold subHi; split <;> omega

/-- A number below 2^256 out of its four words. -/
def four (a0 a1 a2 a3 : Nat) : Nat := a0 + 18446744073709551616 * a1 + 340282366920938463463374607431768211456 * a2 + 6277101735386680763835789423207666416102355444464034512896 * a3
theorem limb0 (n : Nat) : limb n 0 = ((n % 18446744073709551616 : Nat) : Int) := by unfold limb; simp
theorem limb1 (n : Nat) : limb n 1 = ((n / 18446744073709551616 % 18446744073709551616 : Nat) : Int) := by unfold limb; simp
theorem limb2 (n : Nat) : limb n 2 = ((n / 340282366920938463463374607431768211456 % 18446744073709551616 : Nat) : Int) := by unfold limb; simp
theorem limb3 (n : Nat) : limb n 3 = ((n / 6277101735386680763835789423207666416102355444464034512896 % 18446744073709551616 : Nat) : Int) := by unfold limb; simp
theorem limb4 (n : Nat) : limb n 4 = ((n / T256 % 18446744073709551616 : Nat) : Int) := by unfold limb T256; simp
theorem limb_shift4 (n i : Nat) : limb n (i + 4) = limb (n / T256) i := by
  unfold limb
  rw [Nat.div_div_eq_div_mul, T256_eq, ← Nat.pow_add, show 64 * (i + 4) = 256 + 64 * i by omega]
theorem limb_four (a0 a1 a2 a3 : Nat) (h0 : a0 < 18446744073709551616) (h1 : a1 < 18446744073709551616) (h2 : a2 < 18446744073709551616) (h3 : a3 < 18446744073709551616) :
    limb (four a0 a1 a2 a3) 0 = a0 ∧ limb (four a0 a1 a2 a3) 1 = a1 ∧ limb (four a0 a1 a2 a3) 2 = a2 ∧ limb (four a0 a1 a2 a3) 3 = a3 := by
  rw [limb0, limb1, limb2, limb3]; unfold four
  refine ⟨?_, ?_, ?_, ?_⟩ <;> (congr 1; omega)
theorem four_lt (a0 a1 a2 a3 : Nat) (h0 : a0 < 18446744073709551616) (h1 : a1 < 18446744073709551616) (h2 : a2 < 18446744073709551616) (h3 : a3 < 18446744073709551616) : four a0 a1 a2 a3 < T256 := by
  unfold four T256; omega
/-- Every number below 2^256 is four words. -/
theorem four_of (n : Nat) (h : n < T256) : ∃ a0 a1 a2 a3, a0 < 18446744073709551616 ∧ a1 < 18446744073709551616 ∧ a2 < 18446744073709551616 ∧ a3 < 18446744073709551616 ∧ n = four a0 a1 a2 a3 := by
  refine ⟨n % 18446744073709551616, n / 18446744073709551616 % 18446744073709551616, n / 340282366920938463463374607431768211456 % 18446744073709551616, n / 6277101735386680763835789423207666416102355444464034512896 % 18446744073709551616, ?_, ?_, ?_, ?_, ?_⟩
  all_goals unfold T256 at h
  all_goals first | omega | (unfold four; omega)
theorem num_of (x0 x1 x2 x3 : Int) (h0 : U x0) (h1 : U x1) (h2 : U x2) (h3 : U x3) : ∃ n, n < T256 ∧ x0 = limb n 0 ∧ x1 = limb n 1 ∧ x2 = limb n 2 ∧ x3 = limb n 3 := by
  obtain ⟨a0, rfl⟩ := Int.eq_ofNat_of_zero_le h0.1
  obtain ⟨a1, rfl⟩ := Int.eq_ofNat_of_zero_le h1.1
  obtain ⟨a2, rfl⟩ := Int.eq_ofNat_of_zero_le h2.1
  obtain ⟨a3, rfl⟩ := Int.eq_ofNat_of_zero_le h3.1
  unfold U at *
  have k := limb_four a0 a1 a2 a3 (by omega) (by omega) (by omega) (by omega)
  exact ⟨four a0 a1 a2 a3, four_lt _ _ _ _ (by omega) (by omega) (by omega) (by omega), k.1.symm, k.2.1.symm, k.2.2.1.symm, k.2.2.2.symm⟩
/-- Two numbers with the same words are one. -/
theorem num_inj {a b : Nat} (ha : a < T256) (hb : b < T256) (h0 : limb a 0 = limb b 0) (h1 : limb a 1 = limb b 1) (h2 : limb a 2 = limb b 2) (h3 : limb a 3 = limb b 3) : a = b := by
  obtain ⟨a0, a1, a2, a3, k0, k1, k2, k3, rfl⟩ := four_of a ha
  obtain ⟨b0, b1, b2, b3, l0, l1, l2, l3, rfl⟩ := four_of b hb
  have k := limb_four a0 a1 a2 a3 k0 k1 k2 k3
  have l := limb_four b0 b1 b2 b3 l0 l1 l2 l3
  rw [k.1, l.1] at h0; rw [k.2.1, l.2.1] at h1; rw [k.2.2.1, l.2.2.1] at h2; rw [k.2.2.2, l.2.2.2] at h3
  obtain rfl := Int.ofNat.inj h0; obtain rfl := Int.ofNat.inj h1; obtain rfl := Int.ofNat.inj h2; obtain rfl := Int.ofNat.inj h3
  rfl

/-- Two halves make a wide one. -/
theorem limb_lo (n m i : Nat) (hi : i < 4) : limb (n % T256 + T256 * m) i = limb n i := by
  unfold limb
  congr 1
  rw [T256_eq]
  have e : 2 ^ 256 = 2 ^ (64 * i) * (18446744073709551616 * 2 ^ (192 - 64 * i)) := by
    rw [show (18446744073709551616 : Nat) = 2 ^ 64 by decide, ← Nat.pow_add, ← Nat.pow_add]; congr 1; omega
  have h1 : (n % 2 ^ 256 + 2 ^ 256 * m) / 2 ^ (64 * i) = n % 2 ^ 256 / 2 ^ (64 * i) + 18446744073709551616 * (2 ^ (192 - 64 * i) * m) := by
    rw [show 2 ^ 256 * m = 2 ^ (64 * i) * (18446744073709551616 * (2 ^ (192 - 64 * i) * m)) by conv => lhs; rw [e]; simp only [Nat.mul_assoc], Nat.add_mul_div_left _ _ (Nat.two_pow_pos _)]
  rw [h1, Nat.add_mul_mod_self_left]
  conv => lhs; rw [e, Nat.mod_mul_right_div_self]
  rw [Nat.mod_mul_right_mod]
theorem limb_hi (n m i : Nat) (hn : n < T256) : limb (n + T256 * m) (i + 4) = limb m i := by
  rw [limb_shift4, Nat.add_mul_div_left _ _ (by unfold T256; omega), Nat.div_eq_of_lt hn, Nat.zero_add]
theorem limb_two (n m : Nat) (hn : n < T256) : limb (n + T256 * m) 0 = limb n 0 ∧ limb (n + T256 * m) 1 = limb n 1 ∧ limb (n + T256 * m) 2 = limb n 2 ∧ limb (n + T256 * m) 3 = limb n 3 ∧
    limb (n + T256 * m) 4 = limb m 0 ∧ limb (n + T256 * m) 5 = limb m 1 ∧ limb (n + T256 * m) 6 = limb m 2 ∧ limb (n + T256 * m) 7 = limb m 3 := by
  have a := limb_lo n m 0 (by omega)
  have b := limb_lo n m 1 (by omega)
  have c := limb_lo n m 2 (by omega)
  have d := limb_lo n m 3 (by omega)
  rw [Nat.mod_eq_of_lt hn] at a b c d
  exact ⟨a, b, c, d, limb_hi n m 0 hn, limb_hi n m 1 hn, limb_hi n m 2 hn, limb_hi n m 3 hn⟩
theorem two_lt (n m : Nat) (hn : n < T256) (hm : m < T256) : n + T256 * m < T512 := by
  have : T256 * (m + 1) ≤ T256 * T256 := Nat.mul_le_mul_left _ hm
  unfold T512
  rw [Nat.mul_add] at this
  omega
/-- What was added is taken off, and the other way round. -/
theorem add_sub_back {T a b s c d t : Nat} (ha : a < T) (hb : b < T) (h1 : Hid (s = (a + b) % T ∧ c = (a + b) / T)) (h2 : Hid (d = (s + T - b) % T ∧ t = if s < b then 1 else 0)) : d = a ∧ t = c := by
  have ⟨e1, e2⟩ := h1.out
  have ⟨e3, e4⟩ := h2.out
  clear h1 h2
  have z : 0 < T := by omega
  by_cases h : a + b < T
  · rw [Nat.mod_eq_of_lt h] at e1; rw [Nat.div_eq_of_lt h] at e2
    subst e1 e2
    rw [if_neg (by omega)] at e4
    rw [show a + b + T - b = a + T by omega, Nat.add_mod_right, Nat.mod_eq_of_lt ha] at e3
    exact ⟨e3, e4⟩
  · have k : (a + b) = (a + b - T) + T * 1 := by omega
    rw [k, Nat.add_mul_mod_self_left, Nat.mod_eq_of_lt (by omega)] at e1
    rw [k, Nat.add_mul_div_left _ _ z, Nat.div_eq_of_lt (by omega)] at e2
    subst e1 e2
    rw [if_pos (by omega)] at e4
    rw [show a + b - T + T - b = a by omega, Nat.mod_eq_of_lt ha] at e3
    exact ⟨e3, by omega⟩
theorem sub_add_back {T a b s c d t : Nat} (ha : a < T) (hb : b < T) (h1 : Hid (s = (a + T - b) % T ∧ c = if a < b then 1 else 0)) (h2 : Hid (d = (s + b) % T ∧ t = (s + b) / T)) : d = a ∧ t = c := by
  have ⟨e1, e2⟩ := h1.out
  have ⟨e3, e4⟩ := h2.out
  clear h1 h2
  have z : 0 < T := by omega
  by_cases h : a < b
  · rw [Nat.mod_eq_of_lt (by omega)] at e1; rw [if_pos h] at e2
    subst e1 e2
    rw [show a + T - b + b = a + T * 1 by omega] at e3 e4
    rw [Nat.add_mul_mod_self_left, Nat.mod_eq_of_lt ha] at e3
    rw [Nat.add_mul_div_left _ _ z, Nat.div_eq_of_lt ha] at e4
    exact ⟨e3, by omega⟩
  · rw [show a + T - b = a - b + T by omega, Nat.add_mod_right, Nat.mod_eq_of_lt (by omega)] at e1; rw [if_neg h] at e2
    subst e1 e2
    rw [show a - b + b = a by omega] at e3 e4
    rw [Nat.mod_eq_of_lt ha] at e3
    rw [Nat.div_eq_of_lt ha] at e4
    exact ⟨e3, e4⟩

/-- ADD: the four steps make the sum. -/
theorem add_law (a b : Nat) (ha : a < T256) (hb : b < T256) (c0 c1 c2 : Int) (e0 : c0 = sumHi (limb a 0) (limb b 0) 0) (e1 : c1 = sumHi (limb a 1) (limb b 1) c0) (e2 : c2 = sumHi (limb a 2) (limb b 2) c1) :
    limb ((a + b) % T256) 0 = sumLo (limb a 0) (limb b 0) 0 ∧ limb ((a + b) % T256) 1 = sumLo (limb a 1) (limb b 1) c0 ∧ limb ((a + b) % T256) 2 = sumLo (limb a 2) (limb b 2) c1 ∧
    limb ((a + b) % T256) 3 = sumLo (limb a 3) (limb b 3) c2 ∧ (((a + b) / T256 : Nat) : Int) = sumHi (limb a 3) (limb b 3) c2 := by
  obtain ⟨a0, a1, a2, a3, k0, k1, k2, k3, rfl⟩ := four_of a ha
  obtain ⟨b0, b1, b2, b3, l0, l1, l2, l3, rfl⟩ := four_of b hb
  have k := limb_four a0 a1 a2 a3 k0 k1 k2 k3
  have l := limb_four b0 b1 b2 b3 l0 l1 l2 l3
  rw [k.1, l.1] at e0; rw [k.2.1, l.2.1] at e1; rw [k.2.2.1, l.2.2.1] at e2; rw [k.1, l.1, k.2.1, l.2.1, k.2.2.1, l.2.2.1, k.2.2.2, l.2.2.2]
  clear k l
  obtain ⟨s0, t0, hs0, hs0', ht0⟩ : ∃ s t : Nat, a0 + b0 = s + 18446744073709551616 * t ∧ s < 18446744073709551616 ∧ t ≤ 1 := ⟨(a0 + b0) % 18446744073709551616, (a0 + b0) / 18446744073709551616, by omega, by omega, by omega⟩
  obtain ⟨s1, t1, hs1, hs1', ht1⟩ : ∃ s t : Nat, a1 + b1 + t0 = s + 18446744073709551616 * t ∧ s < 18446744073709551616 ∧ t ≤ 1 := ⟨(a1 + b1 + t0) % 18446744073709551616, (a1 + b1 + t0) / 18446744073709551616, by omega, by omega, by omega⟩
  obtain ⟨s2, t2, hs2, hs2', ht2⟩ : ∃ s t : Nat, a2 + b2 + t1 = s + 18446744073709551616 * t ∧ s < 18446744073709551616 ∧ t ≤ 1 := ⟨(a2 + b2 + t1) % 18446744073709551616, (a2 + b2 + t1) / 18446744073709551616, by omega, by omega, by omega⟩
  obtain ⟨s3, t3, hs3, hs3', ht3⟩ : ∃ s t : Nat, a3 + b3 + t2 = s + 18446744073709551616 * t ∧ s < 18446744073709551616 ∧ t ≤ 1 := ⟨(a3 + b3 + t2) % 18446744073709551616, (a3 + b3 + t2) / 18446744073709551616, by omega, by omega, by omega⟩
  have hsum : four a0 a1 a2 a3 + four b0 b1 b2 b3 = four s0 s1 s2 s3 + T256 * t3 := by unfold four T256; omega
  have hlt := four_lt s0 s1 s2 s3 hs0' hs1' hs2' hs3'
  have hm : (four a0 a1 a2 a3 + four b0 b1 b2 b3) % T256 = four s0 s1 s2 s3 := by rw [hsum, Nat.add_mul_mod_self_left, Nat.mod_eq_of_lt hlt]
  have hd : (four a0 a1 a2 a3 + four b0 b1 b2 b3) / T256 = t3 := by
    rw [hsum, Nat.add_mul_div_left _ _ (by unfold T256; omega), Nat.div_eq_of_lt hlt]; omega
  rw [hm, hd]
  have m := limb_four s0 s1 s2 s3 hs0' hs1' hs2' hs3'
  rw [m.1, m.2.1, m.2.2.1, m.2.2.2]
  unfold sumHi at e0; obtain rfl : c0 = (t0 : Int) := by omega
  unfold sumHi at e1; obtain rfl : c1 = (t1 : Int) := by omega
  unfold sumHi at e2; obtain rfl : c2 = (t2 : Int) := by omega
  unfold sumLo sumHi
  omega

/-- SUB: the four steps make the difference. -/
theorem sub_law (a b : Nat) (ha : a < T256) (hb : b < T256) (c0 c1 c2 : Int) (e0 : c0 = subHi (limb a 0) (limb b 0) 0) (e1 : c1 = subHi (limb a 1) (limb b 1) c0) (e2 : c2 = subHi (limb a 2) (limb b 2) c1) :
    limb ((a + T256 - b) % T256) 0 = subLo (limb a 0) (limb b 0) 0 ∧ limb ((a + T256 - b) % T256) 1 = subLo (limb a 1) (limb b 1) c0 ∧ limb ((a + T256 - b) % T256) 2 = subLo (limb a 2) (limb b 2) c1 ∧
    limb ((a + T256 - b) % T256) 3 = subLo (limb a 3) (limb b 3) c2 ∧ (if a < b then 1 else 0 : Int) = subHi (limb a 3) (limb b 3) c2 := by
  obtain ⟨a0, a1, a2, a3, k0, k1, k2, k3, rfl⟩ := four_of a ha
  obtain ⟨b0, b1, b2, b3, l0, l1, l2, l3, rfl⟩ := four_of b hb
  have k := limb_four a0 a1 a2 a3 k0 k1 k2 k3
  have l := limb_four b0 b1 b2 b3 l0 l1 l2 l3
  rw [k.1, l.1] at e0; rw [k.2.1, l.2.1] at e1; rw [k.2.2.1, l.2.2.1] at e2; rw [k.1, l.1, k.2.1, l.2.1, k.2.2.1, l.2.2.1, k.2.2.2, l.2.2.2]
  clear k l
  have step : ∀ x y c : Nat, x < 18446744073709551616 → y < 18446744073709551616 → c ≤ 1 → ∃ s t : Nat, x + 18446744073709551616 * t = s + y + c ∧ s < 18446744073709551616 ∧ t ≤ 1 ∧ subLo x y c = s ∧ subHi x y c = t := by
    intro x y c hx hy hc
    unfold subLo subHi
    by_cases h : x < y + c
    · exact ⟨x + 18446744073709551616 - y - c, 1, by omega, by omega, by omega, by omega, by rw [if_pos (by omega)]; rfl⟩
    · exact ⟨x - y - c, 0, by omega, by omega, by omega, by omega, by rw [if_neg (by omega)]; rfl⟩
  obtain ⟨s0, t0, hs0, hs0', ht0, m0, n0⟩ := step a0 b0 0 k0 l0 (by omega)
  obtain ⟨s1, t1, hs1, hs1', ht1, m1, n1⟩ := step a1 b1 t0 k1 l1 ht0
  obtain ⟨s2, t2, hs2, hs2', ht2, m2, n2⟩ := step a2 b2 t1 k2 l2 ht1
  obtain ⟨s3, t3, hs3, hs3', ht3, m3, n3⟩ := step a3 b3 t2 k3 l3 ht2
  clear step
  have e0' : c0 = (t0 : Int) := e0.trans n0
  subst e0'
  have e1' : c1 = (t1 : Int) := e1.trans n1
  subst e1'
  have e2' : c2 = (t2 : Int) := e2.trans n2
  subst e2'
  clear e0 e1 e2 n0 n1 n2
  have z : ((0 : Nat) : Int) = 0 := rfl
  rw [z] at m0
  rw [m0, m1, m2, m3, n3]
  have hsum : four a0 a1 a2 a3 + T256 * t3 = four s0 s1 s2 s3 + four b0 b1 b2 b3 := by unfold four T256; omega
  have hlt := four_lt s0 s1 s2 s3 hs0' hs1' hs2' hs3'
  have hm : (four a0 a1 a2 a3 + T256 - four b0 b1 b2 b3) % T256 = four s0 s1 s2 s3 := by
    have : t3 = 0 ∨ t3 = 1 := by omega
    rcases this with rfl | rfl
    · rw [show four a0 a1 a2 a3 + T256 - four b0 b1 b2 b3 = four s0 s1 s2 s3 + T256 * 1 by omega, Nat.add_mul_mod_self_left, Nat.mod_eq_of_lt hlt]
    · rw [show four a0 a1 a2 a3 + T256 - four b0 b1 b2 b3 = four s0 s1 s2 s3 by omega, Nat.mod_eq_of_lt hlt]
  rw [hm]
  have m := limb_four s0 s1 s2 s3 hs0' hs1' hs2' hs3'
  rw [m.1, m.2.1, m.2.2.1, m.2.2.2]
  refine ⟨rfl, rfl, rfl, rfl, ?_⟩
  have : t3 = 0 ∨ t3 = 1 := by omega
  rcases this with rfl | rfl
  · rw [if_neg (by omega)]; rfl
  · rw [if_pos (by omega)]; rfl
end Go.Proofs.Ytjianfhodjapgaa
namespace Go.Proofs.Ytjianfhodjapgaa
open Go.RowKit Go.ChangeShapes Go.WideShapes Go.ChangeAt
section
variable {H : Type} {enc : TypeId × Value → H} {P : Program} {w : World} {base : Nat} {spare : Nat → Bool} {held : Bool}
theorem okWide_array {t e : TypeId} {n : Nat} {r : Reach} {b0 : Nat} {v : Value} (ht : P.underlying t = some (.array n e)) (h : Value.okWide P w r b0 t v) : ∃ cs, v = .agg cs ∧ cs.size = P.cellsOf t := by
  simp only [Value.okWide, ht] at h
  obtain ⟨cs, h1, h2, _⟩ := h
  exact ⟨cs, h1, h2⟩
def intAt (cs : List Value) (i : Nat) : Int := match cs[i]? with | some (.int _ z) => z | _ => 0
/-- The cells of an array of integers. -/
theorem cells_ints {t e : TypeId} {n : Nat} {k : IntKind} {cs : List Value} {fuel : Nat} {x : DataW H × List MemPlace} (ht : P.underlying t = some (.array n e)) (he : P.underlying e = some (.int k)) (hce : P.cellsOf e = 1) (hct : P.cellsOf t = n)
    (h : DataW.trod enc P w base spare held fuel t cs = some x) : ∃ zs : List Int, zs.length = n ∧ cs = zs.map (Value.int k) ∧ ∀ z ∈ zs, (Lit.int k z).wf = true := by
  obtain ⟨xs, m, _, _, hl, hx, hf⟩ := DataW.trod_array ht h
  rw [hct] at hl
  have key : ∀ i, i < n → ∃ z, cs[i]? = some (.int k z) ∧ (Lit.int k z).wf = true := by
    intro i hi
    have := hf i hi
    rw [hce, Nat.mul_one, List.getElem?_eq_getElem (by omega)] at this
    obtain ⟨z, hc, _, hz⟩ := DataW.trod_int he this
    refine ⟨z, ?_, hz⟩
    have := congrArg (·[0]?) hc
    simpa [List.getElem?_take, List.getElem?_drop] using this
  refine ⟨(List.range n).map (intAt cs), by simp, ?_, ?_⟩
  · apply List.ext_getElem?
    intro i
    by_cases hi : i < n
    · obtain ⟨z, hz, _⟩ := key i hi
      simp [hi, intAt, hz]
    · simp only [List.map_map, List.getElem?_map]
      rw [List.getElem?_eq_none (by omega), List.getElem?_eq_none (by simp; omega)]
      rfl
  · intro z hz
    obtain ⟨i, hi, rfl⟩ := List.mem_map.1 hz
    obtain ⟨z, hz, hw⟩ := key i (List.mem_range.1 hi)
    simpa [intAt, hz] using hw
theorem open_array {t e : TypeId} {n : Nat} {k : IntKind} {r : Reach} {b0 : Nat} {v : Value} {d : DataW H} {p : List MemPlace} (ht : P.underlying t = some (.array n e)) (he : P.underlying e = some (.int k)) (hce : P.cellsOf e = 1) (hct : P.cellsOf t = n)
    (hv : Value.okWide P w r b0 t v) (h : DataW.Trod enc P w base spare held t v d p) : ∃ zs : List Int, zs.length = n ∧ v = .agg (zs.map (Value.int k)).toArray ∧ ∀ z ∈ zs, (Lit.int k z).wf = true := by
  obtain ⟨cs, rfl, _⟩ := okWide_array ht hv
  obtain ⟨fuel, hf⟩ := h
  obtain ⟨zs, h1, h2, h3⟩ := cells_ints ht he hce hct (cs := cs.toList) (by simpa [Value.cells] using hf)
  refine ⟨zs, h1, ?_, h3⟩
  rw [← h2]
theorem wf_U {z : Int} (h : (Lit.int .u64 z).wf = true) : U z := by
  simp [Lit.wf, IntKind.min, IntKind.max, IntKind.signed, IntKind.bits] at h
  exact ⟨h.1, by omega⟩
theorem len4 {α : Type} {l : List α} (h : l.length = 4) : ∃ a b c d, l = [a, b, c, d] := by
  match l, h with | [a, b, c, d], _ => exact ⟨a, b, c, d, rfl⟩
theorem len8 {α : Type} {l : List α} (h : l.length = 8) : ∃ a b c d e f g i, l = [a, b, c, d, e, f, g, i] := by
  match l, h with | [a, b, c, d, e, f, g, i], _ => exact ⟨a, b, c, d, e, f, g, i, rfl⟩
theorem num_list {zs : List Int} (hl : zs.length = 4) (hz : ∀ z ∈ zs, (Lit.int .u64 z).wf = true) : ∃ n, n < T256 ∧ Value.agg (zs.map (Value.int .u64)).toArray = num n := by
  obtain ⟨a, b, c, d, rfl⟩ := len4 hl
  obtain ⟨n, hn, h0, h1, h2, h3⟩ := num_of a b c d (wf_U (hz a (by simp))) (wf_U (hz b (by simp))) (wf_U (hz c (by simp))) (wf_U (hz d (by simp)))
  refine ⟨n, hn, ?_⟩
  rw [h0, h1, h2, h3]
  rfl
theorem wide_list {zs : List Int} (hl : zs.length = 8) (hz : ∀ z ∈ zs, (Lit.int .u64 z).wf = true) : ∃ n, n < T512 ∧ Value.agg (zs.map (Value.int .u64)).toArray = wide n := by
  obtain ⟨a, b, c, d, e, f, g, i, rfl⟩ := len8 hl
  obtain ⟨n, hn, h0, h1, h2, h3⟩ := num_of a b c d (wf_U (hz a (by simp))) (wf_U (hz b (by simp))) (wf_U (hz c (by simp))) (wf_U (hz d (by simp)))
  obtain ⟨m, hm, k0, k1, k2, k3⟩ := num_of e f g i (wf_U (hz e (by simp))) (wf_U (hz f (by simp))) (wf_U (hz g (by simp))) (wf_U (hz i (by simp)))
  have s := limb_two n m hn
  refine ⟨n + T256 * m, two_lt n m hn hm, ?_⟩
  rw [h0, h1, h2, h3, k0, k1, k2, k3]
  simp only [wide, s.1, s.2.1, s.2.2.1, s.2.2.2.1, s.2.2.2.2.1, s.2.2.2.2.2.1, s.2.2.2.2.2.2.1, s.2.2.2.2.2.2.2]
  rfl
theorem open_num {t e : TypeId} {r : Reach} {b0 : Nat} {v : Value} {d : DataW H} {p : List MemPlace} (ht : P.underlying t = some (.array 4 e)) (he : P.underlying e = some (.int .u64)) (hce : P.cellsOf e = 1) (hct : P.cellsOf t = 4)
    (hv : Value.okWide P w r b0 t v) (h : DataW.Trod enc P w base spare held t v d p) : ∃ n, n < T256 ∧ v = num n := by
  obtain ⟨zs, hl, rfl, hz⟩ := open_array ht he hce hct hv h
  exact num_list hl hz
theorem open_wide {t e : TypeId} {r : Reach} {b0 : Nat} {v : Value} {d : DataW H} {p : List MemPlace} (ht : P.underlying t = some (.array 8 e)) (he : P.underlying e = some (.int .u64)) (hce : P.cellsOf e = 1) (hct : P.cellsOf t = 8)
    (hv : Value.okWide P w r b0 t v) (h : DataW.Trod enc P w base spare held t v d p) : ∃ n, n < T512 ∧ v = wide n := by
  obtain ⟨zs, hl, rfl, hz⟩ := open_array ht he hce hct hv h
  exact wide_list hl hz
end
end Go.Proofs.Ytjianfhodjapgaa
namespace Go.Proofs.Ytjianfhodjapgaa
set_option maxRecDepth 100000
theorem mayEnter_of {P : Program} {l : List Char} {rest : List (List Char)} (h0 : P.initOrder = String.ofList l) (h : behindMainWord (wordsSigns l) = "cut".toList :: rest) (hs : stripLifts liftWords ("cut".toList :: rest) = ([], "cut".toList :: rest)) (h1 : P.laysLater = false) (h2 : P.bearsReflect = false) (h3 : P.doorFits [] = true) : P.mayEnter = true := by
  unfold Program.mayEnter
  rw [h0, String.toList_ofList, h]
  generalize "cut".toList = c at *
  simp only [hs, h1, h2, h3]
  simp
theorem headLifts_of {P : Program} {l : List Char} {rest : List (List Char)} (h0 : P.initOrder = String.ofList l) (h : behindMainWord (wordsSigns l) = "cut".toList :: rest) (hs : stripLifts liftWords ("cut".toList :: rest) = ([], "cut".toList :: rest)) : P.headLifts = [] := by
  unfold Program.headLifts
  rw [h0, String.toList_ofList, h, hs]
  simp
theorem liftsFinal_of {P : Program} {l : List Char} {rest : List (List Char)} (h0 : P.initOrder = String.ofList l) (h : behindMainWord (wordsSigns l) = "cut".toList :: rest) (hs : stripLifts liftWords ("cut".toList :: rest) = ([], "cut".toList :: rest)) : P.liftsFinal = false := by
  unfold Program.liftsFinal
  rw [headLifts_of h0 h hs, h0, String.toList_ofList, h]
  simp
theorem make_of {P : Program} {l : List Char} {rest : List (List Char)} (h0 : P.initOrder = String.ofList l) (h : behindMainWord (wordsSigns l) = "cut".toList :: rest) : P.make = some .cut := by
  unfold Program.make
  rw [h0, String.toList_ofList, h]
  have e1 : ("cut".toList == "gc".toList || "cut".toList == "spec".toList) = false := by decide +kernel
  simp only [e1]
  simp
theorem word0 : ∃ (l : List Char), Try.prog.initOrder = String.ofList l ∧ behindMainWord (wordsSigns l) = "cut".toList :: (behindMainWord (wordsSigns l)).tail ∧ stripLifts liftWords ("cut".toList :: (behindMainWord (wordsSigns l)).tail) = ([], "cut".toList :: (behindMainWord (wordsSigns l)).tail) := ⟨_, rfl, by kernel_rfl, by kernel_rfl⟩
theorem word1 : ∃ (l : List Char) (rest : List (List Char)), Try.prog.initOrder = String.ofList l ∧ behindMainWord (wordsSigns l) = "cut".toList :: rest ∧ stripLifts liftWords ("cut".toList :: rest) = ([], "cut".toList :: rest) := by
  obtain ⟨l, h⟩ := word0
  exact ⟨l, _, h⟩
theorem mayEnters : Try.prog.mayEnter = true := by
  obtain ⟨l, r, h0, h, hs⟩ := word1
  exact mayEnter_of h0 h hs (by kernel_rfl) (by kernel_rfl) (by kernel_rfl)
theorem liftsNone : Try.prog.liftsFinal = false := by
  obtain ⟨l, r, h0, h, hs⟩ := word1
  exact liftsFinal_of h0 h hs
theorem makeCut : Try.prog.make = some .cut := by
  obtain ⟨l, r, h0, h, hs⟩ := word1
  exact make_of h0 h
end Go.Proofs.Ytjianfhodjapgaa
namespace Go.Proofs.Ytjianfhodjapgaa
open Go.RowKit
set_option linter.unusedVariables false
set_option linter.unusedSimpArgs false
set_option maxRecDepth 100000
theorem getA_small {l : List Att} (h : Small l) {k : Int} {q : List Nat} (hg : getA (abs l) k = some q) : q.length ≤ 1099511627776 := by
  obtain ⟨j, y, _, hj, rfl, _⟩ := getA_some hg
  have := h.each y (List.mem_of_getElem? hj)
  omega
set_option maxHeartbeats 4000000 in
theorem hiddenS_c (w : World) {v : Value} {l : List Att} {r : Bool} (h : Ats w v l) (hk : Small l) (hr : hiddenB (abs l) = r) : Calls Try.prog 18 [v].toArray w (Ret (.bool r) w) := by
  haveI := h.old
  obtain ⟨x, hx⟩ : ∃ x, isA (abs l) 8 = x := ⟨_, rfl⟩
  obtain ⟨y, hy⟩ : ∃ y, isA (abs l) 9 = y := ⟨_, rfl⟩
  have I8 := fun w' (h : Ats w' v l) => is_c w' h hx
  have I9 := fun w' (h : Ats w' v l) => is_c w' h hy
  rw [hiddenB, hx, hy] at hr
  cases hg : getA (abs l) 9 with
  | none =>
    have GN := fun w' (h : Ats w' v l) => get_no w' h hg
    rw [hg] at hr
    clear h hx hy hk
    subst hr
    cases x <;> cases y
    all_goals (
      refine fn_ret (N := _) Try.func18 rfl Try.ntmps18 Try.results18 (by simp) ?_
      simp only [initS, Nat.reduceAdd, Nat.zero_add])
    all_goals (
      repeat' (first | (refine wlS ?_) | (refine wlB ?_) | ((with_reducible refine sel_call ?_); refine wl_rd rfl rfl (rd_call rfl rfl rfl (fun w hm => by with_reducible first | exact GN w (VwT.out w hm) | exact I8 w (VwT.out w hm) | exact I9 w (VwT.out w hm))) ?_) | (refine wlE ?_) | (refine efSvao ?_; intro v oa ho) | (refine wl_skip rfl rfl ?_) | ((with_reducible refine wc_seq ?_); intro K hK) | (refine auC ?_) | (refine wc_cond rfl (fun hc => ?_) (fun hc => ?_)) | (refine wc_draw (by kernel_rfl) (by kernel_rfl) (by decide +kernel) ?_; intro w0 hw0 hm0; (try simp only [List.append_eq, List.cons_append, List.nil_append])) | (refine auP ?_) | ((refine auR ?_); clear hK K) | (refine auR ?_) | ((with_reducible refine hK _ _ ?_); clear hK K) | fail))
    all_goals (
      first | refine end_ret (ResP.tmp rfl ResP.nil) ?_ | refine end_normal (ResP.tmp rfl ResP.nil) ?_
      first | rfl | (show _ = _; rfl) | (simp only [tupV, *]; done))
  | some q =>
    have hq := getA_small hk hg
    have GY := fun w' (h : Ats w' v l) => get_yes w' h hg hq
    rw [hg] at hr
    clear h hx hy hk
    subst hr
    cases x <;> cases y
    all_goals (
      refine fn_ret (N := _) Try.func18 rfl Try.ntmps18 Try.results18 (by simp) ?_
      simp only [initS, Nat.reduceAdd, Nat.zero_add])
    all_goals (
      repeat' (first | (refine wlS ?_) | (refine wlB ?_) | ((with_reducible refine sel_call ?_); refine wl_rd rfl rfl (rd_call rfl rfl rfl (fun w hm => by with_reducible first | exact I8 w (VwT.out w hm) | exact I9 w (VwT.out w hm))) ?_) | (refine wlE ?_) | (refine efSvao ?_; intro v oa ho) | ((with_reducible refine sel_call ?_); first | (refine wl_newO rfl rfl rfl rfl rfl (fun w hm => by with_reducible exact GY w (VwT.out w hm)) ?_; intro x oa hx)) | (refine wl_skip rfl rfl ?_) | ((with_reducible refine wc_seq ?_); intro K hK) | (refine auC ?_) | (refine wc_cond rfl (fun hc => ?_) (fun hc => ?_)) | (refine wc_draw (by kernel_rfl) (by kernel_rfl) (by decide +kernel) ?_; intro w0 hw0 hm0; (try simp only [List.append_eq, List.cons_append, List.nil_append])) | (refine auP ?_) | ((refine auR ?_); clear hK K) | (refine auR ?_) | ((with_reducible refine hK _ _ ?_); clear hK K) | fail))
    all_goals (
      first | refine end_ret (ResP.tmp rfl ResP.nil) ?_ | refine end_normal (ResP.tmp rfl ResP.nil) ?_
      first | rfl | (show _ = _; rfl) | (simp only [tupV, *]; done))
/-- Is there one? -/
theorem getIs_c (w : World) {v : Value} {l : List Att} (k : Int) (h : Ats w v l) (hk : Small l) : Calls Try.prog 27 [v, .int .i64 k].toArray w (RetO (fun y : Value => .tuple #[y, .bool (getA (abs l) k).isSome]) (fun y oa => Ln y (((getA (abs l) k).getD []).length)) w) := by
  cases hg : getA (abs l) k with
  | none =>
    exact (get_no w h hg).mono fun e w2 ⟨h1, h2⟩ => ⟨.slice none 0 0, [], h1, OwnL.ln (OwnL.nil 0 1), Upd.of_below h2 (by simp [keys]) (fun n hn => by simp [keys] at hn) (fun p hp => by cases hp)⟩
  | some q =>
    exact (get_yes w h hg (getA_small hk hg)).mono fun e w2 ⟨y, oa, h1, h2, h3⟩ => ⟨y, oa, h1, h2.own.ln, h3⟩
end Go.Proofs.Ytjianfhodjapgaa
namespace Go.Proofs.Ytjianfhodjapgaa
set_option linter.unusedVariables false
def matchA (l ask : List Ab) : Bool := ask.all fun x => getA l x.1 == some x.2
theorem match_abs (l ask : List Att) : matchB l ask = matchA (abs l) (abs ask) := by
  unfold matchB matchA
  rw [show abs ask = ask.map fun x => (x.1, x.2.2) from rfl, List.all_map]
  congr 1
  funext x
  show _ = (getA (abs l) x.1 == some x.2.2)
  rw [find_abs]
  cases l.find? (fun y => y.1 == x.1) with
  | none => rfl
  | some y => show (y.2.2 == x.2.2) = (some y.2.2 == some x.2.2); rfl
end Go.Proofs.Ytjianfhodjapgaa
