/- der.length and der.First, walked. der.First, walked. der.Read, walked. der.Write, walked. What the law's own helpers about items answer: sameItems, ders, bytes.HasPrefix. sameItems, walked. The laws of items that are read: what they need. attr.Pack, walked. attr.Unpack, walked. AttrOne: the walk. -/
import Derived.Test.YtlpalhagndmpjaaJnAB
import Derived.Test.YtlpalhagndmpjaaLwH
import Derived.Test.YtlpalhagndmpjaaTyS
import Derived.Test.YtlpalhagndmpjaaJnAA
namespace Go.Proofs.Ytlpalhagndmpjaa
open Go.RowKit
set_option linter.unusedVariables false
set_option maxRecDepth 100000
set_option linter.unusedSimpArgs false
theorem or_i64 {a b : Nat} (ha : a < 4294967296) (hb : b < 4294967296) : bits .or .i64 (a : Int) (b : Int) = ((a ||| b : Nat) : Int) := by
  have hx : a ||| b < 4294967296 := Nat.or_lt_two_pow (n := 32) ha hb
  have h1 : (BitVec.ofInt 64 (a : Int)).toNat = a := by
    rw [BitVec.ofInt_natCast, BitVec.toNat_ofNat]; exact Nat.mod_eq_of_lt (by omega)
  have h2 : (BitVec.ofInt 64 (b : Int)).toNat = b := by
    rw [BitVec.ofInt_natCast, BitVec.toNat_ofNat]; exact Nat.mod_eq_of_lt (by omega)
  show IntKind.i64.wrap ((BitVec.ofInt 64 (a : Int) ||| BitVec.ofInt 64 (b : Int)).toNat : Int) = _
  rw [BitVec.toNat_or, h1, h2]
  exact wrap_i64 _ (by omega) (by omega)
theorem or_byte {b c : Nat} (hb : b < 256) (hc : c < 256) : bits .or .i64 ((b * 256 : Nat) : Int) (c : Int) = ((b * 256 + c : Nat) : Int) := by
  rw [or_i64 (by omega) (by omega)]
  have := Nat.shiftLeft_add_eq_or_of_lt (i := 8) (show c < 2 ^ 8 by omega) b
  rw [Nat.shiftLeft_eq] at this
  rw [← this]
def lenV (x : Nat × Nat × Nat) : Value := .tuple #[.int .i64 (x.2.1 : Int), .int .i64 (x.2.2 : Int), .int .i64 (x.1 : Int)]
set_option maxHeartbeats 4000000 in
theorem len_c (w : World) {v : Value} {m : Nat} {p : List Nat} (h : Cb w v m p) : Calls Try.prog 69 [v].toArray w (Ret (lenV (lenD p)) w) := by
  have i0 := h.old
  have hpl := h.ok.len
  have hpb := h.ok.by'
  have hmm : m ≤ maxLen := by obtain ⟨_, _, _, h1, h2, _⟩ := i0.cs.ln.out; omega
  simp only [maxLen] at hmm
  clear h
  revert i0 hpl hpb
  refine lenD_ways (M := fun p => CsB (Old w []) v m p → p.length = m → (∀ x ∈ p, x < 256) → Calls Try.prog 69 [v].toArray w (Ret (lenV (lenD p)) w)) ?_ ?_ ?_ ?_ ?_ ?_ ?_ ?_ p
  · rintro i0 rfl -
    have t1 : (((([] : List Nat).length : Nat) : Int) == 0) = true := rfl
    refine fn_ret (N := _) Try.func69 rfl Try.ntmps69 Try.results69 (by simp) ?_
    simp only [initS, Nat.reduceAdd, Nat.zero_add]
    repeat' (first | (refine wlS ?_) | (refine wlB ?_) | (refine wlE ?_) | (refine efSvao ?_; intro v oa ho) | (refine wl_skip rfl rfl ?_) | (refine wdS ?_) | (refine wdV ?_) | (refine wdB ?_) | (refine wd_skip rfl rfl ?_) | ((with_reducible refine seld_nil ?_); refine wd_nil hm0 ?_; clear hm0 hw0) | ((with_reducible refine wc_seq ?_); intro K hK) | (refine auC ?_) | (refine wc_cond rfl (fun hc => ?_) (fun hc => ?_)) | (refine wc_draw (by kernel_rfl) (by kernel_rfl) (by decide +kernel) ?_; intro w0 hw0 hm0; (try simp only [List.append_eq, List.cons_append, List.nil_append])) | (refine auP ?_) | ((refine auR ?_); clear hK K) | (refine auR ?_) | ((with_reducible refine hK _ _ ?_); clear hK K) | fail)
    first | refine end_ret (ResP.tmp rfl (ResP.tmp rfl (ResP.tmp rfl ResP.nil))) ?_ | refine end_normal (ResP.tmp rfl (ResP.tmp rfl (ResP.tmp rfl ResP.nil))) ?_
    first | rfl | (show _ = _; rfl) | (simp only [tupV, *]; done)
  · intro k r hk i0 hl hb
    simp only [List.length_cons] at hl
    have t1 : ((m : Int) == 0) = false := by simp only [beq_eq_false_iff_ne, ne_eq]; omega
    have g0 : (bl (k :: r))[0]? = some (.int .u8 (k : Int)) := rfl
    have j0 : 0 < m := by omega
    have t2 : decide ((k : Int) < 128) = true := decide_eq_true (by omega)
    have t3 : IntKind.i64.wrap (k : Int) = (k : Int) := wrap_i64 _ (by omega) (by omega)
    rw [lenD_a hk]
    refine fn_ret (N := _) Try.func69 rfl Try.ntmps69 Try.results69 (by simp) ?_
    simp only [initS, Nat.reduceAdd, Nat.zero_add]
    repeat' (first | (refine wlS ?_) | (refine wlB ?_) | (refine wlE ?_) | (refine efSvao ?_; intro v oa ho) | (refine wl_skip rfl rfl ?_) | (refine wdS ?_) | (refine wdV ?_) | (refine wdB ?_) | (refine wd_skip rfl rfl ?_) | ((with_reducible refine seld_nil ?_); refine wd_nil hm0 ?_; clear hm0 hw0) | ((with_reducible refine wc_seq ?_); intro K hK) | (refine auC ?_) | (refine wc_cond rfl (fun hc => ?_) (fun hc => ?_)) | (refine wc_draw (by kernel_rfl) (by kernel_rfl) (by decide +kernel) ?_; intro w0 hw0 hm0; (try simp only [List.append_eq, List.cons_append, List.nil_append])) | (refine auP ?_) | ((refine auR ?_); clear hK K) | (refine auR ?_) | ((with_reducible refine hK _ _ ?_); clear hK K) | fail)
    first | refine end_ret (ResP.tmp rfl (ResP.tmp rfl (ResP.tmp rfl ResP.nil))) ?_ | refine end_normal (ResP.tmp rfl (ResP.tmp rfl (ResP.tmp rfl ResP.nil))) ?_
    first | rfl | (show _ = _; rfl) | (simp only [tupV, *]; done)
  · intro k r hk i0 hl hb
    have hk8 := hb k (by simp)
    simp only [List.length_cons] at hl
    have t1 : ((m : Int) == 0) = false := by simp only [beq_eq_false_iff_ne, ne_eq]; omega
    have g0 : (bl (k :: r))[0]? = some (.int .u8 (k : Int)) := rfl
    have j0 : 0 < m := by omega
    have t2 : decide ((k : Int) < 128) = false := decide_eq_false (by omega)
    rw [lenD_b hk]
    by_cases c : k = 128
    · have t3 : ((k : Int) == 128) = true := by rw [c]; rfl
      refine fn_ret (N := _) Try.func69 rfl Try.ntmps69 Try.results69 (by simp) ?_
      simp only [initS, Nat.reduceAdd, Nat.zero_add]
      repeat' (first | (refine wlS ?_) | (refine wlB ?_) | (refine wlE ?_) | (refine efSvao ?_; intro v oa ho) | (refine wl_skip rfl rfl ?_) | (refine wdS ?_) | (refine wdV ?_) | (refine wdB ?_) | (refine wd_skip rfl rfl ?_) | ((with_reducible refine seld_nil ?_); refine wd_nil hm0 ?_; clear hm0 hw0) | ((with_reducible refine wc_seq ?_); intro K hK) | (refine auC ?_) | (refine wc_cond rfl (fun hc => ?_) (fun hc => ?_)) | (refine wc_draw (by kernel_rfl) (by kernel_rfl) (by decide +kernel) ?_; intro w0 hw0 hm0; (try simp only [List.append_eq, List.cons_append, List.nil_append])) | (refine auP ?_) | ((refine auR ?_); clear hK K) | (refine auR ?_) | ((with_reducible refine hK _ _ ?_); clear hK K) | fail)
      first | refine end_ret (ResP.tmp rfl (ResP.tmp rfl (ResP.tmp rfl ResP.nil))) ?_ | refine end_normal (ResP.tmp rfl (ResP.tmp rfl (ResP.tmp rfl ResP.nil))) ?_
      first | rfl | (show _ = _; rfl) | (simp only [tupV, *]; done)
    · have t3 : ((k : Int) == 128) = false := by simp only [beq_eq_false_iff_ne, ne_eq]; omega
      have t4 : decide ((k : Int) > 130) = true := decide_eq_true (by omega)
      refine fn_ret (N := _) Try.func69 rfl Try.ntmps69 Try.results69 (by simp) ?_
      simp only [initS, Nat.reduceAdd, Nat.zero_add]
      repeat' (first | (refine wlS ?_) | (refine wlB ?_) | (refine wlE ?_) | (refine efSvao ?_; intro v oa ho) | (refine wl_skip rfl rfl ?_) | (refine wdS ?_) | (refine wdV ?_) | (refine wdB ?_) | (refine wd_skip rfl rfl ?_) | ((with_reducible refine seld_nil ?_); refine wd_nil hm0 ?_; clear hm0 hw0) | ((with_reducible refine wc_seq ?_); intro K hK) | (refine auC ?_) | (refine wc_cond rfl (fun hc => ?_) (fun hc => ?_)) | (refine wc_draw (by kernel_rfl) (by kernel_rfl) (by decide +kernel) ?_; intro w0 hw0 hm0; (try simp only [List.append_eq, List.cons_append, List.nil_append])) | (refine auP ?_) | ((refine auR ?_); clear hK K) | (refine auR ?_) | ((with_reducible refine hK _ _ ?_); clear hK K) | fail)
      first | refine end_ret (ResP.tmp rfl (ResP.tmp rfl (ResP.tmp rfl ResP.nil))) ?_ | refine end_normal (ResP.tmp rfl (ResP.tmp rfl (ResP.tmp rfl ResP.nil))) ?_
      first | rfl | (show _ = _; rfl) | (simp only [tupV, *]; done)
  · intro i0 hl hb
    obtain rfl : m = 1 := by rw [← hl]; rfl
    have g0 : (bl [129])[0]? = some (.int .u8 129) := rfl
    refine fn_ret (N := _) Try.func69 rfl Try.ntmps69 Try.results69 (by simp) ?_
    simp only [initS, Nat.reduceAdd, Nat.zero_add]
    repeat' (first | (refine wlS ?_) | (refine wlB ?_) | (refine wlE ?_) | (refine efSvao ?_; intro v oa ho) | (refine wl_skip rfl rfl ?_) | (refine wdS ?_) | (refine wdV ?_) | (refine wdB ?_) | (refine wd_skip rfl rfl ?_) | ((with_reducible refine seld_nil ?_); refine wd_nil hm0 ?_; clear hm0 hw0) | ((with_reducible refine wc_seq ?_); intro K hK) | (refine auC ?_) | (refine wc_cond rfl (fun hc => ?_) (fun hc => ?_)) | (refine wc_draw (by kernel_rfl) (by kernel_rfl) (by decide +kernel) ?_; intro w0 hw0 hm0; (try simp only [List.append_eq, List.cons_append, List.nil_append])) | (refine auP ?_) | ((refine auR ?_); clear hK K) | (refine auR ?_) | ((with_reducible refine hK _ _ ?_); clear hK K) | fail)
    first | refine end_ret (ResP.tmp rfl (ResP.tmp rfl (ResP.tmp rfl ResP.nil))) ?_ | refine end_normal (ResP.tmp rfl (ResP.tmp rfl (ResP.tmp rfl ResP.nil))) ?_
    first | rfl | (show _ = _; rfl) | (simp only [tupV, *]; done)
  · intro b r i0 hl hb
    have hb8 := hb b (by simp)
    simp only [List.length_cons] at hl
    have t1 : ((m : Int) == 0) = false := by simp only [beq_eq_false_iff_ne, ne_eq]; omega
    have g0 : (bl (129 :: b :: r))[0]? = some (.int .u8 129) := rfl
    have g1 : (bl (129 :: b :: r))[1]? = some (.int .u8 (b : Int)) := rfl
    have j0 : 0 < m := by omega
    have j1 : 1 < m := by omega
    have t3 : decide ((m : Int) < 2) = false := decide_eq_false (by omega)
    have t4 : IntKind.i64.wrap (b : Int) = (b : Int) := wrap_i64 _ (by omega) (by omega)
    rw [lenD_129]
    by_cases c : b < 128
    · rw [if_pos c]
      have t5 : decide ((b : Int) < 128) = true := decide_eq_true (by omega)
      refine fn_ret (N := _) Try.func69 rfl Try.ntmps69 Try.results69 (by simp) ?_
      simp only [initS, Nat.reduceAdd, Nat.zero_add]
      repeat' (first | (refine wlS ?_) | (refine wlB ?_) | (refine wlE ?_) | (refine efSvao ?_; intro v oa ho) | (refine wl_skip rfl rfl ?_) | (refine wdS ?_) | (refine wdV ?_) | (refine wdB ?_) | (refine wd_skip rfl rfl ?_) | ((with_reducible refine seld_nil ?_); refine wd_nil hm0 ?_; clear hm0 hw0) | ((with_reducible refine wc_seq ?_); intro K hK) | (refine auC ?_) | (refine wc_cond rfl (fun hc => ?_) (fun hc => ?_)) | (refine wc_draw (by kernel_rfl) (by kernel_rfl) (by decide +kernel) ?_; intro w0 hw0 hm0; (try simp only [List.append_eq, List.cons_append, List.nil_append])) | (refine auP ?_) | ((refine auR ?_); clear hK K) | (refine auR ?_) | ((with_reducible refine hK _ _ ?_); clear hK K) | fail)
      first | refine end_ret (ResP.tmp rfl (ResP.tmp rfl (ResP.tmp rfl ResP.nil))) ?_ | refine end_normal (ResP.tmp rfl (ResP.tmp rfl (ResP.tmp rfl ResP.nil))) ?_
      first | rfl | (show _ = _; rfl) | (simp only [tupV, *]; done)
    · rw [if_neg c]
      have t5 : decide ((b : Int) < 128) = false := decide_eq_false (by omega)
      refine fn_ret (N := _) Try.func69 rfl Try.ntmps69 Try.results69 (by simp) ?_
      simp only [initS, Nat.reduceAdd, Nat.zero_add]
      repeat' (first | (refine wlS ?_) | (refine wlB ?_) | (refine wlE ?_) | (refine efSvao ?_; intro v oa ho) | (refine wl_skip rfl rfl ?_) | (refine wdS ?_) | (refine wdV ?_) | (refine wdB ?_) | (refine wd_skip rfl rfl ?_) | ((with_reducible refine seld_nil ?_); refine wd_nil hm0 ?_; clear hm0 hw0) | ((with_reducible refine wc_seq ?_); intro K hK) | (refine auC ?_) | (refine wc_cond rfl (fun hc => ?_) (fun hc => ?_)) | (refine wc_draw (by kernel_rfl) (by kernel_rfl) (by decide +kernel) ?_; intro w0 hw0 hm0; (try simp only [List.append_eq, List.cons_append, List.nil_append])) | (refine auP ?_) | ((refine auR ?_); clear hK K) | (refine auR ?_) | ((with_reducible refine hK _ _ ?_); clear hK K) | fail)
      first | refine end_ret (ResP.tmp rfl (ResP.tmp rfl (ResP.tmp rfl ResP.nil))) ?_ | refine end_normal (ResP.tmp rfl (ResP.tmp rfl (ResP.tmp rfl ResP.nil))) ?_
      first | rfl | (show _ = _; rfl) | (simp only [tupV, *]; done)
  · intro i0 hl hb
    obtain rfl : m = 1 := by rw [← hl]; rfl
    have g0 : (bl [130])[0]? = some (.int .u8 130) := rfl
    refine fn_ret (N := _) Try.func69 rfl Try.ntmps69 Try.results69 (by simp) ?_
    simp only [initS, Nat.reduceAdd, Nat.zero_add]
    repeat' (first | (refine wlS ?_) | (refine wlB ?_) | (refine wlE ?_) | (refine efSvao ?_; intro v oa ho) | (refine wl_skip rfl rfl ?_) | (refine wdS ?_) | (refine wdV ?_) | (refine wdB ?_) | (refine wd_skip rfl rfl ?_) | ((with_reducible refine seld_nil ?_); refine wd_nil hm0 ?_; clear hm0 hw0) | ((with_reducible refine wc_seq ?_); intro K hK) | (refine auC ?_) | (refine wc_cond rfl (fun hc => ?_) (fun hc => ?_)) | (refine wc_draw (by kernel_rfl) (by kernel_rfl) (by decide +kernel) ?_; intro w0 hw0 hm0; (try simp only [List.append_eq, List.cons_append, List.nil_append])) | (refine auP ?_) | ((refine auR ?_); clear hK K) | (refine auR ?_) | ((with_reducible refine hK _ _ ?_); clear hK K) | fail)
    first | refine end_ret (ResP.tmp rfl (ResP.tmp rfl (ResP.tmp rfl ResP.nil))) ?_ | refine end_normal (ResP.tmp rfl (ResP.tmp rfl (ResP.tmp rfl ResP.nil))) ?_
    first | rfl | (show _ = _; rfl) | (simp only [tupV, *]; done)
  · intro b i0 hl hb
    obtain rfl : m = 2 := by rw [← hl]; rfl
    have g0 : (bl [130, b])[0]? = some (.int .u8 130) := rfl
    refine fn_ret (N := _) Try.func69 rfl Try.ntmps69 Try.results69 (by simp) ?_
    simp only [initS, Nat.reduceAdd, Nat.zero_add]
    repeat' (first | (refine wlS ?_) | (refine wlB ?_) | (refine wlE ?_) | (refine efSvao ?_; intro v oa ho) | (refine wl_skip rfl rfl ?_) | (refine wdS ?_) | (refine wdV ?_) | (refine wdB ?_) | (refine wd_skip rfl rfl ?_) | ((with_reducible refine seld_nil ?_); refine wd_nil hm0 ?_; clear hm0 hw0) | ((with_reducible refine wc_seq ?_); intro K hK) | (refine auC ?_) | (refine wc_cond rfl (fun hc => ?_) (fun hc => ?_)) | (refine wc_draw (by kernel_rfl) (by kernel_rfl) (by decide +kernel) ?_; intro w0 hw0 hm0; (try simp only [List.append_eq, List.cons_append, List.nil_append])) | (refine auP ?_) | ((refine auR ?_); clear hK K) | (refine auR ?_) | ((with_reducible refine hK _ _ ?_); clear hK K) | fail)
    first | refine end_ret (ResP.tmp rfl (ResP.tmp rfl (ResP.tmp rfl ResP.nil))) ?_ | refine end_normal (ResP.tmp rfl (ResP.tmp rfl (ResP.tmp rfl ResP.nil))) ?_
    first | rfl | (show _ = _; rfl) | (simp only [tupV, *]; done)
  · intro b c r i0 hl hb
    have hb8 := hb b (by simp)
    have hc8 := hb c (by simp)
    simp only [List.length_cons] at hl
    have t1 : ((m : Int) == 0) = false := by simp only [beq_eq_false_iff_ne, ne_eq]; omega
    have g0 : (bl (130 :: b :: c :: r))[0]? = some (.int .u8 130) := rfl
    have g1 : (bl (130 :: b :: c :: r))[1]? = some (.int .u8 (b : Int)) := rfl
    have g2 : (bl (130 :: b :: c :: r))[2]? = some (.int .u8 (c : Int)) := rfl
    have j0 : 0 < m := by omega
    have j1 : 1 < m := by omega
    have j2 : 2 < m := by omega
    have t3 : decide ((m : Int) < 3) = false := decide_eq_false (by omega)
    have t4 : IntKind.i64.wrap (b : Int) = (b : Int) := wrap_i64 _ (by omega) (by omega)
    have t6 : IntKind.i64.wrap (c : Int) = (c : Int) := wrap_i64 _ (by omega) (by omega)
    have t7 : IntKind.i64.wrap ((b : Int) * 2 ^ min ((8 : Int).toNat) (IntKind.bits .i64)) = ((b * 256 : Nat) : Int) := by
      show IntKind.i64.wrap ((b : Int) * 256) = _
      rw [wrap_i64 _ (by omega) (by omega)]; omega
    have t8 := or_byte hb8 hc8
    rw [lenD_130]
    by_cases e : b * 256 + c < 256
    · rw [if_pos e]
      have t5 : decide (((b * 256 + c : Nat) : Int) < 256) = true := decide_eq_true (by omega)
      refine fn_ret (N := _) Try.func69 rfl Try.ntmps69 Try.results69 (by simp) ?_
      simp only [initS, Nat.reduceAdd, Nat.zero_add]
      repeat' (first | (refine wlS ?_) | (refine wlB ?_) | (refine wlE ?_) | (refine efSvao ?_; intro v oa ho) | (refine wl_skip rfl rfl ?_) | ((with_reducible refine wc_seq ?_); intro K hK) | (refine auC ?_) | (refine wc_cond rfl (fun hc => ?_) (fun hc => ?_)) | ((with_reducible refine wc_drawT (by kernel_rfl) ?_); (try simp only [List.append_eq, List.cons_append, List.nil_append, List.length_cons, List.length_nil, Nat.reduceAdd])) | ((with_reducible refine sel_wh ?_); (refine wh_if (by decide +kernel) ?_); first | (refine wh_take (lq := []) rfl rfl rfl rfl (by first | exact rvS | exact rvB) (Or.inl rfl) ?_) | (refine wh_takeL rfl rfl rfl rfl (by first | exact rvS | exact rvB) (by decide +kernel) ?_)) | (refine whS ?_; intro v hv hp) | ((with_reducible refine sel_wh ?_); first | (refine wh_pass rfl rfl rfl rfl ?_) | (refine wh_done rfl ?_) | (refine wh_all rfl ?_)) | ((with_reducible refine sel_rest ?_); first | exact rest_nil rfl | refine rest_cons rfl rfl ?_ ?_) | ((with_reducible refine sel_nx ?_); first | refine next_of ?_ | refine next_late (by decide +kernel) ?_) | (refine auP ?_) | ((refine auR ?_); clear hK K) | (refine auR ?_) | ((with_reducible refine hK _ _ ?_); clear hK K) | fail)
      first | refine end_ret (ResP.tmp rfl (ResP.tmp rfl (ResP.tmp rfl ResP.nil))) ?_ | refine end_normal (ResP.tmp rfl (ResP.tmp rfl (ResP.tmp rfl ResP.nil))) ?_
      first | rfl | (show _ = _; rfl) | (simp only [tupV, *]; done)
    · rw [if_neg e]
      have t5 : decide (((b * 256 + c : Nat) : Int) < 256) = false := decide_eq_false (by omega)
      refine fn_ret (N := _) Try.func69 rfl Try.ntmps69 Try.results69 (by simp) ?_
      simp only [initS, Nat.reduceAdd, Nat.zero_add]
      repeat' (first | (refine wlS ?_) | (refine wlB ?_) | (refine wlE ?_) | (refine efSvao ?_; intro v oa ho) | (refine wl_skip rfl rfl ?_) | ((with_reducible refine wc_seq ?_); intro K hK) | (refine auC ?_) | (refine wc_cond rfl (fun hc => ?_) (fun hc => ?_)) | ((with_reducible refine wc_drawT (by kernel_rfl) ?_); (try simp only [List.append_eq, List.cons_append, List.nil_append, List.length_cons, List.length_nil, Nat.reduceAdd])) | ((with_reducible refine sel_wh ?_); (refine wh_if (by decide +kernel) ?_); first | (refine wh_take (lq := []) rfl rfl rfl rfl (by first | exact rvS | exact rvB) (Or.inl rfl) ?_) | (refine wh_takeL rfl rfl rfl rfl (by first | exact rvS | exact rvB) (by decide +kernel) ?_)) | (refine whS ?_; intro v hv hp) | ((with_reducible refine sel_wh ?_); first | (refine wh_pass rfl rfl rfl rfl ?_) | (refine wh_done rfl ?_) | (refine wh_all rfl ?_)) | ((with_reducible refine sel_rest ?_); first | exact rest_nil rfl | refine rest_cons rfl rfl ?_ ?_) | ((with_reducible refine sel_nx ?_); first | refine next_of ?_ | refine next_late (by decide +kernel) ?_) | (refine auP ?_) | ((refine auR ?_); clear hK K) | (refine auR ?_) | ((with_reducible refine hK _ _ ?_); clear hK K) | fail)
      first | refine end_ret (ResP.tmp rfl (ResP.tmp rfl (ResP.tmp rfl ResP.nil))) ?_ | refine end_normal (ResP.tmp rfl (ResP.tmp rfl (ResP.tmp rfl ResP.nil))) ?_
      first | rfl | (show _ = _; rfl) | (simp only [tupV, *]; done)
end Go.Proofs.Ytlpalhagndmpjaa
namespace Go.Proofs.Ytlpalhagndmpjaa
open Go.RowKit
set_option linter.unusedVariables false
set_option linter.unusedSimpArgs false
set_option maxRecDepth 100000
theorem lenD_small {r : List Nat} (hb : ∀ y ∈ r, y < 256) : (lenD r).1 < 256 ∧ (lenD r).2.1 < 65536 ∧ (lenD r).2.2 < 256 := by
  revert hb
  refine lenD_ways (M := fun r => (∀ y ∈ r, y < 256) → (lenD r).1 < 256 ∧ (lenD r).2.1 < 65536 ∧ (lenD r).2.2 < 256) ?_ ?_ ?_ ?_ ?_ ?_ ?_ ?_ r
  · intro _; simp [lenD]
  · intro k r hk hb; rw [lenD_a hk]; simp; omega
  · intro k r hk hb; rw [lenD_b hk]; simp
  · intro _; simp [lenD_129s]
  · intro b r hb
    have := hb b (by simp)
    rw [lenD_129]; split <;> simp <;> omega
  · intro _; simp [lenD_130s]
  · intro b _; simp [lenD_130t]
  · intro b c r hb
    have h1 := hb b (by simp)
    have h2 := hb c (by simp)
    rw [lenD_130]; split <;> simp <;> omega
set_option maxHeartbeats 4000000 in
theorem first_err (w : World) {u : Value} {m e : Nat} {p : List Nat} (h : Cb w u m p) (he : (firstD p).1 = e) (h0 : e ≠ 0) (hmm : m ≤ 1073741824) :
    Calls Try.prog 52 [u].toArray w (Ret (.tuple #[.agg #[.int .u8 0, .slice none 0 0], .int .i64 0, .int .i64 (e : Int)]) w) := by
  have i0 := h.old
  have hpl := h.ok.len
  have hpb := h.ok.by'
  have LN : ∀ {v : Value} {k : Nat} {q : List Nat} w', Cb w' v k q → Calls Try.prog 69 [v].toArray w' (Ret (lenV (lenD q)) w') := fun w' h => len_c w' h
  cases p with
  | nil =>
    obtain rfl : m = 0 := by rw [← hpl]; rfl
    have he' : e = 3 := he.symm
    subst he'
    clear h LN
    refine fn_ret (N := _) Try.func52 rfl Try.ntmps52 Try.results52 (by simp) ?_
    simp only [initS, Nat.reduceAdd, Nat.zero_add]
    repeat' (first | (refine wlS ?_) | (refine wlB ?_) | (refine wlE ?_) | (refine efSvvp ?_; intro v hv hp) | (refine efSvao ?_; intro v oa ho) | (refine efBnn ?_; intro n hn) | (refine efB ?_) | (refine efBS ?_) | (refine wl_skip rfl rfl ?_) | (refine wdS ?_) | (refine wdV ?_) | (refine wdB ?_) | (refine wdE ?_) | (refine wdT ?_) | (refine wdTO ?_) | (refine wd_skip rfl rfl ?_) | ((with_reducible refine seld_nil ?_); refine wd_nil hm0 ?_; clear hm0 hw0) | ((with_reducible refine wc_seq ?_); intro K hK) | (refine auC ?_) | (refine wc_cond rfl (fun hc => ?_) (fun hc => ?_)) | (refine wc_draw (by kernel_rfl) (by kernel_rfl) (by decide +kernel) ?_; intro w0 hw0 hm0; (try simp only [List.append_eq, List.cons_append, List.nil_append])) | (refine auP ?_) | ((refine auR ?_); clear hK K) | (refine auR ?_) | ((with_reducible refine hK _ _ ?_); clear hK K) | fail)
    first | refine end_ret (ResP.cell rfl ld_whole (ResP.tmp rfl (ResP.tmp rfl ResP.nil))) ?_ | refine end_normal (ResP.cell rfl ld_whole (ResP.tmp rfl (ResP.tmp rfl ResP.nil))) ?_
    first | rfl | (show _ = _; rfl) | (simp only [tupV, *]; done)
  | cons t r =>
    have t1 : ((m : Int) == 0) = false := by rw [← hpl]; simp only [beq_eq_false_iff_ne, ne_eq, List.length_cons]; omega
    have j0 : 0 < m := by rw [← hpl]; simp
    have j1 : 1 ≤ m := j0
    have d1 : ((t :: r).drop 1).take (m - 1) = r := by rw [List.drop_succ_cons, List.drop_zero]; exact List.take_of_length_le (by simp only [List.length_cons] at hpl; omega)
    have hrl : r.length = m - 1 := by simp only [List.length_cons] at hpl; omega
    obtain ⟨s1, s2, s3⟩ := lenD_small (r := r) (fun y hy => hpb y (by simp [hy]))
    rw [firstD_cons] at he
    have hat := fun h => lenD_at (r := r) h
    have LN1 : ∀ {v : Value} w', Cb w' v (m - 1) r → Calls Try.prog 69 [v].toArray w' (Ret (.tuple #[.int .i64 ((lenD r).2.1 : Int), .int .i64 ((lenD r).2.2 : Int), .int .i64 ((lenD r).1 : Int)]) w') := fun w' h => len_c w' h
    clear LN h
    generalize (lenD r).1 = e1 at *
    generalize (lenD r).2.1 = k at *
    generalize (lenD r).2.2 = a at *
    by_cases c1 : e1 ≠ 0
    · rw [if_pos c1] at he
      obtain rfl : e1 = e := he
      have t2 : ((e1 : Int) != 0) = true := by simp only [bne_iff_ne, ne_eq]; omega
      refine fn_ret (N := _) Try.func52 rfl Try.ntmps52 Try.results52 (by simp) ?_
      simp only [initS, Nat.reduceAdd, Nat.zero_add]
      repeat' (first | (refine wlS ?_) | (refine wlB ?_) | ((with_reducible refine sel_call ?_); refine wl_rd rfl rfl (rd_call rfl rfl rfl (fun w hm => by with_reducible exact LN1 w (VwB.out w hm))) ?_) | (refine wlE ?_) | (refine efSvvp ?_; intro v hv hp) | (refine efSvao ?_; intro v oa ho) | ((with_reducible refine sel_slice ?_); first | (refine wl_subB (lo := 1) rfl rfl rfl rfl rfl rfl rfl rfl ?_; intro v hv hp)) | (refine efBnn ?_; intro n hn) | (refine efB ?_) | (refine efBS ?_) | (refine wl_skip rfl rfl ?_) | (refine wdS ?_) | (refine wdV ?_) | (refine wdB ?_) | ((with_reducible refine seld_call ?_); refine wd_rd hm0 rfl rfl rfl rfl (rd_call rfl rfl rfl (fun w hm => by with_reducible exact LN1 w (VwB.out w hm))) ?_) | (refine wdE ?_) | (refine wdT ?_) | (refine wdTO ?_) | (refine wd_skip rfl rfl ?_) | ((with_reducible refine seld_nil ?_); refine wd_nil hm0 ?_; clear hm0 hw0) | ((with_reducible refine wc_seq ?_); intro K hK) | (refine auC ?_) | (refine wc_cond rfl (fun hc => ?_) (fun hc => ?_)) | (refine wc_draw (by kernel_rfl) (by kernel_rfl) (by decide +kernel) ?_; intro w0 hw0 hm0; (try simp only [List.append_eq, List.cons_append, List.nil_append])) | (refine auP ?_) | ((refine auR ?_); clear hK K) | (refine auR ?_) | ((with_reducible refine hK _ _ ?_); clear hK K) | fail)
      first | refine end_ret (ResP.cell rfl ld_whole (ResP.tmp rfl (ResP.tmp rfl ResP.nil))) ?_ | refine end_normal (ResP.cell rfl ld_whole (ResP.tmp rfl (ResP.tmp rfl ResP.nil))) ?_
      first | rfl | (show _ = _; rfl) | (simp only [tupV, *]; done)
    · rw [if_neg c1] at he
      have c1' : e1 = 0 := Decidable.of_not_not c1
      obtain ⟨a1, a2, a3⟩ := hat c1'
      subst c1'
      have t2 : (((0 : Nat) : Int) != 0) = false := rfl
      have t3 : IntKind.i64.wrap (1 + (a : Int)) = ((1 + a : Nat) : Int) := by rw [wrap_i64 _ (by omega) (by omega)]; omega
      have d2 : 1 + a ≤ m := by omega
      by_cases c2 : k > 4096
      · rw [if_pos c2] at he
        obtain rfl : 2 = e := he
        have t4 : decide ((k : Int) > 4096) = true := decide_eq_true (by omega)
        refine fn_ret (N := _) Try.func52 rfl Try.ntmps52 Try.results52 (by simp) ?_
        simp only [initS, Nat.reduceAdd, Nat.zero_add]
        repeat' (first | (refine wlS ?_) | (refine wlB ?_) | ((with_reducible refine sel_call ?_); refine wl_rd rfl rfl (rd_call rfl rfl rfl (fun w hm => by with_reducible exact LN1 w (VwB.out w hm))) ?_) | (refine wlE ?_) | (refine efSvvp ?_; intro v hv hp) | (refine efSvao ?_; intro v oa ho) | ((with_reducible refine sel_slice ?_); first | (refine wl_subB (lo := 1) rfl rfl rfl rfl rfl rfl rfl rfl ?_; intro v hv hp)) | (refine efBnn ?_; intro n hn) | (refine efB ?_) | (refine efBS ?_) | (refine wl_skip rfl rfl ?_) | (refine wdS ?_) | (refine wdV ?_) | (refine wdB ?_) | ((with_reducible refine seld_call ?_); refine wd_rd hm0 rfl rfl rfl rfl (rd_call rfl rfl rfl (fun w hm => by with_reducible exact LN1 w (VwB.out w hm))) ?_) | (refine wdE ?_) | (refine wdT ?_) | (refine wdTO ?_) | (refine wd_skip rfl rfl ?_) | ((with_reducible refine seld_nil ?_); refine wd_nil hm0 ?_; clear hm0 hw0) | ((with_reducible refine wc_seq ?_); intro K hK) | (refine auC ?_) | (refine wc_cond rfl (fun hc => ?_) (fun hc => ?_)) | (refine wc_draw (by kernel_rfl) (by kernel_rfl) (by decide +kernel) ?_; intro w0 hw0 hm0; (try simp only [List.append_eq, List.cons_append, List.nil_append])) | (refine auP ?_) | ((refine auR ?_); clear hK K) | (refine auR ?_) | ((with_reducible refine hK _ _ ?_); clear hK K) | fail)
        first | refine end_ret (ResP.cell rfl ld_whole (ResP.tmp rfl (ResP.tmp rfl ResP.nil))) ?_ | refine end_normal (ResP.cell rfl ld_whole (ResP.tmp rfl (ResP.tmp rfl ResP.nil))) ?_
        first | rfl | (show _ = _; rfl) | (simp only [tupV, *]; done)
      · rw [if_neg c2] at he
        have t4 : decide ((k : Int) > 4096) = false := decide_eq_false (by omega)
        by_cases c3 : k > r.length - a
        · rw [if_pos c3] at he
          obtain rfl : 3 = e := he
          have t5 : decide ((k : Int) > ((m - (1 + a) : Nat) : Int)) = true := decide_eq_true (by omega)
          refine fn_ret (N := _) Try.func52 rfl Try.ntmps52 Try.results52 (by simp) ?_
          simp only [initS, Nat.reduceAdd, Nat.zero_add]
          repeat' (first | (refine wlS ?_) | (refine wlB ?_) | ((with_reducible refine sel_call ?_); refine wl_rd rfl rfl (rd_call rfl rfl rfl (fun w hm => by with_reducible exact LN1 w (VwB.out w hm))) ?_) | (refine wlE ?_) | (refine efSvvp ?_; intro v hv hp) | (refine efSvao ?_; intro v oa ho) | ((with_reducible refine sel_slice ?_); first | (refine wl_subB (lo := 1) rfl rfl rfl rfl rfl rfl rfl rfl ?_; intro v hv hp)) | (refine efBnn ?_; intro n hn) | (refine efB ?_) | (refine efBS ?_) | (refine wl_skip rfl rfl ?_) | (refine wdS ?_) | (refine wdV ?_) | (refine wdB ?_) | ((with_reducible refine seld_call ?_); refine wd_rd hm0 rfl rfl rfl rfl (rd_call rfl rfl rfl (fun w hm => by with_reducible exact LN1 w (VwB.out w hm))) ?_) | (refine wdE ?_) | (refine wdT ?_) | (refine wdTO ?_) | (refine wd_skip rfl rfl ?_) | ((with_reducible refine seld_nil ?_); refine wd_nil hm0 ?_; clear hm0 hw0) | ((with_reducible refine wc_seq ?_); intro K hK) | (refine auC ?_) | (refine wc_cond rfl (fun hc => ?_) (fun hc => ?_)) | (refine wc_draw (by kernel_rfl) (by kernel_rfl) (by decide +kernel) ?_; intro w0 hw0 hm0; (try simp only [List.append_eq, List.cons_append, List.nil_append])) | (refine auP ?_) | ((refine auR ?_); clear hK K) | (refine auR ?_) | ((with_reducible refine hK _ _ ?_); clear hK K) | fail)
          first | refine end_ret (ResP.cell rfl ld_whole (ResP.tmp rfl (ResP.tmp rfl ResP.nil))) ?_ | refine end_normal (ResP.cell rfl ld_whole (ResP.tmp rfl (ResP.tmp rfl ResP.nil))) ?_
          first | rfl | (show _ = _; rfl) | (simp only [tupV, *]; done)
        · rw [if_neg c3] at he
          exact absurd he.symm h0
set_option maxHeartbeats 4000000 in
theorem first_yes (w : World) {u : Value} {m c t0 : Nat} {p q : List Nat} (h : Cb w u m p) (he : firstD p = (0, (t0, q), c)) (hmm : m ≤ 1073741824) :
    Calls Try.prog 52 [u].toArray w (RetO (fun b : Value => .tuple #[.agg #[.int .u8 (t0 : Int), b], .int .i64 (c : Int), .int .i64 0]) (fun b oa => OwnB 5 b q.length q oa) w) := by
  have i0 := h.old
  have hpl := h.ok.len
  have hpb := h.ok.by'
  cases p with
  | nil => simp [firstD] at he
  | cons t r =>
    have t1 : ((m : Int) == 0) = false := by rw [← hpl]; simp only [beq_eq_false_iff_ne, ne_eq, List.length_cons]; omega
    have j0 : 0 < m := by rw [← hpl]; simp
    have j1 : 1 ≤ m := j0
    have d1 : ((t :: r).drop 1).take (m - 1) = r := by rw [List.drop_succ_cons, List.drop_zero]; exact List.take_of_length_le (by simp only [List.length_cons] at hpl; omega)
    have hrl : r.length = m - 1 := by simp only [List.length_cons] at hpl; omega
    obtain ⟨s1, s2, s3⟩ := lenD_small (r := r) (fun y hy => hpb y (by simp [hy]))
    rw [firstD_cons] at he
    have hat := fun h => lenD_at (r := r) h
    have LN1 : ∀ {v : Value} w', Cb w' v (m - 1) r → Calls Try.prog 69 [v].toArray w' (Ret (.tuple #[.int .i64 ((lenD r).2.1 : Int), .int .i64 ((lenD r).2.2 : Int), .int .i64 ((lenD r).1 : Int)]) w') := fun w' h => len_c w' h
    clear h
    generalize (lenD r).1 = e1 at *
    generalize (lenD r).2.1 = k at *
    generalize (lenD r).2.2 = a at *
    by_cases c1 : e1 ≠ 0
    · rw [if_pos c1] at he
      exact absurd (congrArg (·.1) he) c1
    rw [if_neg c1] at he
    by_cases c2 : k > 4096
    · rw [if_pos c2] at he; simp at he
    rw [if_neg c2] at he
    by_cases c3 : k > r.length - a
    · rw [if_pos c3] at he; simp at he
    rw [if_neg c3] at he
    simp only [Prod.mk.injEq, true_and] at he
    obtain ⟨⟨rfl, rfl⟩, rfl⟩ := he
    have c1' : e1 = 0 := Decidable.of_not_not c1
    obtain ⟨a1, a2, a3⟩ := hat c1'
    subst c1'
    have t2 : (((0 : Nat) : Int) != 0) = false := rfl
    have t3 : IntKind.i64.wrap (1 + (a : Int)) = ((1 + a : Nat) : Int) := by rw [wrap_i64 _ (by omega) (by omega)]; omega
    have d2 : 1 + a ≤ m := by omega
    have t4 : decide ((k : Int) > 4096) = false := decide_eq_false (by omega)
    have t5 : decide ((k : Int) > ((m - (1 + a) : Nat) : Int)) = false := decide_eq_false (by omega)
    have t6 : IntKind.i64.wrap (((1 + a : Nat) : Int) + (k : Int)) = ((1 + a + k : Nat) : Int) := by rw [wrap_i64 _ (by omega) (by omega)]; omega
    have g0 : (bl (t :: r))[0]? = some (.int .u8 (t : Int)) := rfl
    have d3 : ((t :: r).drop (1 + a)).take (m - (1 + a)) = r.drop a := by
      rw [Nat.add_comm 1 a, List.drop_succ_cons]; exact List.take_of_length_le (by rw [List.length_drop]; omega)
    have d4 : ((r.drop a).drop 0).take (k - 0) = (r.drop a).take k := by rw [List.drop_zero, Nat.sub_zero]
    have d5 : k - 0 = k := rfl
    have d6 : k ≤ m - (1 + a) := by omega
    have hl : ((r.drop a).take k).length = k := by rw [List.length_take, List.length_drop]; omega
    have onil : OwnB 5 (.slice none 0 0) 0 [] [] := ⟨OwnL.nil _ _, BL.nil⟩
    rw [hl]
    generalize (r.drop a).take k = z at *
    refine fn_own (N := _) Try.func52 rfl Try.ntmps52 Try.results52 (by simp) ?_
    simp only [initS, Nat.reduceAdd, Nat.zero_add]
    repeat' (first | (refine wlS ?_) | (refine wlB ?_) | ((with_reducible refine sel_call ?_); refine wl_rd rfl rfl (rd_call rfl rfl rfl (fun w hm => by with_reducible exact LN1 w (VwB.out w hm))) ?_) | (refine wlE ?_) | (refine efSvvp ?_; intro v hv hp) | (refine efSvao ?_; intro v oa ho) | ((with_reducible refine sel_slice ?_); first | (refine wl_subB (lo := 1) rfl rfl rfl rfl rfl rfl rfl rfl ?_; intro v hv hp)) | (refine efBnn ?_; intro n hn) | (refine efB ?_) | (refine efBS ?_) | (refine wl_skip rfl rfl ?_) | ((with_reducible refine wc_seq ?_); intro K hK) | (refine auC ?_) | (refine wc_cond rfl (fun hc => ?_) (fun hc => ?_)) | ((with_reducible refine wc_drawT (by kernel_rfl) ?_); (try simp only [List.append_eq, List.cons_append, List.nil_append, List.length_cons, List.length_nil, Nat.reduceAdd])) | ((with_reducible refine sel_wh ?_); (refine wh_if (by decide +kernel) ?_); first | (refine wh_take (lq := []) rfl rfl rfl rfl (by first | exact rvS | exact rvB | exact rvE) (Or.inl rfl) ?_) | (refine wh_takeL rfl rfl rfl rfl (by first | exact rvS | exact rvB | exact rvE) (by decide +kernel) ?_)) | (refine whS ?_; intro v hv hp) | ((with_reducible refine sel_wh ?_); first | (refine wh_pass rfl rfl rfl rfl ?_) | (refine wh_done rfl ?_) | (refine wh_all rfl ?_)) | ((with_reducible refine sel_rest ?_); first | exact rest_nil rfl | refine rest_cons rfl rfl ?_ ?_) | ((with_reducible refine sel_nx ?_); first | refine next_of ?_ | refine next_late (by decide +kernel) ?_) | (refine auP ?_) | ((refine auR ?_); clear hK K) | (refine auR ?_) | ((with_reducible refine hK _ _ ?_); clear hK K) | fail)
    all_goals refine end_ret (ResP.cell rfl ld_whole (ResP.tmp rfl (ResP.tmp rfl ResP.nil))) ?_
    all_goals (try dsimp only [tupV])
    all_goals exact ⟨_, _, rfl, by simpa using ho, .skip (SubL.refl _)⟩
end Go.Proofs.Ytlpalhagndmpjaa
namespace Go.Proofs.Ytlpalhagndmpjaa
open Go.RowKit
set_option linter.unusedVariables false
set_option linter.unusedSimpArgs false
set_option maxRecDepth 100000
abbrev itP' (l : List It) : List (Nat × List Nat) := l.map It.p
/-- What Read answers. -/
def RdOk (T : Nat × List (Nat × List Nat)) (x : Value × Int × List It) (oa : Blks) : Prop :=
  (T.1 = 0 ∧ x.2.1 = 0 ∧ x.2.2.map It.p = T.2 ∧ OwnI 64 x.1 x.2.2 oa) ∨ (T.1 ≠ 0 ∧ x.1 = .slice none 0 0 ∧ x.2.1 = (T.1 : Int) ∧ oa = [])
/-- The loop's state. -/
structure RdS where
  its : List It
  v4 : Value
  oo : Blks
  ob : Blks
  f : Nat
  u : Value
  m : Nat
  p : List Nat
def RdS.ok (w : World) (T : Nat × List (Nat × List Nat)) (x : RdS) : Prop :=
  x.its.length ≤ 200 ∧ OwnL 64 2 x.v4 x.its.length (itsC x.its) x.oo ∧ BodI x.its x.ob ∧ CsB (Old w []) x.u x.m x.p ∧ x.m ≤ 65536 ∧ x.p.length ≤ x.f ∧ (rdL x.f x.its.length x.p).1 = T.1 ∧ (T.1 = 0 → T.2 = x.its.map It.p ++ (rdL x.f x.its.length x.p).2)
theorem rdL_nil (f c : Nat) : rdL f c [] = (0, []) := by cases f <;> rfl
set_option maxHeartbeats 8000000 in
theorem read_c (w : World) {u : Value} {m : Nat} {p : List Nat} (h : Cb w u m p) :
    Calls Try.prog 37 [u].toArray w (RetO (fun x : Value × Int × List It => .tuple #[x.1, .int .i64 x.2.1]) (RdOk (rdD p)) w) := by
  have i0 := h.old
  have hpl := h.ok.len
  by_cases hbig : m > 65536
  · have t1 : decide ((m : Int) > 65536) = true := decide_eq_true (by omega)
    have hT : rdD p = (2, []) := by rw [rdD, if_pos (by omega)]
    rw [hT]
    clear h
    refine fn_own (N := _) Try.func37 rfl Try.ntmps37 Try.results37 (by simp) ?_
    simp only [initS, Nat.reduceAdd, Nat.zero_add]
    repeat' (first | (refine wlS ?_) | (refine wlB ?_) | (refine wlE ?_) | (refine efSvvp ?_; intro v hv hp) | (refine efSvao ?_; intro v oa ho) | (refine efBnn ?_; intro n hn) | (refine efB ?_) | (refine efBS ?_) | (refine wl_skip rfl rfl ?_) | ((with_reducible refine wc_seq ?_); intro K hK) | (refine auC ?_) | (refine wc_cond rfl (fun hc => ?_) (fun hc => ?_)) | (refine wc_draw (by kernel_rfl) (by kernel_rfl) (by decide +kernel) ?_; intro w0 hw0 hm0; (try simp only [List.append_eq, List.cons_append, List.nil_append])) | (refine auP ?_) | ((refine auR ?_); clear hK K) | (refine auR ?_) | ((with_reducible refine hK _ _ ?_); clear hK K) | fail)
    first | refine end_ret (ResP.tmp rfl (ResP.tmp rfl ResP.nil)) ?_ | refine end_normal (ResP.tmp rfl (ResP.tmp rfl ResP.nil)) ?_
    (try dsimp only [tupV])
    exact ⟨(.slice none 0 0, 2, []), [], rfl, .inr ⟨by decide, rfl, rfl, rfl⟩, .nil⟩
  have t1 : decide ((m : Int) > 65536) = false := decide_eq_false (by omega)
  obtain ⟨T, hT⟩ : ∃ T, T = rdD p := ⟨_, rfl⟩
  have hT2 : T = rdL p.length 0 p := by rw [hT, rdD, if_neg (by omega)]
  rw [← hT]
  clear hT
  have hstart : RdS.ok w T ⟨[], .slice none 0 0, [], [], p.length, u, m, p⟩ := ⟨by simp, OwnL.nil _ _, BodI.nil, i0, by dsimp only; omega, Nat.le_refl _, by rw [hT2]; rfl, fun _ => by rw [hT2]; rfl⟩
  clear hT2 h hpl
  have FE : ∀ {v : Value} {k e : Nat} {q : List Nat}, (firstD q).1 = e → e ≠ 0 → k ≤ 65536 → ∀ w', Cb w' v k q → Calls Try.prog 52 [v].toArray w' (Ret (.tuple #[.agg #[.int .u8 0, .slice none 0 0], .int .i64 0, .int .i64 (e : Int)]) w') := fun he h0 hk w' h => first_err w' h he h0 (by omega)
  have FY : ∀ {v : Value} {k c t0 : Nat} {q b : List Nat}, firstD q = (0, (t0, b), c) → k ≤ 65536 → ∀ w', Cb w' v k q → Calls Try.prog 52 [v].toArray w' (RetO (fun b : Value => .tuple #[.agg #[.int .u8 (t0 : Int), b], .int .i64 (c : Int), .int .i64 0]) (fun v oa => OwnB 5 v b.length b oa) w') := fun he hk w' h => first_yes w' h he (by omega)
  refine fn_own (N := _) Try.func37 rfl Try.ntmps37 Try.results37 (by simp) ?_
  simp only [initS, Nat.reduceAdd, Nat.zero_add]
  repeat' (first | (refine wlS ?_) | (refine wlB ?_) | (refine wlE ?_) | (refine efSvvp ?_; intro v hv hp) | (refine efSvao ?_; intro v oa ho) | (refine efBnn ?_; intro n hn) | (refine efB ?_) | (refine efBS ?_) | (refine wl_skip rfl rfl ?_) | ((with_reducible refine wc_seq ?_); intro K hK) | (refine auC ?_) | (refine wc_cond rfl (fun hc => ?_) (fun hc => ?_)) | (refine wc_draw (by kernel_rfl) (by kernel_rfl) (by decide +kernel) ?_; intro w0 hw0 hm0; (try simp only [List.append_eq, List.cons_append, List.nil_append])) | (refine auP ?_) | ((refine auR ?_); clear hK K) | (refine auR ?_) | ((with_reducible refine hK _ _ ?_); clear hK K) | fail)
  refine wc_loop (σ := RdS) (fun x => [(0, x.u), (4, x.v4)]) (fun x => x.oo ++ x.ob) (RdS.ok w T) (fun x => x.p.length) ⟨[], .slice none 0 0, [], [], p.length, u, m, p⟩ hstart (Fits.of ⟨rfl, rfl, trivial⟩ .nil rfl) ?_
  clear hstart i0 t1 hbig u m p
  rintro ⟨its, v4, oo, ob, f, u, m, p⟩ ⟨hil, ho, hb, i0, hm, hf, h1, h2⟩
  dsimp only at hil ho hb i0 hm hf h1 h2 ⊢
  have hpl := i0.ok.len
  have hpb := i0.ok.by'
  by_cases hp0 : m = 0
  · subst hp0
    obtain rfl : p = [] := List.eq_nil_of_length_eq_zero hpl
    have t1 : decide (((0 : Nat) : Int) > 0) = false := rfl
    rw [rdL_nil] at h1 h2
    have hT0 : T.1 = 0 := h1.symm
    have hT1 := h2 hT0
    rw [List.append_nil] at hT1
    clear FE FY
    repeat' (first | (refine wlS ?_) | (refine wlB ?_) | (refine wlE ?_) | (refine efSvvp ?_; intro v hv hp) | (refine efSvao ?_; intro v oa ho) | (refine efBnn ?_; intro n hn) | (refine efB ?_) | (refine efBS ?_) | (refine wl_skip rfl rfl ?_) | ((with_reducible refine wc_seq ?_); intro K hK) | (refine auC ?_) | (refine wc_cond rfl (fun hc => ?_) (fun hc => ?_)) | (refine wc_draw (by kernel_rfl) (by kernel_rfl) (by decide +kernel) ?_; intro w0 hw0 hm0; (try simp only [List.append_eq, List.cons_append, List.nil_append])) | (refine auP ?_) | ((refine auR ?_); clear hK K) | (refine auR ?_) | ((with_reducible refine hK _ _ ?_); clear hK K) | fail)
    first | refine end_ret (ResP.tmp rfl (ResP.tmp rfl ResP.nil)) ?_ | refine end_normal (ResP.tmp rfl (ResP.tmp rfl ResP.nil)) ?_
    (try dsimp only [tupV])
    exact ⟨(v4, 0, its), oo ++ ob, rfl, .inl ⟨hT0, rfl, hT1.symm, ⟨oo, ob, rfl, ho, hb⟩⟩, SubL.refl _⟩
  have t1 : decide ((m : Int) > 0) = true := decide_eq_true (by omega)
  have hpne : p ≠ [] := fun h => by rw [h] at hpl; simp at hpl; omega
  obtain ⟨g, rfl⟩ : ∃ g, f = g + 1 := ⟨f - 1, by omega⟩
  by_cases hfull : its.length = 200
  · have t2 : ((its.length : Int) == 200) = true := by rw [hfull]; rfl
    have hr : rdL (g + 1) its.length p = (2, []) := by
      cases p with
      | nil => exact absurd rfl hpne
      | cons y r => rw [rdL, if_pos hfull]
    rw [hr] at h1
    have hT1 : T.1 = 2 := h1.symm
    clear FE FY
    repeat' (first | (refine wlS ?_) | (refine wlB ?_) | (refine wlE ?_) | (refine efSvvp ?_; intro v hv hp) | (refine efSvao ?_; intro v oa ho) | (refine efBnn ?_; intro n hn) | (refine efB ?_) | (refine efBS ?_) | (refine wl_skip rfl rfl ?_) | ((with_reducible refine wc_seq ?_); intro K hK) | (refine auC ?_) | (refine wc_cond rfl (fun hc => ?_) (fun hc => ?_)) | (refine wc_draw (by kernel_rfl) (by kernel_rfl) (by decide +kernel) ?_; intro w0 hw0 hm0; (try simp only [List.append_eq, List.cons_append, List.nil_append])) | (refine auP ?_) | ((refine auR ?_); clear hK K) | (refine auR ?_) | ((with_reducible refine hK _ _ ?_); clear hK K) | fail)
    first | refine end_ret (ResP.tmp rfl (ResP.tmp rfl ResP.nil)) ?_ | refine end_normal (ResP.tmp rfl (ResP.tmp rfl ResP.nil)) ?_
    (try dsimp only [tupV])
    exact ⟨(.slice none 0 0, 2, []), [], rfl, .inr ⟨by omega, rfl, by rw [hT1]; rfl, rfl⟩, .nil⟩
  have t2 : ((its.length : Int) == 200) = false := by simp only [beq_eq_false_iff_ne, ne_eq]; omega
  by_cases he : (firstD p).1 = 0
  · obtain ⟨⟨t0, q⟩, c, hx⟩ : ∃ x n, firstD p = (0, x, n) := ⟨_, _, Prod.ext he rfl⟩
    obtain ⟨b1, b2, b3, b4⟩ := firstD_back hpb hx
    have hs := rdL_step (f := g) hpne hfull hx
    have hw := wr1_pos (t0, q)
    dsimp only at b3 b4
    have FY1 := FY (v := u) (k := m) hx hm
    have hcm : c ≤ m := by have := congrArg List.length b1; rw [List.length_append] at this; omega
    have d1 : (p.drop c).take (m - c) = p.drop c := List.take_of_length_le (by rw [List.length_drop]; omega)
    have hh : (rdL g (its.length + 1) (p.drop c)).1 = T.1 ∧ (T.1 = 0 → T.2 = its.map It.p ++ ((t0, q) :: (rdL g (its.length + 1) (p.drop c)).2)) := by
      rw [hs] at h1 h2
      by_cases hz : (rdL g (its.length + 1) (p.drop c)).1 ≠ 0
      · rw [if_pos hz] at h1 h2
        exact ⟨h1, fun h => absurd (h1.trans h) hz⟩
      · rw [if_neg hz] at h1 h2
        exact ⟨(Decidable.of_not_not hz).trans h1, h2⟩
    have t3 : ((0 : Int) != 0) = false := rfl
    clear FE FY hs h1 h2 hx he b1
    repeat' (first | (refine wlS ?_) | (refine wlB ?_) | (refine wlE ?_) | (refine efSvvp ?_; intro v hv hp) | (refine efSvao ?_; intro v oa ho) | ((with_reducible refine sel_call ?_); first | (refine wl_newO rfl rfl rfl rfl rfl (fun w hm => by with_reducible exact FY1 w (VwB.out w hm)) ?_; intro x oa hx)) | (refine efBnn ?_; intro n hn) | (refine efB ?_) | (refine efBS ?_) | (refine wl_skip rfl rfl ?_) | ((with_reducible refine wc_seq ?_); intro K hK) | (refine auC ?_) | (refine wc_cond rfl (fun hc => ?_) (fun hc => ?_)) | (refine wc_draw (by kernel_rfl) (by kernel_rfl) (by decide +kernel) ?_; intro w0 hw0 hm0; (try simp only [List.append_eq, List.cons_append, List.nil_append])) | (refine auP ?_) | ((refine auR ?_); clear hK K) | (refine auR ?_) | ((with_reducible refine hK _ _ ?_); clear hK K) | fail)
    obtain ⟨v9, rfl⟩ : ∃ v9, v9 = v := ⟨v, rfl⟩
    obtain ⟨oN, rfl⟩ : ∃ oN, oN = oa := ⟨oa, rfl⟩
    obtain ⟨oS, rfl⟩ : ∃ oS, oS = oa := ⟨oa, rfl⟩
    have hlen : (its ++ [(t0, x, q)]).length = its.length + 1 := by simp
    refine ⟨⟨its ++ [(t0, x, q)], v, oN, ob ++ oa, g, v9, m - c, p.drop c⟩, ⟨by dsimp only; omega, ?_, hb.app (BodI.one hx b4), by assumption, by dsimp only; omega, by dsimp only; rw [List.length_drop]; omega, ?_, ?_⟩, by dsimp only; rw [List.length_drop]; omega, Fits.of ⟨rfl, rfl, trivial⟩ (.skip ?_) rfl⟩
    · dsimp only
      rw [hlen, itsC_app]
      assumption
    · dsimp only; rw [hlen]; exact hh.1
    · dsimp only; rw [hlen, List.map_append, List.append_assoc]; exact hh.2
    · dsimp only
      exact SubL.keepA (SubL.keepA (SubL.headA _ _) _) _
  · have FE1 := FE (v := u) (k := m) rfl he hm
    have hr : rdL (g + 1) its.length p = ((firstD p).1, []) := by
      cases p with
      | nil => exact absurd rfl hpne
      | cons y r => rw [rdL, if_neg hfull, if_pos he]
    rw [hr] at h1
    have hT1 : (firstD p).1 = T.1 := h1
    rw [hT1] at FE1 he
    have t3 : ((T.1 : Int) != 0) = true := by simp only [bne_iff_ne, ne_eq]; omega
    clear FE FY h1 h2 hr hT1
    repeat' (first | (refine wlS ?_) | (refine wlB ?_) | ((with_reducible refine sel_call ?_); refine wl_rd rfl rfl (rd_call rfl rfl rfl (fun w hm => by with_reducible exact FE1 w (VwB.out w hm))) ?_) | (refine wlE ?_) | (refine efSvvp ?_; intro v hv hp) | (refine efSvao ?_; intro v oa ho) | (refine efBnn ?_; intro n hn) | (refine efB ?_) | (refine efBS ?_) | (refine wl_skip rfl rfl ?_) | ((with_reducible refine wc_seq ?_); intro K hK) | (refine auC ?_) | (refine wc_cond rfl (fun hc => ?_) (fun hc => ?_)) | (refine wc_draw (by kernel_rfl) (by kernel_rfl) (by decide +kernel) ?_; intro w0 hw0 hm0; (try simp only [List.append_eq, List.cons_append, List.nil_append])) | (refine auP ?_) | ((refine auR ?_); clear hK K) | (refine auR ?_) | ((with_reducible refine hK _ _ ?_); clear hK K) | fail)
    first | refine end_ret (ResP.tmp rfl (ResP.tmp rfl ResP.nil)) ?_ | refine end_normal (ResP.tmp rfl (ResP.tmp rfl ResP.nil)) ?_
    (try dsimp only [tupV])
    exact ⟨(.slice none 0 0, T.1, []), [], rfl, .inr ⟨he, rfl, rfl, rfl⟩, .nil⟩
end Go.Proofs.Ytlpalhagndmpjaa
namespace Go.Proofs.Ytlpalhagndmpjaa
open Go.RowKit
set_option linter.unusedVariables false
set_option maxRecDepth 100000
set_option linter.unusedSimpArgs false
abbrev itP (l : List It) : List (Nat × List Nat) := l.map It.p
theorem itP_get {l : List It} {i : Nat} {x : It} (h : l[i]? = some x) : (itP l)[i]? = some x.p := by simp [itP, h]
/-- The state of the loop. -/
def WrOkL (l : List It) (x : Nat × Value × Nat × Blks) : Prop := x.1 ≤ l.length ∧ (∀ y ∈ l.take x.1, y.2.2.length ≤ 4096) ∧ x.2.2.1 ≤ 4100 * x.1 ∧ OwnB 5 x.2.1 x.2.2.1 (wrL (itP (l.take x.1))) x.2.2.2
theorem wrOk_step {l : List It} {i n : Nat} {v : Value} {oa : Blks} {x : It} (h : WrOkL l (i, v, n, oa)) (hx : l[i]? = some x) (hb : x.2.2.length ≤ 4096) {v' : Value} {m : Nat} {p : List Nat} {oa' : Blks} (ho : OwnB 5 v' (n + m + x.2.2.length) ((wrL (itP (l.take i)) ++ p) ++ x.2.2) oa') (hp : p = headL x.1 x.2.2.length) (hm : m ≤ 4) : WrOkL l (i + 1, v', n + m + x.2.2.length, oa') := by
  obtain ⟨h1, h2, h3, h4⟩ := h
  dsimp only at *
  have hlt : i < l.length := (List.getElem?_eq_some_iff.1 hx).1
  refine ⟨hlt, fun y hy => ?_, by dsimp only; omega, ?_⟩
  · rw [List.take_add_one, hx] at hy
    rcases List.mem_append.1 hy with hy | hy
    · exact h2 y hy
    · simp at hy; subst hy; exact hb
  · have e : wrL (itP (l.take (i + 1))) = (wrL (itP (l.take i)) ++ p) ++ x.2.2 := by
      have := wrL_snoc (itP_get hx)
      rw [itP, ← List.map_take] at this
      rw [itP, this, hp, List.append_assoc]
      simp [itP, List.map_take, wr1, It.p]
    dsimp only
    rw [e]; exact ho
set_option maxHeartbeats 8000000 in
theorem write_ok (w : World) {v : Value} {l : List It} (h : Its w v l) (hf : fitsL (itP l)) : Calls Try.prog 38 [v].toArray w (RetO (fun b => .tuple #[b, .int .i64 0]) (fun b oa => OwnB 5 b (wrL (itP l)).length (wrL (itP l)) oa) w) := by
  haveI := h.cs.old
  have hlen : l.length ≤ 200 := by have := hf.1; simpa using this
  have t0 : decide ((l.length : Int) > 200) = false := decide_eq_false (by omega)
  refine fn_own (N := _) Try.func38 rfl Try.ntmps38 Try.results38 (by simp) ?_
  simp only [initS, Nat.reduceAdd, Nat.zero_add]
  repeat' (first | (refine wlS ?_) | (refine wlB ?_) | (refine wlE ?_) | (refine efSvao ?_; intro v oa ho) | (refine efBnn ?_; intro n hn) | (refine efB ?_) | (refine efBS ?_) | (refine wl_skip rfl rfl ?_) | ((with_reducible refine wc_seq ?_); intro K hK) | (refine auC ?_) | (refine wc_cond rfl (fun hc => ?_) (fun hc => ?_)) | (refine wc_draw (by kernel_rfl) (by kernel_rfl) (by decide +kernel) ?_; intro w0 hw0 hm0; (try simp only [List.append_eq, List.cons_append, List.nil_append])) | (refine auP ?_) | ((refine auR ?_); clear hK K) | (refine auR ?_) | ((with_reducible refine hK _ _ ?_); clear hK K) | fail)
  refine wc_loop (σ := Nat × Value × Nat × Blks) (fun x => [(0, v), (4, x.2.1), (11, v), (12, .int .i64 (l.length : Int)), (13, .int .i64 (x.1 : Int))]) (fun x => x.2.2.2)
    (WrOkL l) (fun x => l.length - x.1) (0, .slice none 0 0, 0, []) ⟨Nat.zero_le _, by simp, Nat.le_refl _, ⟨OwnL.nil _ _, BL.nil⟩⟩ (Fits.of ⟨rfl, rfl, rfl, rfl, rfl, trivial⟩ .nil rfl) ?_
  rintro ⟨i, v4, n, oa⟩ hok
  have hok' := hok
  obtain ⟨hi, hall, hn, ho⟩ := hok'
  dsimp only at hi hall hn ho
  by_cases hlt : i < l.length
  · obtain ⟨x, hx⟩ : ∃ x, l[i]? = some x := ⟨l[i], List.getElem?_eq_getElem hlt⟩
    obtain ⟨tag, bv, p⟩ := x
    have hmem := List.mem_of_getElem? hx
    have htag : tag < 256 := h.tag _ hmem
    haveI : CsB (Old w []) bv p.length p := (h.body _ hmem).old
    have hbody : p.length ≤ 4096 := hf.2 (tag, p) (List.mem_map.2 ⟨_, hmem, rfl⟩)
    have hget := itsC_get hx
    have t1 : decide ((i : Int) < (l.length : Int)) = true := decide_eq_true (by omega)
    have t2 : decide ((p.length : Int) > 4096) = false := decide_eq_false (by omega)
    have hi1 : IntKind.i64.wrap ((i : Int) + 1) = ((i + 1 : Nat) : Int) := wrap_i64 _ (by omega) (by omega)
    dsimp only at hget
    by_cases c1 : p.length < 128
    · have t3 : decide ((p.length : Int) < 128) = true := decide_eq_true (by omega)
      have w1 : IntKind.u8.wrap (p.length : Int) = (p.length : Int) := wrap_u8 _ (by omega) (by omega)
      clear hall hf h
      repeat' (first | (refine wlS ?_) | (refine wlB ?_) | (refine wlE ?_) | (refine efSvao ?_; intro v oa ho) | (refine efBnn ?_; intro n hn) | (refine efB ?_) | (refine efBS ?_) | (refine wl_skip rfl rfl ?_) | ((with_reducible refine wc_seq ?_); intro K hK) | (refine auC ?_) | (refine wc_cond rfl (fun hc => ?_) (fun hc => ?_)) | (refine wc_draw (by kernel_rfl) (by kernel_rfl) (by decide +kernel) ?_; intro w0 hw0 hm0; (try simp only [List.append_eq, List.cons_append, List.nil_append])) | (refine auP ?_) | ((refine auR ?_); clear hK K) | (refine auR ?_) | ((with_reducible refine hK _ _ ?_); clear hK K) | fail)
      exact ⟨(i + 1, v, _, oa), wrOk_step hok hx hbody ho (by simp [headL, c1]) (by omega), by dsimp only; omega, Fits.of ⟨rfl, rfl, rfl, rfl, rfl, trivial⟩ (.skip (SubL.headA _ _)) rfl⟩
    · have t3 : decide ((p.length : Int) < 128) = false := decide_eq_false (by omega)
      by_cases c2 : p.length < 256
      · have t4 : decide ((p.length : Int) < 256) = true := decide_eq_true (by omega)
        have w1 : IntKind.u8.wrap (p.length : Int) = (p.length : Int) := wrap_u8 _ (by omega) (by omega)
        clear hall hf h
        repeat' (first | (refine wlS ?_) | (refine wlB ?_) | (refine wlE ?_) | (refine efSvao ?_; intro v oa ho) | (refine efBnn ?_; intro n hn) | (refine efB ?_) | (refine efBS ?_) | (refine wl_skip rfl rfl ?_) | ((with_reducible refine wc_seq ?_); intro K hK) | (refine auC ?_) | (refine wc_cond rfl (fun hc => ?_) (fun hc => ?_)) | (refine wc_draw (by kernel_rfl) (by kernel_rfl) (by decide +kernel) ?_; intro w0 hw0 hm0; (try simp only [List.append_eq, List.cons_append, List.nil_append])) | (refine auP ?_) | ((refine auR ?_); clear hK K) | (refine auR ?_) | ((with_reducible refine hK _ _ ?_); clear hK K) | fail)
        exact ⟨(i + 1, v, _, oa), wrOk_step hok hx hbody ho (by simp [headL, c1, c2]) (by omega), by dsimp only; omega, Fits.of ⟨rfl, rfl, rfl, rfl, rfl, trivial⟩ (.skip (SubL.headA _ _)) rfl⟩
      · have t4 : decide ((p.length : Int) < 256) = false := decide_eq_false (by omega)
        have w0 : (p.length : Int) / 2 ^ (min ((8 : Int).toNat) IntKind.i64.bits) = ((p.length / 256 : Nat) : Int) := rfl
        have w1 : IntKind.u8.wrap ((p.length / 256 : Nat) : Int) = ((p.length / 256 % 256 : Nat) : Int) := wrapB _
        have w2 : IntKind.u8.wrap (p.length : Int) = ((p.length % 256 : Nat) : Int) := wrapB _
        clear hall hf h
        repeat' (first | (refine wlS ?_) | (refine wlB ?_) | (refine wlE ?_) | (refine efSvao ?_; intro v oa ho) | (refine efBnn ?_; intro n hn) | (refine efB ?_) | (refine efBS ?_) | (refine wl_skip rfl rfl ?_) | ((with_reducible refine wc_seq ?_); intro K hK) | (refine auC ?_) | (refine wc_cond rfl (fun hc => ?_) (fun hc => ?_)) | (refine wc_draw (by kernel_rfl) (by kernel_rfl) (by decide +kernel) ?_; intro w0 hw0 hm0; (try simp only [List.append_eq, List.cons_append, List.nil_append])) | (refine auP ?_) | ((refine auR ?_); clear hK K) | (refine auR ?_) | ((with_reducible refine hK _ _ ?_); clear hK K) | fail)
        exact ⟨(i + 1, v, _, oa), wrOk_step hok hx hbody ho (by simp [headL, c1, c2]) (by omega), by dsimp only; omega, Fits.of ⟨rfl, rfl, rfl, rfl, rfl, trivial⟩ (.skip (SubL.headA _ _)) rfl⟩
  · obtain rfl : i = l.length := by omega
    have t1 : decide ((l.length : Int) < (l.length : Int)) = false := decide_eq_false (by omega)
    rw [List.take_length] at ho
    clear hall hf h hok
    repeat' (first | (refine wlS ?_) | (refine wlB ?_) | (refine wlE ?_) | (refine efSvao ?_; intro v oa ho) | (refine efBnn ?_; intro n hn) | (refine efB ?_) | (refine efBS ?_) | (refine wl_skip rfl rfl ?_) | ((with_reducible refine wc_seq ?_); intro K hK) | (refine auC ?_) | (refine wc_cond rfl (fun hc => ?_) (fun hc => ?_)) | (refine wc_draw (by kernel_rfl) (by kernel_rfl) (by decide +kernel) ?_; intro w0 hw0 hm0; (try simp only [List.append_eq, List.cons_append, List.nil_append])) | (refine auP ?_) | ((refine auR ?_); clear hK K) | (refine auR ?_) | ((with_reducible refine hK _ _ ?_); clear hK K) | fail)
    first | refine end_ret (ResP.tmp rfl (ResP.tmp rfl ResP.nil)) ?_ | refine end_normal (ResP.tmp rfl (ResP.tmp rfl ResP.nil)) ?_
    (try dsimp only [tupV])
    exact ⟨_, _, rfl, by rw [ho.ok.len]; exact ho, SubL.refl _⟩
/-- What is too large is not written. -/
theorem firstBig : ∀ {l : List It}, ¬ (∀ x ∈ l, x.2.2.length ≤ 4096) → ∃ k x, l[k]? = some x ∧ 4096 < x.2.2.length ∧ ∀ y ∈ l.take k, y.2.2.length ≤ 4096
  | [], h => absurd (fun x hx => by cases hx) h
  | a :: r, h => by
    by_cases ha : a.2.2.length ≤ 4096
    · obtain ⟨k, x, h1, h2, h3⟩ := firstBig (l := r) fun hr => h fun x hx => by
        rcases List.mem_cons.1 hx with rfl | hx
        · exact ha
        · exact hr x hx
      refine ⟨k + 1, x, by rw [List.getElem?_cons_succ]; exact h1, h2, fun y hy => ?_⟩
      rw [List.take_succ_cons] at hy
      rcases List.mem_cons.1 hy with rfl | hy
      · exact ha
      · exact h3 y hy
    · exact ⟨0, a, rfl, by omega, by simp⟩
set_option maxHeartbeats 8000000 in
theorem write_no (w : World) {v : Value} {l : List It} (h : Its w v l) (hll : l.length ≤ 1152921504606846976) (hf : ¬ fitsL (itP l)) : Calls Try.prog 38 [v].toArray w (Ret (.tuple #[.slice none 0 0, .int .i64 2]) w) := by
  haveI := h.cs.old
  by_cases hlen : l.length ≤ 200
  · obtain ⟨k, xk, hk, hbig, hsm⟩ := firstBig (l := l) fun hh => hf ⟨by simpa using hlen, fun x hx => by
      obtain ⟨y, hy, rfl⟩ := List.mem_map.1 hx
      exact hh y hy⟩
    have hkl : k < l.length := (List.getElem?_eq_some_iff.1 hk).1
    have t0 : decide ((l.length : Int) > 200) = false := decide_eq_false (by omega)
    refine fn_ret (N := _) Try.func38 rfl Try.ntmps38 Try.results38 (by simp) ?_
    simp only [initS, Nat.reduceAdd, Nat.zero_add]
    repeat' (first | (refine wlS ?_) | (refine wlB ?_) | (refine wlE ?_) | (refine efSvao ?_; intro v oa ho) | (refine efBnn ?_; intro n hn) | (refine efB ?_) | (refine efBS ?_) | (refine wl_skip rfl rfl ?_) | ((with_reducible refine wc_seq ?_); intro K hK) | (refine auC ?_) | (refine wc_cond rfl (fun hc => ?_) (fun hc => ?_)) | (refine wc_draw (by kernel_rfl) (by kernel_rfl) (by decide +kernel) ?_; intro w0 hw0 hm0; (try simp only [List.append_eq, List.cons_append, List.nil_append])) | (refine auP ?_) | ((refine auR ?_); clear hK K) | (refine auR ?_) | ((with_reducible refine hK _ _ ?_); clear hK K) | fail)
    refine wc_loop (σ := Nat × Value × Nat × Blks) (fun x => [(0, v), (4, x.2.1), (11, v), (12, .int .i64 (l.length : Int)), (13, .int .i64 (x.1 : Int))]) (fun x => x.2.2.2)
      (fun x => x.1 ≤ k ∧ WrOkL l x) (fun x => l.length - x.1) (0, .slice none 0 0, 0, []) ⟨Nat.zero_le _, Nat.zero_le _, by simp, Nat.le_refl _, ⟨OwnL.nil _ _, BL.nil⟩⟩ (Fits.of ⟨rfl, rfl, rfl, rfl, rfl, trivial⟩ .nil rfl) ?_
    rintro ⟨i, v4, n, oa⟩ ⟨hik, hok⟩
    have hok' := hok
    obtain ⟨hi, hall, hn, ho⟩ := hok'
    dsimp only at hik hi hall hn ho
    have hlt : i < l.length := by omega
    obtain ⟨x, hx⟩ : ∃ x, l[i]? = some x := ⟨l[i], List.getElem?_eq_getElem hlt⟩
    obtain ⟨tag, bv, p⟩ := x
    have hmem := List.mem_of_getElem? hx
    have htag : tag < 256 := h.tag _ hmem
    haveI : CsB (Old w []) bv p.length p := (h.body _ hmem).old
    have hget := itsC_get hx
    have t1 : decide ((i : Int) < (l.length : Int)) = true := decide_eq_true (by omega)
    have hi1 : IntKind.i64.wrap ((i : Int) + 1) = ((i + 1 : Nat) : Int) := wrap_i64 _ (by omega) (by omega)
    dsimp only at hget
    by_cases hbody : p.length ≤ 4096
    · have t2 : decide ((p.length : Int) > 4096) = false := decide_eq_false (by omega)
      have hne : i ≠ k := fun e => by
        subst e
        rw [hk] at hx
        cases hx
        dsimp only at hbig
        omega
      by_cases c1 : p.length < 128
      · have t3 : decide ((p.length : Int) < 128) = true := decide_eq_true (by omega)
        have w1 : IntKind.u8.wrap (p.length : Int) = (p.length : Int) := wrap_u8 _ (by omega) (by omega)
        clear hall hf h
        repeat' (first | (refine wlS ?_) | (refine wlB ?_) | (refine wlE ?_) | (refine efSvao ?_; intro v oa ho) | (refine efBnn ?_; intro n hn) | (refine efB ?_) | (refine efBS ?_) | (refine wl_skip rfl rfl ?_) | ((with_reducible refine wc_seq ?_); intro K hK) | (refine auC ?_) | (refine wc_cond rfl (fun hc => ?_) (fun hc => ?_)) | (refine wc_draw (by kernel_rfl) (by kernel_rfl) (by decide +kernel) ?_; intro w0 hw0 hm0; (try simp only [List.append_eq, List.cons_append, List.nil_append])) | (refine auP ?_) | ((refine auR ?_); clear hK K) | (refine auR ?_) | ((with_reducible refine hK _ _ ?_); clear hK K) | fail)
        exact ⟨(i + 1, v, _, oa), ⟨by dsimp only; omega, wrOk_step hok hx hbody ho (by simp [headL, c1]) (by omega)⟩, by dsimp only; omega, Fits.of ⟨rfl, rfl, rfl, rfl, rfl, trivial⟩ (.skip (SubL.headA _ _)) rfl⟩
      · have t3 : decide ((p.length : Int) < 128) = false := decide_eq_false (by omega)
        by_cases c2 : p.length < 256
        · have t4 : decide ((p.length : Int) < 256) = true := decide_eq_true (by omega)
          have w1 : IntKind.u8.wrap (p.length : Int) = (p.length : Int) := wrap_u8 _ (by omega) (by omega)
          clear hall hf h
          repeat' (first | (refine wlS ?_) | (refine wlB ?_) | (refine wlE ?_) | (refine efSvao ?_; intro v oa ho) | (refine efBnn ?_; intro n hn) | (refine efB ?_) | (refine efBS ?_) | (refine wl_skip rfl rfl ?_) | ((with_reducible refine wc_seq ?_); intro K hK) | (refine auC ?_) | (refine wc_cond rfl (fun hc => ?_) (fun hc => ?_)) | (refine wc_draw (by kernel_rfl) (by kernel_rfl) (by decide +kernel) ?_; intro w0 hw0 hm0; (try simp only [List.append_eq, List.cons_append, List.nil_append])) | (refine auP ?_) | ((refine auR ?_); clear hK K) | (refine auR ?_) | ((with_reducible refine hK _ _ ?_); clear hK K) | fail)
          exact ⟨(i + 1, v, _, oa), ⟨by dsimp only; omega, wrOk_step hok hx hbody ho (by simp [headL, c1, c2]) (by omega)⟩, by dsimp only; omega, Fits.of ⟨rfl, rfl, rfl, rfl, rfl, trivial⟩ (.skip (SubL.headA _ _)) rfl⟩
        · have t4 : decide ((p.length : Int) < 256) = false := decide_eq_false (by omega)
          have w0 : (p.length : Int) / 2 ^ (min ((8 : Int).toNat) IntKind.i64.bits) = ((p.length / 256 : Nat) : Int) := rfl
          have w1 : IntKind.u8.wrap ((p.length / 256 : Nat) : Int) = ((p.length / 256 % 256 : Nat) : Int) := wrapB _
          have w2 : IntKind.u8.wrap (p.length : Int) = ((p.length % 256 : Nat) : Int) := wrapB _
          clear hall hf h
          repeat' (first | (refine wlS ?_) | (refine wlB ?_) | (refine wlE ?_) | (refine efSvao ?_; intro v oa ho) | (refine efBnn ?_; intro n hn) | (refine efB ?_) | (refine efBS ?_) | (refine wl_skip rfl rfl ?_) | ((with_reducible refine wc_seq ?_); intro K hK) | (refine auC ?_) | (refine wc_cond rfl (fun hc => ?_) (fun hc => ?_)) | (refine wc_draw (by kernel_rfl) (by kernel_rfl) (by decide +kernel) ?_; intro w0 hw0 hm0; (try simp only [List.append_eq, List.cons_append, List.nil_append])) | (refine auP ?_) | ((refine auR ?_); clear hK K) | (refine auR ?_) | ((with_reducible refine hK _ _ ?_); clear hK K) | fail)
          exact ⟨(i + 1, v, _, oa), ⟨by dsimp only; omega, wrOk_step hok hx hbody ho (by simp [headL, c1, c2]) (by omega)⟩, by dsimp only; omega, Fits.of ⟨rfl, rfl, rfl, rfl, rfl, trivial⟩ (.skip (SubL.headA _ _)) rfl⟩
    · have t2 : decide ((p.length : Int) > 4096) = true := decide_eq_true (by omega)
      clear hall hf h hok ho
      repeat' (first | (refine wlS ?_) | (refine wlB ?_) | (refine wlE ?_) | (refine efSvao ?_; intro v oa ho) | (refine efBnn ?_; intro n hn) | (refine efB ?_) | (refine efBS ?_) | (refine wl_skip rfl rfl ?_) | ((with_reducible refine wc_seq ?_); intro K hK) | (refine auC ?_) | (refine wc_cond rfl (fun hc => ?_) (fun hc => ?_)) | (refine wc_draw (by kernel_rfl) (by kernel_rfl) (by decide +kernel) ?_; intro w0 hw0 hm0; (try simp only [List.append_eq, List.cons_append, List.nil_append])) | (refine auP ?_) | ((refine auR ?_); clear hK K) | (refine auR ?_) | ((with_reducible refine hK _ _ ?_); clear hK K) | fail)
      first | refine end_ret (ResP.tmp rfl (ResP.tmp rfl ResP.nil)) ?_ | refine end_normal (ResP.tmp rfl (ResP.tmp rfl ResP.nil)) ?_
      first | rfl | (show _ = _; rfl) | (simp only [tupV, *]; done)
  · have t0 : decide ((l.length : Int) > 200) = true := decide_eq_true (by omega)
    clear hf h
    refine fn_ret (N := _) Try.func38 rfl Try.ntmps38 Try.results38 (by simp) ?_
    simp only [initS, Nat.reduceAdd, Nat.zero_add]
    repeat' (first | (refine wlS ?_) | (refine wlB ?_) | (refine wlE ?_) | (refine efSvao ?_; intro v oa ho) | (refine efBnn ?_; intro n hn) | (refine efB ?_) | (refine efBS ?_) | (refine wl_skip rfl rfl ?_) | ((with_reducible refine wc_seq ?_); intro K hK) | (refine auC ?_) | (refine wc_cond rfl (fun hc => ?_) (fun hc => ?_)) | (refine wc_draw (by kernel_rfl) (by kernel_rfl) (by decide +kernel) ?_; intro w0 hw0 hm0; (try simp only [List.append_eq, List.cons_append, List.nil_append])) | (refine auP ?_) | ((refine auR ?_); clear hK K) | (refine auR ?_) | ((with_reducible refine hK _ _ ?_); clear hK K) | fail)
    first | refine end_ret (ResP.tmp rfl (ResP.tmp rfl ResP.nil)) ?_ | refine end_normal (ResP.tmp rfl (ResP.tmp rfl ResP.nil)) ?_
    first | rfl | (show _ = _; rfl) | (simp only [tupV, *]; done)
end Go.Proofs.Ytlpalhagndmpjaa
namespace Go.Proofs.Ytlpalhagndmpjaa
open Go.RowKit
set_option linter.unusedVariables false
set_option maxRecDepth 100000
set_option linter.unusedSimpArgs false
theorem isPre_iff {p q : List Nat} {n m : Nat} (hp : p.length = n) (hq : q.length = m) : q.isPrefixOf p = (if m ≤ n then (p.take m == q) else false) := by
  rw [Bool.eq_iff_iff, List.isPrefixOf_iff_prefix]
  split
  · rename_i h
    rw [beq_iff_eq, List.prefix_iff_eq_take, hq]
    exact ⟨fun h => h.symm, fun h => h.symm⟩
  · rename_i h
    constructor
    · intro hh; have := hh.length_le; omega
    · intro hh; cases hh
/-- The same items. -/
def sameL (l m : List It) : Bool := itP l == itP m
end Go.Proofs.Ytlpalhagndmpjaa
namespace Go.Proofs.Ytlpalhagndmpjaa
open Go.RowKit
set_option linter.unusedVariables false
set_option maxRecDepth 100000
set_option linter.unusedSimpArgs false
theorem itP_take_snoc {l : List It} {i : Nat} {x : It} (h : l[i]? = some x) : itP (l.take (i + 1)) = itP (l.take i) ++ [x.p] := by
  rw [List.take_add_one, h]; simp [itP]
theorem itsC_tag {l : List It} {i : Nat} {x : It} (h : l[i]? = some x) : (itsC l)[i * 2]? = some (.int .u8 ((x.1 : Nat) : Int)) := by
  have := congrArg (·[0]?) (itsC_get h)
  simpa using this
theorem itsC_body {l : List It} {i : Nat} {x : It} (h : l[i]? = some x) : (itsC l)[i * 2 + 1]? = some x.2.1 := by
  have := congrArg (·[1]?) (itsC_get h)
  simpa using this
end Go.Proofs.Ytlpalhagndmpjaa
namespace Go.Proofs.Ytlpalhagndmpjaa
open Go.RowKit
set_option linter.unusedVariables false
set_option linter.unusedSimpArgs false
set_option maxRecDepth 100000
theorem read_yes (w : World) {u : Value} {m : Nat} {p : List Nat} (h : Cb w u m p) {l : List (Nat × List Nat)} (he : rdD p = (0, l)) :
    Calls Try.prog 37 [u].toArray w (RetO (fun x : Value × List It => .tuple #[x.1, .int .i64 0]) (fun x oa => x.2.map It.p = l ∧ OwnI 64 x.1 x.2 oa) w) :=
  (read_c w h).mono fun e w2 ⟨x, oa, he2, hx, hu⟩ => by
    rw [he] at hx
    rcases hx with ⟨_, h2, h3, h4⟩ | ⟨h1, _⟩
    · exact ⟨(x.1, x.2.2), oa, by rw [he2]; dsimp only; rw [h2], ⟨h3, h4⟩, hu⟩
    · exact absurd rfl h1
theorem read_no (w : World) {u : Value} {m e : Nat} {p : List Nat} (h : Cb w u m p) (he : (rdD p).1 = e) (h0 : e ≠ 0) :
    Calls Try.prog 37 [u].toArray w (Ret (.tuple #[.slice none 0 0, .int .i64 (e : Int)]) w) :=
  (read_c w h).mono fun e2 w2 ⟨x, oa, he2, hx, hu⟩ => by
    rcases hx with ⟨h1, _⟩ | ⟨h1, h2, h3, h4⟩
    · exact absurd (he.symm.trans h1) h0
    · subst h4
      refine ⟨?_, hu.below⟩
      rw [he2]; dsimp only
      rw [h2, h3, he]
set_option maxHeartbeats 2000000 in
/-- What is too large is not written, however large. -/
theorem write_no' (w : World) {v : Value} {l : List It} (h : Its w v l) (hf : ¬ fitsL (itP l)) : Calls Try.prog 38 [v].toArray w (Ret (.tuple #[.slice none 0 0, .int .i64 2]) w) := by
  by_cases hl : l.length ≤ 1152921504606846976
  · exact write_no w h hl hf
  · have i0 := h.cs.old
    have t0 : decide ((l.length : Int) > 200) = true := decide_eq_true (by omega)
    clear h hf
    refine fn_ret (N := _) Try.func38 rfl Try.ntmps38 Try.results38 (by simp) ?_
    simp only [initS, Nat.reduceAdd, Nat.zero_add]
    repeat' (first | (refine wlS ?_) | (refine wlB ?_) | (refine wlE ?_) | (refine efSvao ?_; intro v oa ho) | (refine efBnn ?_; intro n hn) | (refine efB ?_) | (refine efBS ?_) | (refine wl_skip rfl rfl ?_) | ((with_reducible refine wc_seq ?_); intro K hK) | (refine auC ?_) | (refine wc_cond rfl (fun hc => ?_) (fun hc => ?_)) | (refine wc_draw (by kernel_rfl) (by kernel_rfl) (by decide +kernel) ?_; intro w0 hw0 hm0; (try simp only [List.append_eq, List.cons_append, List.nil_append])) | (refine auP ?_) | ((refine auR ?_); clear hK K) | (refine auR ?_) | ((with_reducible refine hK _ _ ?_); clear hK K) | fail)
    first | refine end_ret (ResP.tmp rfl (ResP.tmp rfl ResP.nil)) ?_ | refine end_normal (ResP.tmp rfl (ResP.tmp rfl ResP.nil)) ?_
    first | rfl | (show _ = _; rfl) | (simp only [tupV, *]; done)
theorem rdD_wrL {P : List (Nat × List Nat)} (hf : fitsL P) (hs : (wrL P).length ≤ 65536) : rdD (wrL P) = (0, P) := by
  rw [rdD, if_neg (by omega), rdL_wrL P _ 0 hf.2 (by have := hf.1; omega) (Nat.le_refl _)]
theorem rdD_back {p : List Nat} (hb : ∀ y ∈ p, y < 256) (h : (rdD p).1 = 0) : wrL (rdD p).2 = p ∧ fitsL (rdD p).2 := by
  unfold rdD at h ⊢
  by_cases hl : p.length > 65536
  · rw [if_pos hl] at h; simp at h
  · rw [if_neg hl] at h ⊢
    obtain ⟨h1, h2, h3⟩ := rdL_back p.length 0 p hb (Nat.le_refl _) h (by omega)
    exact ⟨h1.symm, ⟨by omega, fun x hx => (h2 x hx).1⟩⟩
theorem fits_take {P : List (Nat × List Nat)} (h : fitsL P) (i : Nat) : fitsL (P.take i) := ⟨by rw [List.length_take]; have := h.1; omega, fun x hx => h.2 x (List.mem_of_mem_take hx)⟩
/-- How long the text of the first i items is. -/
def preL (P : List (Nat × List Nat)) (i : Nat) : Nat := (wrL (P.take i)).length
theorem preL_zero (P : List (Nat × List Nat)) : preL P 0 = 0 := rfl
theorem preL_succ {P : List (Nat × List Nat)} {i : Nat} {x : Nat × List Nat} (h : P[i]? = some x) : preL P (i + 1) = preL P i + (wr1 x).length := by rw [preL, wrL_snoc h, List.length_append]; rfl
theorem preL_all {P : List (Nat × List Nat)} {i : Nat} (h : P.length ≤ i) : preL P i = (wrL P).length := by rw [preL, List.take_of_length_le h]
theorem preL_lt {P : List (Nat × List Nat)} {i : Nat} (h : i < P.length) : preL P i < preL P (i + 1) := by
  rw [preL_succ (List.getElem?_eq_getElem h)]
  have := wr1_pos P[i]
  omega
theorem preL_mono {P : List (Nat × List Nat)} {i j : Nat} (h : i < j) (hj : j ≤ P.length) : preL P i < preL P j := by
  induction j with
  | zero => omega
  | succ j ih =>
    rcases Nat.lt_or_ge i j with h1 | h1
    · exact Nat.lt_trans (ih h1 (by omega)) (preL_lt (by omega))
    · obtain rfl : i = j := by omega
      exact preL_lt (by omega)
/-- A cut stands behind an item, or in one. -/
theorem cut_ways {P : List (Nat × List Nat)} {k : Nat} (hk : k ≤ (wrL P).length) : (∃ i, i ≤ P.length ∧ preL P i = k) ∨ ∃ i x, P[i]? = some x ∧ preL P i < k ∧ k < preL P (i + 1) := by
  have key : ∀ n, n ≤ P.length → (∃ i, i ≤ n ∧ preL P i = k) ∨ (∃ i x, P[i]? = some x ∧ preL P i < k ∧ k < preL P (i + 1)) ∨ preL P n < k := fun n => by
    induction n with
    | zero =>
      intro _
      by_cases h : k = 0
      · exact .inl ⟨0, Nat.le_refl _, by rw [preL_zero, h]⟩
      · exact .inr (.inr (by rw [preL_zero]; omega))
    | succ n ih =>
      intro hn
      rcases ih (by omega) with ⟨i, h1, h2⟩ | h | h
      · exact .inl ⟨i, by omega, h2⟩
      · exact .inr (.inl h)
      · rcases Nat.lt_trichotomy (preL P (n + 1)) k with h1 | h1 | h1
        · exact .inr (.inr h1)
        · exact .inl ⟨n + 1, Nat.le_refl _, h1⟩
        · exact .inr (.inl ⟨n, P[n], List.getElem?_eq_getElem (by omega), h, h1⟩)
  rcases key P.length (Nat.le_refl _) with h | h | h
  · exact .inl h
  · exact .inr h
  · rw [preL_all (Nat.le_refl _)] at h; omega
theorem wrL_split (P : List (Nat × List Nat)) (i : Nat) : wrL P = wrL (P.take i) ++ wrL (P.drop i) := by rw [← wrL_app, List.take_append_drop]
theorem cut_at {P : List (Nat × List Nat)} {i k : Nat} (h : preL P i = k) : (wrL P).take k = wrL (P.take i) := by
  rw [wrL_split P i, ← h, preL, List.take_left]
theorem cut_in {P : List (Nat × List Nat)} {i k : Nat} {x : Nat × List Nat} (hx : P[i]? = some x) (h1 : preL P i < k) (h2 : k < preL P (i + 1)) : (wrL P).take k = wrL (P.take i) ++ (wr1 x).take (k - preL P i) := by
  have e : P.drop i = [x] ++ P.drop (i + 1) := by
    have hi := (List.getElem?_eq_some_iff.1 hx).1
    rw [List.drop_eq_getElem_cons hi]
    have := (List.getElem?_eq_some_iff.1 hx).2
    rw [this]; rfl
  rw [preL_succ hx] at h2
  rw [wrL_split P i, e, wrL_app, wrL_one, List.take_append, List.take_of_length_le (by rw [preL] at h1; omega), show (wrL (P.take i)).length = preL P i from rfl, List.take_append_of_le_length (by omega)]
theorem rdD_cut {P : List (Nat × List Nat)} (hf : fitsL P) (hs : (wrL P).length ≤ 65536) {i k : Nat} {x : Nat × List Nat} (hx : P[i]? = some x) (h1 : preL P i < k) (h2 : k < preL P (i + 1)) : rdD ((wrL P).take k) = (3, []) := by
  have hi := (List.getElem?_eq_some_iff.1 hx).1
  have hfi := fits_take hf i
  have hl : ((wrL P).take k).length ≤ 65536 := by rw [List.length_take]; omega
  have hlen : ((wrL P).take k).length = (wrL (P.take i)).length + (k - preL P i) := by
    rw [cut_in hx h1 h2, List.length_append, List.length_take]
    have := preL_succ hx
    omega
  rw [rdD, if_neg (by omega)]
  have hfu : (wrL (P.take i)).length + (k - preL P i) ≤ ((wrL P).take k).length := by omega
  generalize ((wrL P).take k).length = F at *
  rw [cut_in hx h1 h2]
  have := preL_succ hx
  exact rdL_cut (P.take i) F 0 x (k - preL P i) hfi.2 (hf.2 x (List.mem_of_getElem? hx)) (by omega) (by omega) (by rw [List.length_take]; have := hf.1; omega) hfu
end Go.Proofs.Ytlpalhagndmpjaa
namespace Go.Proofs.Ytlpalhagndmpjaa
open Go.RowKit
set_option linter.unusedVariables false
set_option linter.unusedSimpArgs false
set_option maxRecDepth 100000
def toIt (x : Att) : It := (x.1.toNat, x.2.1, x.2.2)
def itA (l : List Ab) : List (Nat × List Nat) := l.map fun x => (x.1.toNat, x.2)
def packA (l : List Ab) : List Nat := wrL (itA l)
theorem itP_toIt (l : List Att) : itP (l.map toIt) = itA (abs l) := by simp [itP, itA, abs, toIt, It.p]
theorem fitsB_len {x : Ab} (h : fitsB x = true) : x.2.length ≤ 64 := fitsB_le h
theorem itA_fits {l : List Ab} (h : AbOk l) : fitsL (itA l) := ⟨by rw [itA, List.length_map]; have := h.len; omega, fun x hx => by
  obtain ⟨y, hy, rfl⟩ := List.mem_map.1 hx
  have := fitsB_len (h.each y hy).2.2
  show y.2.length ≤ 4096
  omega⟩
theorem isF_of {Φ Ψ : World → Prop} {v : Value} {l : List It} (h : CsF Φ v l.length (itsC l)) (h' : ∀ x ∈ l, x.1 < 256 ∧ BL x.2.2.length x.2.2 ∧ ∀ w, Ψ w → Cs w x.2.1 x.2.2.length (bl x.2.2)) : IsF (fun w => Φ w ∧ Ψ w) v l :=
  ⟨⟨h.ln, fun w hw => h.out w hw.1⟩, fun w hw => ⟨h.out w hw.1, fun x hx => (h' x hx).1, fun x hx => ⟨(h' x hx).2.2 w hw.2, (h' x hx).2.1⟩⟩⟩
set_option maxHeartbeats 2000000 in
theorem pack_err (w : World) {v : Value} {l : List Att} {e : Int} (h : Ats w v l) (he : chkA (abs l) = e) (h0 : e ≠ 0) : Calls Try.prog 19 [v].toArray w (Ret (.tuple #[.slice none 0 0, .int .i64 e]) w) := by
  haveI := h.old
  have NE := fun w' (h : Ats w' v l) => norm_err w' h he h0
  have t1 : (e != 0) = true := by simpa using h0
  clear h he
  refine fn_ret (N := _) Try.func19 rfl Try.ntmps19 Try.results19 (by simp) ?_
  simp only [initS, Nat.reduceAdd, Nat.zero_add]
  repeat' (first | (refine wlS ?_) | (refine wlB ?_) | ((with_reducible refine sel_call ?_); refine wl_rd rfl rfl (rd_call rfl rfl rfl (fun w hm => by with_reducible exact NE w (VwT.out w hm))) ?_) | (refine wlE ?_) | (refine efSvao ?_; intro v oa ho) | (refine efBnn ?_; intro n hn) | (refine efB ?_) | (refine efBS ?_) | (refine wl_skip rfl rfl ?_) | ((with_reducible refine wc_seq ?_); intro K hK) | (refine auC ?_) | (refine wc_cond rfl (fun hc => ?_) (fun hc => ?_)) | (refine wc_draw (by kernel_rfl) (by kernel_rfl) (by decide +kernel) ?_; intro w0 hw0 hm0; (try simp only [List.append_eq, List.cons_append, List.nil_append])) | (refine auP ?_) | ((refine auR ?_); clear hK K) | (refine auR ?_) | ((with_reducible refine hK _ _ ?_); clear hK K) | fail)
  first | refine end_ret (ResP.tmp rfl (ResP.tmp rfl ResP.nil)) ?_ | refine end_normal (ResP.tmp rfl (ResP.tmp rfl ResP.nil)) ?_
  first | rfl | (show _ = _; rfl) | (simp only [tupV, *]; done)
set_option maxHeartbeats 8000000 in
theorem pack_ok (w : World) {v : Value} {l : List Att} (h : Ats w v l) (hk : AbOk (abs l)) : Calls Try.prog 19 [v].toArray w (RetO (fun b : Value => .tuple #[b, .int .i64 0]) (fun b oa => ∃ m, IsNorm m (abs l) ∧ OwnB 5 b (packA m).length (packA m) oa) w) := by
  haveI := h.old
  have NO := fun w' (h : Ats w' v l) => norm_ok w' h hk
  have WR := fun w' {b : Value} {q : List It} (hf : fitsL (itP q)) (h : Its w' b q) => write_ok w' h hf
  have t0 : ((0 : Int) != 0) = false := rfl
  clear h
  refine fn_own (N := _) Try.func19 rfl Try.ntmps19 Try.results19 (by simp) ?_
  simp only [initS, Nat.reduceAdd, Nat.zero_add]
  repeat' (first | (refine wlS ?_) | (refine wlB ?_) | (refine wlE ?_) | (refine efSvao ?_; intro v oa ho) | ((with_reducible refine sel_call ?_); first | (refine wl_newO rfl rfl rfl rfl rfl (fun w hm => by with_reducible exact NO w (VwT.out w hm)) ?_; intro x oa hx)) | (refine efBnn ?_; intro n hn) | (refine efB ?_) | (refine efBS ?_) | (refine wl_skip rfl rfl ?_) | ((with_reducible refine wc_seq ?_); intro K hK) | (refine auC ?_) | (refine wc_cond rfl (fun hc => ?_) (fun hc => ?_)) | (refine wc_draw (by kernel_rfl) (by kernel_rfl) (by decide +kernel) ?_; intro w0 hw0 hm0; (try simp only [List.append_eq, List.cons_append, List.nil_append])) | (refine auP ?_) | ((refine auR ?_); clear hK K) | (refine auR ?_) | ((with_reducible refine hK _ _ ?_); clear hK K) | fail)
  obtain ⟨u, rfl⟩ : ∃ u, u = x := ⟨x, rfl⟩
  obtain ⟨its, hot, hnm⟩ := hx
  obtain ⟨o1, rfl⟩ : ∃ o1, o1 = oa := ⟨oa, rfl⟩
  have hbod := hot.bod
  haveI hA := hot.atf
  haveI := hot.cs
  have hab := norm_okA hk hnm
  have hil : its.length ≤ 24 := by have := hab.len; rwa [abs_len] at this
  repeat' (first | (refine wlS ?_) | (refine wlB ?_) | (refine wlE ?_) | (refine efSvao ?_; intro v oa ho) | (refine efBnn ?_; intro n hn) | (refine efB ?_) | (refine efBS ?_) | (refine wl_skip rfl rfl ?_) | ((with_reducible refine wc_seq ?_); intro K hK) | (refine auC ?_) | (refine wc_cond rfl (fun hc => ?_) (fun hc => ?_)) | (refine wc_draw (by kernel_rfl) (by kernel_rfl) (by decide +kernel) ?_; intro w0 hw0 hm0; (try simp only [List.append_eq, List.cons_append, List.nil_append])) | (refine auP ?_) | ((refine auR ?_); clear hK K) | (refine auR ?_) | ((with_reducible refine hK _ _ ?_); clear hK K) | fail)
  refine wc_loop (σ := Nat × Value × Blks) (fun x => [(5, x.2.1), (16, u), (17, .int .i64 (its.length : Int)), (18, .int .i64 (x.1 : Int))]) (fun x => o1 ++ x.2.2) (fun x => x.1 ≤ its.length ∧ OwnL 64 2 x.2.1 x.1 (itsC ((its.take x.1).map toIt)) x.2.2) (fun x => its.length - x.1) (0, .slice none 0 0, [])
    ⟨Nat.zero_le _, OwnL.nil _ _⟩ (Fits.of ⟨rfl, rfl, rfl, rfl, trivial⟩ (by rw [List.append_nil]; exact SubL.refl _) rfl) ?_
  rintro ⟨i, vi, oi⟩ ⟨hi, ho⟩
  dsimp only at hi ho ⊢
  by_cases hlt : i < its.length
  · obtain ⟨⟨k, bv, p⟩, hlx⟩ : ∃ x, its[i]? = some x := ⟨its[i]'(by omega), List.getElem?_eq_getElem _⟩
    have hmem := List.mem_of_getElem? hlx
    have hget := atsC_get hlx
    obtain ⟨hk1, hk2, _⟩ := hab.each (k, p) (List.mem_map.2 ⟨_, hmem, rfl⟩)
    haveI : One bv := ⟨hbod.one' _ hmem⟩
    dsimp only at hget hk1 hk2
    have u1 : decide ((i : Int) < (its.length : Int)) = true := decide_eq_true (by omega)
    have u2 : IntKind.i64.wrap ((i : Int) + 1) = ((i + 1 : Nat) : Int) := by rw [wrap_i64 _ (by omega) (by omega)]; omega
    have u3 : IntKind.u8.wrap k = ((k.toNat : Nat) : Int) := by rw [wrap_u8 _ (by omega) (by omega)]; omega
    have j1 : (i : Int) < (its.length : Int) := by omega
    clear NO WR hbod hab hnm
    repeat' (first | (refine wlS ?_) | (refine wlB ?_) | (refine wlE ?_) | (refine efSvao ?_; intro v oa ho) | (refine efZCnn ?_; intro n hn) | (refine efBnn ?_; intro n hn) | (refine efB ?_) | (refine efBS ?_) | (refine wl_skip rfl rfl ?_) | ((with_reducible refine wc_seq ?_); intro K hK) | (refine auC ?_) | (refine wc_cond rfl (fun hc => ?_) (fun hc => ?_)) | (refine wc_draw (by kernel_rfl) (by kernel_rfl) (by decide +kernel) ?_; intro w0 hw0 hm0; (try simp only [List.append_eq, List.cons_append, List.nil_append])) | (refine auP ?_) | ((refine auR ?_); clear hK K) | (refine auR ?_) | ((with_reducible refine hK _ _ ?_); clear hK K) | fail)
    refine ⟨(i + 1, v, oa), ⟨hlt, ?_⟩, by dsimp only; omega, Fits.of ⟨rfl, rfl, rfl, rfl, trivial⟩ ?_ rfl⟩
    · dsimp only
      rw [List.take_add_one, hlx, List.map_append, itsC_app]
      exact ho
    · dsimp only
      repeat (first | exact SubL.nil | exact SubL.refl _ | refine SubL.keep ?_ | exact SubL.headA _ _ | refine SubL.keepA ?_ _ | refine SubL.skip ?_ | refine SubL.skipA ?_ _)
  · obtain rfl : i = its.length := by omega
    have u1 : decide ((its.length : Int) < (its.length : Int)) = false := decide_eq_false (by omega)
    rw [List.take_length] at ho
    haveI hF : IsF _ vi (its.map toIt) := isF_of (Φ := Hd oi) (Ψ := Hd o1) (by rw [List.length_map]; exact OwnL.cs (h := ho)) (fun x hx => by
      obtain ⟨y, hy, rfl⟩ := List.mem_map.1 hx
      have h1 := hab.each (y.1, y.2.2) (List.mem_map.2 ⟨_, hy, rfl⟩)
      dsimp only at h1
      exact ⟨by show y.1.toNat < 256; omega, (hbod y hy).1.1, (hbod y hy).2⟩)
    have WR1 := fun w' (h : Its w' vi (its.map toIt)) => WR w' (by rw [itP_toIt]; exact itA_fits hab) h
    have hpk : wrL (itP (its.map toIt)) = packA (abs its) := by rw [itP_toIt]; rfl
    rw [hpk] at WR1
    clear NO WR hbod
    repeat' (first | (refine wlS ?_) | (refine wlB ?_) | (refine wlE ?_) | (refine efSvao ?_; intro v oa ho) | ((with_reducible refine sel_call ?_); first | (refine wl_newO rfl rfl rfl rfl rfl (fun w hm => by with_reducible exact WR1 w (VwI.out w hm)) ?_; intro x oa hx)) | (refine efBnn ?_; intro n hn) | (refine efB ?_) | (refine efBS ?_) | (refine wl_skip rfl rfl ?_) | ((with_reducible refine wc_seq ?_); intro K hK) | (refine auC ?_) | (refine wc_cond rfl (fun hc => ?_) (fun hc => ?_)) | (refine wc_draw (by kernel_rfl) (by kernel_rfl) (by decide +kernel) ?_; intro w0 hw0 hm0; (try simp only [List.append_eq, List.cons_append, List.nil_append])) | (refine auP ?_) | ((refine auR ?_); clear hK K) | (refine auR ?_) | ((with_reducible refine hK _ _ ?_); clear hK K) | fail)
    first | refine end_ret (ResP.tmp rfl (ResP.tmp rfl ResP.nil)) ?_ | refine end_normal (ResP.tmp rfl (ResP.tmp rfl ResP.nil)) ?_
    (try dsimp only [tupV])
    exact ⟨_, _, rfl, ⟨_, hnm, hx⟩, by
      repeat (first | exact SubL.nil | exact SubL.refl _ | refine SubL.keep ?_ | exact SubL.headA _ _ | refine SubL.keepA ?_ _ | refine SubL.skip ?_ | refine SubL.skipA ?_ _)⟩
end Go.Proofs.Ytlpalhagndmpjaa
namespace Go.Proofs.Ytlpalhagndmpjaa
open Go.RowKit
set_option linter.unusedVariables false
set_option linter.unusedSimpArgs false
set_option maxRecDepth 100000
def toAb (l : List (Nat × List Nat)) : List Ab := l.map fun x => ((x.1 : Int), x.2)
/-- What is unpacked. -/
structure GoodA (p : List Nat) : Prop where
  rd : (rdD p).1 = 0
  ok : AbOk (toAb (rdD p).2)
  rises : Rises (toAb (rdD p).2)
def toAt (x : It) : Att := ((x.1 : Int), x.2.1, x.2.2)
theorem abs_toAt (l : List It) : abs (l.map toAt) = toAb (l.map It.p) := by simp [abs, toAb, toAt, It.p]
/-- What is told of what is not unpacked. -/
def unE (p : List Nat) : Int := if (rdD p).1 ≠ 0 then ((rdD p).1 : Int) else if chkA (toAb (rdD p).2) ≠ 0 then chkA (toAb (rdD p).2) else 1
/-- What Unpack answers. -/
def UnP (p : List Nat) (x : Value × Int) (oa : Blks) : Prop := (x.2 = unE p ∧ x.1 = .slice none 0 0 ∧ oa = [] ∧ ¬ GoodA p) ∨ (x.2 = 0 ∧ GoodA p ∧ ∃ its, OwnT x.1 its oa ∧ abs its = toAb (rdD p).2)
theorem rises_adj {l : List Ab} (h : ∀ i x y, l[i]? = some x → l[i + 1]? = some y → x.1 < y.1) : Rises l := by
  induction l with
  | nil => exact List.Pairwise.nil
  | cons a r ih =>
    have hr := ih fun i x y hx hy => h (i + 1) x y (by simpa using hx) (by simpa using hy)
    refine List.Pairwise.cons (fun b hb => ?_) hr
    cases r with
    | nil => cases hb
    | cons c s =>
      have h1 := h 0 a c rfl rfl
      rcases List.mem_cons.1 hb with rfl | hb
      · exact h1
      · have := (List.pairwise_cons.1 hr).1 b hb
        omega
theorem Rises.adj {l : List Ab} (h : Rises l) {i : Nat} {x y : Ab} (hx : l[i]? = some x) (hy : l[i + 1]? = some y) : x.1 < y.1 := by
  have := List.pairwise_iff_getElem.1 h i (i + 1) (List.getElem?_eq_some_iff.1 hx).1 (List.getElem?_eq_some_iff.1 hy).1 (by omega)
  rw [(List.getElem?_eq_some_iff.1 hx).2, (List.getElem?_eq_some_iff.1 hy).2] at this
  exact this
set_option maxHeartbeats 16000000 in
theorem unpack_c (w : World) {v : Value} {n : Nat} {p : List Nat} (h : Cb w v n p) : Calls Try.prog 18 [v].toArray w (RetO (fun x : Value × Int => .tuple #[x.1, .int .i64 x.2]) (UnP p) w) := by
  have i0 := h.old
  have hpb := h.ok.by'
  by_cases he : (rdD p).1 ≠ 0
  · have RN := fun w' (h : Cb w' v n p) => read_no w' h rfl he
    have hno : ¬ GoodA p := fun h => he h.rd
    have t1 : (((rdD p).1 : Int) != 0) = true := by simp only [bne_iff_ne, ne_eq]; omega
    have hi0 : (((rdD p).1 : Nat) : Int) ≠ 0 := by omega
    have hun : ((rdD p).1 : Int) = unE p := by rw [unE, if_pos he]
    clear h he
    generalize (rdD p).1 = e at *
    refine fn_own (N := _) Try.func18 rfl Try.ntmps18 Try.results18 (by simp) ?_
    simp only [initS, Nat.reduceAdd, Nat.zero_add]
    repeat' (first | (refine wlS ?_) | (refine wlB ?_) | ((with_reducible refine sel_call ?_); refine wl_rd rfl rfl (rd_call rfl rfl rfl (fun w hm => by with_reducible exact RN w (VwB.out w hm))) ?_) | (refine wlE ?_) | (refine efSvao ?_; intro v oa ho) | (refine efBnn ?_; intro n hn) | (refine efB ?_) | (refine efBS ?_) | (refine wl_skip rfl rfl ?_) | (refine wdS ?_) | (refine wdV ?_) | (refine wdB ?_) | (refine wd_skip rfl rfl ?_) | ((with_reducible refine seld_nil ?_); refine wd_nil hm0 ?_; clear hm0 hw0) | ((with_reducible refine wc_seq ?_); intro K hK) | (refine auC ?_) | (refine wc_cond rfl (fun hc => ?_) (fun hc => ?_)) | (refine wc_draw (by kernel_rfl) (by kernel_rfl) (by decide +kernel) ?_; intro w0 hw0 hm0; (try simp only [List.append_eq, List.cons_append, List.nil_append])) | (refine auP ?_) | ((refine auR ?_); clear hK K) | (refine auR ?_) | ((with_reducible refine hK _ _ ?_); clear hK K) | fail)
    first | refine end_ret (ResP.tmp rfl (ResP.tmp rfl ResP.nil)) ?_ | refine end_normal (ResP.tmp rfl (ResP.tmp rfl ResP.nil)) ?_
    (try dsimp only [tupV])
    exact ⟨(.slice none 0 0, (e : Int)), [], rfl, .inl ⟨hun, rfl, rfl, hno⟩, .nil⟩
  have he' : (rdD p).1 = 0 := Decidable.of_not_not he
  obtain ⟨L, hL⟩ : ∃ L, L = (rdD p).2 := ⟨_, rfl⟩
  have RY := fun w' (h : Cb w' v n p) => read_yes w' h (l := L) (Prod.ext he' hL.symm)
  have htag : ∀ x ∈ L, x.1 < 256 := by
    have := rdD_back hpb he'
    rw [hL]
    intro x hx
    unfold rdD at he' hx
    by_cases hl : p.length > 65536
    · rw [if_pos hl] at he'; simp at he'
    · rw [if_neg hl] at he' hx
      exact ((rdL_back p.length 0 p hpb (Nat.le_refl _) he' (by omega)).2.1 x hx).2
  have hLl : L.length ≤ 200 := by rw [hL]; exact (rdD_back hpb he').2.1
  have t0 : (((0 : Nat) : Int) != 0) = false := rfl
  have t00 : ((0 : Int) != 0) = false := rfl
  clear h he
  refine fn_own (N := _) Try.func18 rfl Try.ntmps18 Try.results18 (by simp) ?_
  simp only [initS, Nat.reduceAdd, Nat.zero_add]
  repeat' (first | (refine wlS ?_) | (refine wlB ?_) | (refine wlE ?_) | (refine efSvao ?_; intro v oa ho) | ((with_reducible refine sel_call ?_); first | (refine wl_newO rfl rfl rfl rfl rfl (fun w hm => by with_reducible exact RY w (VwB.out w hm)) ?_; intro x oa hx)) | (refine efBnn ?_; intro n hn) | (refine efB ?_) | (refine efBS ?_) | (refine wl_skip rfl rfl ?_) | (refine wdS ?_) | (refine wdV ?_) | (refine wdB ?_) | (refine wd_skip rfl rfl ?_) | ((with_reducible refine seld_nil ?_); refine wd_nil hm0 ?_; clear hm0 hw0) | ((with_reducible refine wc_seq ?_); intro K hK) | (refine auC ?_) | (refine wc_cond rfl (fun hc => ?_) (fun hc => ?_)) | (refine wc_draw (by kernel_rfl) (by kernel_rfl) (by decide +kernel) ?_; intro w0 hw0 hm0; (try simp only [List.append_eq, List.cons_append, List.nil_append])) | (refine auP ?_) | ((refine auR ?_); clear hK K) | (refine auR ?_) | ((with_reducible refine hK _ _ ?_); clear hK K) | fail)
  obtain ⟨u, its⟩ := x
  obtain ⟨hmap, hown⟩ := hx
  dsimp only at hmap hown
  obtain ⟨on, ob, rfl, hol, hbod⟩ := hown.out
  haveI := hol
  have hil : its.length ≤ 200 := by have := congrArg List.length hmap; rw [List.length_map] at this; omega
  have hab : abs (its.map toAt) = toAb L := by rw [abs_toAt, hmap]
  dsimp only
  repeat' (first | (refine wlS ?_) | (refine wlB ?_) | (refine wlE ?_) | (refine efSvao ?_; intro v oa ho) | (refine efBnn ?_; intro n hn) | (refine efB ?_) | (refine efBS ?_) | (refine wl_skip rfl rfl ?_) | (refine wdS ?_) | (refine wdV ?_) | (refine wdB ?_) | (refine wd_skip rfl rfl ?_) | ((with_reducible refine seld_nil ?_); refine wd_nil hm0 ?_; clear hm0 hw0) | ((with_reducible refine wc_seq ?_); intro K hK) | (refine auC ?_) | (refine wc_cond rfl (fun hc => ?_) (fun hc => ?_)) | (refine wc_draw (by kernel_rfl) (by kernel_rfl) (by decide +kernel) ?_; intro w0 hw0 hm0; (try simp only [List.append_eq, List.cons_append, List.nil_append])) | (refine auP ?_) | ((refine auR ?_); clear hK K) | (refine auR ?_) | ((with_reducible refine hK _ _ ?_); clear hK K) | fail)
  refine wc_loop (σ := Nat × Value × Blks) (fun x => [(6, x.2.1), (19, u), (20, .int .i64 (its.length : Int)), (21, .int .i64 (x.1 : Int))]) (fun x => on ++ (ob ++ x.2.2)) (fun x => x.1 ≤ its.length ∧ OwnL 29 2 x.2.1 x.1 (atsC ((its.take x.1).map toAt)) x.2.2) (fun x => its.length - x.1) (0, .slice none 0 0, [])
    ⟨Nat.zero_le _, OwnL.nil _ _⟩ (Fits.of ⟨rfl, rfl, rfl, rfl, trivial⟩ (by rw [List.append_nil]; exact SubL.refl _) rfl) ?_
  rintro ⟨i, vi, oi⟩ ⟨hi, ho⟩
  dsimp only at hi ho ⊢
  by_cases hlt : i < its.length
  · obtain ⟨⟨k, bv, q⟩, hlx⟩ : ∃ x, its[i]? = some x := ⟨its[i]'(by omega), List.getElem?_eq_getElem _⟩
    have hmem := List.mem_of_getElem? hlx
    have hget := itsC_get hlx
    obtain ⟨hk1, hk2, _⟩ := hbod _ hmem
    dsimp only at hget hk1 hk2
    haveI := hk2.2
    have u1 : decide ((i : Int) < (its.length : Int)) = true := decide_eq_true (by omega)
    have u2 : IntKind.i64.wrap ((i : Int) + 1) = ((i + 1 : Nat) : Int) := by rw [wrap_i64 _ (by omega) (by omega)]; omega
    have u3 : IntKind.i64.wrap (k : Int) = (k : Int) := by rw [wrap_i64 _ (by omega) (by omega)]
    have j1 : (i : Int) < (its.length : Int) := by omega
    clear RY hbod hab hmap
    repeat' (first | (refine wlS ?_) | (refine wlB ?_) | (refine wlE ?_) | (refine efSvao ?_; intro v oa ho) | (refine efZCnn ?_; intro n hn) | (refine efBnn ?_; intro n hn) | (refine efB ?_) | (refine efBS ?_) | (refine wl_skip rfl rfl ?_) | (refine wdS ?_) | (refine wdV ?_) | (refine wdB ?_) | (refine wd_skip rfl rfl ?_) | ((with_reducible refine seld_nil ?_); refine wd_nil hm0 ?_; clear hm0 hw0) | ((with_reducible refine wc_seq ?_); intro K hK) | (refine auC ?_) | (refine wc_cond rfl (fun hc => ?_) (fun hc => ?_)) | (refine wc_draw (by kernel_rfl) (by kernel_rfl) (by decide +kernel) ?_; intro w0 hw0 hm0; (try simp only [List.append_eq, List.cons_append, List.nil_append])) | (refine auP ?_) | ((refine auR ?_); clear hK K) | (refine auR ?_) | ((with_reducible refine hK _ _ ?_); clear hK K) | fail)
    refine ⟨(i + 1, v, oa), ⟨hlt, ?_⟩, by dsimp only; omega, Fits.of ⟨rfl, rfl, rfl, rfl, trivial⟩ ?_ rfl⟩
    · dsimp only
      rw [List.take_add_one, hlx, List.map_append, atsC_app]
      exact ho
    · dsimp only
      repeat (first | exact SubL.nil | exact SubL.refl _ | refine SubL.keep ?_ | exact SubL.headA _ _ | refine SubL.keepA ?_ _ | refine SubL.skip ?_ | refine SubL.skipA ?_ _)
  · obtain rfl : i = its.length := by omega
    have u1 : decide ((its.length : Int) < (its.length : Int)) = false := decide_eq_false (by omega)
    rw [List.take_length] at ho
    have hbF : BodF (Hd ob) (its.map toAt) := fun x hx => by
      obtain ⟨y, hy, rfl⟩ := List.mem_map.1 hx
      obtain ⟨h1, h2, h3⟩ := hbod y hy
      exact ⟨h2, h3⟩
    have ho' : OwnL 29 2 vi (its.map toAt).length (atsC (its.map toAt)) oi := by rw [List.length_map]; exact ho
    haveI hA : AtF _ vi (its.map toAt) := AtF.mk' (OwnL.cs (h := ho')) hbF
    have CK := fun w' (h : Ats w' vi (its.map toAt)) => check_a w' h
    rw [hab] at CK
    have hng : ∀ {P : Prop}, (P → AbOk (toAb L) ∧ Rises (toAb L)) → True := fun _ => trivial
    by_cases hc : chkA (toAb L) ≠ 0
    · have t1 : (chkA (toAb L) != 0) = true := by simpa using hc
      have hno : ¬ GoodA p := fun h => by
        have h2 := h.ok
        rw [← hL] at h2
        exact hc (chkA_zero.2 h2)
      have hun : chkA (toAb L) = unE p := by rw [unE, if_neg (by rw [he']; simp), ← hL, if_pos hc]
      clear RY hbod hab hmap hng
      generalize chkA (toAb L) = e at *
      repeat' (first | (refine wlS ?_) | (refine wlB ?_) | ((with_reducible refine sel_call ?_); refine wl_rd rfl rfl (rd_call rfl rfl rfl (fun w hm => by with_reducible exact CK w (VwT.out w hm))) ?_) | (refine wlE ?_) | (refine efSvao ?_; intro v oa ho) | (refine efBnn ?_; intro n hn) | (refine efB ?_) | (refine efBS ?_) | (refine wl_skip rfl rfl ?_) | (refine wdS ?_) | (refine wdV ?_) | (refine wdB ?_) | (refine wd_skip rfl rfl ?_) | ((with_reducible refine seld_nil ?_); refine wd_nil hm0 ?_; clear hm0 hw0) | ((with_reducible refine wc_seq ?_); intro K hK) | (refine auC ?_) | (refine wc_cond rfl (fun hc => ?_) (fun hc => ?_)) | (refine wc_draw (by kernel_rfl) (by kernel_rfl) (by decide +kernel) ?_; intro w0 hw0 hm0; (try simp only [List.append_eq, List.cons_append, List.nil_append])) | (refine auP ?_) | ((refine auR ?_); clear hK K) | (refine auR ?_) | ((with_reducible refine hK _ _ ?_); clear hK K) | fail)
      first | refine end_ret (ResP.tmp rfl (ResP.tmp rfl ResP.nil)) ?_ | refine end_normal (ResP.tmp rfl (ResP.tmp rfl ResP.nil)) ?_
      (try dsimp only [tupV])
      exact ⟨(.slice none 0 0, e), [], rfl, .inl ⟨hun, rfl, rfl, hno⟩, .nil⟩
    · have hc' : chkA (toAb L) = 0 := Decidable.of_not_not hc
      have hok := chkA_zero.1 hc'
      rw [hc'] at CK
      have hTl : (toAb L).length = its.length := by rw [← hab, abs_len, List.length_map]
      have hlm : (its.map toAt).length = its.length := List.length_map ..
      haveI hcs := hA.cs
      rw [hlm] at hcs
      clear RY hc hng
      repeat' (first | (refine wlS ?_) | (refine wlB ?_) | ((with_reducible refine sel_call ?_); refine wl_rd rfl rfl (rd_call rfl rfl rfl (fun w hm => by with_reducible exact CK w (VwT.out w hm))) ?_) | (refine wlE ?_) | (refine efSvao ?_; intro v oa ho) | (refine efBnn ?_; intro n hn) | (refine efB ?_) | (refine efBS ?_) | (refine wl_skip rfl rfl ?_) | (refine wdS ?_) | (refine wdV ?_) | (refine wdB ?_) | (refine wd_skip rfl rfl ?_) | ((with_reducible refine seld_nil ?_); refine wd_nil hm0 ?_; clear hm0 hw0) | ((with_reducible refine wc_seq ?_); intro K hK) | (refine auC ?_) | (refine wc_cond rfl (fun hc => ?_) (fun hc => ?_)) | (refine wc_draw (by kernel_rfl) (by kernel_rfl) (by decide +kernel) ?_; intro w0 hw0 hm0; (try simp only [List.append_eq, List.cons_append, List.nil_append])) | (refine auP ?_) | ((refine auR ?_); clear hK K) | (refine auR ?_) | ((with_reducible refine hK _ _ ?_); clear hK K) | fail)
      refine wc_loop (σ := Nat) (fun i => [(6, vi), (10, .int .i64 (i : Int))]) (fun _ => on ++ (ob ++ oi)) (fun i => 1 ≤ i ∧ i ≤ its.length + 1 ∧ ∀ j x y, j + 1 < i → (toAb L)[j]? = some x → (toAb L)[j + 1]? = some y → x.1 < y.1) (fun i => its.length + 1 - i) 1 ⟨Nat.le_refl _, by omega, fun j x y hj => by omega⟩ (Fits.of ⟨rfl, rfl, trivial⟩ (SubL.refl _) rfl) ?_
      rintro i ⟨hi1, hi2, hup⟩
      by_cases hlt2 : i < its.length
      · have u4 : decide ((i : Int) < (its.length : Int)) = true := decide_eq_true (by omega)
        have u2 : IntKind.i64.wrap ((i : Int) + 1) = ((i + 1 : Nat) : Int) := by rw [wrap_i64 _ (by omega) (by omega)]; omega
        have u3 : IntKind.i64.wrap ((i : Int) - 1) = ((i - 1 : Nat) : Int) := by rw [wrap_i64 _ (by omega) (by omega)]; omega
        obtain ⟨⟨k, bv, p1⟩, hx1⟩ : ∃ x, (its.map toAt)[i - 1]? = some x := ⟨(its.map toAt)[i - 1]'(by rw [List.length_map]; omega), List.getElem?_eq_getElem _⟩
        obtain ⟨⟨m, bw, q1⟩, hx2⟩ : ∃ x, (its.map toAt)[i]? = some x := ⟨(its.map toAt)[i]'(by rw [List.length_map]; omega), List.getElem?_eq_getElem _⟩
        have g1 := atsC_kind hx1
        have g2 := atsC_kind hx2
        have a1 := abs_get hx1
        have a2 := abs_get hx2
        rw [hab] at a1 a2
        have j1 : (i : Int) < (its.length : Int) := by omega
        have j2 : ((i - 1 : Nat) : Int) < (its.length : Int) := by omega
        dsimp only at g1 g2 a1 a2
        by_cases hkm : m ≤ k
        · have u5 : decide (m ≤ k) = true := decide_eq_true hkm
          have hno : ¬ GoodA p := fun h => by
            have h2 := h.rises
            rw [← hL] at h2
            have := h2.adj (i := i - 1) a1 (by rw [show i - 1 + 1 = i by omega]; exact a2)
            dsimp only at this
            omega
          have hun : (1 : Int) = unE p := by rw [unE, if_neg (by rw [he']; simp), ← hL, if_neg (by rw [hc']; simp)]
          clear CK hbod hab hmap
          repeat' (first | (refine wlS ?_) | (refine wlB ?_) | (refine wlE ?_) | (refine efSvao ?_; intro v oa ho) | (refine efBnn ?_; intro n hn) | (refine efB ?_) | (refine efBS ?_) | (refine wl_skip rfl rfl ?_) | (refine wdS ?_) | (refine wdV ?_) | (refine wdB ?_) | (refine wd_skip rfl rfl ?_) | ((with_reducible refine seld_nil ?_); refine wd_nil hm0 ?_; clear hm0 hw0) | ((with_reducible refine wc_seq ?_); intro K hK) | (refine auC ?_) | (refine wc_cond rfl (fun hc => ?_) (fun hc => ?_)) | (refine wc_draw (by kernel_rfl) (by kernel_rfl) (by decide +kernel) ?_; intro w0 hw0 hm0; (try simp only [List.append_eq, List.cons_append, List.nil_append])) | (refine auP ?_) | ((refine auR ?_); clear hK K) | (refine auR ?_) | ((with_reducible refine hK _ _ ?_); clear hK K) | fail)
          first | refine end_ret (ResP.tmp rfl (ResP.tmp rfl ResP.nil)) ?_ | refine end_normal (ResP.tmp rfl (ResP.tmp rfl ResP.nil)) ?_
          (try dsimp only [tupV])
          exact ⟨((.slice none 0 0 : Value), (1 : Int)), [], rfl, .inl ⟨hun, rfl, rfl, hno⟩, .nil⟩
        · have u5 : decide (m ≤ k) = false := decide_eq_false hkm
          have hup2 : ∀ j x y, j + 1 < i + 1 → (toAb L)[j]? = some x → (toAb L)[j + 1]? = some y → x.1 < y.1 := fun j x y hj hx hy => by
            rcases Nat.lt_or_ge (j + 1) i with h | h
            · exact hup j x y h hx hy
            · obtain rfl : j = i - 1 := by omega
              rw [show i - 1 + 1 = i by omega] at hy
              rw [a1] at hx; rw [a2] at hy
              cases hx; cases hy
              show k < m
              omega
          clear CK hbod hab hmap hup
          repeat' (first | (refine wlS ?_) | (refine wlB ?_) | (refine wlE ?_) | (refine efSvao ?_; intro v oa ho) | (refine efBnn ?_; intro n hn) | (refine efB ?_) | (refine efBS ?_) | (refine wl_skip rfl rfl ?_) | (refine wdS ?_) | (refine wdV ?_) | (refine wdB ?_) | (refine wd_skip rfl rfl ?_) | ((with_reducible refine seld_nil ?_); refine wd_nil hm0 ?_; clear hm0 hw0) | ((with_reducible refine wc_seq ?_); intro K hK) | (refine auC ?_) | (refine wc_cond rfl (fun hc => ?_) (fun hc => ?_)) | (refine wc_draw (by kernel_rfl) (by kernel_rfl) (by decide +kernel) ?_; intro w0 hw0 hm0; (try simp only [List.append_eq, List.cons_append, List.nil_append])) | (refine auP ?_) | ((refine auR ?_); clear hK K) | (refine auR ?_) | ((with_reducible refine hK _ _ ?_); clear hK K) | fail)
          exact ⟨i + 1, ⟨by omega, by omega, hup2⟩, by omega, Fits.of ⟨rfl, rfl, trivial⟩ (SubL.refl _) rfl⟩
      · have u4 : decide ((i : Int) < (its.length : Int)) = false := decide_eq_false (by omega)
        have hris : Rises (toAb L) := rises_adj fun j x y hx hy => hup j x y (by have := (List.getElem?_eq_some_iff.1 hy).1; omega) hx hy
        clear CK
        repeat' (first | (refine wlS ?_) | (refine wlB ?_) | (refine wlE ?_) | (refine efSvao ?_; intro v oa ho) | (refine efBnn ?_; intro n hn) | (refine efB ?_) | (refine efBS ?_) | (refine wl_skip rfl rfl ?_) | (refine wdS ?_) | (refine wdV ?_) | (refine wdB ?_) | (refine wd_skip rfl rfl ?_) | ((with_reducible refine seld_nil ?_); refine wd_nil hm0 ?_; clear hm0 hw0) | ((with_reducible refine wc_seq ?_); intro K hK) | (refine auC ?_) | (refine wc_cond rfl (fun hc => ?_) (fun hc => ?_)) | (refine wc_draw (by kernel_rfl) (by kernel_rfl) (by decide +kernel) ?_; intro w0 hw0 hm0; (try simp only [List.append_eq, List.cons_append, List.nil_append])) | (refine auP ?_) | ((refine auR ?_); clear hK K) | (refine auR ?_) | ((with_reducible refine hK _ _ ?_); clear hK K) | fail)
        first | refine end_ret (ResP.tmp rfl (ResP.tmp rfl ResP.nil)) ?_ | refine end_normal (ResP.tmp rfl (ResP.tmp rfl ResP.nil)) ?_
        (try dsimp only [tupV])
        refine ⟨(vi, 0), ob ++ oi, rfl, .inr ⟨rfl, ⟨he', by rw [← hL]; exact hok, by rw [← hL]; exact hris⟩, its.map toAt, ⟨oi, ob, fun q hq => (List.mem_append.1 hq).elim (fun h => List.mem_append_right _ h) (fun h => List.mem_append_left _ h), ho', hbF⟩, by rw [hab, hL]⟩, ?_⟩
        repeat (first | exact SubL.nil | exact SubL.refl _ | refine SubL.keep ?_ | exact SubL.headA _ _ | refine SubL.keepA ?_ _ | refine SubL.skip ?_ | refine SubL.skipA ?_ _)
theorem unE_ne (p : List Nat) : unE p ≠ 0 := by
  unfold unE
  split
  · omega
  · split
    · assumption
    · decide
theorem unpack_bad (w : World) {v : Value} {n : Nat} {p : List Nat} (h : Cb w v n p) (hg : ¬ GoodA p) : Calls Try.prog 18 [v].toArray w (Ret (.tuple #[.slice none 0 0, .int .i64 (unE p)]) w) :=
  (unpack_c w h).mono fun e w2 ⟨x, oa, he, hx, hu⟩ => by
    rcases hx with ⟨h1, h2, h3, _⟩ | ⟨_, h2, _⟩
    · subst h3
      exact ⟨by rw [he]; dsimp only; rw [h1, h2], hu.below⟩
    · exact absurd h2 hg
theorem unpack_good (w : World) {v : Value} {n : Nat} {p : List Nat} (h : Cb w v n p) (hg : GoodA p) : Calls Try.prog 18 [v].toArray w (RetO (fun u : Value => .tuple #[u, .int .i64 0]) (fun u oa => ∃ its, OwnT u its oa ∧ abs its = toAb (rdD p).2) w) :=
  (unpack_c w h).mono fun e w2 ⟨x, oa, he, hx, hu⟩ => by
    rcases hx with ⟨_, _, _, h4⟩ | ⟨h1, _, h3⟩
    · exact absurd hg h4
    · exact ⟨x.1, oa, by rw [he]; dsimp only; rw [h1], h3, hu⟩
end Go.Proofs.Ytlpalhagndmpjaa
namespace Go.Proofs.Ytlpalhagndmpjaa
theorem itA_toAb (L : List (Nat × List Nat)) : itA (toAb L) = L := by
  unfold itA toAb
  rw [List.map_map]
  conv => rhs; rw [← List.map_id L]
  exact List.map_congr_left fun x _ => rfl
theorem toAb_itA {m : List Ab} (h : ∀ x ∈ m, 1 ≤ x.1) : toAb (itA m) = m := by
  unfold itA toAb
  rw [List.map_map]
  conv => rhs; rw [← List.map_id m]
  refine List.map_congr_left fun x hx => ?_
  have := h x hx
  show (((x.1.toNat : Nat) : Int), x.2) = x
  exact Prod.ext (by dsimp only; omega) rfl
end Go.Proofs.Ytlpalhagndmpjaa
namespace Go.Proofs.Ytlpalhagndmpjaa.AttrOneWalk
open Go.RowKit
set_option linter.unusedVariables false
set_option linter.unusedSimpArgs false
set_option maxRecDepth 100000 in
set_option maxHeartbeats 8000000 in
theorem walk (w : World) {v : Value} {n : Nat} {p : List Nat} (h : Cb w v n p) : Calls Try.prog 5 [v].toArray w (Ret (.bool true) w) := by
  have i0 := h.old
  have hpb := h.ok.by'
  by_cases hg : GoodA p
  · have UN := fun w' (h : Cb w' v n p) => unpack_good w' h hg
    have t1 : ((0 : Int) != 0) = false := rfl
    have t2 : ((0 : Int) == 0) = true := rfl
    clear h
    refine fn_ret (N := _) Try.func5 rfl Try.ntmps5 Try.results5 (by simp) ?_
    simp only [initS, Nat.reduceAdd, Nat.zero_add]
    repeat' (first | (refine wlS ?_) | (refine wlB ?_) | (refine wlE ?_) | (refine efSvao ?_; intro v oa ho) | ((with_reducible refine sel_call ?_); first | (refine wl_newO rfl rfl rfl rfl rfl (fun w hm => by with_reducible exact UN w (VwB.out w hm)) ?_; intro x oa hx)) | (refine wl_skip rfl rfl ?_) | ((with_reducible refine wc_seq ?_); intro K hK) | (refine auC ?_) | (refine wc_cond rfl (fun hc => ?_) (fun hc => ?_)) | (refine wc_draw (by kernel_rfl) (by kernel_rfl) (by decide +kernel) ?_; intro w0 hw0 hm0; (try simp only [List.append_eq, List.cons_append, List.nil_append])) | (refine auP ?_) | ((refine auR ?_); clear hK K) | (refine auR ?_) | ((with_reducible refine hK _ _ ?_); clear hK K) | fail)
    obtain ⟨u, rfl⟩ : ∃ u, u = x := ⟨x, rfl⟩
    obtain ⟨its, hot, hab⟩ := hx
    haveI hA := hot.atf
    have hok := hg.ok
    rw [← hab] at hok
    have hpk : ∀ m, IsNorm m (abs its) → packA m = p := fun m hm => by
      have : m = abs its := IsNorm.only hm ⟨by rw [hab]; exact hg.rises, .refl _⟩
      rw [this, hab, packA, itA_toAb]
      exact (rdD_back hpb hg.rd).1
    have PK := fun w' (h : Ats w' u its) => (pack_ok w' h hok).mono (R' := RetO (fun b : Value => .tuple #[b, .int .i64 0]) (fun b oa => OwnB 5 b n p oa) w') (fun e w2 ⟨x, ob, he, ⟨m, hm, ho⟩, hu⟩ => ⟨x, ob, he, by
      rw [hpk m hm] at ho
      have := i0.ok.len
      rw [this] at ho
      exact ho, hu⟩)
    have hb : (p == p) = true := by simp
    have BE := fun w' {v u : Value} {n m : Nat} {p q : List Nat} {r : Bool} (hv : Cb w' v n p) (hu : Cb w' u m q) (h : (p == q) = r) => beq_r w' hv hu h
    clear UN hg hab hok hpk
    repeat' (first | (refine wlS ?_) | (refine wlB ?_) | ((with_reducible refine sel_call ?_); refine wl_rd rfl rfl (rd_call rfl rfl rfl (fun w hm => by with_reducible exact BE w (VwB.out w hm) (VwB.out w hm) (by with_reducible assumption))) ?_) | (refine wlE ?_) | (refine efSvao ?_; intro v oa ho) | ((with_reducible refine sel_call ?_); first | (refine wl_newO rfl rfl rfl rfl rfl (fun w hm => by with_reducible exact PK w (VwT.out w hm)) ?_; intro x oa hx)) | (refine wl_skip rfl rfl ?_) | ((with_reducible refine wc_seq ?_); intro K hK) | (refine auC ?_) | (refine wc_cond rfl (fun hc => ?_) (fun hc => ?_)) | (refine wc_draw (by kernel_rfl) (by kernel_rfl) (by decide +kernel) ?_; intro w0 hw0 hm0; (try simp only [List.append_eq, List.cons_append, List.nil_append])) | (refine auP ?_) | ((refine auR ?_); clear hK K) | (refine auR ?_) | ((with_reducible refine hK _ _ ?_); clear hK K) | fail)
    first | refine end_ret (ResP.tmp rfl ResP.nil) ?_ | refine end_normal (ResP.tmp rfl ResP.nil) ?_
    first | rfl | (show _ = _; rfl) | (simp only [tupV, *]; done)
  · have UN := fun w' (h : Cb w' v n p) => unpack_bad w' h hg
    have t1 : (unE p != 0) = true := by simpa using unE_ne p
    have t2 : (((0 : Nat) : Int) == 0) = true := rfl
    clear h
    generalize unE p = e at *
    refine fn_ret (N := _) Try.func5 rfl Try.ntmps5 Try.results5 (by simp) ?_
    simp only [initS, Nat.reduceAdd, Nat.zero_add]
    repeat' (first | (refine wlS ?_) | (refine wlB ?_) | ((with_reducible refine sel_call ?_); refine wl_rd rfl rfl (rd_call rfl rfl rfl (fun w hm => by with_reducible exact UN w (VwB.out w hm))) ?_) | (refine wlE ?_) | (refine efSvao ?_; intro v oa ho) | (refine wl_skip rfl rfl ?_) | ((with_reducible refine wc_seq ?_); intro K hK) | (refine auC ?_) | (refine wc_cond rfl (fun hc => ?_) (fun hc => ?_)) | (refine wc_draw (by kernel_rfl) (by kernel_rfl) (by decide +kernel) ?_; intro w0 hw0 hm0; (try simp only [List.append_eq, List.cons_append, List.nil_append])) | (refine auP ?_) | ((refine auR ?_); clear hK K) | (refine auR ?_) | ((with_reducible refine hK _ _ ?_); clear hK K) | fail)
    first | refine end_ret (ResP.tmp rfl ResP.nil) ?_ | refine end_normal (ResP.tmp rfl ResP.nil) ?_
    first | rfl | (show _ = _; rfl) | (simp only [tupV, *]; done)
end Go.Proofs.Ytlpalhagndmpjaa.AttrOneWalk
