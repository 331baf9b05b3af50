/- DerHexes: the walk. -/
import Derived.Test.YtglbnbdeoenilaaHexes
import Derived.Test.YtglbnbdeoenilaaBeq
import Derived.Test.YtglbnbdeoenilaaOpenStr
namespace Go.Proofs.Ytglbnbdeoenilaa.DerHexesWalk
open Go.RowKit
set_option linter.unusedVariables false
set_option linter.unusedSimpArgs false
set_option maxRecDepth 100000
theorem rdr_hex {p : List Nat} {x : Value × Int} {oa : Blks} (hb : ∀ x ∈ p, x < 256) (h : RdR (hexL p) x oa) : x.2 = 0 ∧ OwnB 5 x.1 p.length p oa := by
  rcases h with ⟨h1, d, hd, hown⟩ | ⟨_, _, hno⟩
  · have := hexL_inj hd.1 hb hd.2
    subst this
    exact ⟨h1, hown⟩
  · exact absurd ⟨hb, rfl⟩ (hno p)
set_option maxHeartbeats 16000000 in
theorem walk0 (w : World) {v : Value} {n : Nat} {p : List Nat} (hq : Cb w v n p) (hn : n ≤ 1048576) {s : List Nat} (hs : ∀ x ∈ s, x < 256) (hsl : s.length ≤ 4194304) :
    Calls Try.prog 3 [v, str s].toArray w (Ret (.bool true) w) := by
  haveI i1 := hq.old
  have hpl := hq.ok.len
  have hby := hq.ok.by'
  have HX : ∀ w', Cb w' v n p → Calls Try.prog 10 [v].toArray w' (Ret (str (hexL p)) w') := fun w' h => hex_c w' h (by omega)
  have RH : ∀ w', Calls Try.prog 9 [str (hexL p)].toArray w' (RetO (fun x : Value => .tuple #[x, .int .i64 0]) (fun x oa => OwnB 5 x n p oa) w') := fun w' =>
    (readhex_c w' (hexL_lt p) (by rw [hexL_len]; omega)).mono fun e w2 ⟨x, oa, he, hφ, hu⟩ => by
      obtain ⟨h1, h2⟩ := rdr_hex hby hφ
      obtain ⟨u, z⟩ := x
      dsimp only at h1 h2
      subst h1
      rw [hpl] at h2
      exact ⟨u, oa, he, h2, hu⟩
  have hl2 : (hexL p).length = 2 * n := by rw [hexL_len, hpl]
  have e0 : ((0 : Int) == 0) = true := rfl
  have hpp : (p == p) = true := by simp
  have k0 : IntKind.i64.wrap (2 * (n : Int)) = ((2 * n : Nat) : Int) := by rw [wrap_i64 _ (by omega) (by omega)]; omega
  have k1 : (((2 * n : Nat) : Int) == ((2 * n : Nat) : Int)) = true := by simp
  by_cases hd : ∃ d, RdH s d
  · obtain ⟨d, hd⟩ := hd
    have RS : ∀ w', Calls Try.prog 9 [str s].toArray w' (RetO (fun x : Value => .tuple #[x, .int .i64 0]) (fun x oa => OwnB 5 x d.length d oa) w') := fun w' =>
      (readhex_c w' hs hsl).mono fun e w2 ⟨x, oa, he, hφ, hu⟩ => by
        rcases hφ with ⟨h1, d', hd', hown⟩ | ⟨_, _, hno⟩
        · have := hexL_inj hd'.1 hd.1 (hd'.2.trans hd.2.symm)
          subst this
          obtain ⟨u, z⟩ := x
          dsimp only at h1 hown
          subst h1
          exact ⟨u, oa, he, hown, hu⟩
        · exact absurd hd (hno d)
    have hdl : d.length ≤ 1048576 * 2 := by
      have := hexL_len d
      rw [hd.2] at this
      omega
    have HD : ∀ {u : Value} w', Cb w' u d.length d → Calls Try.prog 10 [u].toArray w' (Ret (str s) w') := fun {u} w' h => by
      have := hex_c w' h hdl
      rwa [hd.2] at this
    have e1 : ((0 : Int) != 0) = false := rfl
    have hss : ((bAr s).toList == (bAr s).toList) = true := by simp
    clear hq hby hpl hs hsl hd hdl
    generalize hexL p = hp at *
    refine fn_ret (N := _) Try.func3 rfl Try.ntmps3 Try.results3 (by simp) ?_
    simp only [initS, Nat.reduceAdd, Nat.zero_add]
    repeat' (first | (with_reducible refine then_normal ?_) | ((with_reducible refine then_ret ?_); clear hK K) | ((with_reducible refine then_exit ?_); clear hK K) | (with_reducible refine then_exit ?_) | (with_reducible refine then_ret ?_) | (with_reducible refine inB_normal ?_) | (with_reducible refine inB_ret ?_) | (with_reducible refine inB_here ?_) | (with_reducible refine inB_out (by decide) ?_) | ((with_reducible refine hK _ _ ?_); clear hK K) | ((with_reducible refine sel_call ?_); first | (refine wl_appendB rfl rfl rfl rfl rfl ?_; intro v oa ho) | (refine wl_appendO rfl rfl rfl rfl rfl ?_; intro v oa ho) | (refine wl_newO rfl rfl rfl rfl rfl (fun w hm => by with_reducible exact RH w) ?_; intro x oa hx) | (refine wl_newO rfl rfl rfl rfl rfl (fun w hm => by with_reducible exact RS w) ?_; intro x oa hx) | refine wl_rd rfl rfl (rd_call rfl rfl rfl (fun w hm => by with_reducible exact HX w (VwB.out w hm))) ?_ | refine wl_rd rfl rfl (rd_call rfl rfl rfl (fun w hm => by with_reducible exact HD w (VwB.out w hm))) ?_ | refine wl_rd rfl rfl (rd_call rfl rfl rfl (fun w hm => by with_reducible exact beq_r w (VwB.out w hm) (VwB.out w hm) (by with_reducible assumption))) ?_ | refine wl_rd rfl rfl (RdV.rd (rd_lenO rfl rfl rfl rfl rfl)) ?_ | refine wl_rd rfl rfl (RdV.rd (rd_lenT rfl rfl rfl rfl rfl)) ?_ | refine wl_rd rfl rfl (RdV.rd (rd_lenS rfl rfl rfl rfl rfl)) ?_) | ((with_reducible refine sel_b_eql ?_); first | refine wl_rd rfl rfl (RdV.rd (rd_eqlS rfl rfl rfl)) ?_ | refine wl_rd rfl rfl (RdV.rd (rd_cm rfl rfl rfl rfl)) ?_ | refine wl_rd rfl rfl (RdV.rd (rd_eqlB rfl rfl rfl (by first | with_reducible assumption | rfl))) ?_ | refine wl_rd rfl rfl (RdV.rd (rd_eqT rfl rfl rfl)) ?_) | ((with_reducible refine sel_move ?_); first | refine wl_rd rfl rfl (RdV.rd (rd_move rfl rfl)) ?_) | ((with_reducible refine sel_assign ?_); first | refine wl_rd rfl rfl (RdV.rd (rd_assign rfl rfl)) ?_) | ((with_reducible refine sel_pick ?_); first | refine wl_rd rfl rfl (RdV.rd (rd_pick rfl rfl rfl rfl rfl)) ?_) | ((with_reducible refine sel_extract ?_); first | refine wl_rd rfl rfl (RdV.rd (rd_extract rfl rfl)) ?_) | ((with_reducible refine sel_b_neq ?_); first | refine wl_rd rfl rfl (RdV.rd (rd_cm rfl rfl rfl rfl)) ?_ | refine wl_rd rfl rfl (RdV.rd (rd_neqB rfl rfl rfl (by with_reducible assumption))) ?_) | ((with_reducible refine sel_b_mul ?_); first | refine wl_rd rfl rfl (RdV.rd (rd_ar rfl rfl rfl rfl)) ?_) | (refine wl_skip rfl rfl ?_) | ((with_reducible refine wc_seq ?_); intro K hK) | ((with_reducible refine wc_region ?_); (try simp only [List.append_eq, List.cons_append, List.nil_append])) | (with_reducible refine wc_block ?_) | (with_reducible refine wc_skip ?_) | (with_reducible refine wc_exit ?_) | (with_reducible refine wc_ret ?_) | (with_reducible refine wc_label ?_) | ((with_reducible refine sel_cond ?_); first | refine wc_true rfl ?_ | refine wc_false rfl ?_ | refine wc_cond rfl (fun hc => ?_) (fun hc => ?_)) | (with_reducible refine wl_nil ?_))
    first | refine end_ret (ResP.tmp rfl ResP.nil) ?_ | refine end_normal (ResP.tmp rfl ResP.nil) ?_
    first | rfl | (show _ = _; rfl) | (simp only [tupV, *]; done)
  · have RS : ∀ w', Calls Try.prog 9 [str s].toArray w' (RetO (fun x : Unit => .tuple #[.slice none 0 0, .int .i64 4]) (fun x oa => oa = []) w') := fun w' =>
      (readhex_c w' hs hsl).mono fun e w2 ⟨x, oa, he, hφ, hu⟩ => by
        rcases hφ with ⟨h1, d', hd', hown⟩ | ⟨rfl, h2, hno⟩
        · exact absurd ⟨d', hd'⟩ hd
        · exact ⟨(), oa, he, h2, hu⟩
    have e1 : ((4 : Int) != 0) = true := rfl
    have e2 : (((0 : Nat) : Int) == 0) = true := rfl
    clear hq hby hpl hs hsl hd
    generalize hexL p = hp at *
    refine fn_ret (N := _) Try.func3 rfl Try.ntmps3 Try.results3 (by simp) ?_
    simp only [initS, Nat.reduceAdd, Nat.zero_add]
    repeat' (first | (with_reducible refine then_normal ?_) | ((with_reducible refine then_ret ?_); clear hK K) | ((with_reducible refine then_exit ?_); clear hK K) | (with_reducible refine then_exit ?_) | (with_reducible refine then_ret ?_) | (with_reducible refine inB_normal ?_) | (with_reducible refine inB_ret ?_) | (with_reducible refine inB_here ?_) | (with_reducible refine inB_out (by decide) ?_) | ((with_reducible refine hK _ _ ?_); clear hK K) | ((with_reducible refine sel_call ?_); first | (refine wl_appendB rfl rfl rfl rfl rfl ?_; intro v oa ho) | (refine wl_appendO rfl rfl rfl rfl rfl ?_; intro v oa ho) | (refine wl_newO rfl rfl rfl rfl rfl (fun w hm => by with_reducible exact RH w) ?_; intro x oa hx) | (refine wl_newO rfl rfl rfl rfl rfl (fun w hm => by with_reducible exact RS w) ?_; intro x oa hx) | refine wl_rd rfl rfl (rd_call rfl rfl rfl (fun w hm => by with_reducible exact HX w (VwB.out w hm))) ?_ | refine wl_rd rfl rfl (rd_call rfl rfl rfl (fun w hm => by with_reducible exact beq_r w (VwB.out w hm) (VwB.out w hm) (by with_reducible assumption))) ?_ | refine wl_rd rfl rfl (RdV.rd (rd_lenO rfl rfl rfl rfl rfl)) ?_ | refine wl_rd rfl rfl (RdV.rd (rd_lenT rfl rfl rfl rfl rfl)) ?_ | refine wl_rd rfl rfl (RdV.rd (rd_lenS rfl rfl rfl rfl rfl)) ?_) | ((with_reducible refine sel_b_eql ?_); first | refine wl_rd rfl rfl (RdV.rd (rd_eqlS rfl rfl rfl)) ?_ | refine wl_rd rfl rfl (RdV.rd (rd_cm rfl rfl rfl rfl)) ?_ | refine wl_rd rfl rfl (RdV.rd (rd_eqlB rfl rfl rfl (by first | with_reducible assumption | rfl))) ?_ | refine wl_rd rfl rfl (RdV.rd (rd_eqT rfl rfl rfl)) ?_) | ((with_reducible refine sel_move ?_); first | refine wl_rd rfl rfl (RdV.rd (rd_move rfl rfl)) ?_) | ((with_reducible refine sel_assign ?_); first | refine wl_rd rfl rfl (RdV.rd (rd_assign rfl rfl)) ?_) | ((with_reducible refine sel_pick ?_); first | refine wl_rd rfl rfl (RdV.rd (rd_pick rfl rfl rfl rfl rfl)) ?_) | ((with_reducible refine sel_extract ?_); first | refine wl_rd rfl rfl (RdV.rd (rd_extract rfl rfl)) ?_) | ((with_reducible refine sel_b_neq ?_); first | refine wl_rd rfl rfl (RdV.rd (rd_cm rfl rfl rfl rfl)) ?_ | refine wl_rd rfl rfl (RdV.rd (rd_neqB rfl rfl rfl (by with_reducible assumption))) ?_) | ((with_reducible refine sel_b_mul ?_); first | refine wl_rd rfl rfl (RdV.rd (rd_ar rfl rfl rfl rfl)) ?_) | (refine wl_skip rfl rfl ?_) | ((with_reducible refine wc_seq ?_); intro K hK) | ((with_reducible refine wc_region ?_); (try simp only [List.append_eq, List.cons_append, List.nil_append])) | (with_reducible refine wc_block ?_) | (with_reducible refine wc_skip ?_) | (with_reducible refine wc_exit ?_) | (with_reducible refine wc_ret ?_) | (with_reducible refine wc_label ?_) | ((with_reducible refine sel_cond ?_); first | refine wc_true rfl ?_ | refine wc_false rfl ?_ | refine wc_cond rfl (fun hc => ?_) (fun hc => ?_)) | (with_reducible refine wl_nil ?_))
    first | refine end_ret (ResP.tmp rfl ResP.nil) ?_ | refine end_normal (ResP.tmp rfl ResP.nil) ?_
    first | rfl | (show _ = _; rfl) | (simp only [tupV, *]; done)
theorem walk (w : World) {v : Value} {n : Nat} {p : List Nat} (hq : Cb w v n p) {u : Value} {s : List Nat} (hs : StI u s) (hn : n ≤ 1048576) (hm : s.length ≤ 4194304) :
    Calls Try.prog 3 #[v, u] w (Ret (.bool true) w) := by
  obtain ⟨rfl, hb⟩ := hs
  exact walk0 w hq hn hb hm
end Go.Proofs.Ytglbnbdeoenilaa.DerHexesWalk
