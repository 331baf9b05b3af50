/- Bytes that are told as strings; bytes.Equal. -/
import Derived.Test.YtglbnbdeoenilaaOwnB
import Derived.Test.YtglbnbdeoenilaaTyS
import Derived.Laws.BytesArg
import Derived.Laws.Strings
namespace Go.Proofs.Ytglbnbdeoenilaa
open Go.RowKit
set_option linter.unusedVariables false
set_option linter.unusedSimpArgs false
def strB (l : List Nat) : ByteArray := strOfNums (l.map fun k : Nat => (k : Int))
theorem strB_data (l : List Nat) : (strB l).data.toList = l.map UInt8.ofNat := by
  rw [strB, strOfNums_data, List.map_map]
  apply List.map_congr_left
  intro k _
  simp
theorem strB_size (l : List Nat) : (strB l).size = l.length := by rw [strB, strOfNums_size, List.length_map]
theorem ofNat_inj {a b : Nat} (ha : a < 256) (hb : b < 256) (h : UInt8.ofNat a = UInt8.ofNat b) : a = b := by
  have := congrArg UInt8.toNat h
  rwa [UInt8.toNat_ofNat', UInt8.toNat_ofNat', Nat.mod_eq_of_lt ha, Nat.mod_eq_of_lt hb] at this
theorem map_inj {p q : List Nat} (hp : ∀ x ∈ p, x < 256) (hq : ∀ x ∈ q, x < 256) (h : p.map UInt8.ofNat = q.map UInt8.ofNat) : p = q := by
  induction p generalizing q with
  | nil => cases q with
    | nil => rfl
    | cons b r => simp at h
  | cons a r ih => cases q with
    | nil => simp at h
    | cons b r' =>
      simp only [List.map_cons, List.cons.injEq] at h
      rw [ofNat_inj (hp a (by simp)) (hq b (by simp)) h.1, ih (fun x hx => hp x (by simp [hx])) (fun x hx => hq x (by simp [hx])) h.2]
theorem strB_inj {n m : Nat} {p q : List Nat} (hp : BL n p) (hq : BL m q) : strB p = strB q ↔ p = q := by
  refine ⟨fun h => ?_, fun h => by rw [h]⟩
  have h1 := congrArg (fun b => b.data.toList) h
  simp only [strB_data] at h1
  exact map_inj hp.by' hq.by' h1
theorem cs_string {P : Program} {w : World} {v : Value} {n src dst e : Nat} {p : List Nat} (hb : Cb w v n p) (hs : P.underlying src = some (.slice e)) (he : P.underlying e = some (.int .u8)) (hd : P.underlying dst = some .string) :
    (convert src dst v).run P w = .ok (.string (strB p)) w := by
  have hp := hb.ok
  have h := hb.cs
  clear hb
  obtain ⟨q, cap, rfl, h1, h2, h3⟩ := h.ln.out
  rcases Nat.eq_zero_or_pos n with h0 | h0
  · have hp0 : p = [] := List.eq_nil_of_length_eq_zero (by rw [hp.len, h0])
    subst hp0
    cases q with
    | none => rw [run_convert_bytes_nil w src e hs he n cap dst hd]; rfl
    | some a =>
      obtain ⟨b, off, spot⟩ := a
      have hl : (loadCells ⟨b, off, spot⟩ n).run P w = .ok (([] : List Int).map (Value.int .u8)).toArray w := by subst h0; simp [loadCells, loadCellsFrom]
      rw [run_convert_bytes_string w src dst e _ n cap hs he hd, run_bytesToString w _ n cap [] hl]
      rfl
  · obtain ⟨b, off, rfl⟩ := h3 h0
    refine run_convert_bytes_arg w src e hs he b off n cap (p.map fun k : Nat => (k : Int)) (by rw [List.length_map, hp.len]) (fun i hi => ?_) dst hd
    obtain ⟨b', off', cap', hv, hc⟩ := h.cell i (.int .u8 ((p.getD i 0 : Nat) : Int)) (bl_get (by rw [hp.len]; exact hi))
    injection hv with hv
    injection hv with hv
    injection hv with hb ho
    subst hb; subst ho
    rw [hc]
    have hi' : i < p.length := by rw [hp.len]; exact hi
    simp [List.getD, hi']
section
variable {X : Cx} {s : Slots} {l : Blks} {o : Oper} {v : Value}
theorem rd_convS {src dst e n : Nat} {x : Operand} {p : List Nat} (ho : o.op = .convert src dst x) (hx : val s x = some v) [hs : UT X.P src (.slice e)] [he : UT X.P e (.int .u8)] [hd : UT X.P dst .string] [hv : VwB X l v n p] : RdV X s l o (.string (strB p)) :=
  rd_val fun a w hev hm => by
    simp only [execOp, ho, hev.eval hx, Sem.run_bind, cs_string (hv.out w hm) hs.out he.out hd.out, Result.andThen_ok, Sem.run_pure]
theorem rd_eqlS {t yt : Nat} {x y : Operand} {a b : ByteArray} {r : Bool} (ho : o.op = .binOp .eql t x y yt) (hx : val s x = some (.string a)) (hy : val s y = some (.string b)) (hr : (a.toList == b.toList) = r := by first | (with_reducible assumption) | rfl) : RdV X s l o (.bool r) :=
  rd_val fun e w he hm => by
    subst hr
    simp only [execOp, ho, he.eval hx, he.eval hy, eqGuard]
    simp [binOp_string_eql]
end
theorem strB_beq {n m : Nat} {p q : List Nat} (hp : BL n p) (hq : BL m q) : ((strB p).toList == (strB q).toList) = (p == q) := by
  rw [Bool.eq_iff_iff, beq_iff_eq, beq_iff_eq, ← strB_inj hp hq, ByteArray.toList_eq, ByteArray.toList_eq]
  constructor
  · intro h
    cases h1 : strB p; cases h2 : strB q
    rw [h1, h2] at h
    congr 1
    exact Array.ext' h
  · intro h; rw [h]
set_option maxHeartbeats 1000000 in
set_option maxRecDepth 100000 in
theorem beq_c (w : World) {v u : Value} {n m : Nat} {p q : List Nat} (hv : Cb w v n p) (hu : Cb w u m q) : Calls Try.prog 11 [v, u].toArray w (Ret (.bool (p == q)) w) := by
  haveI := hv.old
  haveI := hu.old
  have hr := strB_beq hv.ok hu.ok
  refine fn_ret (N := _) Try.func11 rfl Try.ntmps11 Try.results11 (by simp) ?_
  simp only [initS, Nat.reduceAdd, Nat.zero_add]
  repeat' (first | (with_reducible refine then_normal ?_) | ((with_reducible refine then_ret ?_); clear hK K) | ((with_reducible refine then_exit ?_); clear hK K) | (with_reducible refine then_exit ?_) | (with_reducible refine then_ret ?_) | (with_reducible refine inB_normal ?_) | (with_reducible refine inB_ret ?_) | (with_reducible refine inB_here ?_) | (with_reducible refine inB_out (by decide) ?_) | ((with_reducible refine hK _ _ ?_); clear hK K) | ((with_reducible refine sel_conv ?_); first | refine wl_rd rfl rfl (RdV.rd (rd_convS rfl rfl)) ?_ | refine wl_rd rfl rfl (RdV.rd (rd_conv rfl rfl)) ?_) | ((with_reducible refine sel_b_eql ?_); first | refine wl_rd rfl rfl (RdV.rd (rd_eqlS rfl rfl rfl)) ?_ | refine wl_rd rfl rfl (RdV.rd (rd_cm rfl rfl rfl rfl)) ?_ | refine wl_rd rfl rfl (RdV.rd (rd_eqlB rfl rfl rfl (by first | with_reducible assumption | rfl))) ?_) | ((with_reducible refine sel_move ?_); first | refine wl_rd rfl rfl (RdV.rd (rd_move rfl rfl)) ?_) | ((with_reducible refine sel_assign ?_); first | refine wl_rd rfl rfl (RdV.rd (rd_assign rfl rfl)) ?_) | (refine wl_skip rfl rfl ?_) | ((with_reducible refine wc_seq ?_); intro K hK) | ((with_reducible refine wc_region ?_); (try simp only [List.append_eq, List.cons_append, List.nil_append])) | (with_reducible refine wc_block ?_) | (with_reducible refine wc_skip ?_) | (with_reducible refine wc_exit ?_) | (with_reducible refine wc_ret ?_) | (with_reducible refine wc_label ?_) | ((with_reducible refine sel_cond ?_); first | refine wc_true rfl ?_ | refine wc_false rfl ?_ | refine wc_cond rfl (fun hc => ?_) (fun hc => ?_)) | (with_reducible refine wl_nil ?_))
  first | refine end_ret (ResP.tmp rfl ResP.nil) ?_ | refine end_normal (ResP.tmp rfl ResP.nil) ?_
  first | rfl | (show _ = _; rfl) | (simp only [tupV, *]; done)
theorem beq_r (w : World) {v u : Value} {n m : Nat} {p q : List Nat} {r : Bool} (hv : Cb w v n p) (hu : Cb w u m q) (h : (p == q) = r) : Calls Try.prog 11 [v, u].toArray w (Ret (.bool r) w) := by
  rw [← h]; exact beq_c w hv hu
end Go.Proofs.Ytglbnbdeoenilaa
