/- bytes.Compare, walked. -/
import Derived.Test.YtpcockfnljdilaaOwnB
import Derived.Test.YtpcockfnljdilaaTyS
import Derived.Lib.BytesEntry
namespace Go.Proofs.Ytpcockfnljdilaa
open Go.RowKit
set_option linter.unusedVariables false
set_option linter.unusedSimpArgs false
set_option maxRecDepth 100000
def bAr (p : List Nat) : ByteArray := ⟨(p.map fun k => k.toUInt8).toArray⟩
theorem bAr_size (p : List Nat) : (bAr p).size = p.length := by simp [bAr, ByteArray.size]
theorem bAr_get {p : List Nat} {i : Nat} (h : i < p.length) : (bAr p)[i]! = (p.getD i 0).toUInt8 := by
  have hi : i < (bAr p).size := by rw [bAr_size]; exact h
  rw [getElem!_pos (bAr p) i hi]
  show (p.map fun k => k.toUInt8).toArray[i]'(by simpa using h) = _
  simp [List.getD, h]
/-- What is compared. -/
def cmpB (p q : List Nat) : Int := Extern.BytealgCompare.cmp (bAr p) (bAr q)
theorem u8_inj {a b : Nat} (ha : a < 256) (hb : b < 256) (h : a.toUInt8 = b.toUInt8) : a = b := by
  have := congrArg UInt8.toNat h
  simp [Nat.toUInt8, UInt8.toNat_ofNat'] at this
  omega
theorem cmpB_lt {p q : List Nat} (hp : ∀ x ∈ p, x < 256) (hq : ∀ x ∈ q, x < 256) {i : Nat} (hi : i < p.length) (hl : p.length = q.length) (he : ∀ j, j < i → p.getD j 0 = q.getD j 0) (hlt : p.getD i 0 < q.getD i 0) : cmpB p q = -1 := by
  have hpi : p.getD i 0 < 256 := by rw [List.getD_eq_getElem?_getD, List.getElem?_eq_getElem hi]; exact hp _ (List.getElem_mem _)
  have hqi : q.getD i 0 < 256 := by rw [List.getD_eq_getElem?_getD, List.getElem?_eq_getElem (by omega)]; exact hq _ (List.getElem_mem _)
  have hf : (List.range (min (bAr p).size (bAr q).size)).find? (fun i => (bAr p)[i]! != (bAr q)[i]!) = some i := by
    rw [List.find?_range_eq_some]
    refine ⟨?_, ?_, fun j hj => ?_⟩
    · rw [bAr_get hi, bAr_get (by omega)]
      simp only [bne_iff_ne, ne_eq]
      intro h
      have := u8_inj hpi hqi h
      omega
    · rw [List.mem_range, bAr_size, bAr_size]; omega
    · rw [bAr_get (by omega), bAr_get (by omega), he j hj]; simp
  unfold cmpB Extern.BytealgCompare.cmp
  rw [hf]
  dsimp only
  rw [bAr_get hi, bAr_get (by omega), if_pos]
  generalize p.getD i 0 = x at *
  generalize q.getD i 0 = y at *
  rw [UInt8.lt_iff_toNat_lt]
  simp [Nat.toUInt8, UInt8.toNat_ofNat']
  omega
theorem run_bytesOf {P : Program} {w : World} {v : Value} {n : Nat} {p : List Nat} (h : Cb w v n p) : (Extern.Bytes.bytesOf v).run P w = .ok (bAr p) w := by
  obtain ⟨pv, cap, rfl, h1, h2, h3⟩ := h.cs.ln.out
  have hb : ∀ l : List Nat, (⟨ByteArray.empty.data ++ (Lib.bytesOf (l.map fun k : Nat => (k : Int))).toArray⟩ : ByteArray) = bAr l := fun l => by
    apply ByteArray.ext
    simp [bAr, Lib.bytesOf, Function.comp_def]
  cases pv with
  | none =>
    have hn : n = 0 := by
      rcases Nat.eq_zero_or_pos n with h | h
      · exact h
      · obtain ⟨b, off, he⟩ := h3 h; cases he
    have hp : p = [] := List.eq_nil_of_length_eq_zero (by rw [h.ok.len, hn])
    subst hp
    rfl
  | some a =>
    have hl := Lib.run_loadBytesX (P := P) w (p.map fun k : Nat => (k : Int)) a .empty (fun j x hj => by
      rw [List.getElem?_map, Option.map_eq_some_iff] at hj
      obtain ⟨k, hk, rfl⟩ := hj
      have hk' : (bl p)[j]? = some (.int .u8 (k : Int)) := by simp [bl, hk]
      obtain ⟨b, off, c, hv, hc⟩ := h.cs.cell j _ hk'
      injection hv with hv
      injection hv with hv
      subst hv
      rw [Addr.add_mid]; exact hc)
    rw [List.length_map, h.ok.len, hb] at hl
    exact hl
theorem run_compare {P : Program} {w : World} {v u : Value} {n m : Nat} {p q : List Nat} (hv : Cb w v n p) (hu : Cb w u m q) : (Extern.BytealgCompare.compare #[v, u]).run P w = .ok (.int .i64 (cmpB p q)) w := by
  show (do pure (goInt (Extern.BytealgCompare.cmp (← Extern.Bytes.bytesOf v) (← Extern.Bytes.bytesOf u))) : Sem Value).run P w = _
  rw [Sem.run_bind, run_bytesOf hv]
  simp only [Result.andThen_ok]
  rw [Sem.run_bind, run_bytesOf hu]
  simp only [Result.andThen_ok, Sem.run_pure]
  rfl
section
variable {X : Cx} {s : Slots} {l : Blks} {o : Oper}
theorem rd_extM {v : Value} {c : Call} {f : Nat} {vs : List Value} (ho : o.op = .call c) (hc : c.callee = .value (.func f)) (ha : vals s c.args.toList = some vs)
    (h : ∀ w, Mem X l w → (callFunc f vs.toArray).run X.P w = .ok (.value v) w) : RdV X s l o v := rd_val fun a w he hm => by
  rw [run_op_call ho hc he ha, h w hm]
end
set_option maxHeartbeats 2000000 in
theorem compare_c (w : World) {v u : Value} {n m : Nat} {p q : List Nat} (hv : Cb w v n p) (hu : Cb w u m q) : Calls Try.prog 17 [v, u].toArray w (Ret (.int .i64 (cmpB p q)) w) := by
  have i0 := hv.old
  have i1 := hu.old
  have XT : ∀ {v u : Value} w, Cb w v n p → Cb w u m q → (callFunc 35 [v, u].toArray).run Try.prog w = .ok (.value (.int .i64 (cmpB p q))) w := fun w h1 h2 => by
    rw [run_callFunc_extern (e := Extern.BytealgCompare.compare) (fn := Try.f35) (by kernel_rfl) (by kernel_rfl) (by kernel_rfl) (by kernel_rfl) (by kernel_rfl), run_compare h1 h2]
    rfl
  clear hv hu
  refine fn_ret (N := _) Try.func17 rfl Try.ntmps17 Try.results17 (by simp) ?_
  simp only [initS, Nat.reduceAdd, Nat.zero_add]
  repeat' (first | (with_reducible refine then_normal ?_) | ((with_reducible refine then_ret ?_); clear hK K) | ((with_reducible refine then_exit ?_); clear hK K) | (with_reducible refine then_exit ?_) | (with_reducible refine then_ret ?_) | (with_reducible refine inB_normal ?_) | (with_reducible refine inB_ret ?_) | (with_reducible refine inB_here ?_) | (with_reducible refine inB_out (by decide) ?_) | ((with_reducible refine hK _ _ ?_); clear hK K) | ((with_reducible refine sel_call ?_); first | (refine wl_appendB rfl rfl rfl rfl rfl ?_; intro v oa ho) | (refine wl_appendO rfl rfl rfl rfl rfl ?_; intro v oa ho) | refine wl_rd rfl rfl (RdV.rd (rd_lenO rfl rfl rfl rfl rfl)) ?_ | refine wl_rd rfl rfl (RdV.rd (rd_extM rfl rfl rfl (fun w hm => by with_reducible exact XT w (VwB.out w hm) (VwB.out w hm)))) ?_ | refine wl_rd rfl rfl (RdV.rd (rd_lenS rfl rfl rfl rfl rfl)) ?_) | ((with_reducible refine sel_move ?_); first | refine wl_rd rfl rfl (RdV.rd (rd_move rfl rfl)) ?_) | ((with_reducible refine sel_assign ?_); first | refine wl_rd rfl rfl (RdV.rd (rd_assign rfl rfl)) ?_) | (refine wl_skip rfl rfl ?_) | ((with_reducible refine wc_seq ?_); intro K hK) | ((with_reducible refine wc_region ?_); (try simp only [List.append_eq, List.cons_append, List.nil_append])) | (with_reducible refine wc_block ?_) | (with_reducible refine wc_skip ?_) | (with_reducible refine wc_exit ?_) | (with_reducible refine wc_ret ?_) | (with_reducible refine wc_label ?_) | ((with_reducible refine sel_cond ?_); first | refine wc_true rfl ?_ | refine wc_false rfl ?_ | refine wc_cond rfl (fun hc => ?_) (fun hc => ?_)) | (with_reducible refine wl_nil ?_))
  first | refine end_ret (ResP.tmp rfl ResP.nil) ?_ | refine end_normal (ResP.tmp rfl ResP.nil) ?_
  first | rfl | (show _ = _; rfl) | (simp only [tupV, *]; done)
end Go.Proofs.Ytpcockfnljdilaa
