/- strings.Builder, made by the walk: WriteByte, String. -/
import Derived.Test.YtglbnbdeoenilaaBAr
import Derived.Test.YtglbnbdeoenilaaTyS
import Derived.Test.YtglbnbdeoenilaaSee
import Derived.Test.YtglbnbdeoenilaaUpd
import Derived.Test.YtglbnbdeoenilaaPn
import Derived.Test.YtglbnbdeoenilaaEqG
import Derived.Lib.Builder
import Derived.Lib.UnsafeStr
namespace Go.Proofs.Ytglbnbdeoenilaa
open Go.RowKit
set_option linter.unusedVariables false
set_option linter.unusedSimpArgs false
set_option maxRecDepth 100000
theorem shape_of {w : World} {b e : Nat} {c : Array Value} (h : w.heap[b]? = some (.cells c e)) : w.shape? b = some (e, c.size) := by simp [World.shape?, h]
theorem sz_info {P : Program} {t k : Nat} (h : SZ P t (k + 1)) : ∃ j, P.info? t = some j ∧ j.size ≠ 0 := by
  have := h.out
  cases hi : P.info? t with
  | none => simp [hi] at this
  | some j => simp [hi] at this; exact ⟨j, rfl, by omega⟩
section
variable {X : Cx} {s : Slots} {l : Blks} {o : Oper} {v : Value} {Q : Post} {ops : Array Oper} {r : List Oper}
theorem rd_toU {src dst t e b k : Nat} {x : Operand} {c : Array Value} (ho : o.op = .convert src dst x) (hx : val s x = some (ptr b)) (hh : Has X l b (c, e) := by first | (with_reducible assumption) | (refine Has.inn ?_; repeat (first | exact Inn.here | refine Inn.there ?_)))
    [h1 : UT X.P src (.pointer t)] [h2 : UT X.P dst .unsafePointer] [h3 : SZ X.P t (k + 1)] (hc : 0 < c.size := by simp) : RdV X s l o (ptr b) := rd_val fun a w he hm => by
  obtain ⟨j, hj, hj0⟩ := sz_info h3
  have hr := Lib.run_to_unsafe (P := X.P) w ⟨b, 0, none⟩ h1.out h2.out hj hj0 (shape_of (hh w hm)) hc
  simp only [execOp, ho, he.eval hx, Sem.run_bind, hr, Result.andThen_ok, Sem.run_pure]
theorem rd_fromU {src dst u e b k : Nat} {x : Operand} {c : Array Value} (ho : o.op = .convert src dst x) (hx : val s x = some (ptr b)) (hh : Has X l b (c, e) := by first | (with_reducible assumption) | (refine Has.inn ?_; repeat (first | exact Inn.here | refine Inn.there ?_)))
    [h1 : UT X.P src .unsafePointer] [h2 : UT X.P dst (.pointer u)] [h3 : SZ X.P u (k + 1)] (hl : liesAt X.P X.P.depth e (c.size / X.P.cellsOf e) 0 u 1 = true := by kernel_rfl) : RdV X s l o (ptr b) := rd_val fun a w he hm => by
  obtain ⟨j, hj, hj0⟩ := sz_info h3
  have hr := Lib.run_from_unsafe (P := X.P) w ⟨b, 0, none⟩ h1.out h2.out hj (shape_of (hh w hm)) hl
  simp only [execOp, ho, he.eval hx, Sem.run_bind, hr, Result.andThen_ok, Sem.run_pure]
theorem rd_neqS {src yt t b k : Nat} {x y : Operand} (ho : o.op = .binOp .neq src x y yt) (hx : val s x = some (ptr b)) (hy : val s y = some (ptr b)) [h1 : UT X.P src (.pointer t)] [h3 : SZ X.P t (k + 1)] (hg : X.P.eqGuardType X.P.depth src = false := by kernel_rfl) : RdV X s l o (.bool false) := rd_val fun a w he hm => by
  obtain ⟨j, hj, hj0⟩ := sz_info h3
  have hr := Lib.run_neq_ptr_same (P := X.P) w ⟨b, 0, none⟩ h1.out hj
  simp only [execOp, ho, he.eval hx, he.eval hy, eqGuard]
  simp [hr, hg]
theorem rd_uslice {c : Call} {x : Operand} {g n cap : Nat} (ho : o.op = .call c) (hc : c.callee = .builtin .unsafeSliceData) (ha : c.args = #[x]) (hx : val s x = some (.slice (some ⟨g, 0, none⟩) n cap)) (h0 : cap ≠ 0 := by first | (with_reducible assumption) | omega) : RdV X s l o (ptr g) := rd_val fun a w he hm => by
  have hr := Lib.run_unsafeSliceData_row (P := X.P) w c.argTypes o.type ⟨g, 0, none⟩ n cap h0
  simp only [execOp, ho, hc, ha, resolve, invoke, builtin, Sem.run_bind, Sem.run_pure, Result.andThen_ok, List.map_toArray, List.map_cons, List.map_nil, he.eval hx, hr]
theorem rd_uslice0 {c : Call} {x : Operand} (ho : o.op = .call c) (hc : c.callee = .builtin .unsafeSliceData) (ha : c.args = #[x]) (hx : val s x = some (.slice none 0 0)) : RdV X s l o (.pointer none) := rd_val fun a w he hm => by
  have hr := Lib.run_unsafeSliceData_nil (P := X.P) w c.argTypes o.type 0 0
  simp only [execOp, ho, hc, ha, resolve, invoke, builtin, Sem.run_bind, Sem.run_pure, Result.andThen_ok, List.map_toArray, List.map_cons, List.map_nil, he.eval hx, hr]
theorem rd_ustr0 {c : Call} {x y : Operand} {pt it : Nat} (ho : o.op = .call c) (hc : c.callee = .builtin .unsafeString) (ha : c.args = #[x, y]) (ht : c.argTypes = #[pt, it]) (hx : val s x = some (.pointer none)) (hy : val s y = some (.int .i64 (0 : Nat))) : RdV X s l o (str []) := rd_val fun a w he hm => by
  have hr := Lib.run_unsafeString_none (P := X.P) w pt it o.type none
  simp only [execOp, ho, hc, ha, ht, resolve, invoke, builtin, Sem.run_bind, Sem.run_pure, Result.andThen_ok, List.map_toArray, List.map_cons, List.map_nil, he.eval hx, he.eval hy]
  rw [show (Builtin.unsafeString_ #[pt, it] o.type #[.pointer none, .int .i64 ((0 : Nat) : Int)]).run X.P w = _ from hr]
  rfl
theorem freeze_upd {w : World} {g n e : Nat} {cur : Array Value} (h0 : n ≠ 0) : Upd w [(g, (cur, e))] (w.freeze ⟨g, 0, none⟩ n) [] := by
  unfold World.freeze
  rw [if_neg h0]
  refine ⟨rfl, rfl, rfl, by simp, fun k hk hn => ?_, by simp [keys], (fun p hp => by cases hp), (fun n hn => by cases hn)⟩
  simp only [keys, List.map_cons, List.map_nil, List.mem_singleton] at hn
  simp only [Array.getElem?_modify]
  rw [if_neg (fun e => hn e.symm)]
theorem wl_ustr {c : Call} {x y : Operand} {pt it e g n : Nat} {cur : Array Value} {p : List Nat} {f : Blks → Blks} {s' : Slots} (hg : gd s ops o = some true) (hd : dOk X.N o.dst = true) (ho : o.op = .call c) (hc : c.callee = .builtin .unsafeString) (ha : c.args = #[x, y]) (ht : c.argTypes = #[pt, it]) (hx : val s x = some (ptr g)) (hy : val s y = some (.int .i64 (n : Int)))
    [h1 : UT X.P pt (.pointer e)] [h2 : SZ X.P e 1] [hseg : Seg l [(g, (cur, e))] f] (h : Wl X ops Q r s' (f [])) (hn : n ≠ 0 := by first | (with_reducible assumption) | omega) (hp : p.length = n := by with_reducible assumption) (hb : ∀ x ∈ p, x < 256 := by with_reducible assumption) (hcur : cur.toList.take n = bl p := by with_reducible assumption) (hsm : n ≤ 9223372036854775807 := by first | (with_reducible assumption) | omega)
    (hs' : sputO s o.dst (str p) = s' := by (try dsimp only [sputO, sput, Nat.reduceBEq, cond_true, cond_false, beq_self_eq_true]); first | done | exact rfl) : Wl X ops Q (o :: r) s l := fun a w hst => by
  subst hs'
  have hw := gd_wanted hst.env hg
  have hd0 : w.heap[g]? = some (.cells cur e) := by
    obtain ⟨pre, post, rfl, _⟩ := hseg.out
    exact hst.mem.cls.now g cur e (mu_mem_of (by simp) hst.mem.nd)
  have hce : X.P.cellsOf e = 1 := by
    have := h2.out
    cases hi : X.P.info? e with
    | none => simp [hi] at this
    | some j => simp [hi] at this; simp [Program.cellsOf, hi, this]
  have hsz : n ≤ cur.size := by
    have := congrArg List.length hcur
    rw [bl_len, hp, List.length_take, Array.length_toList] at this
    omega
  have hr := Lib.run_unsafeString_row (P := X.P) w pt it o.type e h1.out hce g cur.size (shape_of hd0) (p.map fun k => k.toUInt8) (fun h => by rw [List.map_eq_nil_iff] at h; rw [h] at hp; exact hn hp.symm) (by simp; omega) (by simp; omega) (fun j u hj => by
    rw [List.getElem?_map, Option.map_eq_some_iff] at hj
    obtain ⟨q, hq, rfl⟩ := hj
    have hjl := (List.getElem?_eq_some_iff.1 hq).1
    have h8 := hb q (List.mem_of_getElem? hq)
    have h3 : (cur.toList.take n)[j]? = some (.int .u8 (q : Int)) := by rw [hcur]; simp [bl, hq]
    rw [List.getElem?_take_of_lt (by omega)] at h3
    rw [Addr.add_mid]
    simp only [World.cell?, hd0, Nat.zero_add]
    rw [← Array.getElem?_toList, h3]
    simp [Nat.toUInt8, UInt8.toNat_ofNat']
    omega)
  rw [List.length_map, hp] at hr
  unfold wpList
  rw [if_pos hw]
  refine .inl ?_
  unfold Oper.wp
  have : (execOp a.eval o).run X.P w = .ok (.value (str p)) (w.freeze ⟨g, 0, none⟩ n) := by
    simp only [execOp, ho, hc, ha, ht, resolve, invoke, builtin, Sem.run_bind, Sem.run_pure, Result.andThen_ok, List.map_toArray, List.map_cons, List.map_nil, hst.env.eval hx, hst.env.eval hy, hr]
    rfl
  rw [this]
  exact h _ _ ⟨hst.env.put hd _, (freeze_upd (w := w) (g := g) (e := e) (cur := cur) hn).mem hst.mem⟩
end
/-! ### The methods -/
theorem bptr_nil {n : Nat} (w : World) : (Op.equalIn 10000 60 (ptr n) (.pointer none)).run Try.prog w = .ok false w := by
  have h : Try.prog.underlying 60 = some (.pointer 62) := by kernel_rfl
  rw [show (10000 : Nat) = 9999 + 1 from rfl, Op.equalIn, Sem.run_bind, run_underlying h]
  rfl
theorem bptr_nil2 (w : World) : (Op.equalIn 10000 60 (.pointer none) (.pointer none)).run Try.prog w = .ok true w := by
  have h : Try.prog.underlying 60 = some (.pointer 62) := by kernel_rfl
  rw [show (10000 : Nat) = 9999 + 1 from rfl, Op.equalIn, Sem.run_bind, run_underlying h]
  rfl
instance putb0 {a b v : Value} : PutC #[a, b] 0 v #[v, b] := ⟨rfl⟩
instance putb1 {a b v : Value} : PutC #[a, b] 1 v #[a, v] := ⟨rfl⟩
instance one_ptr {n : Nat} : One (ptr n) := ⟨rfl⟩
set_option maxHeartbeats 2000000 in
theorem cc_c (w' : World) {g : Nat} {pv v : Value} [hv : One v] (hp : pv = .pointer none ∨ pv = ptr g) (hg : w'.heap[g]? = some (.cells #[pv, v] 62)) :
    Calls Try.prog 40 [ptr g].toArray w' (RetP (fun _ : Unit => .tuple #[]) g #[pv, v] 62 (fun _ c' => c' = #[ptr g, v]) w') := by
  have XT : ∀ w, (callFunc 54 [ptr g].toArray).run Try.prog w = .ok (.value (ptr g)) w := fun w => by
    rw [run_callFunc_extern (e := Extern.AbiNoEscape.same) (fn := Try.f54) (by kernel_rfl) (by kernel_rfl) (by kernel_rfl) (by kernel_rfl) (by kernel_rfl)]
    rfl
  have N1 := bptr_nil (n := g)
  have N2 := bptr_nil2
  rcases hp with rfl | rfl
  · refine fn_updP (N := _) Try.func40 rfl Try.ntmps40 Try.results40 (by simp) hg ?_
    simp only [initS, Nat.reduceAdd, Nat.zero_add]
    repeat' (first | (with_reducible refine then_normal ?_) | ((with_reducible refine then_ret ?_); clear hK K) | ((with_reducible refine then_exit ?_); clear hK K) | (with_reducible refine then_exit ?_) | (with_reducible refine then_ret ?_) | (with_reducible refine inB_normal ?_) | (with_reducible refine inB_ret ?_) | (with_reducible refine inB_here ?_) | (with_reducible refine inB_out (by decide) ?_) | ((with_reducible refine hK _ _ ?_); clear hK K) | ((with_reducible refine sel_fieldA ?_); first | refine wl_rd rfl rfl (RdV.rd (rd_fdO rfl rfl)) ?_ | refine wl_rd rfl rfl (RdV.rd (rd_fdA rfl rfl)) ?_) | ((with_reducible refine sel_load ?_); first | refine wl_rd rfl rfl (RdV.rd (rd_load rfl rfl ld_O)) ?_ | refine wl_rd rfl rfl (RdV.rd (rd_load rfl rfl ld_OR)) ?_ | refine wl_rd rfl rfl (RdV.rd (rd_load rfl rfl (ld_whole))) ?_ | refine wl_rd rfl rfl (RdV.rd (rd_load rfl rfl (ld_cell))) ?_ | refine wl_rd rfl rfl (RdV.rd (rd_load rfl rfl (ld_row))) ?_) | ((with_reducible refine sel_call ?_); first | (refine wl_appendB rfl rfl rfl rfl rfl ?_; intro v oa ho) | (refine wl_appendO rfl rfl rfl rfl rfl ?_; intro v oa ho) | refine wl_rd rfl rfl (RdV.rd (rd_lenO rfl rfl rfl rfl rfl)) ?_ | refine wl_rd rfl rfl (RdV.rd (rd_ext rfl rfl rfl (by with_reducible exact XT))) ?_ | refine wl_rd rfl rfl (RdV.rd (rd_lenS rfl rfl rfl rfl rfl)) ?_) | ((with_reducible refine sel_conv ?_); first | refine wl_rd rfl rfl (RdV.rd (rd_convS rfl rfl)) ?_ | refine wl_rd rfl rfl (RdV.rd (rd_conv rfl rfl)) ?_ | refine wl_rd rfl rfl (RdV.rd (rd_toU rfl rfl)) ?_ | refine wl_rd rfl rfl (RdV.rd (rd_fromU rfl rfl)) ?_) | ((with_reducible refine sel_b_eql ?_); first | refine wl_rd rfl rfl (RdV.rd (rd_eqlS rfl rfl rfl)) ?_ | refine wl_rd rfl rfl (RdV.rd (rd_cm rfl rfl rfl rfl)) ?_ | refine wl_rd rfl rfl (RdV.rd (rd_eqlB rfl rfl rfl (by first | with_reducible assumption | rfl))) ?_ | refine wl_rd rfl rfl (RdV.rd (rd_eqlPN rfl rfl rfl N2)) ?_) | ((with_reducible refine sel_move ?_); first | refine wl_rd rfl rfl (RdV.rd (rd_move rfl rfl)) ?_) | ((with_reducible refine sel_b_neq ?_); first | refine wl_rd rfl rfl (RdV.rd (rd_cm rfl rfl rfl rfl)) ?_) | ((with_reducible refine sel_nilc ?_); first | refine wl_rd rfl rfl (RdV.rd (rd_nilP rfl rfl)) ?_) | ((with_reducible refine sel_store ?_); first | refine wl_store rfl rfl (sv_whole rfl rfl rfl) ?_ | refine wl_store rfl rfl (sv_cell rfl rfl rfl rfl) ?_ | refine wl_store rfl rfl (sv_row rfl rfl rfl rfl) ?_ | refine wl_store rfl rfl (sv_cell rfl rfl rfl One.out) ?_ | refine wl_store rfl rfl (sv_row rfl rfl rfl (by simp only [List.all_cons, List.all_nil, One.out, Bool.and_true])) ?_) | (refine wl_skip rfl rfl ?_) | ((with_reducible refine wc_seq ?_); intro K hK) | ((with_reducible refine wc_region ?_); (try simp only [List.append_eq, List.cons_append, List.nil_append])) | (with_reducible refine wc_block ?_) | (with_reducible refine wc_skip ?_) | (with_reducible refine wc_exit ?_) | (with_reducible refine wc_ret ?_) | (with_reducible refine wc_label ?_) | ((with_reducible refine sel_cond ?_); first | refine wc_true rfl ?_ | refine wc_false rfl ?_ | refine wc_cond rfl (fun hc => ?_) (fun hc => ?_)) | (with_reducible refine wl_nil ?_))
    first | refine end_ret ResP.nil ?_ | refine end_normal ResP.nil ?_
    (try dsimp only [tupV])
    exact ⟨(), _, rfl, rfl, SubL.refl _⟩
  · refine fn_updP (N := _) Try.func40 rfl Try.ntmps40 Try.results40 (by simp) hg ?_
    simp only [initS, Nat.reduceAdd, Nat.zero_add]
    repeat' (first | (with_reducible refine then_normal ?_) | ((with_reducible refine then_ret ?_); clear hK K) | ((with_reducible refine then_exit ?_); clear hK K) | (with_reducible refine then_exit ?_) | (with_reducible refine then_ret ?_) | (with_reducible refine inB_normal ?_) | (with_reducible refine inB_ret ?_) | (with_reducible refine inB_here ?_) | (with_reducible refine inB_out (by decide) ?_) | ((with_reducible refine hK _ _ ?_); clear hK K) | ((with_reducible refine sel_fieldA ?_); first | refine wl_rd rfl rfl (RdV.rd (rd_fdO rfl rfl)) ?_ | refine wl_rd rfl rfl (RdV.rd (rd_fdA rfl rfl)) ?_) | ((with_reducible refine sel_load ?_); first | refine wl_rd rfl rfl (RdV.rd (rd_load rfl rfl ld_O)) ?_ | refine wl_rd rfl rfl (RdV.rd (rd_load rfl rfl ld_OR)) ?_ | refine wl_rd rfl rfl (RdV.rd (rd_load rfl rfl (ld_whole))) ?_ | refine wl_rd rfl rfl (RdV.rd (rd_load rfl rfl (ld_cell))) ?_ | refine wl_rd rfl rfl (RdV.rd (rd_load rfl rfl (ld_row))) ?_) | ((with_reducible refine sel_call ?_); first | (refine wl_appendB rfl rfl rfl rfl rfl ?_; intro v oa ho) | (refine wl_appendO rfl rfl rfl rfl rfl ?_; intro v oa ho) | refine wl_rd rfl rfl (RdV.rd (rd_lenO rfl rfl rfl rfl rfl)) ?_ | refine wl_rd rfl rfl (RdV.rd (rd_ext rfl rfl rfl (by with_reducible exact XT))) ?_ | refine wl_rd rfl rfl (RdV.rd (rd_lenS rfl rfl rfl rfl rfl)) ?_) | ((with_reducible refine sel_conv ?_); first | refine wl_rd rfl rfl (RdV.rd (rd_convS rfl rfl)) ?_ | refine wl_rd rfl rfl (RdV.rd (rd_conv rfl rfl)) ?_) | ((with_reducible refine sel_b_eql ?_); first | refine wl_rd rfl rfl (RdV.rd (rd_eqlS rfl rfl rfl)) ?_ | refine wl_rd rfl rfl (RdV.rd (rd_cm rfl rfl rfl rfl)) ?_ | refine wl_rd rfl rfl (RdV.rd (rd_eqlB rfl rfl rfl (by first | with_reducible assumption | rfl))) ?_ | refine wl_rd rfl rfl (RdV.rd (rd_eqlP rfl rfl rfl N1)) ?_) | ((with_reducible refine sel_move ?_); first | refine wl_rd rfl rfl (RdV.rd (rd_move rfl rfl)) ?_) | ((with_reducible refine sel_b_neq ?_); first | refine wl_rd rfl rfl (RdV.rd (rd_cm rfl rfl rfl rfl)) ?_ | refine wl_rd rfl rfl (RdV.rd (rd_neqS rfl rfl rfl)) ?_) | ((with_reducible refine sel_nilc ?_); first | refine wl_rd rfl rfl (RdV.rd (rd_nilP rfl rfl)) ?_) | ((with_reducible refine sel_store ?_); first | refine wl_store rfl rfl (sv_whole rfl rfl rfl) ?_ | refine wl_store rfl rfl (sv_cell rfl rfl rfl rfl) ?_ | refine wl_store rfl rfl (sv_row rfl rfl rfl rfl) ?_ | refine wl_store rfl rfl (sv_cell rfl rfl rfl One.out) ?_ | refine wl_store rfl rfl (sv_row rfl rfl rfl (by simp only [List.all_cons, List.all_nil, One.out, Bool.and_true])) ?_) | (refine wl_skip rfl rfl ?_) | ((with_reducible refine wc_seq ?_); intro K hK) | ((with_reducible refine wc_region ?_); (try simp only [List.append_eq, List.cons_append, List.nil_append])) | (with_reducible refine wc_block ?_) | (with_reducible refine wc_skip ?_) | (with_reducible refine wc_exit ?_) | (with_reducible refine wc_ret ?_) | (with_reducible refine wc_label ?_) | ((with_reducible refine sel_cond ?_); first | refine wc_true rfl ?_ | refine wc_false rfl ?_ | refine wc_cond rfl (fun hc => ?_) (fun hc => ?_)) | (with_reducible refine wl_nil ?_))
    first | refine end_ret ResP.nil ?_ | refine end_normal ResP.nil ?_
    (try dsimp only [tupV])
    exact ⟨(), _, rfl, rfl, SubL.refl _⟩
/-- What a builder of the walk's own is: its block, and what it stands on. -/
structure Bld (g : Nat) (p : List Nat) (ob : Blks) : Prop where
  out : ∃ pv v oa, (pv = .pointer none ∨ pv = ptr g) ∧ OwnB 5 v p.length p oa ∧ ob = (g, (#[pv, v], 62)) :: oa ∧ (p = [] → v = .slice none 0 0 ∧ oa = [])
set_option maxHeartbeats 4000000 in
theorem wb_c (w' : World) {g c : Nat} {p : List Nat} {ob : Blks} (hc : c < 256) (hm : p.length ≤ 1099511627776) (h : Bld g p ob) (nd : (keys ob).Nodup) (hd : Hd ob w') :
    Calls Try.prog 25 [ptr g, .int .u8 (c : Int)].toArray w' (RetU (fun _ : Unit => .nilIface) ob (fun _ oc => Bld g (p ++ [c]) oc) w') := by
  obtain ⟨pv, v, oa, hp, hown, rfl, _⟩ := h.out
  haveI := hown
  haveI : Ln v p.length := hown.own.ln
  have hol : (p ++ [c]).length = p.length + 1 := by simp
  have CC : ∀ w'', w''.heap[g]? = some (.cells #[pv, v] 62) → Calls Try.prog 40 [ptr g].toArray w'' (RetP (fun _ : Unit => .tuple #[]) g #[pv, v] 62 (fun _ c' => c' = #[ptr g, v]) w'') := fun w'' h => cc_c w'' hp h
  generalize hl : p.length = m at *
  clear h hp
  refine fn_upd (N := _) Try.func25 rfl Try.ntmps25 Try.results25 (by simp) nd hd ?_
  simp only [initS, Nat.reduceAdd, Nat.zero_add]
  repeat' (first | (with_reducible refine then_normal ?_) | ((with_reducible refine then_ret ?_); clear hK K) | ((with_reducible refine then_exit ?_); clear hK K) | (with_reducible refine then_exit ?_) | (with_reducible refine then_ret ?_) | (with_reducible refine inB_normal ?_) | (with_reducible refine inB_ret ?_) | (with_reducible refine inB_here ?_) | (with_reducible refine inB_out (by decide) ?_) | ((with_reducible refine hK _ _ ?_); clear hK K) | ((with_reducible refine sel_fieldA ?_); first | refine wl_rd rfl rfl (RdV.rd (rd_fdO rfl rfl)) ?_ | refine wl_rd rfl rfl (RdV.rd (rd_fdA rfl rfl)) ?_) | ((with_reducible refine sel_load ?_); first | refine wl_rd rfl rfl (RdV.rd (rd_load rfl rfl ld_O)) ?_ | refine wl_rd rfl rfl (RdV.rd (rd_load rfl rfl ld_OR)) ?_ | refine wl_rd rfl rfl (RdV.rd (rd_load rfl rfl (ld_whole))) ?_ | refine wl_rd rfl rfl (RdV.rd (rd_load rfl rfl (ld_cell))) ?_ | refine wl_rd rfl rfl (RdV.rd (rd_load rfl rfl (ld_row))) ?_) | ((with_reducible refine sel_call ?_); first | (refine wl_appendB rfl rfl rfl rfl rfl ?_; intro v oa ho) | (refine wl_appendO rfl rfl rfl rfl rfl ?_; intro v oa ho) | (refine wl_updP rfl rfl rfl rfl rfl (fun w hm hw => by with_reducible exact CC w hw) ?_ (hat := by intro _; repeat (first | exact At.here | apply At.there | apply At.skipA)); intro x c hx) | refine wl_rd rfl rfl (RdV.rd (rd_lenO rfl rfl rfl rfl rfl)) ?_ | refine wl_rd rfl rfl (RdV.rd (rd_lenS rfl rfl rfl rfl rfl)) ?_) | ((with_reducible refine sel_bslice ?_); first | (refine wl_bsliceB rfl rfl rfl rfl ?_; intro v oa ho) | (refine wl_bslice rfl rfl rfl rfl ?_; intro v oa ho) | (refine wl_bsliceO rfl rfl rfl rfl ?_; intro v oa ho)) | ((with_reducible refine sel_move ?_); first | refine wl_rd rfl rfl (RdV.rd (rd_move rfl rfl)) ?_) | ((with_reducible refine sel_assign ?_); first | refine wl_rd rfl rfl (RdV.rd (rd_assign rfl rfl)) ?_) | ((with_reducible refine sel_nilc ?_); first | refine wl_rd rfl rfl (RdV.rd (rd_nilP rfl rfl)) ?_) | ((with_reducible refine sel_store ?_); first | refine wl_store rfl rfl (sv_whole rfl rfl rfl) ?_ | refine wl_store rfl rfl (sv_cell rfl rfl rfl rfl) ?_ | refine wl_store rfl rfl (sv_row rfl rfl rfl rfl) ?_ | refine wl_store rfl rfl (sv_cell rfl rfl rfl One.out) ?_ | refine wl_store rfl rfl (sv_row rfl rfl rfl (by simp only [List.all_cons, List.all_nil, One.out, Bool.and_true])) ?_) | (refine wl_skip rfl rfl ?_) | ((with_reducible refine wc_seq ?_); intro K hK) | ((with_reducible refine wc_region ?_); (try simp only [List.append_eq, List.cons_append, List.nil_append])) | (with_reducible refine wc_block ?_) | (with_reducible refine wc_skip ?_) | (with_reducible refine wc_exit ?_) | (with_reducible refine wc_ret ?_) | (with_reducible refine wc_label ?_) | ((with_reducible refine sel_cond ?_); first | refine wc_true rfl ?_ | refine wc_false rfl ?_ | refine wc_cond rfl (fun hc => ?_) (fun hc => ?_)) | (with_reducible refine wl_nil ?_))
  subst hx
  repeat' (first | (with_reducible refine then_normal ?_) | ((with_reducible refine then_ret ?_); clear hK K) | ((with_reducible refine then_exit ?_); clear hK K) | (with_reducible refine then_exit ?_) | (with_reducible refine then_ret ?_) | (with_reducible refine inB_normal ?_) | (with_reducible refine inB_ret ?_) | (with_reducible refine inB_here ?_) | (with_reducible refine inB_out (by decide) ?_) | ((with_reducible refine hK _ _ ?_); clear hK K) | ((with_reducible refine sel_fieldA ?_); first | refine wl_rd rfl rfl (RdV.rd (rd_fdO rfl rfl)) ?_ | refine wl_rd rfl rfl (RdV.rd (rd_fdA rfl rfl)) ?_) | ((with_reducible refine sel_load ?_); first | refine wl_rd rfl rfl (RdV.rd (rd_load rfl rfl ld_O)) ?_ | refine wl_rd rfl rfl (RdV.rd (rd_load rfl rfl ld_OR)) ?_ | refine wl_rd rfl rfl (RdV.rd (rd_load rfl rfl (ld_whole))) ?_ | refine wl_rd rfl rfl (RdV.rd (rd_load rfl rfl (ld_cell))) ?_ | refine wl_rd rfl rfl (RdV.rd (rd_load rfl rfl (ld_row))) ?_) | ((with_reducible refine sel_call ?_); first | (refine wl_appendB rfl rfl rfl rfl rfl ?_; intro v oa ho) | (refine wl_appendO rfl rfl rfl rfl rfl ?_; intro v oa ho) | refine wl_rd rfl rfl (RdV.rd (rd_lenO rfl rfl rfl rfl rfl)) ?_ | refine wl_rd rfl rfl (RdV.rd (rd_lenS rfl rfl rfl rfl rfl)) ?_) | ((with_reducible refine sel_bslice ?_); first | (refine wl_bsliceB rfl rfl rfl rfl ?_; intro v oa ho) | (refine wl_bslice rfl rfl rfl rfl ?_; intro v oa ho) | (refine wl_bsliceO rfl rfl rfl rfl ?_; intro v oa ho)) | ((with_reducible refine sel_move ?_); first | refine wl_rd rfl rfl (RdV.rd (rd_move rfl rfl)) ?_) | ((with_reducible refine sel_assign ?_); first | refine wl_rd rfl rfl (RdV.rd (rd_assign rfl rfl)) ?_) | ((with_reducible refine sel_nilc ?_); first | refine wl_rd rfl rfl (RdV.rd (rd_nilP rfl rfl)) ?_) | ((with_reducible refine sel_store ?_); first | refine wl_store rfl rfl (sv_whole rfl rfl rfl) ?_ | refine wl_store rfl rfl (sv_cell rfl rfl rfl rfl) ?_ | refine wl_store rfl rfl (sv_row rfl rfl rfl rfl) ?_ | refine wl_store rfl rfl (sv_cell rfl rfl rfl One.out) ?_ | refine wl_store rfl rfl (sv_row rfl rfl rfl (by simp only [List.all_cons, List.all_nil, One.out, Bool.and_true])) ?_) | (refine wl_skip rfl rfl ?_) | ((with_reducible refine wc_seq ?_); intro K hK) | ((with_reducible refine wc_region ?_); (try simp only [List.append_eq, List.cons_append, List.nil_append])) | (with_reducible refine wc_block ?_) | (with_reducible refine wc_skip ?_) | (with_reducible refine wc_exit ?_) | (with_reducible refine wc_ret ?_) | (with_reducible refine wc_label ?_) | ((with_reducible refine sel_cond ?_); first | refine wc_true rfl ?_ | refine wc_false rfl ?_ | refine wc_cond rfl (fun hc => ?_) (fun hc => ?_)) | (with_reducible refine wl_nil ?_))
  first | refine end_ret (ResP.tmp rfl ResP.nil) ?_ | refine end_normal (ResP.tmp rfl ResP.nil) ?_
  (try dsimp only [tupV])
  refine ⟨(), _, rfl, ⟨_, _, _, .inr rfl, by rw [hol]; assumption, rfl, fun h => by simp at h⟩, ?_⟩
  repeat (first | exact SubL.nil | exact SubL.refl _ | refine SubL.keep ?_ | exact SubL.headA _ _ | refine SubL.keepA ?_ _ | refine SubL.skip ?_ | refine SubL.skipA ?_ _)
set_option maxHeartbeats 4000000 in
theorem bs_c (w' : World) {g : Nat} {p : List Nat} {ob : Blks} (hm : p.length ≤ 1099511627776) (h : Bld g p ob) (nd : (keys ob).Nodup) (hd : Hd ob w') :
    Calls Try.prog 26 [ptr g].toArray w' (RetU (fun _ : Unit => str p) ob (fun _ oc => oc = []) w') := by
  obtain ⟨pv, v, oa, hp, hown, rfl, h0⟩ := h.out
  by_cases hp0 : p = []
  · obtain ⟨rfl, rfl⟩ := h0 hp0
    subst hp0
    clear h hown h0
    refine fn_upd (N := _) Try.func26 rfl Try.ntmps26 Try.results26 (by simp) nd hd ?_
    simp only [initS, Nat.reduceAdd, Nat.zero_add]
    repeat' (first | (with_reducible refine then_normal ?_) | ((with_reducible refine then_ret ?_); clear hK K) | ((with_reducible refine then_exit ?_); clear hK K) | (with_reducible refine then_exit ?_) | (with_reducible refine then_ret ?_) | (with_reducible refine inB_normal ?_) | (with_reducible refine inB_ret ?_) | (with_reducible refine inB_here ?_) | (with_reducible refine inB_out (by decide) ?_) | ((with_reducible refine hK _ _ ?_); clear hK K) | ((with_reducible refine sel_fieldA ?_); first | refine wl_rd rfl rfl (RdV.rd (rd_fdO rfl rfl)) ?_ | refine wl_rd rfl rfl (RdV.rd (rd_fdA rfl rfl)) ?_) | ((with_reducible refine sel_load ?_); first | refine wl_rd rfl rfl (RdV.rd (rd_load rfl rfl ld_O)) ?_ | refine wl_rd rfl rfl (RdV.rd (rd_load rfl rfl ld_OR)) ?_ | refine wl_rd rfl rfl (RdV.rd (rd_load rfl rfl (ld_whole))) ?_ | refine wl_rd rfl rfl (RdV.rd (rd_load rfl rfl (ld_cell))) ?_ | refine wl_rd rfl rfl (RdV.rd (rd_load rfl rfl (ld_row))) ?_) | ((with_reducible refine sel_call ?_); first | (refine wl_appendB rfl rfl rfl rfl rfl ?_; intro v oa ho) | (refine wl_appendO rfl rfl rfl rfl rfl ?_; intro v oa ho) | refine wl_rd rfl rfl (RdV.rd (rd_lenO rfl rfl rfl rfl rfl)) ?_ | refine wl_rd rfl rfl (RdV.rd (rd_uslice0 rfl rfl rfl rfl)) ?_ | refine wl_rd rfl rfl (RdV.rd (rd_ustr0 rfl rfl rfl rfl rfl rfl)) ?_ | refine wl_rd rfl rfl (RdV.rd (rd_lenS rfl rfl rfl rfl rfl)) ?_) | ((with_reducible refine sel_move ?_); first | refine wl_rd rfl rfl (RdV.rd (rd_move rfl rfl)) ?_) | ((with_reducible refine sel_assign ?_); first | refine wl_rd rfl rfl (RdV.rd (rd_assign rfl rfl)) ?_) | ((with_reducible refine sel_nilc ?_); first | refine wl_rd rfl rfl (RdV.rd (rd_nilP rfl rfl)) ?_) | (refine wl_skip rfl rfl ?_) | ((with_reducible refine wc_seq ?_); intro K hK) | ((with_reducible refine wc_region ?_); (try simp only [List.append_eq, List.cons_append, List.nil_append])) | (with_reducible refine wc_block ?_) | (with_reducible refine wc_skip ?_) | (with_reducible refine wc_exit ?_) | (with_reducible refine wc_ret ?_) | (with_reducible refine wc_label ?_) | ((with_reducible refine sel_cond ?_); first | refine wc_true rfl ?_ | refine wc_false rfl ?_ | refine wc_cond rfl (fun hc => ?_) (fun hc => ?_)) | (with_reducible refine wl_nil ?_) | ((with_reducible refine wc_drawT (by kernel_rfl) ?_); (try simp only [List.append_eq, List.cons_append, List.nil_append, List.length_cons, List.length_nil, Nat.reduceAdd])) | ((with_reducible refine sel_wh ?_); first | (refine wh_take (lq := []) rfl rfl rfl rfl (by first | ((with_reducible apply selr_fieldA); first | exact rd_fdO rfl rfl | exact rd_fdA rfl rfl) | ((with_reducible apply selr_load); first | exact rd_load rfl rfl ld_O | exact rd_load rfl rfl ld_OR | exact rd_load rfl rfl (ld_whole) | exact rd_load rfl rfl (ld_cell) | exact rd_load rfl rfl (ld_row)) | ((with_reducible apply selr_call); first | exact rd_lenO rfl rfl rfl rfl rfl | exact rd_uslice0 rfl rfl rfl rfl | exact rd_ustr0 rfl rfl rfl rfl rfl rfl | exact rd_lenS rfl rfl rfl rfl rfl) | ((with_reducible apply selr_move); first | exact rd_move rfl rfl) | ((with_reducible apply selr_assign); first | exact rd_assign rfl rfl) | ((with_reducible apply selr_nilc); first | exact rd_nilP rfl rfl)) (Or.inl rfl) ?_) | (refine wh_take rfl rfl rfl rfl (by first | ((with_reducible apply selr_fieldA); first | exact rd_fdO rfl rfl | exact rd_fdA rfl rfl) | ((with_reducible apply selr_load); first | exact rd_load rfl rfl ld_O | exact rd_load rfl rfl ld_OR | exact rd_load rfl rfl (ld_whole) | exact rd_load rfl rfl (ld_cell) | exact rd_load rfl rfl (ld_row)) | ((with_reducible apply selr_call); first | exact rd_lenO rfl rfl rfl rfl rfl | exact rd_uslice0 rfl rfl rfl rfl | exact rd_ustr0 rfl rfl rfl rfl rfl rfl | exact rd_lenS rfl rfl rfl rfl rfl) | ((with_reducible apply selr_move); first | exact rd_move rfl rfl) | ((with_reducible apply selr_assign); first | exact rd_assign rfl rfl) | ((with_reducible apply selr_nilc); first | exact rd_nilP rfl rfl)) (Or.inr ⟨rfl, by decide +kernel⟩) ?_) | (refine wh_pass rfl rfl rfl rfl ?_) | (refine wh_subB (lo := 0) rfl rfl rfl rfl rfl rfl rfl rfl rfl rfl ?_; intro v hv hp) | (refine wh_subB rfl rfl rfl rfl rfl rfl rfl rfl rfl rfl ?_; intro v hv hp) | (refine wh_sub (lo := 0) rfl rfl rfl rfl rfl rfl rfl rfl rfl rfl ?_; intro v hv hp) | (refine wh_sub rfl rfl rfl rfl rfl rfl rfl rfl rfl rfl ?_; intro v hv hp) | (refine wh_done rfl ?_) | (refine wh_all rfl ?_)) | ((with_reducible refine sel_rest ?_); first | exact rest_nil rfl | refine rest_cons rfl rfl ?_ ?_) | ((with_reducible refine sel_nx ?_); first | refine next_of ?_ | refine next_late (by decide +kernel) ?_))
    first | refine end_ret (ResP.tmp rfl ResP.nil) ?_ | refine end_normal (ResP.tmp rfl ResP.nil) ?_
    (try dsimp only [tupV])
    exact ⟨(), _, rfl, rfl, .nil⟩
  · rcases hown.own.out with ⟨_, hl0, _⟩ | ⟨q, cap, cur, rfl, hnc, hcm, hcs, htake, rfl⟩
    · exact absurd (List.eq_nil_of_length_eq_zero hl0) hp0
    · have hpos : p.length ≠ 0 := fun h => hp0 (List.eq_nil_of_length_eq_zero h)
      have hcap : cap ≠ 0 := by omega
      have hb := hown.ok.by'
      rw [Nat.mul_one] at htake
      haveI : Ln (.slice (some ⟨q, 0, none⟩) p.length cap) p.length := hown.own.ln
      clear h hown h0 hp hp0
      generalize hpl : p.length = m at *
      refine fn_upd (N := _) Try.func26 rfl Try.ntmps26 Try.results26 (by simp) nd hd ?_
      simp only [initS, Nat.reduceAdd, Nat.zero_add]
      repeat' (first | (with_reducible refine then_normal ?_) | ((with_reducible refine then_ret ?_); clear hK K) | ((with_reducible refine then_exit ?_); clear hK K) | (with_reducible refine then_exit ?_) | (with_reducible refine then_ret ?_) | (with_reducible refine inB_normal ?_) | (with_reducible refine inB_ret ?_) | (with_reducible refine inB_here ?_) | (with_reducible refine inB_out (by decide) ?_) | ((with_reducible refine hK _ _ ?_); clear hK K) | ((with_reducible refine sel_fieldA ?_); first | refine wl_rd rfl rfl (RdV.rd (rd_fdO rfl rfl)) ?_ | refine wl_rd rfl rfl (RdV.rd (rd_fdA rfl rfl)) ?_) | ((with_reducible refine sel_load ?_); first | refine wl_rd rfl rfl (RdV.rd (rd_load rfl rfl ld_O)) ?_ | refine wl_rd rfl rfl (RdV.rd (rd_load rfl rfl ld_OR)) ?_ | refine wl_rd rfl rfl (RdV.rd (rd_load rfl rfl (ld_whole))) ?_ | refine wl_rd rfl rfl (RdV.rd (rd_load rfl rfl (ld_cell))) ?_ | refine wl_rd rfl rfl (RdV.rd (rd_load rfl rfl (ld_row))) ?_) | ((with_reducible refine sel_call ?_); first | (refine wl_appendB rfl rfl rfl rfl rfl ?_; intro v oa ho) | (refine wl_appendO rfl rfl rfl rfl rfl ?_; intro v oa ho) | (refine wl_ustr rfl rfl rfl rfl rfl rfl rfl rfl ?_) | refine wl_rd rfl rfl (RdV.rd (rd_lenO rfl rfl rfl rfl rfl)) ?_ | refine wl_rd rfl rfl (RdV.rd (rd_uslice rfl rfl rfl rfl)) ?_ | refine wl_rd rfl rfl (RdV.rd (rd_lenS rfl rfl rfl rfl rfl)) ?_) | ((with_reducible refine sel_move ?_); first | refine wl_rd rfl rfl (RdV.rd (rd_move rfl rfl)) ?_) | ((with_reducible refine sel_assign ?_); first | refine wl_rd rfl rfl (RdV.rd (rd_assign rfl rfl)) ?_) | ((with_reducible refine sel_nilc ?_); first | refine wl_rd rfl rfl (RdV.rd (rd_nilP rfl rfl)) ?_) | (refine wl_skip rfl rfl ?_) | ((with_reducible refine wc_seq ?_); intro K hK) | ((with_reducible refine wc_region ?_); (try simp only [List.append_eq, List.cons_append, List.nil_append])) | (with_reducible refine wc_block ?_) | (with_reducible refine wc_skip ?_) | (with_reducible refine wc_exit ?_) | (with_reducible refine wc_ret ?_) | (with_reducible refine wc_label ?_) | ((with_reducible refine sel_cond ?_); first | refine wc_true rfl ?_ | refine wc_false rfl ?_ | refine wc_cond rfl (fun hc => ?_) (fun hc => ?_)) | (with_reducible refine wl_nil ?_) | ((with_reducible refine wc_drawH _ [10] (by kernel_rfl) (SubL.refl _) ?_); (try simp only [List.append_eq, List.cons_append, List.nil_append, List.length_cons, List.length_nil, Nat.reduceAdd])) | ((with_reducible refine sel_wh ?_); first | (refine wh_take (lq := []) rfl rfl rfl rfl (by first | ((with_reducible apply selr_fieldA); first | exact rd_fdO rfl rfl | exact rd_fdA rfl rfl) | ((with_reducible apply selr_load); first | exact rd_load rfl rfl ld_O | exact rd_load rfl rfl ld_OR | exact rd_load rfl rfl (ld_whole) | exact rd_load rfl rfl (ld_cell) | exact rd_load rfl rfl (ld_row)) | ((with_reducible apply selr_call); first | exact rd_lenO rfl rfl rfl rfl rfl | exact rd_uslice rfl rfl rfl rfl | exact rd_lenS rfl rfl rfl rfl rfl) | ((with_reducible apply selr_move); first | exact rd_move rfl rfl) | ((with_reducible apply selr_assign); first | exact rd_assign rfl rfl) | ((with_reducible apply selr_nilc); first | exact rd_nilP rfl rfl)) (Or.inl rfl) ?_) | (refine wh_take rfl rfl rfl rfl (by first | ((with_reducible apply selr_fieldA); first | exact rd_fdO rfl rfl | exact rd_fdA rfl rfl) | ((with_reducible apply selr_load); first | exact rd_load rfl rfl ld_O | exact rd_load rfl rfl ld_OR | exact rd_load rfl rfl (ld_whole) | exact rd_load rfl rfl (ld_cell) | exact rd_load rfl rfl (ld_row)) | ((with_reducible apply selr_call); first | exact rd_lenO rfl rfl rfl rfl rfl | exact rd_uslice rfl rfl rfl rfl | exact rd_lenS rfl rfl rfl rfl rfl) | ((with_reducible apply selr_move); first | exact rd_move rfl rfl) | ((with_reducible apply selr_assign); first | exact rd_assign rfl rfl) | ((with_reducible apply selr_nilc); first | exact rd_nilP rfl rfl)) (Or.inr ⟨rfl, by decide +kernel⟩) ?_) | (refine wh_pass rfl rfl rfl rfl ?_) | (refine wh_subB (lo := 0) rfl rfl rfl rfl rfl rfl rfl rfl rfl rfl ?_; intro v hv hp) | (refine wh_subB rfl rfl rfl rfl rfl rfl rfl rfl rfl rfl ?_; intro v hv hp) | (refine wh_sub (lo := 0) rfl rfl rfl rfl rfl rfl rfl rfl rfl rfl ?_; intro v hv hp) | (refine wh_sub rfl rfl rfl rfl rfl rfl rfl rfl rfl rfl ?_; intro v hv hp) | (refine wh_done rfl ?_) | (refine wh_all rfl ?_)) | ((with_reducible refine sel_rest ?_); first | exact rest_nil rfl | refine rest_cons rfl rfl ?_ ?_) | ((with_reducible refine sel_nx ?_); first | refine next_of ?_ | refine next_late (by decide +kernel) ?_))
      first | refine end_ret (ResP.tmp rfl ResP.nil) ?_ | refine end_normal (ResP.tmp rfl ResP.nil) ?_
      (try dsimp only [tupV])
      exact ⟨(), _, rfl, rfl, .nil⟩
end Go.Proofs.Ytglbnbdeoenilaa
