/- The package op, walked: what is new, for streams, sealers, openers. The package op, walked: Update and Final over whatever way. The package op, walked: the end of an opener; keys that do not fit. append to a slice of bytes that is full. -/
import Derived.Test.YtkendlnjaopbeaaGreatDoorOpO
import Derived.Test.YtkendlnjaopbeaaGreatDoorJnAB
import Derived.Test.YtkendlnjaopbeaaGreatDoorJnAG
import Derived.Test.YtkendlnjaopbeaaGreatDoorJnAA
import Derived.Test.YtkendlnjaopbeaaGreatDoorLwH
import Derived.Test.YtkendlnjaopbeaaGreatDoorTyS
import Derived.Lib.AppendZerosOnto
namespace Go.Proofs.YtkendlnjaopbeaaGreatDoor
open Go.RowKit
attribute [local irreducible] rwA bys
set_option linter.unusedVariables false
set_option linter.unusedSimpArgs false
set_option maxRecDepth 100000
theorem way_nil {t : TypeId} {v : Value} (w : World) : (Op.equalIn 10000 54 (.iface t v) .nilIface).run Tryz.prog w = .ok false w := by
  rw [show (10000 : Nat) = 9999 + 1 from rfl, Op.equalIn, Sem.run_bind, run_underlying Tryz.underlying54]
  rfl
theorem way_nil2 (w : World) : (Op.equalIn 10000 54 .nilIface .nilIface).run Tryz.prog w = .ok true w := by
  rw [show (10000 : Nat) = 9999 + 1 from rfl, Op.equalIn, Sem.run_bind, run_underlying Tryz.underlying54]
  rfl
section
variable {X : Cx} {s : Slots} {l : Blks} {o : Oper}
theorem rd_eqlI {t yt t' : Nat} {x y : Operand} {u v : Value} {r : Bool} (ho : o.op = .binOp .eql t x y yt) (hx : val s x = some (.iface t' u)) (hy : val s y = some v)
    (q : ∀ w : World, (Op.equalIn 10000 t (.iface t' u) v).run X.P w = .ok r w := by first | exact way_nil | exact way_nil2) : RdV X s l o (.bool r) :=
  rd_val fun e w he hm => by
    simp only [execOp, ho, he.eval hx, he.eval hy, eqGuard]
    simp [run_eql w rfl (q w)]
end
instance sp_seal : SP Tryz.prog 109 [(0, 241), (241, 16), (257, 1)] := ⟨by kernel_rfl⟩
instance sp_opn : SP Tryz.prog 111 [(0, 241), (241, 16), (257, 1)] := ⟨by kernel_rfl⟩
instance sp_strm : SP Tryz.prog 106 [(0, 241), (241, 16), (257, 1)] := ⟨by kernel_rfl⟩
theorem z240 : ∀ x ∈ List.replicate 240 0, x < 256 := fun x hx => by rw [(List.mem_replicate.1 hx).2]; decide
instance key_zero : AKey (List.replicate 240 0) := ⟨by simp, z240⟩
instance zg_seal : ZG Tryz.prog 109 (sgSe (List.replicate 240 0) 0 (List.replicate 16 0) (.slice none 0 0)) := ⟨by kernel_rfl, inferInstance⟩
instance zg_opn : ZG Tryz.prog 111 (sgSe (List.replicate 240 0) 0 (List.replicate 16 0) (.slice none 0 0)) := ⟨by kernel_rfl, inferInstance⟩
instance zg_strm : ZG Tryz.prog 106 (sgSt (List.replicate 240 0) 0 (List.replicate 16 0) 0) := ⟨by kernel_rfl, inferInstance⟩
set_option maxHeartbeats 4000000 in
theorem way_se (w : World) {v : Value} {n : Nat} {p : List Nat} (hp : Cb w v n p) {W iv : List Nat} {R : Nat} [hkk : AKey W] (hi : B16 iv) (EX : ∀ w', Cb w' v n p → Calls Tryz.prog 25 [v].toArray w' (Ret (.tuple #[kv W R, .int .i64 0]) w')) :
    Calls Tryz.prog 18 [.int .i64 7, v, .agg (bys iv)].toArray w (RetO (fun g : Nat => .iface 107 (ptr g)) (fun g oa => oa = [(g, (rwA (sgSe W R iv (.slice none 0 0)), 109))]) w) := by
  have i1 := hp.old
  haveI : NBy iv 16 := ⟨hi.len⟩
  obtain ⟨k0, hk0⟩ : ∃ k, Nat.min n 32 = k := ⟨_, rfl⟩
  obtain ⟨q0, hq0⟩ : ∃ q, (List.replicate 32 0).take 0 ++ (p.take k0 ++ (List.replicate 32 0).drop (0 + k0)) = q := ⟨_, rfl⟩
  have hfit : 0 + k0 ≤ (List.replicate 32 0).length := by rw [← hk0, List.length_replicate, Nat.zero_add]; exact Nat.min_le_right _ _
  haveI : SgOk (sgSe W R iv (.slice none 0 0)) := inferInstance
  have hk1 : k0 ≤ n := by rw [← hk0]; exact Nat.min_le_left _ _
  have hk2 : k0 ≤ 32 := by rw [← hk0]; exact Nat.min_le_right _ _
  haveI : NBy q0 32 := ⟨by rw [← hq0, List.take_zero, List.nil_append, List.length_append, List.length_take, List.length_drop, List.length_replicate, hp.ok.len]; omega⟩
  have t0 : ((0 : Int) != 0) = false := rfl
  clear hp
  refine fn_own (N := _) Tryz.func18 rfl Tryz.ntmps18 Tryz.results18 (by simp) ?_
  simp only [initS, Nat.reduceAdd, Nat.zero_add]
  repeat' (first | (refine wlS ?_) | (refine wlG ?_) | (refine wlB ?_) | ((with_reducible refine sel_call ?_); refine wl_rd rfl rfl (rd_call rfl rfl rfl (fun w hm => by with_reducible exact EX w (VwB.out w hm))) ?_) | ((with_reducible refine sel_makeInterface ?_); refine wv rfl rfl (rd_mkI rfl rfl) ?_) | (refine wlE ?_) | (refine efSvvp ?_; intro v hv hp) | (refine efSvao ?_; intro v oa ho) | (refine efM ?_) | (refine efMvao ?_; intro v oa ho) | ((with_reducible refine sel_store ?_); first | (refine wl_putB (e := 5) rfl rfl rfl rfl rfl ?_; intro oa ho)) | (refine efG ?_) | (refine efGnn ?_; intro n hn) | (refine efZCnn ?_; intro n hn) | (refine efBnn ?_; intro n hn) | (refine efB ?_) | (refine efBS ?_) | (refine wl_skip rfl rfl ?_) | ((with_reducible refine wc_seq ?_); intro K hK) | (refine auC ?_) | (refine wc_cond rfl (fun hc => ?_) (fun hc => ?_)) | (refine wc_draw (by kernel_rfl) (by kernel_rfl) (by decide +kernel) ?_; intro w0 hw0 hm0; (try simp only [List.append_eq, List.cons_append, List.nil_append])) | (refine auP ?_) | ((refine auR ?_); clear hK K) | (refine auR ?_) | ((with_reducible refine hK _ _ ?_); clear hK K) | fail)
  first | refine end_ret (ResP.tmp rfl ResP.nil) ?_ | refine end_normal (ResP.tmp rfl ResP.nil) ?_
  (try dsimp only [tupV])
  exact ⟨_, _, rfl, rfl, .keep .nil⟩
set_option maxHeartbeats 4000000 in
theorem way_st (w : World) {v : Value} {n : Nat} {p : List Nat} (hp : Cb w v n p) {W iv : List Nat} {R : Nat} [hkk : AKey W] (hi : B16 iv) (EX : ∀ w', Cb w' v n p → Calls Tryz.prog 25 [v].toArray w' (Ret (.tuple #[kv W R, .int .i64 0]) w')) :
    Calls Tryz.prog 18 [.int .i64 6, v, .agg (bys iv)].toArray w (RetO (fun g : Nat => .iface 104 (ptr g)) (fun g oa => oa = [(g, (rwA (sgSt W R iv 0), 106))]) w) := by
  have i1 := hp.old
  haveI : NBy iv 16 := ⟨hi.len⟩
  obtain ⟨k0, hk0⟩ : ∃ k, Nat.min n 32 = k := ⟨_, rfl⟩
  obtain ⟨q0, hq0⟩ : ∃ q, (List.replicate 32 0).take 0 ++ (p.take k0 ++ (List.replicate 32 0).drop (0 + k0)) = q := ⟨_, rfl⟩
  have hfit : 0 + k0 ≤ (List.replicate 32 0).length := by rw [← hk0, List.length_replicate, Nat.zero_add]; exact Nat.min_le_right _ _
  haveI : SgOk (sgSt W R iv 0) := inferInstance
  have hk1 : k0 ≤ n := by rw [← hk0]; exact Nat.min_le_left _ _
  have hk2 : k0 ≤ 32 := by rw [← hk0]; exact Nat.min_le_right _ _
  haveI : NBy q0 32 := ⟨by rw [← hq0, List.take_zero, List.nil_append, List.length_append, List.length_take, List.length_drop, List.length_replicate, hp.ok.len]; omega⟩
  have t0 : ((0 : Int) != 0) = false := rfl
  clear hp
  refine fn_own (N := _) Tryz.func18 rfl Tryz.ntmps18 Tryz.results18 (by simp) ?_
  simp only [initS, Nat.reduceAdd, Nat.zero_add]
  repeat' (first | (refine wlS ?_) | (refine wlG ?_) | (refine wlB ?_) | ((with_reducible refine sel_call ?_); refine wl_rd rfl rfl (rd_call rfl rfl rfl (fun w hm => by with_reducible exact EX w (VwB.out w hm))) ?_) | ((with_reducible refine sel_makeInterface ?_); refine wv rfl rfl (rd_mkI rfl rfl) ?_) | (refine wlE ?_) | (refine efSvvp ?_; intro v hv hp) | (refine efSvao ?_; intro v oa ho) | (refine efM ?_) | (refine efMvao ?_; intro v oa ho) | ((with_reducible refine sel_store ?_); first | (refine wl_putB (e := 5) rfl rfl rfl rfl rfl ?_; intro oa ho)) | (refine efG ?_) | (refine efGnn ?_; intro n hn) | (refine efZCnn ?_; intro n hn) | (refine efBnn ?_; intro n hn) | (refine efB ?_) | (refine efBS ?_) | (refine wl_skip rfl rfl ?_) | ((with_reducible refine wc_seq ?_); intro K hK) | (refine auC ?_) | (refine wc_cond rfl (fun hc => ?_) (fun hc => ?_)) | (refine wc_draw (by kernel_rfl) (by kernel_rfl) (by decide +kernel) ?_; intro w0 hw0 hm0; (try simp only [List.append_eq, List.cons_append, List.nil_append])) | (refine auP ?_) | ((refine auR ?_); clear hK K) | (refine auR ?_) | ((with_reducible refine hK _ _ ?_); clear hK K) | fail)
  first | refine end_ret (ResP.tmp rfl ResP.nil) ?_ | refine end_normal (ResP.tmp rfl ResP.nil) ?_
  (try dsimp only [tupV])
  exact ⟨_, _, rfl, rfl, .keep .nil⟩
set_option maxHeartbeats 4000000 in
theorem way_op (w : World) {v : Value} {n : Nat} {p : List Nat} (hp : Cb w v n p) {W iv : List Nat} {R : Nat} [hkk : AKey W] (hi : B16 iv) (EX : ∀ w', Cb w' v n p → Calls Tryz.prog 25 [v].toArray w' (Ret (.tuple #[kv W R, .int .i64 0]) w')) :
    Calls Tryz.prog 18 [.int .i64 8, v, .agg (bys iv)].toArray w (RetO (fun g : Nat => .iface 110 (ptr g)) (fun g oa => oa = [(g, (rwA (sgSe W R iv (.slice none 0 0)), 111))]) w) := by
  have i1 := hp.old
  haveI : NBy iv 16 := ⟨hi.len⟩
  obtain ⟨k0, hk0⟩ : ∃ k, Nat.min n 32 = k := ⟨_, rfl⟩
  obtain ⟨q0, hq0⟩ : ∃ q, (List.replicate 32 0).take 0 ++ (p.take k0 ++ (List.replicate 32 0).drop (0 + k0)) = q := ⟨_, rfl⟩
  have hfit : 0 + k0 ≤ (List.replicate 32 0).length := by rw [← hk0, List.length_replicate, Nat.zero_add]; exact Nat.min_le_right _ _
  haveI : SgOk (sgSe W R iv (.slice none 0 0)) := inferInstance
  have hk1 : k0 ≤ n := by rw [← hk0]; exact Nat.min_le_left _ _
  have hk2 : k0 ≤ 32 := by rw [← hk0]; exact Nat.min_le_right _ _
  haveI : NBy q0 32 := ⟨by rw [← hq0, List.take_zero, List.nil_append, List.length_append, List.length_take, List.length_drop, List.length_replicate, hp.ok.len]; omega⟩
  have t0 : ((0 : Int) != 0) = false := rfl
  clear hp
  refine fn_own (N := _) Tryz.func18 rfl Tryz.ntmps18 Tryz.results18 (by simp) ?_
  simp only [initS, Nat.reduceAdd, Nat.zero_add]
  repeat' (first | (refine wlS ?_) | (refine wlG ?_) | (refine wlB ?_) | ((with_reducible refine sel_call ?_); refine wl_rd rfl rfl (rd_call rfl rfl rfl (fun w hm => by with_reducible exact EX w (VwB.out w hm))) ?_) | ((with_reducible refine sel_makeInterface ?_); refine wv rfl rfl (rd_mkI rfl rfl) ?_) | (refine wlE ?_) | (refine efSvvp ?_; intro v hv hp) | (refine efSvao ?_; intro v oa ho) | (refine efM ?_) | (refine efMvao ?_; intro v oa ho) | ((with_reducible refine sel_store ?_); first | (refine wl_putB (e := 5) rfl rfl rfl rfl rfl ?_; intro oa ho)) | (refine efG ?_) | (refine efGnn ?_; intro n hn) | (refine efZCnn ?_; intro n hn) | (refine efBnn ?_; intro n hn) | (refine efB ?_) | (refine efBS ?_) | (refine wl_skip rfl rfl ?_) | ((with_reducible refine wc_seq ?_); intro K hK) | (refine auC ?_) | (refine wc_cond rfl (fun hc => ?_) (fun hc => ?_)) | (refine wc_draw (by kernel_rfl) (by kernel_rfl) (by decide +kernel) ?_; intro w0 hw0 hm0; (try simp only [List.append_eq, List.cons_append, List.nil_append])) | (refine auP ?_) | ((refine auR ?_); clear hK K) | (refine auR ?_) | ((with_reducible refine hK _ _ ?_); clear hK K) | fail)
  first | refine end_ret (ResP.tmp rfl ResP.nil) ?_ | refine end_normal (ResP.tmp rfl ResP.nil) ?_
  (try dsimp only [tupV])
  exact ⟨_, _, rfl, rfl, .keep .nil⟩
set_option maxHeartbeats 4000000 in
theorem new_w (w : World) {kind : Int} (hk : 1 ≤ kind ∧ kind ≤ 8) {v : Value} {n : Nat} {p : List Nat} (hp : Cb w v n p) {iv : List Nat} (hi : B16 iv) {t T : TypeId} {C : Array Value}
    (WY : ∀ w', Cb w' v n p → Calls Tryz.prog 18 [.int .i64 kind, v, .agg (bys iv)].toArray w' (RetO (fun g : Nat => .iface t (ptr g)) (fun g oa => oa = [(g, (C, T))]) w')) :
    Calls Tryz.prog 9 [.int .i64 kind, v, .agg (bys iv)].toArray w (RetO (fun b : Nat => .tuple #[ptr b, .int .i64 0]) (fun b oa => ∃ g, oa = [(b, (#[.iface t (ptr g), .int .i64 0, .bool false], 57)), (g, (C, T))]) w) := by
  have i1 := hp.old
  haveI : NBy iv 16 := ⟨hi.len⟩
  have t1 : decide (kind < 1) = false := decide_eq_false (by omega)
  have t2 : decide (kind > 8) = false := decide_eq_false (by omega)
  clear hp
  refine fn_own (N := _) Tryz.func9 rfl Tryz.ntmps9 Tryz.results9 (by simp) ?_
  simp only [initS, Nat.reduceAdd, Nat.zero_add]
  repeat' (first | (refine wlS ?_) | (refine wlG ?_) | (refine wlB ?_) | (refine wlE ?_) | (refine efSvao ?_; intro v oa ho) | ((with_reducible refine sel_call ?_); first | (refine wl_newO rfl rfl rfl rfl rfl (fun w hm => by with_reducible exact WY w (VwB.out w hm)) ?_; intro x oa hx)) | (refine efBnn ?_; intro n hn) | (refine wl_skip rfl rfl ?_) | ((with_reducible refine wc_seq ?_); intro K hK) | (refine auC ?_) | (refine wc_cond rfl (fun hc => ?_) (fun hc => ?_)) | (refine wc_draw (by kernel_rfl) (by kernel_rfl) (by decide +kernel) ?_; intro w0 hw0 hm0; (try simp only [List.append_eq, List.cons_append, List.nil_append])) | (refine auP ?_) | ((refine auR ?_); clear hK K) | (refine auR ?_) | ((with_reducible refine hK _ _ ?_); clear hK K) | fail)
  subst hx
  repeat' (first | (refine wlS ?_) | (refine wlG ?_) | (refine wlB ?_) | ((with_reducible refine sel_b_eql ?_); refine wv rfl rfl (rd_eqlI rfl rfl rfl) ?_) | (refine wlE ?_) | (refine efSvao ?_; intro v oa ho) | (refine efBnn ?_; intro n hn) | (refine wl_skip rfl rfl ?_) | ((with_reducible refine wc_seq ?_); intro K hK) | (refine auC ?_) | (refine wc_cond rfl (fun hc => ?_) (fun hc => ?_)) | (refine wc_draw (by kernel_rfl) (by kernel_rfl) (by decide +kernel) ?_; intro w0 hw0 hm0; (try simp only [List.append_eq, List.cons_append, List.nil_append])) | (refine auP ?_) | ((refine auR ?_); clear hK K) | (refine auR ?_) | ((with_reducible refine hK _ _ ?_); clear hK K) | fail)
  first | refine end_ret (ResP.tmp rfl (ResP.tmp rfl ResP.nil)) ?_ | refine end_normal (ResP.tmp rfl (ResP.tmp rfl ResP.nil)) ?_
  (try dsimp only [tupV])
  exact ⟨_, _, rfl, ⟨x, rfl⟩, .keep (.skip (.keep .nil))⟩
end Go.Proofs.YtkendlnjaopbeaaGreatDoor
namespace Go.Proofs.YtkendlnjaopbeaaGreatDoor
open Go.RowKit
attribute [local irreducible] rwA bys
set_option linter.unusedVariables false
set_option linter.unusedSimpArgs false
set_option maxRecDepth 100000
theorem rd_tas2 {X : Cx} {s : Slots} {l : Blks} {o : Oper} {v : Value} {x : Operand} {t t' : TypeId} {b : Bool} {u : Value} (ho : o.op = .typeAssert x t t' b) (hx : val s x = some v) (h : ∀ w, (Instr.typeAssert v t t' b).run X.P w = .ok u w := by with_reducible assumption) : RdV X s l o u := rd_tas ho hx h
abbrev opC (t : TypeId) (g many : Nat) (over : Bool) : Array Value := #[.iface t (ptr g), .int .i64 (many : Int), .bool over]
set_option maxHeartbeats 8000000 in
theorem up_w {t : TypeId} {g fM : Nat} {b many n N2 : Nat} {ob : Blks} {Φ : Value → Blks → Prop} {v : Value} {p : List Nat} (hI : ∀ w, (method (Tryz.prog.types.size + Made.depth) t (ptr g) "sealring/op.more").run Tryz.prog w = .ok (fM, ptr g) w) (hkM : callOk Tryz.prog fM = true)
    (w0 w : World) (hb : Below w0.heap.size w0 w) (nd : (keys ((b, (opC t g many false, 57)) :: ob)).Nodup) (hd : Hd ((b, (opC t g many false, 57)) :: ob) w) (hf : ∀ k ∈ keys ((b, (opC t g many false, 57)) :: ob), w0.heap.size ≤ k)
    (hp : Cb w0 v n p) (hN : many + n = N2) (hn : N2 ≤ 2048)
    (MO : ∀ w', Below w0.heap.size w0 w' → (keys ob).Nodup → Hd ob w' → (∀ k ∈ keys ob, w0.heap.size ≤ k) → Calls Tryz.prog fM [ptr g, v].toArray w' (RetU (fun v : Value => v) ob Φ w')) :
    Calls Tryz.prog 10 [ptr b, v].toArray w (RetU (fun v : Value => .tuple #[v, .int .i64 0]) ((b, (opC t g many false, 57)) :: ob)
      (fun v l => ∃ o2, l = (b, (opC t g (many + n) false, 57)) :: o2 ∧ Φ v o2) w) := by
  subst hN
  have i1 : CsB (Old w (keys ((b, (opC t g many false, 57)) :: ob))) v n p := hp.oldB hb hf
  have u1 : IntKind.i64.wrap (2048 - (many : Int)) = 2048 - (many : Int) := wrap_i64 _ (by omega) (by omega)
  have t1 : decide ((n : Int) > 2048 - (many : Int)) = false := decide_eq_false (by omega)
  have u2 : IntKind.i64.wrap ((many : Int) + (n : Int)) = ((many + n : Nat) : Int) := by rw [wrap_i64 _ (by omega) (by omega)]; omega
  clear hp
  refine fn_upd (N := _) Tryz.func10 rfl Tryz.ntmps10 Tryz.results10 (by simp) nd hd ?_
  simp only [initS, Nat.reduceAdd, Nat.zero_add]
  repeat' (first | (refine wlS ?_) | (refine wlB ?_) | (refine wlE ?_) | (refine efSvao ?_; intro v oa ho) | (refine efB ?_) | (refine efBS ?_) | (refine wl_skip rfl rfl ?_) | ((with_reducible refine wc_seq ?_); intro K hK) | (refine auC ?_) | (refine wc_cond rfl (fun hc => ?_) (fun hc => ?_)) | (refine wc_draw (by kernel_rfl) (by kernel_rfl) (by decide +kernel) ?_; intro w0 hw0 hm0; (try simp only [List.append_eq, List.cons_append, List.nil_append])) | (refine auP ?_) | ((refine auR ?_); clear hK K) | (refine auR ?_) | ((with_reducible refine hK _ _ ?_); clear hK K) | fail)
  refine wl_updI rfl rfl rfl rfl rfl hI rfl (fun w hm hw => MO w (Mem.belowO hm hb hf) (Mem.ndS hm) hw (Mem.freshO hm hb hf)) ?_ hkM
  intro x oa hx
  repeat' (first | (refine wlS ?_) | (refine wlB ?_) | (refine wlE ?_) | (refine efSvao ?_; intro v oa ho) | (refine efB ?_) | (refine efBS ?_) | (refine wl_skip rfl rfl ?_) | ((with_reducible refine wc_seq ?_); intro K hK) | (refine auC ?_) | (refine wc_cond rfl (fun hc => ?_) (fun hc => ?_)) | (refine wc_draw (by kernel_rfl) (by kernel_rfl) (by decide +kernel) ?_; intro w0 hw0 hm0; (try simp only [List.append_eq, List.cons_append, List.nil_append])) | (refine auP ?_) | ((refine auR ?_); clear hK K) | (refine auR ?_) | ((with_reducible refine hK _ _ ?_); clear hK K) | fail)
  first | refine end_ret (ResP.tmp rfl (ResP.tmp rfl ResP.nil)) ?_ | refine end_normal (ResP.tmp rfl (ResP.tmp rfl ResP.nil)) ?_
  (try dsimp only [tupV])
  exact ⟨_, _, rfl, ⟨_, rfl, hx⟩, SubL.refl _⟩
set_option maxHeartbeats 8000000 in
theorem fin_w {t : TypeId} {g fE : Nat} {b many m : Nat} {ob : Blks} {Φ : Value → Blks → Prop} {q : List Nat} (hI : ∀ w, (method (Tryz.prog.types.size + Made.depth) t (ptr g) "sealring/op.end").run Tryz.prog w = .ok (fE, ptr g) w) (hkE : callOk Tryz.prog fE = true)
    (hA : ∀ w, (Instr.typeAssert (.iface t (ptr g)) 54 60 true).run Tryz.prog w = .ok (.tuple #[.nilIface, .bool false]) w)
    (w : World) (nd : (keys ((b, (opC t g many false, 57)) :: ob)).Nodup) (hd : Hd ((b, (opC t g many false, 57)) :: ob) w)
    (hΦ : ∀ v oa, Φ v oa → CsB (Hd oa) v m q) (hm : m ≤ 2112)
    (EE : ∀ w', (keys ob).Nodup → Hd ob w' → Calls Tryz.prog fE [ptr g].toArray w' (RetO (fun v : Value => .tuple #[v, .int .i64 0]) Φ w')) :
    Calls Tryz.prog 12 [ptr b, .int .i64 2112].toArray w (RetU (fun v : Value => .tuple #[v, .int .i64 (m : Int), .int .i64 0]) ((b, (opC t g many false, 57)) :: ob)
      (fun v l => ∃ oX, l = (b, (opC t g many true, 57)) :: (ob ++ oX) ∧ Φ v oX) w) := by
  have t1 : decide ((2112 : Int) < (m : Int)) = false := decide_eq_false (by omega)
  refine fn_upd (N := _) Tryz.func12 rfl Tryz.ntmps12 Tryz.results12 (by simp) nd hd ?_
  simp only [initS, Nat.reduceAdd, Nat.zero_add]
  repeat' (first | (refine wlS ?_) | (refine wlB ?_) | ((with_reducible refine sel_typeAssert ?_); refine wv rfl rfl (rd_tas2 rfl rfl) ?_) | (refine wlE ?_) | (refine efSvao ?_; intro v oa ho) | (refine efB ?_) | (refine efBS ?_) | (refine wl_skip rfl rfl ?_) | ((with_reducible refine wc_seq ?_); intro K hK) | (refine auC ?_) | (refine wc_cond rfl (fun hc => ?_) (fun hc => ?_)) | (refine wc_draw (by kernel_rfl) (by kernel_rfl) (by decide +kernel) ?_; intro w0 hw0 hm0; (try simp only [List.append_eq, List.cons_append, List.nil_append])) | (refine auP ?_) | ((refine auR ?_); clear hK K) | (refine auR ?_) | ((with_reducible refine hK _ _ ?_); clear hK K) | fail)
  refine wl_newI rfl rfl rfl rfl rfl hI rfl (fun w hm => EE w (Mem.ndS hm) (Mem.hd hm)) ?_ hkE
  intro x oa hx
  haveI := hΦ x oa hx
  repeat' (first | (refine wlS ?_) | (refine wlB ?_) | (refine wlE ?_) | (refine efSvao ?_; intro v oa ho) | (refine efB ?_) | (refine efBS ?_) | (refine wl_skip rfl rfl ?_) | ((with_reducible refine wc_seq ?_); intro K hK) | (refine auC ?_) | (refine wc_cond rfl (fun hc => ?_) (fun hc => ?_)) | (refine wc_draw (by kernel_rfl) (by kernel_rfl) (by decide +kernel) ?_; intro w0 hw0 hm0; (try simp only [List.append_eq, List.cons_append, List.nil_append])) | (refine auP ?_) | ((refine auR ?_); clear hK K) | (refine auR ?_) | ((with_reducible refine hK _ _ ?_); clear hK K) | fail)
  first | refine end_ret (ResP.tmp rfl (ResP.tmp rfl (ResP.tmp rfl ResP.nil))) ?_ | refine end_normal (ResP.tmp rfl (ResP.tmp rfl (ResP.tmp rfl ResP.nil))) ?_
  (try dsimp only [tupV])
  exact ⟨_, _, rfl, ⟨_, rfl, hx⟩, SubL.refl _⟩
end Go.Proofs.YtkendlnjaopbeaaGreatDoor
namespace Go.Proofs.YtkendlnjaopbeaaGreatDoor
open Go.RowKit
attribute [local irreducible] rwA bys
set_option linter.unusedVariables false
set_option linter.unusedSimpArgs false
set_option maxRecDepth 100000
theorem rd_eqlN {X : Cx} {s : Slots} {l : Blks} {o : Oper} {t yt : Nat} {x : Operand} {r : Bool} (ho : o.op = .binOp .eql t x (.const .nilIface) yt) (hx : val s x = some .nilIface)
    (q : ∀ w : World, (Op.equalIn 10000 t .nilIface .nilIface).run X.P w = .ok r w := by exact way_nil2) : RdV X s l o (.bool r) :=
  rd_val fun e w he hm => by
    have hc : e.eval (.const .nilIface) = .nilIface := rfl
    simp only [execOp, ho, he.eval hx, hc, eqGuard]
    simp [run_eql w rfl (q w)]
set_option maxHeartbeats 8000000 in
theorem op_end (w : World) {g : Nat} {W iv L : List Nat} {R : Nat} {lv : Value} {oo : Blks} [hkk : AKey W] (hR : R ≤ 14) (hi : B16 iv) (hl : CsB (Hd oo) lv 16 L) {k : Nat} {p : List Nat} (hok : endOk (dflat (decL W R) iv L 1)) (hk : 16 - endN (dflat (decL W R) iv L 1) = k) (hp : (dflat (decL W R) iv L 1).take k = p)
    (nd : (keys ((g, (rwA (sgSe W R iv lv), 111)) :: oo)).Nodup) (hd : Hd ((g, (rwA (sgSe W R iv lv), 111)) :: oo) w) :
    Calls Tryz.prog 125 [ptr g].toArray w (RetO (fun v : Value => .tuple #[v, .int .i64 0]) (fun v oa => CsB (Hd oa) v k p) w) := by
  refine RetU.seen hd ?_
  have ed := edok hkk.ok R
  have DE : ∀ b, B16 b → ∀ w, Calls Tryz.prog 128 [kv W R, .agg (bys b)].toArray w (Ret (.agg (bys (decL W R b))) w) := fun b hb w => dec_c w hR hb
  haveI : NBy iv 16 := ⟨hi.len⟩
  haveI : One lv := ⟨by obtain ⟨_, _, rfl, _⟩ := hl.cs.ln.out; rfl⟩
  haveI : SgOk (sgSe W R iv lv) := inferInstance
  have OB : ∀ {u : Value} w', Cb w' u 16 L → Calls Tryz.prog 127 [kv W R, .agg (bys iv), u].toArray w' (RetO (fun v : Value => .tuple #[v, .int .i64 0]) (fun v oa => CsB (Hd oa) v k p) w') :=
    fun w' h => open_yes w' ed DE hi (by omega) (by omega) h hok hk hp
  clear DE ed hok hk hp
  refine fn_upd (N := _) Tryz.func125 rfl Tryz.ntmps125 Tryz.results125 (by simp) nd hd ?_
  simp only [initS, Nat.reduceAdd, Nat.zero_add]
  repeat' (first | (refine wlS ?_) | (refine wlG ?_) | (refine wlB ?_) | (refine wlE ?_) | (refine efSvao ?_; intro v oa ho) | ((with_reducible refine sel_call ?_); first | (refine wl_newO rfl rfl rfl rfl rfl (fun w hm => by with_reducible exact OB w (VwB.out w hm)) ?_; intro x oa hx)) | (refine wl_skip rfl rfl ?_) | ((with_reducible refine wc_seq ?_); intro K hK) | (refine auC ?_) | (refine wc_cond rfl (fun hc => ?_) (fun hc => ?_)) | ((with_reducible refine wc_drawT (by kernel_rfl) ?_); (try simp only [List.append_eq, List.cons_append, List.nil_append, List.length_cons, List.length_nil, Nat.reduceAdd])) | ((with_reducible refine sel_wh ?_); (refine wh_if (by decide +kernel) ?_); first | (refine wh_take (lq := []) rfl rfl rfl rfl (by first | exact rvS | exact rvG | exact rvB | exact rvE) (Or.inl rfl) ?_) | (refine wh_takeL rfl rfl rfl rfl (by first | exact rvS | exact rvG | exact rvB | exact rvE) (by decide +kernel) ?_)) | (refine whS ?_; intro v hv hp) | ((with_reducible refine sel_wh ?_); first | (refine wh_pass rfl rfl rfl rfl ?_) | (refine wh_done rfl ?_) | (refine wh_all rfl ?_)) | ((with_reducible refine sel_rest ?_); first | exact rest_nil rfl | refine rest_cons rfl rfl ?_ ?_) | ((with_reducible refine sel_nx ?_); first | refine next_of ?_ | refine next_late (by decide +kernel) ?_) | (refine auP ?_) | ((refine auR ?_); clear hK K) | (refine auR ?_) | ((with_reducible refine hK _ _ ?_); clear hK K) | fail)
  first | refine end_ret (ResP.tmp rfl (ResP.tmp rfl ResP.nil)) ?_ | refine end_normal (ResP.tmp rfl (ResP.tmp rfl ResP.nil)) ?_
  (try dsimp only [tupV])
  exact ⟨_, _, rfl, ⟨_, rfl, hx⟩, SubL.refl _⟩
set_option maxHeartbeats 4000000 in
theorem way_bad (w : World) {kind : Int} (hk : 6 ≤ kind) {v : Value} {n : Nat} {p : List Nat} (hp : Cb w v n p) {iv W : List Nat} {R : Nat} [hkk : AKey W] (hi : B16 iv) (EX : ∀ w', Cb w' v n p → Calls Tryz.prog 25 [v].toArray w' (Ret (.tuple #[kv W R, .int .i64 1]) w')) :
    Calls Tryz.prog 18 [.int .i64 kind, v, .agg (bys iv)].toArray w (Ret .nilIface w) := by
  have i1 := hp.old
  haveI : NBy iv 16 := ⟨hi.len⟩
  obtain ⟨k0, hk0⟩ : ∃ k, Nat.min n 32 = k := ⟨_, rfl⟩
  obtain ⟨q0, hq0⟩ : ∃ q, (List.replicate 32 0).take 0 ++ (p.take k0 ++ (List.replicate 32 0).drop (0 + k0)) = q := ⟨_, rfl⟩
  have hfit : 0 + k0 ≤ (List.replicate 32 0).length := by rw [← hk0, List.length_replicate, Nat.zero_add]; exact Nat.min_le_right _ _
  have hk1 : k0 ≤ n := by rw [← hk0]; exact Nat.min_le_left _ _
  have hk2 : k0 ≤ 32 := by rw [← hk0]; exact Nat.min_le_right _ _
  haveI : NBy q0 32 := ⟨by rw [← hq0, List.take_zero, List.nil_append, List.length_append, List.length_take, List.length_drop, List.length_replicate, hp.ok.len]; omega⟩
  have t0 : ((1 : Int) != 0) = true := rfl
  have t1 : (kind == 1) = false := by simp only [beq_eq_false_iff_ne]; omega
  have t2 : (kind == 2) = false := by simp only [beq_eq_false_iff_ne]; omega
  have t3 : (kind == 3) = false := by simp only [beq_eq_false_iff_ne]; omega
  have t4 : (kind == 4) = false := by simp only [beq_eq_false_iff_ne]; omega
  have t5 : (kind == 5) = false := by simp only [beq_eq_false_iff_ne]; omega
  clear hp
  refine fn_ret (N := _) Tryz.func18 rfl Tryz.ntmps18 Tryz.results18 (by simp) ?_
  simp only [initS, Nat.reduceAdd, Nat.zero_add]
  repeat' (first | (refine wlS ?_) | (refine wlG ?_) | (refine wlB ?_) | ((with_reducible refine sel_call ?_); refine wl_rd rfl rfl (rd_call rfl rfl rfl (fun w hm => by with_reducible exact EX w (VwB.out w hm))) ?_) | (refine wlE ?_) | (refine efSvvp ?_; intro v hv hp) | (refine efSvao ?_; intro v oa ho) | (refine efM ?_) | (refine efMvao ?_; intro v oa ho) | ((with_reducible refine sel_store ?_); first | (refine wl_putB (e := 5) rfl rfl rfl rfl rfl ?_; intro oa ho)) | (refine efG ?_) | (refine efGnn ?_; intro n hn) | (refine efZCnn ?_; intro n hn) | (refine efBnn ?_; intro n hn) | (refine efB ?_) | (refine efBS ?_) | (refine wl_skip rfl rfl ?_) | ((with_reducible refine wc_seq ?_); intro K hK) | (refine auC ?_) | (refine wc_cond rfl (fun hc => ?_) (fun hc => ?_)) | (refine wc_draw (by kernel_rfl) (by kernel_rfl) (by decide +kernel) ?_; intro w0 hw0 hm0; (try simp only [List.append_eq, List.cons_append, List.nil_append])) | (refine auP ?_) | ((refine auR ?_); clear hK K) | (refine auR ?_) | ((with_reducible refine hK _ _ ?_); clear hK K) | fail)
  first | refine end_ret (ResP.tmp rfl ResP.nil) ?_ | refine end_normal (ResP.tmp rfl ResP.nil) ?_
  first | rfl | (show _ = _; rfl) | (simp only [tupV, *]; done)
set_option maxHeartbeats 4000000 in
theorem new_bad (w : World) {kind : Int} (hk : 6 ≤ kind ∧ kind ≤ 8) {v : Value} {n : Nat} {p : List Nat} (hp : Cb w v n p) {iv W : List Nat} {R : Nat} [hkk : AKey W] (hi : B16 iv) (EX : ∀ w', Cb w' v n p → Calls Tryz.prog 25 [v].toArray w' (Ret (.tuple #[kv W R, .int .i64 1]) w')) :
    Calls Tryz.prog 9 [.int .i64 kind, v, .agg (bys iv)].toArray w (Ret (.tuple #[.pointer none, .int .i64 4]) w) := by
  have i1 := hp.old
  haveI : NBy iv 16 := ⟨hi.len⟩
  have t1 : decide (kind < 1) = false := decide_eq_false (by omega)
  have t2 : decide (kind > 8) = false := decide_eq_false (by omega)
  have WB := fun w' (h : Cb w' v n p) => way_bad w' hk.1 h hi EX
  clear hp
  refine fn_ret (N := _) Tryz.func9 rfl Tryz.ntmps9 Tryz.results9 (by simp) ?_
  simp only [initS, Nat.reduceAdd, Nat.zero_add]
  repeat' (first | (refine wlS ?_) | (refine wlG ?_) | (refine wlB ?_) | ((with_reducible refine sel_call ?_); refine wl_rd rfl rfl (rd_call rfl rfl rfl (fun w hm => by with_reducible exact WB w (VwB.out w hm))) ?_) | ((with_reducible refine sel_b_eql ?_); refine wv rfl rfl (rd_eqlN rfl rfl) ?_) | (refine wlE ?_) | (refine efSvao ?_; intro v oa ho) | (refine efBnn ?_; intro n hn) | (refine wl_skip rfl rfl ?_) | ((with_reducible refine wc_seq ?_); intro K hK) | (refine auC ?_) | (refine wc_cond rfl (fun hc => ?_) (fun hc => ?_)) | (refine wc_draw (by kernel_rfl) (by kernel_rfl) (by decide +kernel) ?_; intro w0 hw0 hm0; (try simp only [List.append_eq, List.cons_append, List.nil_append])) | (refine auP ?_) | ((refine auR ?_); clear hK K) | (refine auR ?_) | ((with_reducible refine hK _ _ ?_); clear hK K) | fail)
  first | refine end_ret (ResP.tmp rfl (ResP.tmp rfl ResP.nil)) ?_ | refine end_normal (ResP.tmp rfl (ResP.tmp rfl ResP.nil)) ?_
  first | rfl | (show _ = _; rfl) | (simp only [tupV, *]; done)
set_option maxHeartbeats 4000000 in
theorem run_bad (w : World) {kind : Int} (hk : 6 ≤ kind ∧ kind ≤ 8) {v : Value} {n : Nat} {p : List Nat} (hp : Cb w v n p) {iv W : List Nat} {R : Nat} [hkk : AKey W] (hi : B16 iv) (EX : ∀ w', Cb w' v n p → Calls Tryz.prog 25 [v].toArray w' (Ret (.tuple #[kv W R, .int .i64 1]) w')) {u : Value} :
    Calls Tryz.prog 14 [.int .i64 kind, v, .agg (bys iv), u].toArray w (Ret (.tuple #[.slice none 0 0, .int .i64 4]) w) := by
  have i1 := hp.old
  haveI : NBy iv 16 := ⟨hi.len⟩
  have NB2 := fun w' (h : Cb w' v n p) => new_bad w' hk h hi EX
  have t1 : ((4 : Int) != 0) = true := rfl
  clear hp
  refine fn_ret (N := _) Tryz.func14 rfl Tryz.ntmps14 Tryz.results14 (by simp) ?_
  simp only [initS, Nat.reduceAdd, Nat.zero_add]
  repeat' (first | (refine wlS ?_) | (refine wlG ?_) | (refine wlB ?_) | ((with_reducible refine sel_call ?_); refine wl_rd rfl rfl (rd_call rfl rfl rfl (fun w hm => by with_reducible exact NB2 w (VwB.out w hm))) ?_) | (refine wlE ?_) | (refine efSvao ?_; intro v oa ho) | (refine efBnn ?_; intro n hn) | (refine wl_skip rfl rfl ?_) | ((with_reducible refine wc_seq ?_); intro K hK) | (refine auC ?_) | (refine wc_cond rfl (fun hc => ?_) (fun hc => ?_)) | (refine wc_draw (by kernel_rfl) (by kernel_rfl) (by decide +kernel) ?_; intro w0 hw0 hm0; (try simp only [List.append_eq, List.cons_append, List.nil_append])) | (refine auP ?_) | ((refine auR ?_); clear hK K) | (refine auR ?_) | ((with_reducible refine hK _ _ ?_); clear hK K) | fail)
  first | refine end_ret (ResP.tmp rfl (ResP.tmp rfl ResP.nil)) ?_ | refine end_normal (ResP.tmp rfl (ResP.tmp rfl ResP.nil)) ?_
  first | rfl | (show _ = _; rfl) | (simp only [tupV, *]; done)
end Go.Proofs.YtkendlnjaopbeaaGreatDoor
namespace Go.Proofs.YtkendlnjaopbeaaGreatDoor
open Go.RowKit
set_option linter.unusedVariables false
set_option linter.unusedSimpArgs false
set_option maxRecDepth 100000
/-! ### Appends to a slice that is full -/
section
variable {X : Cx} {s : Slots} {l : Blks} {o : Oper} {v : Value} {Q : Post} {ops : Array Oper} {r : List Oper}
theorem full_cells {w : World} {b off n : Nat} {c : Nat} {p : List Nat} (h : Cb w (.slice (some ⟨b, off, none⟩) n c) n p) : ∀ j y, (bl p)[j]? = some y → w.cell? ((⟨b, off, none⟩ : Addr).add j) = some y := fun j y hj => by
  obtain ⟨b', off', cap', hv, hc⟩ := h.cs.cell j y hj
  injection hv with hv
  injection hv with hv
  injection hv with hb' ho'
  subst hb'; subst ho'
  rw [Addr.add_mid]; exact hc
theorem append_full {P : Program} {w : World} {t ty e bytes b off n m : Nat} {u : Value} {p q : List Nat} {z : Array Value}
    (ht : P.underlying t = some (.slice e)) (hei : EI P e 1 bytes z) (hv : Cb w (.slice (some ⟨b, off, none⟩) n n) n p) (hu : Cb w u m q) (h0 : 0 < m)
    (h63 : n + m ≤ maxLen) (hb : (n + m) * bytes ≤ 140737488355328) :
    ∃ v' w' oa', (Builtin.append_ #[t, t] ty #[.slice (some ⟨b, off, none⟩) n n, u]).run P w = .ok v' w' ∧ OwnB e v' (n + m) (p ++ q) oa' ∧ Upd w [] w' oa' := by
  obtain ⟨i, zv, hi, hsz, rfl, hz, rfl, hzs⟩ := hei.out
  obtain ⟨pu, cu, rfl, h1, h2, h3⟩ := hu.cs.ln.out
  obtain ⟨b', off', rfl⟩ := h3 h0
  have hsmall : n + m ≤ 9223372036854775807 := by simp only [maxLen] at h63; omega
  have hlp : (bl p).length = n * i.size := by rw [bl_len, hv.ok.len, hsz, Nat.mul_one]
  have hlq : (bl q).length = m * i.size := by rw [bl_len, hu.ok.len, hsz, Nat.mul_one]
  have hr := run_append_grow (P := P) w t ty e i zv ht hi hz ⟨b, off, none⟩ n n (bl p) hlp (full_cells hv) ⟨b', off', none⟩ m cu (bl q) hlq (full_cells hu) (by omega) (by omega) (growslice_fits (by omega) hb)
  have hge := grownCap_ge w (n + m) n e
  have hcl := grownCap_le_maxLen w (n + m) n e h63
  refine ⟨_, _, [(w.heap.size, (_, e))], hr, ⟨⟨by rw [bl_len, List.length_append, hv.ok.len, hu.ok.len, Nat.mul_one], .inr ⟨w.heap.size, _, _, rfl, hge, hcl, ?_, ?_, rfl⟩, .inr hei.tb⟩, hv.ok.app hu.ok⟩, upd_new (w := w) (w1 := w.drew) rfl rfl rfl rfl [] _ e hei.tb⟩
  · simp only [Array.size_append, List.size_toArray, size_zeroCells, hzs, hlp, hlq, hsz, Nat.mul_one]
    omega
  · simp only [Array.toList_append, List.append_assoc]
    rw [← List.append_assoc, ← bl_app]
    have : (bl (p ++ q)).length = (n + m) * 1 := by rw [bl_len, List.length_append, hv.ok.len, hu.ok.len, Nat.mul_one]
    rw [← this]
    exact List.take_left
theorem append_full0 {P : Program} {w : World} {t tn ty e bytes b off n m : Nat} {kn kv : IntKind} {p : List Nat}
    (ht : P.underlying t = some (.slice e)) (htn : P.underlying tn = some (.int kn)) (hei : EI P e 1 bytes #[.int .u8 0]) (hv : Cb w (.slice (some ⟨b, off, none⟩) n n) n p) (h0 : 0 < m)
    (h63 : n + m ≤ maxLen) (hb : (n + m) * bytes ≤ 140737488355328) :
    ∃ v' w' oa', (Builtin.append_ #[t, tn] ty #[.slice (some ⟨b, off, none⟩) n n, .int kv (m : Int)]).run P w = .ok v' w' ∧ OwnB e v' (n + m) (p ++ List.replicate m 0) oa' ∧ Upd w [] w' oa' := by
  obtain ⟨i, zv, hi, hsz, rfl, hz, hzc, hzs⟩ := hei.out
  have hsmall : n + m ≤ 9223372036854775807 := by simp only [maxLen] at h63; omega
  have hlp : (bl p).length = n * i.size := by rw [bl_len, hv.ok.len, hsz, Nat.mul_one]
  have hmb : m * i.bytes ≤ 140737488355328 := Nat.le_trans (Nat.mul_le_mul_right _ (by omega)) hb
  have hfc := run_firstCells_some (P := P) w.drew i.size n ⟨b, off, none⟩ n n (bl p) hlp (by simpa using full_cells hv)
  have hr := Lib.run_append_grow_zeros (P := P) w t tn ty e i zv kv kn ht htn hi hz (some ⟨b, off, none⟩) n n (bl p) hfc m (by omega) (by omega) (by omega) (by omega) (by omega) (growslice_fits (by omega) hb)
  have hge := grownCap_ge w (n + m) n e
  have hcl := grownCap_le_maxLen w (n + m) n e h63
  refine ⟨_, _, [(w.heap.size, (_, e))], hr, ⟨⟨by rw [bl_len, List.length_append, hv.ok.len, List.length_replicate, Nat.mul_one], .inr ⟨w.heap.size, _, _, rfl, hge, hcl, ?_, ?_, rfl⟩, .inr hei.tb⟩, hv.ok.app (BL.rep m 0 (by decide))⟩, upd_new (w := w) (w1 := w.drew) rfl rfl rfl rfl [] _ e hei.tb⟩
  · simp only [Array.size_append, List.size_toArray, size_zeroCells, hzc, hlp, hsz, Nat.mul_one]
    simp only [List.size_toArray, List.length_cons, List.length_nil]
    omega
  · simp only [Array.toList_append, hzc, zeros_one]
    rw [show List.replicate m (Value.int .u8 0) = bl (List.replicate m 0) from (bl_rep m 0).symm, ← bl_app]
    have : (bl (p ++ List.replicate m 0)).length = (n + m) * 1 := by rw [bl_len, List.length_append, hv.ok.len, List.length_replicate, Nat.mul_one]
    rw [← this]
    exact List.take_left
theorem wl_appendF {x y : Operand} {t e bytes b off n m : Nat} {z : Array Value} {u : Value} {p q : List Nat} {f : Blks → Blks} {s' : Value → Slots}
    (hg : gd s ops o = some true) (hd : dOk X.N o.dst = true) (hop : o.op = .call { callee := .builtin .append, args := #[x, y], argTypes := #[t, t] })
    (hx : val s x = some (.slice (some ⟨b, off, none⟩) n n)) (hy : val s y = some u) [ht : UT X.P t (.slice e)] [hei : EI X.P e 1 bytes z] [hv : VwB X l (.slice (some ⟨b, off, none⟩) n n) n p] [hu : VwB X l u m q] [hf : Snoc l f]
    (h : ∀ v' oa', OwnB e v' (n + m) (p ++ q) oa' → Wl X ops Q r (s' v') (f oa')) (h0 : 0 < m := by first | (with_reducible assumption) | omega | decide)
    (h63 : (n + m) * bytes ≤ 1152921504606846976 ∧ n + m ≤ 1152921504606846976 ∧ (n + m) * bytes ≤ 140737488355328 := by (refine ⟨?_, ?_, ?_⟩ <;> omega))
    (hs' : ∀ v', sputO s o.dst v' = s' v' := by intro _; (try dsimp only [sputO, sput, Nat.reduceBEq, cond_true, cond_false, beq_self_eq_true]); first | done | exact rfl) : Wl X ops Q (o :: r) s l := fun ac w hst => by
  obtain rfl : (fun v' => sputO s o.dst v') = s' := funext hs'
  have hw := gd_wanted hst.env hg
  haveI : Seg l [] f := ⟨l, [], by simp, fun o => by rw [hf.out, List.append_nil]⟩
  obtain ⟨v', w', oa', hr, ho', hup⟩ := append_full (ty := o.type) ht.out hei (hv.out w hst.mem) (hu.out w hst.mem) h0 (by simp only [maxLen]; omega) h63.2.2
  unfold wpList
  rw [if_pos hw]
  refine .inl ?_
  unfold Oper.wp
  have : (execOp ac.eval o).run X.P w = .ok (.value v') w' := by
    simp only [execOp, hop, resolve, invoke, builtin, Sem.run_bind, Sem.run_pure, Result.andThen_ok, List.map_toArray, List.map_cons, List.map_nil, hst.env.eval hx, hst.env.eval hy, hr]
  rw [this]
  exact h v' oa' ho' _ _ ⟨hst.env.put hd _, hup.mem hst.mem⟩
theorem wl_appendF0 {x y : Operand} {t tn e bytes b off n m : Nat} {kn kv : IntKind} {p : List Nat} {f : Blks → Blks} {s' : Value → Slots}
    (hg : gd s ops o = some true) (hd : dOk X.N o.dst = true) (hop : o.op = .call { callee := .builtin .append, args := #[x, y], argTypes := #[t, tn] })
    (hx : val s x = some (.slice (some ⟨b, off, none⟩) n n)) (hy : val s y = some (.int kv (m : Int))) [ht : UT X.P t (.slice e)] [htn : UT X.P tn (.int kn)] [hei : EI X.P e 1 bytes #[.int .u8 0]] [hv : VwB X l (.slice (some ⟨b, off, none⟩) n n) n p] [hf : Snoc l f]
    (h : ∀ v' oa', OwnB e v' (n + m) (p ++ List.replicate m 0) oa' → Wl X ops Q r (s' v') (f oa')) (h0 : 0 < m := by first | (with_reducible assumption) | omega | decide)
    (h63 : (n + m) * bytes ≤ 1152921504606846976 ∧ n + m ≤ 1152921504606846976 ∧ (n + m) * bytes ≤ 140737488355328 := by (refine ⟨?_, ?_, ?_⟩ <;> omega))
    (hs' : ∀ v', sputO s o.dst v' = s' v' := by intro _; (try dsimp only [sputO, sput, Nat.reduceBEq, cond_true, cond_false, beq_self_eq_true]); first | done | exact rfl) : Wl X ops Q (o :: r) s l := fun ac w hst => by
  obtain rfl : (fun v' => sputO s o.dst v') = s' := funext hs'
  have hw := gd_wanted hst.env hg
  haveI : Seg l [] f := ⟨l, [], by simp, fun o => by rw [hf.out, List.append_nil]⟩
  obtain ⟨v', w', oa', hr, ho', hup⟩ := append_full0 (ty := o.type) (kv := kv) ht.out htn.out hei (hv.out w hst.mem) h0 (by simp only [maxLen]; omega) h63.2.2
  unfold wpList
  rw [if_pos hw]
  refine .inl ?_
  unfold Oper.wp
  have : (execOp ac.eval o).run X.P w = .ok (.value v') w' := by
    simp only [execOp, hop, resolve, invoke, builtin, Sem.run_bind, Sem.run_pure, Result.andThen_ok, List.map_toArray, List.map_cons, List.map_nil, hst.env.eval hx, hst.env.eval hy, hr]
  rw [this]
  exact h v' oa' ho' _ _ ⟨hst.env.put hd _, hup.mem hst.mem⟩
/-- No nought is appended. -/
theorem rd_append00 {x y : Operand} {t tn e bytes b off n : Nat} {kn kv : IntKind} {z : Array Value} (hop : o.op = .call { callee := .builtin .append, args := #[x, y], argTypes := #[t, tn] })
    (hx : val s x = some (.slice (some ⟨b, off, none⟩) n n)) (hy : val s y = some (.int kv 0)) [ht : UT X.P t (.slice e)] [htn : UT X.P tn (.int kn)] [hei : EI X.P e 1 bytes z] : RdV X s l o (.slice (some ⟨b, off, none⟩) n n) := rd_val fun a w he hm => by
  obtain ⟨i, zv, hi, hsz, hby, hz, hzc, hzs⟩ := hei.out
  have hw0 : IntKind.i64.wrap 0 = 0 := by decide
  have hr : (Builtin.append_ #[t, tn] o.type #[.slice (some ⟨b, off, none⟩) n n, .int kv 0]).run X.P w = .ok (.slice (some ⟨b, off, none⟩) n n) w := by
    simp [Builtin.append_, run_underlying ht.out, run_underlying htn.out, sizeOf, typeInfo, hi, asInt, asIntOf, hw0, storeCells]
  simp only [execOp, hop, resolve, invoke, builtin, Sem.run_bind, Sem.run_pure, Result.andThen_ok, List.map_toArray, List.map_cons, List.map_nil, he.eval hx, he.eval hy, hr]
/-- Nothing is appended. -/
theorem rd_appendN {x y : Operand} {t e k bytes b off n c : Nat} {u : Value} {z : Array Value} (hop : o.op = .call { callee := .builtin .append, args := #[x, y], argTypes := #[t, t] })
    (hx : val s x = some (.slice (some ⟨b, off, none⟩) n c)) (hy : val s y = some u) [ht : UT X.P t (.slice e)] [hei : EI X.P e k bytes z] [hu : Ln u 0] (hn : n ≤ c := by first | (with_reducible assumption) | omega | decide) : RdV X s l o (.slice (some ⟨b, off, none⟩) n c) := rd_val fun a w he hm => by
  obtain ⟨i, zv, hi, hsz, hby, hz, hzc, hzs⟩ := hei.out
  obtain ⟨p, cu, rfl, _, _, _⟩ := hu.out
  have hr : (Builtin.append_ #[t, t] o.type #[.slice (some ⟨b, off, none⟩) n c, .slice p 0 cu]).run X.P w = .ok (.slice (some ⟨b, off, none⟩) n c) w := by
    cases p <;> simp [Builtin.append_, run_underlying ht.out, sizeOf, typeInfo, hi, Builtin.lenOf, Builtin.firstCells, loadCells, loadCellsFrom, hn, storeCells]
  simp only [execOp, hop, resolve, invoke, builtin, Sem.run_bind, Sem.run_pure, Result.andThen_ok, List.map_toArray, List.map_cons, List.map_nil, he.eval hx, he.eval hy, hr]
end
end Go.Proofs.YtkendlnjaopbeaaGreatDoor
