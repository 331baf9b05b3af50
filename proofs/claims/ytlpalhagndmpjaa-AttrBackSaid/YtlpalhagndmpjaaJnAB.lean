/- Calls that write blocks which they are given. The world behind a sort of attributes, in terms of the walk's own slices. slices.SortFunc at attributes, cmp.Compare at int: the shelf's contracts laid at this seat's numbers (written by the kit's lay-plain.mjs for the seat of r18.tsv; for another seat it is to be written anew). slices.SortFunc of attributes by their kinds: what it makes of a slice of the walk's own. Equality told by a fact about the values; a slice against nil. slices.Clone of bytes, walked. attr.Norm, walked. attr.Get, attr.Is, slices.Clone of attributes, the laws' sameAttrs and attrs: walked. One list of attributes over another: the plain law. Match, told of kinds and bytes alone. The laws' sameAttrs and attrs: walked. Numbers of 256 bits as rows of four words: plain facts, no program in sight. What an argument is that came in: arrays of integers, numbers of 256 and 512 bits. Closed facts of the translation that hang on its long word of the order of beginnings: read once, by the signs of the word. Items read, in plain terms. Small laws of numbers that wrap. -/
import Derived.Test.YtlpalhagndmpjaaJnAA
import Derived.Shelf.GgSortFunc.InsertionK
import Derived.Shelf.SlSortCmp.WholeK
import Derived.Shelf.SlSortCmp.NoneTotal
import Derived.Shelf.SlicesG.Cmp
import Derived.Ground.SlsfProg
import Derived.Ground.SlgcProg
import Derived.Test.YtlpalhagndmpjaaProg
import Derived.Test.YtlpalhagndmpjaaOwnOps
import Derived.Test.YtlpalhagndmpjaaLwH
import Derived.Test.YtlpalhagndmpjaaTyS
import Derived.WalkKit
import Derived.Test.YtlpalhagndmpjaaCom
import Derived.ProofKit
import Derived.OpenShut
import Derived.JoinedOf
import Derived.Test.YtlpalhagndmpjaaLwOps
namespace Go.Proofs.Ytlpalhagndmpjaa
open Go.RowKit
set_option linter.unusedVariables false
set_option linter.unusedSimpArgs false
/-- What is made of the blocks oa: one value and what it stands on are told of; all else below is as it was. -/
def RetU {T : Type} (mk : T → Value) (oa : Blks) (Φ : T → Blks → Prop) (w : World) (e : Ending) (w' : World) : Prop := ∃ x oa', e = .returned (mk x) ∧ Φ x oa' ∧ Upd w oa w' oa'
theorem Mem.initO {P : Program} {W : World} {N : Nat} {oa : Blks} (nd : (keys oa).Nodup) (hd : Hd oa W) : Mem ⟨P, W, N, keys oa⟩ oa W :=
  ⟨nd, ⟨rfl, rfl, rfl, Nat.le_refl _, fun _ _ _ => rfl, fun k c t h => hd (k, (c, t)) (mu_in h)⟩, fun _ h _ => h⟩
theorem Mem.toUpd {P : Program} {W w : World} {N : Nat} {oa oa' : Blks} (hm : Mem ⟨P, W, N, keys oa⟩ oa' w) : Upd W oa w oa' :=
  ⟨hm.cls.os, hm.cls.tape, hm.cls.output, hm.cls.size, fun k hk hn => hm.cls.old k hk hn, hm.nd, fun p hp => hm.cls.now p.1 p.2.1 p.2.2 (mu_mem_of hp hm.nd), fun n hn => by
    rcases Nat.lt_or_ge n W.heap.size with h | h
    · exact .inl (hm.fresh n hn h)
    · exact .inr h⟩
theorem fn_upd {T : Type} {mk : T → Value} {oa : Blks} {Φ : T → Blks → Prop} {P : Program} {f : Nat} {fn : Func} {c : Code} {vs : List Value} {W : World} {N : Nat} (hf : P.funcs[f]? = some fn) (hb : fn.body = some c) (hN : fn.ntmps = N) {rs : List ResultVar} (hrs : fn.results = rs.toArray) (hl : vs.length ≤ N)
    (nd : (keys oa).Nodup) (hd : Hd oa W) (h : Wc ⟨P, W, N, keys oa⟩ c (endP ⟨P, W, N, keys oa⟩ rs fun u l => ∃ x oa', u = mk x ∧ Φ x oa' ∧ SubL oa' l) (initS vs 0) oa) : Calls P f vs.toArray W (RetU mk oa Φ W) :=
  (fn_calls hf hb hN hrs hl (Mem.initO nd hd) h).mono fun e w' ⟨u, l, he, ⟨x, oa', hu, hφ, hs⟩, hm⟩ => ⟨x, oa', by rw [he, hu], hφ, (hm.sub hs).toUpd⟩
/-- What came in and is none of the blocks that may be written. -/
theorem Cs.oldX {W : World} {v : Value} {n : Nat} {xs : List Value} {own : List Nat} (h : Cs W v n xs) (ha : elB v ∉ own) : CsF (Old W own) v n xs := ⟨h.ln, fun w ho => h.stay fun b off cap hv hlt => ho b hlt (by subst hv; exact ha)⟩
theorem Cb.oldX {W : World} {v : Value} {n : Nat} {p : List Nat} {own : List Nat} (h : Cb W v n p) (ha : elB v ∉ own) : CsB (Old W own) v n p := ⟨h.cs.oldX ha, h.ok⟩
section
variable {X : Cx} {s : Slots} {l : Blks} {o : Oper} {v : Value} {Q : Post} {ops : Array Oper} {r : List Oper}
theorem Mem.hd {w : World} {oa : Blks} {f : Blks → Blks} (hm : Mem X l w) [hs : Seg l oa f] : Hd oa w := fun p hp => by
  obtain ⟨pre, post, rfl, _⟩ := hs.out
  exact hm.cls.now p.1 p.2.1 p.2.2 (mu_mem_of (by simp [hp]) hm.nd)
theorem wl_updO {T : Type} {mk : T → Value} {oa : Blks} {Φ : T → Blks → Prop} {c : Call} {fi : Nat} {vs : List Value} {f : Blks → Blks} {s' : T → Slots} (hg : gd s ops o = some true) (hd : dOk X.N o.dst = true) (ho : o.op = .call c) (hc : c.callee = .value (.func fi)) (ha : vals s c.args.toList = some vs)
    (hC : ∀ w, Mem X l w → Hd oa w → Calls X.P fi vs.toArray w (RetU mk oa Φ w)) [hf : Seg l oa f] (h : ∀ x oa', Φ x oa' → Wl X ops Q r (s' x) (f oa')) (hk : callOk X.P fi = true := by kernel_rfl)
    (hs' : ∀ x, sputO s o.dst (mk x) = s' x := by intro _; (try dsimp only [sputO, sput, Nat.reduceBEq, cond_true, cond_false, beq_self_eq_true]); first | done | exact rfl) : Wl X ops Q (o :: r) s l := fun a w hst => by
  obtain rfl : (fun x => sputO s o.dst (mk x)) = s' := funext hs'
  have hw := gd_wanted hst.env hg
  unfold wpList
  rw [if_pos hw]
  refine .inl ?_
  unfold Oper.wp
  rw [run_op_call ho hc hst.env ha, run_enter hk]
  refine (hC w hst.mem hst.mem.hd).mono fun e w' ⟨x, oa', he, hφ, hup⟩ => ?_
  subst he
  exact h x oa' hφ _ _ ⟨hst.env.put hd _, hup.mem hst.mem⟩
/-- The same with one block, which stays where it is. -/
def RetP {T : Type} (mk : T → Value) (n : Nat) (c : Array Value) (t : TypeId) (Φ : T → Array Value → Prop) (w : World) (e : Ending) (w' : World) : Prop := ∃ x c', e = .returned (mk x) ∧ Φ x c' ∧ Upd w [(n, (c, t))] w' [(n, (c', t))]
theorem fn_updP {T : Type} {mk : T → Value} {n : Nat} {cs : Array Value} {t : TypeId} {Φ : T → Array Value → Prop} {P : Program} {f : Nat} {fn : Func} {c : Code} {vs : List Value} {W : World} {N : Nat} (hf : P.funcs[f]? = some fn) (hb : fn.body = some c) (hN : fn.ntmps = N) {rs : List ResultVar} (hrs : fn.results = rs.toArray) (hl : vs.length ≤ N)
    (hd : W.heap[n]? = some (.cells cs t)) (h : Wc ⟨P, W, N, [n]⟩ c (endP ⟨P, W, N, [n]⟩ rs fun u l => ∃ x c', u = mk x ∧ Φ x c' ∧ SubL [(n, (c', t))] l) (initS vs 0) [(n, (cs, t))]) : Calls P f vs.toArray W (RetP mk n cs t Φ W) :=
  (fn_calls hf hb hN hrs hl (Mem.initO (oa := [(n, (cs, t))]) (by simp [keys]) (hd_one hd)) h).mono fun e w' ⟨u, l, he, ⟨x, c', hu, hφ, hs⟩, hm⟩ => ⟨x, c', by rw [he, hu], hφ, (hm.sub hs).toUpd⟩
theorem At.ex {n : Nat} {x : Array Value × TypeId} (y : Array Value × TypeId) {l l' : Blks} (h : At l n x y l') : ∃ pre post, l = pre ++ ((n, x) :: post) ∧ l' = pre ++ ((n, y) :: post) := by
  induction h with
  | here => exact ⟨[], _, rfl, rfl⟩
  | there _ ih =>
    obtain ⟨pre, post, h1, h2⟩ := ih
    exact ⟨_ :: pre, post, by rw [h1]; rfl, by rw [h2]; rfl⟩
theorem wl_updP {T : Type} {mk : T → Value} {n : Nat} {cs : Array Value} {t : TypeId} {Φ : T → Array Value → Prop} {c : Call} {fi : Nat} {vs : List Value} {l' : Array Value → Blks} {s' : T → Slots} (hg : gd s ops o = some true) (hd : dOk X.N o.dst = true) (ho : o.op = .call c) (hc : c.callee = .value (.func fi)) (ha : vals s c.args.toList = some vs)
    (hC : ∀ w, Mem X l w → w.heap[n]? = some (.cells cs t) → Calls X.P fi vs.toArray w (RetP mk n cs t Φ w)) (h : ∀ x c', Φ x c' → Wl X ops Q r (s' x) (l' c')) (hk : callOk X.P fi = true := by kernel_rfl)
    (hat : ∀ c', At l n (cs, t) (c', t) (l' c') := by intro _; repeat (first | exact At.here | apply At.there))
    (hs' : ∀ x, sputO s o.dst (mk x) = s' x := by intro _; (try dsimp only [sputO, sput, Nat.reduceBEq, cond_true, cond_false, beq_self_eq_true]); first | done | exact rfl) : Wl X ops Q (o :: r) s l := fun a w hst => by
  obtain rfl : (fun x => sputO s o.dst (mk x)) = s' := funext hs'
  have hw := gd_wanted hst.env hg
  unfold wpList
  rw [if_pos hw]
  refine .inl ?_
  unfold Oper.wp
  rw [run_op_call ho hc hst.env ha, run_enter hk]
  refine (hC w hst.mem (Has.at (hat cs) w hst.mem)).mono fun e w' ⟨x, c', he, hφ, hup⟩ => ?_
  subst he
  refine h x c' hφ _ _ ⟨hst.env.put hd _, ?_⟩
  obtain ⟨pre, post, e1, e2⟩ := At.ex _ (hat c')
  haveI : Seg l [(n, (cs, t))] (fun o => pre ++ (o ++ post)) := ⟨pre, post, by rw [e1]; rfl, fun _ => rfl⟩
  have := hup.mem hst.mem
  rw [e2]
  exact this
end
end Go.Proofs.Ytlpalhagndmpjaa
namespace Go.Proofs.Ytlpalhagndmpjaa
open Go.RowKit
set_option linter.unusedVariables false
set_option linter.unusedSimpArgs false
set_option maxRecDepth 100000
instance attInh : Inhabited Att := ⟨(0, .int .i64 0, [])⟩
def encA (x : Att) : List Value := [.int .i64 x.1, if x.2.1.oneCell' = true then x.2.1 else .int .i64 0]
theorem encA_len (x : Att) : (encA x).length = 2 := rfl
theorem encA_one (x : Att) : ∀ v ∈ encA x, v.oneCell' = true := by
  intro v hv
  simp only [encA, List.mem_cons, List.not_mem_nil, or_false] at hv
  rcases hv with rfl | rfl
  · rfl
  · split
    · assumption
    · rfl
theorem encA_eq {x : Att} (h : x.2.1.oneCell' = true) : encA x = atC x := by rw [encA, if_pos h]; rfl
theorem flatA {l : List Att} (h : ∀ x ∈ l, x.2.1.oneCell' = true) : (Go.Sort.flatK encA 2 l.toArray).toList = atsC l := by
  refine List.ext_getElem (by rw [Array.length_toList, Go.Sort.size_flatK, atsC_len]; simp) fun t h1 h2 => ?_
  rw [Array.length_toList, Go.Sort.size_flatK, List.size_toArray] at h1
  have hi : t / 2 < l.length := by omega
  have hg := Go.Sort.get_flatK encA 2 l.toArray t (by simpa using h1)
  rw [getElem!_pos _ _ (by rw [Go.Sort.size_flatK, List.size_toArray]; exact h1)] at hg
  rw [Array.getElem_toList, hg, getElem!_pos l.toArray (t / 2) (by simpa using hi), List.getElem_toArray]
  have hx : l[t / 2]? = some l[t / 2] := List.getElem?_eq_getElem hi
  rw [encA_eq (h _ (List.getElem_mem hi))]
  have hc := atsC_get hx
  have h3 := congrArg (·[t % 2]?) hc
  simp only [List.getElem?_take_of_lt (Nat.mod_lt t (by decide : 0 < 2)), List.getElem?_drop] at h3
  rw [show t / 2 * 2 + t % 2 = t by omega, List.getElem?_eq_getElem h2] at h3
  have : atC l[t / 2] = [.int .i64 l[t / 2].1, l[t / 2].2.1] := rfl
  rw [this]
  exact List.getElem!_of_getElem? h3.symm
/-- What a sort of its elements makes of such a slice. -/
theorem sorted_upd {w : World} {v : Value} {l l' : List Att} {oa : Blks} {g cap : Nat} {cur : Array Value} {e n : Nat} {os : Array Obj} (hl : l'.length = l.length) (h1 : ∀ x ∈ l', x.2.1.oneCell' = true) (hg : w.heap[g]? = some (.cells cur e)) (hc : cur.size = cap * 2) (hcap : l.length ≤ cap) (hcm : cap ≤ maxLen) :
    ∃ cur', Upd w [(g, (cur, e))] (Go.Proofs.sortWorldK encA 2 w g 0 n l'.toArray os) [(g, (cur', e))] ∧ OwnL e 2 (.slice (some ⟨g, 0, none⟩) l.length cap) l.length (atsC l') [(g, (cur', e))] := by
  have hgl := blk_lt hg
  have hfs : (Go.Sort.flatK encA 2 l'.toArray).size = l.length * 2 := by rw [Go.Sort.size_flatK, List.size_toArray, hl]
  have hnow : (Go.Proofs.sortWorldK encA 2 w g 0 n l'.toArray os).heap[g]? = some (.cells (Go.Sort.putCells id 0 (Go.Sort.flatK encA 2 l'.toArray) cur) e) := by
    show (Go.Sort.grow (Go.Sort.putRow id (Go.Sort.ahead w n) g 0 (Go.Sort.flatK encA 2 l'.toArray)) os).heap[g]? = _
    rw [Go.Sort.heap_grow_old _ _ (by rw [Go.Sort.size_putRow]; exact hgl)]
    show ((w.heap.modify g _)[g]?) = _
    rw [Array.getElem?_modify, if_pos rfl, hg]
    rfl
  have hsz : (Go.Sort.putCells id 0 (Go.Sort.flatK encA 2 l'.toArray) cur).size = cap * 2 := by simp [Go.Sort.putCells, hc]
  refine ⟨_, ⟨rfl, rfl, rfl, ?_, fun k hk hne => ?_, by simp [keys], hd_one hnow, fun k hk => .inl hk⟩, ⟨by rw [atsC_len, hl], .inr ⟨g, cap, _, rfl, hcap, hcm, hsz, ?_, rfl⟩⟩⟩
  · show w.heap.size ≤ (Go.Sort.grow (Go.Sort.putRow id (Go.Sort.ahead w n) g 0 _) os).heap.size
    rw [Go.Sort.size_grow, Go.Sort.size_putRow]
    show w.heap.size ≤ w.heap.size + _
    omega
  · show (Go.Sort.grow (Go.Sort.putRow id (Go.Sort.ahead w n) g 0 _) os).heap[k]? = _
    rw [Go.Sort.heap_grow_old _ _ (by rw [Go.Sort.size_putRow]; exact hk)]
    show ((w.heap.modify g _)[k]?) = _
    rw [Array.getElem?_modify, if_neg (fun e => hne (by simp [keys, e]))]
  · rw [← flatA h1]
    have h2 : l.length * 2 ≤ cap * 2 := Nat.mul_le_mul_right 2 hcap
    refine List.ext_getElem (by simp only [List.length_take, Array.length_toList, hsz, hfs]; omega) fun t a b => ?_
    rw [Array.length_toList, hfs] at b
    rw [List.getElem_take, Array.getElem_toList, Array.getElem_toList]
    simp only [Go.Sort.putCells, Array.getElem_mapIdx, Nat.zero_le, Nat.zero_add, true_and, hfs, b, if_true, id, Nat.sub_zero]
    rw [getElem!_pos]
theorem holds_att {w : World} {l : List Att} {g : Nat} {cur : Array Value} {e : Nat} (h1 : ∀ x ∈ l, x.2.1.oneCell' = true) (hg : w.heap[g]? = some (.cells cur e)) (ht : cur.toList.take (l.length * 2) = atsC l) : Go.Sort.HoldsK encA 2 w g 0 l.toArray := by
  intro j hj
  rw [Go.Sort.size_flatK, List.size_toArray] at hj
  have hfj : (Go.Sort.flatK encA 2 l.toArray)[j]? = cur[j]? := by
    rw [← Array.getElem?_toList, flatA h1, ← ht, List.getElem?_take_of_lt hj, Array.getElem?_toList]
  have hlt : j < (Go.Sort.flatK encA 2 l.toArray).size := by rw [Go.Sort.size_flatK, List.size_toArray]; exact hj
  refine ⟨?_, ?_⟩
  · rw [Nat.zero_add]
    simp only [World.cell?, hg]
    rw [← hfj, Array.getElem?_eq_getElem hlt, getElem!_pos (Go.Sort.flatK encA 2 l.toArray) j hlt]
    rfl
  · simp [World.frozen?, hg]
end Go.Proofs.Ytlpalhagndmpjaa
namespace Go.Proofs
open Go.Shelf
def Ytlpalhagndmpjaa.sortAt_ren : Go.Shelf.Ren := ⟨fun | 6 => 31 | 15 => 48 | 14 => 47 | 28 => 67 | 29 => 68 | 20 => 59 | 21 => 60 | 22 => 61 | 23 => 62 | 24 => 63 | 25 => 64 | 26 => 65 | 27 => 66 | 46 => 71 | 47 => 72 | 48 => 73 | 49 => 74 | 50 => 75 | 57 => 76 | n => n, fun | 22 => 22 | 24 => 29 | 25 => 55 | 3 => 3 | 39 => 74 | 0 => 0 | 53 => 93 | 55 => 95 | 4 => 4 | 46 => 86 | 45 => 85 | 50 => 90 | 5 => 5 | 9 => 9 | 66 => 99 | 70 => 103 | 76 => 105 | 77 => 106 | n => n, fun | n => n⟩
theorem Ytlpalhagndmpjaa.sortAt : Go.Proofs.SlLaysF0.n6 Try.prog Ytlpalhagndmpjaa.sortAt_ren := {
  mixed := by kernel_rfl
  f6 := ⟨Try.f31.name, by decide, Try.func31.trans (congrArg some (by kernel_rfl))⟩
  f14 := ⟨Try.f47.name, by decide, Try.func47.trans (congrArg some (by kernel_rfl))⟩
  f15 := Try.func48.trans (congrArg some (by kernel_rfl))
  f20 := ⟨Try.f59.name, by decide, Try.func59.trans (congrArg some (by kernel_rfl))⟩
  f21 := ⟨Try.f60.name, by decide, Try.func60.trans (congrArg some (by kernel_rfl))⟩
  f22 := ⟨Try.f61.name, by decide, Try.func61.trans (congrArg some (by kernel_rfl))⟩
  f23 := ⟨Try.f62.name, by decide, Try.func62.trans (congrArg some (by kernel_rfl))⟩
  f24 := ⟨Try.f63.name, by decide, Try.func63.trans (congrArg some (by kernel_rfl))⟩
  f25 := ⟨Try.f64.name, by decide, Try.func64.trans (congrArg some (by kernel_rfl))⟩
  f26 := ⟨Try.f65.name, by decide, Try.func65.trans (congrArg some (by kernel_rfl))⟩
  f27 := ⟨Try.f66.name, by decide, Try.func66.trans (congrArg some (by kernel_rfl))⟩
  f28 := Try.func67.trans (congrArg some (by kernel_rfl))
  f29 := Try.func68.trans (congrArg some (by kernel_rfl))
  f46 := ⟨Try.f71.name, by decide, Try.func71.trans (congrArg some (by kernel_rfl))⟩
  f47 := Try.func72.trans (congrArg some (by kernel_rfl))
  f48 := Try.func73.trans (congrArg some (by kernel_rfl))
  f49 := ⟨Try.f74.name, by decide, Try.func74.trans (congrArg some (by kernel_rfl))⟩
  f50 := ⟨Try.f75.name, by decide, Try.func75.trans (congrArg some (by kernel_rfl))⟩
  f57 := ⟨Try.f76.name, by decide, Try.func76.trans (congrArg some (by kernel_rfl))⟩
  t0 := Try.underlying0
  a0 := Try.isAgg0
  z0 := Try.sizeOf0
  v0 := Try.zeroValue0
  t3 := Try.underlying3
  a3 := Try.isAgg3
  z3 := Try.sizeOf3
  v3 := Try.zeroValue3
  t4 := Try.underlying4
  a4 := Try.isAgg4
  z4 := Try.sizeOf4
  v4 := Try.zeroValue4
  t5 := Try.underlying5
  a5 := Try.isAgg5
  z5 := Try.sizeOf5
  v5 := Try.zeroValue5
  t9 := Try.underlying9
  a9 := Try.isAgg9
  z9 := Try.sizeOf9
  v9 := Try.zeroValue9
  t22 := Try.underlying22
  a22 := Try.isAgg22
  z22 := Try.sizeOf22
  v22 := Try.zeroValue22
  t25 := Try.underlying55
  a25 := Try.isAgg55
  z25 := Try.sizeOf55
  v25 := Try.zeroValue55
  t39 := Try.underlying74
  a39 := Try.isAgg74
  z39 := Try.sizeOf74
  v39 := Try.zeroValue74
  t45 := Try.underlying85
  a45 := Try.isAgg85
  z45 := Try.sizeOf85
  v45 := Try.zeroValue85
  t46 := Try.underlying86
  a46 := Try.isAgg86
  z46 := Try.sizeOf86
  v46 := Try.zeroValue86
  t50 := Try.underlying90
  a50 := Try.isAgg90
  z50 := Try.sizeOf90
  v50 := Try.zeroValue90
  t53 := Try.underlying93
  a53 := Try.isAgg93
  z53 := Try.sizeOf93
  v53 := Try.zeroValue93
  t55 := Try.underlying95
  a55 := Try.isAgg95
  z55 := Try.sizeOf95
  v55 := Try.zeroValue95
  t66 := Try.underlying99
  a66 := Try.isAgg99
  z66 := Try.sizeOf99
  v66 := Try.zeroValue99
  t70 := Try.underlying103
  a70 := Try.isAgg103
  z70 := Try.sizeOf103
  v70 := Try.zeroValue103
  t76 := Try.underlying105
  a76 := Try.isAgg105
  z76 := Try.sizeOf105
  v76 := Try.zeroValue105
  t77 := Try.underlying106
  a77 := Try.isAgg106
  z77 := Try.sizeOf106
  v77 := Try.zeroValue106 }
def Ytlpalhagndmpjaa.cmpAt_ren : Go.Shelf.Ren := ⟨fun | 5 => 33 | 7 => 49 | n => n, fun | 22 => 3 | 3 => 3 | 4 => 4 | n => n, fun | n => n⟩
theorem Ytlpalhagndmpjaa.cmpAt : Go.Proofs.SlLaysC2.n5 Try.prog Ytlpalhagndmpjaa.cmpAt_ren := {
  mixed := by kernel_rfl
  f5 := ⟨Try.f33.name, by decide, Try.func33.trans (congrArg some (by kernel_rfl))⟩
  f7 := ⟨Try.f49.name, by decide, Try.func49.trans (congrArg some (by kernel_rfl))⟩
  t3 := Try.underlying3
  a3 := Try.isAgg3
  z3 := Try.sizeOf3
  v3 := Try.zeroValue3
  t4 := Try.underlying4
  a4 := Try.isAgg4
  z4 := Try.sizeOf4
  v4 := Try.zeroValue4
  t22 := Try.underlying3
  a22 := Try.isAgg3
  z22 := Try.sizeOf3
  v22 := Try.zeroValue3 }
end Go.Proofs
namespace Go.Proofs.Ytlpalhagndmpjaa
open Go.RowKit
set_option linter.unusedVariables false
set_option linter.unusedSimpArgs false
set_option maxRecDepth 100000
/-- The kinds rise, or stand still. -/
def UpT (l : List Att) : Prop := l.Pairwise fun a b => a.1 ≤ b.1
def cmpK (x y : Att) : Int := Lib.compareInt x.1 y.1
theorem ltK (x y : Att) : ltOf cmpK x y = decide (x.1 < y.1) := by
  unfold ltOf cmpK Lib.compareInt
  by_cases h1 : x.1 < y.1
  · simp [h1]
  · by_cases h2 : y.1 < x.1 <;> simp [h1, h2]
theorem swoK : Go.Sort.SWO (ltOf cmpK) where
  irrefl x := by rw [ltK]; simp
  trans x y z h1 h2 := by rw [ltK] at *; simp at *; omega
  ntrans x y z h1 h2 := by rw [ltK] at *; simp at *; omega
set_option maxHeartbeats 1000000 in
/-- The closure of Norm: two blocks are laid. -/
theorem norm1_c (x y : Att) (W : World) : Calls Try.prog 32 #[.agg (encA x).toArray, .agg (encA y).toArray] W fun e w' => e = .returned (.int .i64 (cmpK x y)) ∧ ∃ q os', w' = Go.Sort.grow (W.drewN q) os' := by
  have hcon := fun W' => AnyG.cmp_Compare_int Ytlpalhagndmpjaa.cmpAt x.1 y.1 W'
  change ∀ W', Calls Try.prog 33 _ _ _ at hcon
  have hr : Lib.compareInt x.1 y.1 = cmpK x y := rfl
  rw [hr] at hcon
  unfold encA
  generalize cmpK x y = r at hcon ⊢
  have hx : (if x.2.1.oneCell' = true then x.2.1 else Value.int .i64 0).oneCell' = true := by split; assumption; rfl
  have hy : (if y.2.1.oneCell' = true then y.2.1 else Value.int .i64 0).oneCell' = true := by split; assumption; rfl
  generalize (if x.2.1.oneCell' = true then x.2.1 else Value.int .i64 0) = vx at *
  generalize (if y.2.1.oneCell' = true then y.2.1 else Value.int .i64 0) = vy at *
  go_enter Try.func32, Try.ntmps32
  go_wp2_with (go_at_call 33; refine (hcon _).mono ?_; rintro e w' ⟨rfl, rfl⟩)
  go_ret
  exact ⟨rfl, 0, _, by rw [Go.Sort.alloc_eq_grow, Go.Sort.alloc_eq_grow, Go.Sort.grow_grow]; rfl⟩
theorem sort_c (w : World) {v : Value} {l : List Att} {oo : Blks} (ho : OwnL 29 2 v l.length (atsC l) oo) (hd : Hd oo w) (h1 : ∀ x ∈ l, x.2.1.oneCell' = true) (hn : l.length ≤ 1048576) :
    Calls Try.prog 31 [v, .func (.func 32) #[] #[]].toArray w (RetU (fun _ : Unit => .tuple #[]) oo (fun _ oo' => ∃ l', l'.Perm l ∧ UpT l' ∧ OwnL 29 2 v l.length (atsC l') oo') w) := by
  rcases ho.out with ⟨rfl, h0, rfl⟩ | ⟨g, cap, cur, rfl, hnc, hcm, hcs, htake, rfl⟩
  · have hl : l = [] := List.eq_nil_of_length_eq_zero h0
    subst hl
    have hcon := AnyF.slices_SortFunc_none (P := Try.prog) { Ytlpalhagndmpjaa.sortAt with } none 0 (.func (.func 32) #[] #[]) w
    change Calls Try.prog 31 _ _ _ at hcon
    exact hcon.mono fun e w' ⟨he, hw⟩ => ⟨(), [], he, ⟨[], .nil, List.Pairwise.nil, OwnL.nil _ _⟩, by rw [hw]; exact ⟨rfl, rfl, rfl, Nat.le_refl _, fun _ _ _ => rfl, by simp [keys], hd, fun n hn => .inl hn⟩⟩
  · have hg : w.heap[g]? = some (.cells cur 29) := hd (g, (cur, 29)) (by simp)
    have eg : ∀ args w, (callFunc 32 args).run Try.prog w = .ok (.enter 32 args) w := enters_of Try.func32 (by kernel_rfl) rfl
    have hcon := AnyQ.slices_SortFunc Ytlpalhagndmpjaa.sortAt 2 Try.isAgg29 Try.sizeOf29 encA encA_len encA_one cmpK swoK 32 #[] g 0 cap l.toArray w eg (fun _ _ _ _ x y => norm1_c x y _) (holds_att h1 hg htake) (blk_lt hg) (by simp; omega)
    change Calls Try.prog 31 _ _ _ at hcon
    rw [List.size_toArray] at hcon
    refine hcon.mono fun e w' ⟨he, d', n, os, ⟨hp1, _, hp3⟩, hs, hw⟩ => ?_
    rw [List.size_toArray] at hp1
    obtain ⟨l', rfl⟩ : ∃ l' : List Att, d' = l'.toArray := ⟨d'.toList, by simp⟩
    rw [List.size_toArray] at hp1
    have hperm : l'.Perm l := by
      have e1 : l'.toArray.extract 0 l.length = l'.toArray := by rw [← hp1]; simp
      have e2 : l.toArray.extract 0 l.length = l.toArray := by simp
      rw [e1, e2] at hp3
      exact hp3
    obtain ⟨cur', hu, ho'⟩ := sorted_upd (v := .slice (some ⟨g, 0, none⟩) l.length cap) (oa := []) (w := w) (l := l) (l' := l') (n := n) (os := os) hp1 (fun x hx => h1 x (hperm.mem_iff.1 hx)) hg hcs hnc hcm
    refine ⟨(), _, he, ⟨l', hperm, ?_, ho'⟩, by rw [hw]; exact hu⟩
    unfold UpT
    rw [List.pairwise_iff_getElem]
    intro i j hi hj hij
    have := hs i j (Nat.zero_le _) hij (by rw [← hp1]; exact hj)
    rw [ltK] at this
    rw [getElem!_pos l'.toArray j (by simpa using hj), getElem!_pos l'.toArray i (by simpa using hi)] at this
    simp only [List.getElem_toArray, decide_eq_false_iff_not] at this
    omega
end Go.Proofs.Ytlpalhagndmpjaa
namespace Go.Proofs.Ytlpalhagndmpjaa
open Go.RowKit
set_option linter.unusedVariables false
section
variable {X : Cx} {s : Slots} {l : Blks} {o : Oper}
theorem rd_eqlG {t yt : Nat} {x y : Operand} {p : Option Addr} {n c : Nat} {v : Value} {r : Bool} (ho : o.op = .binOp .eql t x y yt) (hx : val s x = some (.slice p n c)) (hy : val s y = some v)
    (q : ∀ w : World, (binOp .eql t (.slice p n c) v).run X.P w = .ok (.bool r) w) : RdV X s l o (.bool r) :=
  rd_val fun e w he hm => by
    simp only [execOp, ho, he.eval hx, he.eval hy, eqGuard]
    simp [q w]
theorem rd_neqG {t yt : Nat} {x y : Operand} {p : Option Addr} {n c : Nat} {v : Value} {r : Bool} (ho : o.op = .binOp .neq t x y yt) (hx : val s x = some (.slice p n c)) (hy : val s y = some v)
    (q : ∀ w : World, (binOp .neq t (.slice p n c) v).run X.P w = .ok (.bool r) w) : RdV X s l o (.bool r) :=
  rd_val fun e w he hm => by
    simp only [execOp, ho, he.eval hx, he.eval hy, eqGuard]
    simp [q w]
end
theorem sl_nil {P : Program} {t e : Nat} (h : P.underlying t = some (.slice e)) {p : Option Addr} {n c : Nat} (w : World) : (binOp .eql t (.slice p n c) (.slice none 0 0)).run P w = .ok (.bool p.isNone) w := by
  refine run_eql (r := p.isNone) w rfl ?_
  rw [show (10000 : Nat) = 9999 + 1 from rfl, Op.equalIn, Sem.run_bind, run_underlying h]
  cases p <;> rfl
theorem sl_nonil {P : Program} {t e : Nat} (h : P.underlying t = some (.slice e)) {p : Option Addr} {n c : Nat} (w : World) : (binOp .neq t (.slice p n c) (.slice none 0 0)).run P w = .ok (.bool (!p.isNone)) w := by
  refine run_neq (r := p.isNone) w rfl ?_
  rw [show (10000 : Nat) = 9999 + 1 from rfl, Op.equalIn, Sem.run_bind, run_underlying h]
  cases p <;> rfl
end Go.Proofs.Ytlpalhagndmpjaa
namespace Go.Proofs.Ytlpalhagndmpjaa
open Go.RowKit
set_option linter.unusedVariables false
set_option linter.unusedSimpArgs false
set_option maxRecDepth 100000 in
set_option maxHeartbeats 4000000 in
theorem clone_b (w : World) {v : Value} {m : Nat} {p : List Nat} (h : Cb w v m p) (hm : m ≤ 1099511627776) :
    Calls Try.prog 30 [v].toArray w (RetO (fun u => u) (fun u oa => OwnB 5 u m p oa) w) := by
  have i1 := h.old
  obtain ⟨q, c, rfl, h1, h2, h3⟩ := h.cs.ln.out
  cases q with
  | none =>
    have hm0 : m = 0 := by
      rcases Nat.eq_zero_or_pos m with h0 | h0
      · exact h0
      · obtain ⟨_, _, hh⟩ := h3 h0; cases hh
    have hd0 : p = [] := List.eq_nil_of_length_eq_zero (by rw [h.ok.len, hm0])
    have E : ∀ w', (binOp .eql 27 (.slice none m c) (.slice none 0 0)).run Try.prog w' = .ok (.bool true) w' := fun w' => sl_nil (e := 5) (by kernel_rfl) w'
    clear h h3
    subst hm0; subst hd0
    refine fn_own (N := _) Try.func30 rfl Try.ntmps30 Try.results30 (by simp) ?_
    simp only [initS, Nat.reduceAdd, Nat.zero_add]
    repeat' (first | (refine wlS ?_) | (refine wlB ?_) | ((with_reducible refine sel_b_eql ?_); refine wv rfl rfl (rd_eqlG rfl rfl rfl (by with_reducible exact E)) ?_) | (refine wlE ?_) | (refine efSvao ?_; intro v oa ho) | (refine wl_skip rfl rfl ?_) | ((with_reducible refine wc_seq ?_); intro K hK) | (refine auC ?_) | (refine wc_cond rfl (fun hc => ?_) (fun hc => ?_)) | (refine wc_draw (by kernel_rfl) (by kernel_rfl) (by decide +kernel) ?_; intro w0 hw0 hm0; (try simp only [List.append_eq, List.cons_append, List.nil_append])) | (refine auP ?_) | ((refine auR ?_); clear hK K) | (refine auR ?_) | ((with_reducible refine hK _ _ ?_); clear hK K) | fail)
    first | refine end_ret (ResP.tmp rfl ResP.nil) ?_ | refine end_normal (ResP.tmp rfl ResP.nil) ?_
    (try dsimp only [tupV])
    exact ⟨_, _, rfl, ⟨OwnL.nil _ _, BL.nil⟩, .nil⟩
  | some a =>
    have E : ∀ w', (binOp .eql 27 (.slice (some a) m c) (.slice none 0 0)).run Try.prog w' = .ok (.bool false) w' := fun w' => sl_nil (e := 5) (by kernel_rfl) w'
    have hok := h.ok
    have hbl : (bl p).length = m * 1 := by rw [bl_len, h.ok.len, Nat.mul_one]
    clear h h3
    refine fn_own (N := _) Try.func30 rfl Try.ntmps30 Try.results30 (by simp) ?_
    simp only [initS, Nat.reduceAdd, Nat.zero_add]
    repeat' (first | (refine wlS ?_) | (refine wlB ?_) | ((with_reducible refine sel_b_eql ?_); refine wv rfl rfl (rd_eqlG rfl rfl rfl (by with_reducible exact E)) ?_) | (refine wlE ?_) | (refine efSvao ?_; intro v oa ho) | (refine wl_skip rfl rfl ?_) | ((with_reducible refine wc_seq ?_); intro K hK) | (refine auC ?_) | (refine wc_cond rfl (fun hc => ?_) (fun hc => ?_)) | (refine wc_draw (by kernel_rfl) (by kernel_rfl) (by decide +kernel) ?_; intro w0 hw0 hm0; (try simp only [List.append_eq, List.cons_append, List.nil_append])) | (refine auP ?_) | ((refine auR ?_); clear hK K) | (refine auR ?_) | ((with_reducible refine hK _ _ ?_); clear hK K) | fail)
    first | refine end_ret (ResP.tmp rfl ResP.nil) ?_ | refine end_normal (ResP.tmp rfl ResP.nil) ?_
    (try dsimp only [tupV])
    first
    | exact ⟨_, _, rfl, by simpa using ho, SubL.refl _⟩
    | exact ⟨_, _, rfl, ⟨by simpa using ho, hok⟩, SubL.refl _⟩
end Go.Proofs.Ytlpalhagndmpjaa
namespace Go.Proofs.Ytlpalhagndmpjaa
open Go.RowKit
set_option linter.unusedVariables false
set_option linter.unusedSimpArgs false
set_option maxRecDepth 100000
theorem upT_rises : ∀ {l : List Att}, UpT l → ((abs l).map (·.1)).Nodup → Rises (abs l)
  | [], _, _ => List.Pairwise.nil
  | x :: r, h, hn => by
    have h' := List.pairwise_cons.1 h
    have hn' : (x.1 :: (abs r).map (·.1)).Nodup := hn
    rw [List.nodup_cons] at hn'
    refine List.Pairwise.cons (fun b hb => ?_) (upT_rises h'.2 hn'.2)
    obtain ⟨y, hy, rfl⟩ := List.mem_map.1 hb
    have h1 := h'.1 y hy
    have h2 : x.1 ≠ y.1 := fun e => hn'.1 (by rw [e]; exact List.mem_map.2 ⟨(y.1, y.2.2), hb, rfl⟩)
    show x.1 < y.1
    omega
theorem abs_perm {l m : List Att} (h : l.Perm m) : (abs l).Perm (abs m) := h.map _
theorem ats_one {w : World} {v : Value} {l : List Att} (h : Ats w v l) : ∀ x ∈ l, x.2.1.oneCell' = true := fun x hx => by
  obtain ⟨_, _, hv, _⟩ := (h.body x hx).cs.ln.out
  rw [hv]; rfl
set_option maxHeartbeats 2000000 in
theorem norm_err (w : World) {v : Value} {l : List Att} {e : Int} (h : Ats w v l) (he : chkA (abs l) = e) (h0 : e ≠ 0) : Calls Try.prog 12 [v].toArray w (Ret (.tuple #[.slice none 0 0, .int .i64 e]) w) := by
  haveI := h.old
  have CK := fun w' (h : Ats w' v l) => (show Calls Try.prog 13 [v].toArray w' (Ret (.int .i64 e) w') by rw [← he]; exact check_a w' h)
  have t1 : (e != 0) = true := by simpa using h0
  clear h he
  refine fn_ret (N := _) Try.func12 rfl Try.ntmps12 Try.results12 (by simp) ?_
  simp only [initS, Nat.reduceAdd, Nat.zero_add]
  repeat' (first | (refine wlS ?_) | (refine wlB ?_) | ((with_reducible refine sel_call ?_); refine wl_rd rfl rfl (rd_call rfl rfl rfl (fun w hm => by with_reducible exact CK w (VwT.out w hm))) ?_) | (refine wlE ?_) | (refine efSvao ?_; intro v oa ho) | (refine efBnn ?_; intro n hn) | (refine efB ?_) | (refine efBS ?_) | (refine wl_skip rfl rfl ?_) | (refine wdS ?_) | (refine wdV ?_) | (refine wdB ?_) | ((with_reducible refine seld_call ?_); refine wd_rd hm0 rfl rfl rfl rfl (rd_call rfl rfl rfl (fun w hm => by with_reducible exact CK w (VwT.out w hm))) ?_) | (refine wdE ?_) | (refine wd_skip rfl rfl ?_) | ((with_reducible refine seld_nil ?_); refine wd_nil hm0 ?_; clear hm0 hw0) | ((with_reducible refine wc_seq ?_); intro K hK) | (refine auC ?_) | (refine wc_cond rfl (fun hc => ?_) (fun hc => ?_)) | (refine wc_draw (by kernel_rfl) (by kernel_rfl) (by decide +kernel) ?_; intro w0 hw0 hm0; (try simp only [List.append_eq, List.cons_append, List.nil_append])) | (refine auP ?_) | ((refine auR ?_); clear hK K) | (refine auR ?_) | ((with_reducible refine hK _ _ ?_); clear hK K) | fail)
  first | refine end_ret (ResP.tmp rfl (ResP.tmp rfl ResP.nil)) ?_ | refine end_normal (ResP.tmp rfl (ResP.tmp rfl ResP.nil)) ?_
  first | rfl | (show _ = _; rfl) | (simp only [tupV, *]; done)
/-- The loop's state. -/
structure NmS where
  i : Nat
  its : List Att
  v : Value
  oo : Blks
  ob : Blks
structure NmS.Ok (l : List Att) (x : NmS) : Prop where
  le : x.i ≤ l.length
  own : OwnL 29 2 x.v x.i (atsC x.its) x.oo
  bod : BodF (Hd x.ob) x.its
  eq : abs x.its = abs (l.take x.i)
  len : x.its.length = x.i
  one : ∀ y ∈ x.its, y.2.1.oneCell' = true
set_option maxHeartbeats 8000000 in
theorem norm_ok (w : World) {v : Value} {l : List Att} (h : Ats w v l) (hk : AbOk (abs l)) : Calls Try.prog 12 [v].toArray w (RetO (fun u : Value => .tuple #[u, .int .i64 0]) (fun u oa => ∃ its, OwnT u its oa ∧ IsNorm (abs its) (abs l)) w) := by
  haveI i0 := h.old
  haveI i1 := h.cs.old
  have CK := fun w' (h : Ats w' v l) => (show Calls Try.prog 13 [v].toArray w' (Ret (.int .i64 0) w') by
    have := check_a w' h
    rwa [chkA_zero.2 hk] at this)
  have hlen : l.length ≤ 24 := by have := hk.len; rwa [abs_len] at this
  have hbody := h.body
  have CL : ∀ w' {v : Value} {k : Nat} {q : List Nat}, Cb w' v k q → k ≤ 1099511627776 → Calls Try.prog 30 [v].toArray w' (RetO (fun u => u) (fun u oa => OwnB 5 u k q oa) w') := fun w' {v k q} h hk => clone_b w' h hk
  have t0 : ((0 : Int) != 0) = false := rfl
  clear h
  refine fn_own (N := _) Try.func12 rfl Try.ntmps12 Try.results12 (by simp) ?_
  simp only [initS, Nat.reduceAdd, Nat.zero_add]
  repeat' (first | (refine wlS ?_) | (refine wlB ?_) | ((with_reducible refine sel_call ?_); refine wl_rd rfl rfl (rd_call rfl rfl rfl (fun w hm => by with_reducible exact CK w (VwT.out w hm))) ?_) | (refine wlE ?_) | (refine efSvao ?_; intro v oa ho) | (refine efBnn ?_; intro n hn) | (refine efB ?_) | (refine efBS ?_) | (refine wl_skip rfl rfl ?_) | (refine wdS ?_) | (refine wdV ?_) | (refine wdB ?_) | ((with_reducible refine seld_call ?_); refine wd_rd hm0 rfl rfl rfl rfl (rd_call rfl rfl rfl (fun w hm => by with_reducible exact CK w (VwT.out w hm))) ?_) | (refine wdE ?_) | (refine wd_skip rfl rfl ?_) | ((with_reducible refine seld_nil ?_); refine wd_nil hm0 ?_; clear hm0 hw0) | ((with_reducible refine wc_seq ?_); intro K hK) | (refine auC ?_) | (refine wc_cond rfl (fun hc => ?_) (fun hc => ?_)) | (refine wc_draw (by kernel_rfl) (by kernel_rfl) (by decide +kernel) ?_; intro w0 hw0 hm0; (try simp only [List.append_eq, List.cons_append, List.nil_append])) | (refine auP ?_) | ((refine auR ?_); clear hK K) | (refine auR ?_) | ((with_reducible refine hK _ _ ?_); clear hK K) | fail)
  refine wc_loop (σ := NmS) (fun x => [(5, x.v), (13, v), (14, .int .i64 (l.length : Int)), (15, .int .i64 (x.i : Int))]) (fun x => x.oo ++ x.ob) (NmS.Ok l) (fun x => l.length - x.i) ⟨0, [], .slice none 0 0, [], []⟩
    ⟨Nat.zero_le _, OwnL.nil _ _, BodF.nil, rfl, rfl, by simp⟩ (Fits.of ⟨rfl, rfl, rfl, rfl, trivial⟩ (SubL.refl _) rfl) ?_
  clear CK
  rintro ⟨i, its, u, oo, ob⟩ ⟨hi, ho, hb, he, hil, hone⟩
  dsimp only at hi ho hb he hil hone ⊢
  by_cases hlt : i < l.length
  · obtain ⟨⟨k, bv, p⟩, hx⟩ : ∃ x, l[i]? = some x := ⟨l[i]'(by omega), List.getElem?_eq_getElem _⟩
    have hlx := hx
    have hcb := hbody _ (List.mem_of_getElem? hx)
    dsimp only at hcb
    obtain ⟨pu, cu, rfl, hcu, _⟩ := hcb.cs.ln.out
    haveI i2 := hcb.old
    have hget := atsC_get hx
    dsimp only at hget
    have hpl : p.length ≤ 64 := by
      have h1 := (hk.each (k, p) (List.mem_map.2 ⟨_, List.mem_of_getElem? hx, rfl⟩)).2.2
      unfold fitsB at h1
      dsimp only at h1
      split at h1
      · have := of_decide_eq_true h1; omega
      · split at h1
        · have := of_decide_eq_true h1; omega
        · split at h1
          · exact of_decide_eq_true h1
          · have := of_decide_eq_true h1; omega
    have CL1 := fun w' {v : Value} (h : Cb w' v p.length p) => CL w' h (by omega)
    have u1 : decide ((i : Int) < (l.length : Int)) = true := decide_eq_true (by omega)
    have u2 : IntKind.i64.wrap ((i : Int) + 1) = ((i + 1 : Nat) : Int) := by rw [wrap_i64 _ (by omega) (by omega)]; omega
    have j1 : (i : Int) < (l.length : Int) := by omega
    clear CL hbody hcb
    repeat' (first | (refine wlS ?_) | (refine wlB ?_) | (refine wlE ?_) | (refine efSvao ?_; intro v oa ho) | (refine efZCnn ?_; intro n hn) | ((with_reducible refine sel_call ?_); first | (refine wl_newO rfl rfl rfl rfl rfl (fun w hm => by with_reducible exact CL1 w (VwB.out w hm)) ?_; intro x oa hx)) | (refine efBnn ?_; intro n hn) | (refine efB ?_) | (refine efBS ?_) | (refine wl_skip rfl rfl ?_) | ((with_reducible refine wc_seq ?_); intro K hK) | (refine auC ?_) | (refine wc_cond rfl (fun hc => ?_) (fun hc => ?_)) | ((with_reducible refine wc_drawH _ [8] (by kernel_rfl) (SubL.refl _) ?_); (try simp only [List.append_eq, List.cons_append, List.nil_append, List.length_cons, List.length_nil, Nat.reduceAdd])) | ((with_reducible refine sel_wh ?_); (refine wh_if (by decide +kernel) ?_); first | (refine wh_take (lq := []) rfl rfl rfl rfl (by first | exact rvS | exact rvB | exact rvE) (Or.inl rfl) ?_) | (refine wh_takeL rfl rfl rfl rfl (by first | exact rvS | exact rvB | exact rvE) (by decide +kernel) ?_)) | (refine whS ?_; intro v hv hp) | ((with_reducible refine sel_wh ?_); first | (refine wh_pass rfl rfl rfl rfl ?_) | (refine wh_done rfl ?_) | (refine wh_all rfl ?_)) | ((with_reducible refine sel_rest ?_); first | exact rest_nil rfl | refine rest_cons rfl rfl ?_ ?_) | ((with_reducible refine sel_nx ?_); first | refine next_of ?_ | refine next_late (by decide +kernel) ?_) | (refine auP ?_) | ((refine auR ?_); clear hK K) | (refine auR ?_) | ((with_reducible refine hK _ _ ?_); clear hK K) | fail)
    rename_i oc vs os hs
    refine ⟨⟨i + 1, its ++ [(k, x, p)], v, oa, ob ++ oc⟩, ⟨hlt, by dsimp only; rw [atsC_app]; exact ho, hb.app (BodF.one hx), ?_, by simp [hil], fun y hy => ?_⟩, by dsimp only; omega, Fits.of ⟨rfl, rfl, rfl, rfl, trivial⟩ ?_ rfl⟩
    · dsimp only
      rw [abs_app, he, List.take_add_one, hlx, abs_app]; rfl
    · rcases List.mem_append.1 hy with hy | hy
      · exact hone y hy
      · simp only [List.mem_singleton] at hy
        subst hy
        obtain ⟨_, _, hv, _⟩ := hx.own.ln.out
        rw [hv]; rfl
    · dsimp only
      repeat (first | exact SubL.nil | exact SubL.refl _ | refine SubL.keep ?_ | exact SubL.headA _ _ | refine SubL.keepA ?_ _ | refine SubL.skip ?_ | refine SubL.skipA ?_ _)
  · obtain rfl : i = l.length := by omega
    have u1 : decide ((l.length : Int) < (l.length : Int)) = false := decide_eq_false (by omega)
    have SC := fun w' (hd : Hd oo w') => sort_c w' (l := its) (by rw [hil]; exact ho) hd hone (by omega)
    rw [List.take_length] at he
    clear CL hbody
    repeat' (first | (refine wlS ?_) | (refine wlB ?_) | (refine wlE ?_) | (refine efSvao ?_; intro v oa ho) | ((with_reducible refine sel_call ?_); first | (refine wl_updO rfl rfl rfl rfl rfl (fun w hm hw => by with_reducible exact SC w hw) ?_; intro x oa hx)) | (refine efBnn ?_; intro n hn) | (refine efB ?_) | (refine efBS ?_) | (refine wl_skip rfl rfl ?_) | (refine wdS ?_) | (refine wdV ?_) | (refine wdB ?_) | (refine wdE ?_) | (refine wd_skip rfl rfl ?_) | ((with_reducible refine seld_nil ?_); refine wd_nil hm0 ?_; clear hm0 hw0) | ((with_reducible refine wc_seq ?_); intro K hK) | (refine auC ?_) | (refine wc_cond rfl (fun hc => ?_) (fun hc => ?_)) | (refine wc_draw (by kernel_rfl) (by kernel_rfl) (by decide +kernel) ?_; intro w0 hw0 hm0; (try simp only [List.append_eq, List.cons_append, List.nil_append])) | (refine auP ?_) | ((refine auR ?_); clear hK K) | (refine auR ?_) | ((with_reducible refine hK _ _ ?_); clear hK K) | fail)
    obtain ⟨l', hp, hup, hol⟩ := hx
    have hl2 : l'.length = l.length := by rw [hp.length_eq, hil]
    have hpa : (abs l').Perm (abs l) := by rw [← he]; exact abs_perm hp
    first | refine end_ret (ResP.tmp rfl (ResP.tmp rfl ResP.nil)) ?_ | refine end_normal (ResP.tmp rfl (ResP.tmp rfl ResP.nil)) ?_
    (try dsimp only [tupV])
    exact ⟨u, oa ++ ob, rfl, ⟨l', ⟨oa, ob, fun q h => h, by rw [hl2, ← hil]; exact hol, hb.perm hp⟩, ⟨upT_rises hup ((hpa.map (·.1)).nodup_iff.2 hk.nd), hpa⟩⟩, SubL.refl _⟩
end Go.Proofs.Ytlpalhagndmpjaa
namespace Go.Proofs.Ytlpalhagndmpjaa
open Go.RowKit
set_option linter.unusedVariables false
set_option linter.unusedSimpArgs false
set_option maxRecDepth 100000
/-- The value of a kind. -/
def getA (l : List Ab) (k : Int) : Option (List Nat) := (l.find? fun x => x.1 == k).map (·.2)
def isA (l : List Ab) (k : Int) : Bool := getA l k == some [1]
theorem find_abs (l : List Att) (k : Int) : getA (abs l) k = (l.find? fun x => x.1 == k).map (·.2.2) := by
  unfold getA abs
  rw [List.find?_map, Option.map_map]
  rfl
theorem getA_none {l : List Att} {k : Int} (h : getA (abs l) k = none) : findI l k = -1 := by
  rw [find_abs, Option.map_eq_none_iff] at h
  cases hx : l.findIdx? (fun x => x.1 == k) with
  | none => rw [findI, hx]
  | some i =>
    obtain ⟨y, _, h2⟩ := findIdx_find.1 i hx
    rw [h] at h2; cases h2
theorem getA_some {l : List Att} {k : Int} {q : List Nat} (h : getA (abs l) k = some q) : ∃ j y, findI l k = ((j : Nat) : Int) ∧ l[j]? = some y ∧ y.2.2 = q ∧ y.1 = k := by
  rw [find_abs, Option.map_eq_some_iff] at h
  obtain ⟨y, hy, rfl⟩ := h
  cases hx : l.findIdx? (fun x => x.1 == k) with
  | none => rw [findIdx_find.2 hx] at hy; cases hy
  | some i =>
    obtain ⟨z, h1, h2⟩ := findIdx_find.1 i hx
    rw [h2] at hy; cases hy
    exact ⟨i, _, by rw [findI, hx], h1, rfl, by simpa using List.find?_some h2⟩
set_option maxHeartbeats 4000000 in
theorem get_no (w : World) {u : Value} {l : List Att} {k : Int} (h : Ats w u l) (hk : getA (abs l) k = none) : Calls Try.prog 17 [u, .int .i64 k].toArray w (Ret (.tuple #[.slice none 0 0, .bool false]) w) := by
  haveI := h.old
  haveI := h.cs.old
  have FC : ∀ w', Ats w' u l → Calls Try.prog 35 [u, .int .i64 k].toArray w' (Ret (.int .i64 (-1)) w') := fun w' h => by
    have := find_c w' (k := k) h
    rwa [getA_none hk] at this
  have t1 : decide ((-1 : Int) < 0) = true := rfl
  clear h
  refine fn_ret (N := _) Try.func17 rfl Try.ntmps17 Try.results17 (by simp) ?_
  simp only [initS, Nat.reduceAdd, Nat.zero_add]
  repeat' (first | (refine wlS ?_) | (refine wlB ?_) | ((with_reducible refine sel_call ?_); refine wl_rd rfl rfl (rd_call rfl rfl rfl (fun w hm => by with_reducible exact FC w (VwT.out w hm))) ?_) | (refine wlE ?_) | (refine efSvao ?_; intro v oa ho) | (refine wl_skip rfl rfl ?_) | ((with_reducible refine wc_seq ?_); intro K hK) | (refine auC ?_) | (refine wc_cond rfl (fun hc => ?_) (fun hc => ?_)) | (refine wc_draw (by kernel_rfl) (by kernel_rfl) (by decide +kernel) ?_; intro w0 hw0 hm0; (try simp only [List.append_eq, List.cons_append, List.nil_append])) | (refine auP ?_) | ((refine auR ?_); clear hK K) | (refine auR ?_) | ((with_reducible refine hK _ _ ?_); clear hK K) | fail)
  first | refine end_ret (ResP.tmp rfl (ResP.tmp rfl ResP.nil)) ?_ | refine end_normal (ResP.tmp rfl (ResP.tmp rfl ResP.nil)) ?_
  first | rfl | (show _ = _; rfl) | (simp only [tupV, *]; done)
set_option maxHeartbeats 4000000 in
theorem get_yes (w : World) {u : Value} {l : List Att} {k : Int} {q : List Nat} (h : Ats w u l) (hk : getA (abs l) k = some q) (hq : q.length ≤ 1099511627776) : Calls Try.prog 17 [u, .int .i64 k].toArray w (RetO (fun v : Value => .tuple #[v, .bool true]) (fun v oa => OwnB 5 v q.length q oa) w) := by
  haveI := h.old
  haveI := h.cs.old
  obtain ⟨j, ⟨z, vy, r⟩, h1, h2, rfl, rfl⟩ := getA_some hk
  dsimp only at *
  have FC : ∀ w', Ats w' u l → Calls Try.prog 35 [u, .int .i64 z].toArray w' (Ret (.int .i64 (j : Int)) w') := fun w' h => by
    have := find_c w' (k := z) h
    rwa [h1] at this
  have CL : ∀ w' {v : Value}, Cb w' v r.length r → Calls Try.prog 30 [v].toArray w' (RetO (fun u => u) (fun u oa => OwnB 5 u r.length r oa) w') := fun w' {v} h => clone_b w' h hq
  have hjl := (List.getElem?_eq_some_iff.1 h2).1
  have hl63 : l.length ≤ 9223372036854775807 := by obtain ⟨_, _, _, h1, h2, _⟩ := h.cs.ln.out; simp only [maxLen] at h2; omega
  have by' := (h.body _ (List.mem_of_getElem? h2)).old
  have hyv := atsC_val h2
  have t1 : decide ((j : Int) < 0) = false := decide_eq_false (by omega)
  have j2 : (j : Int) < (l.length : Int) := by omega
  dsimp only at by' hyv
  clear h hk h1 h2
  refine fn_own (N := _) Try.func17 rfl Try.ntmps17 Try.results17 (by simp) ?_
  simp only [initS, Nat.reduceAdd, Nat.zero_add]
  repeat' (first | (refine wlS ?_) | (refine wlB ?_) | ((with_reducible refine sel_call ?_); refine wl_rd rfl rfl (rd_call rfl rfl rfl (fun w hm => by with_reducible exact FC w (VwT.out w hm))) ?_) | (refine wlE ?_) | (refine efSvao ?_; intro v oa ho) | ((with_reducible refine sel_call ?_); first | (refine wl_newO rfl rfl rfl rfl rfl (fun w hm => by with_reducible exact CL w (VwB.out w hm)) ?_; intro x oa hx)) | (refine wl_skip rfl rfl ?_) | ((with_reducible refine wc_seq ?_); intro K hK) | (refine auC ?_) | (refine wc_cond rfl (fun hc => ?_) (fun hc => ?_)) | (refine wc_draw (by kernel_rfl) (by kernel_rfl) (by decide +kernel) ?_; intro w0 hw0 hm0; (try simp only [List.append_eq, List.cons_append, List.nil_append])) | (refine auP ?_) | ((refine auR ?_); clear hK K) | (refine auR ?_) | ((with_reducible refine hK _ _ ?_); clear hK K) | fail)
  first | refine end_ret (ResP.tmp rfl (ResP.tmp rfl ResP.nil)) ?_ | refine end_normal (ResP.tmp rfl (ResP.tmp rfl ResP.nil)) ?_
  (try dsimp only [tupV])
  exact ⟨_, _, rfl, hx, SubL.refl _⟩
set_option maxHeartbeats 8000000 in
theorem is_c (w : World) {u : Value} {l : List Att} {k : Int} {r : Bool} (h : Ats w u l) (hr : isA (abs l) k = r) : Calls Try.prog 25 [u, .int .i64 k].toArray w (Ret (.bool r) w) := by
  haveI := h.old
  haveI := h.cs.old
  cases hk : getA (abs l) k with
  | none =>
    have FC : ∀ w', Ats w' u l → Calls Try.prog 35 [u, .int .i64 k].toArray w' (Ret (.int .i64 (-1)) w') := fun w' h => by
      have := find_c w' (k := k) h
      rwa [getA_none hk] at this
    have t1 : decide ((-1 : Int) ≥ 0) = false := rfl
    obtain rfl : r = false := by rw [← hr, isA, hk]; rfl
    clear h hr
    refine fn_ret (N := _) Try.func25 rfl Try.ntmps25 Try.results25 (by simp) ?_
    simp only [initS, Nat.reduceAdd, Nat.zero_add]
    repeat' (first | (refine wlS ?_) | (refine wlB ?_) | ((with_reducible refine sel_call ?_); refine wl_rd rfl rfl (rd_call rfl rfl rfl (fun w hm => by with_reducible exact FC w (VwT.out w hm))) ?_) | (refine wlE ?_) | (refine efSvao ?_; intro v oa ho) | (refine wl_skip rfl rfl ?_) | ((with_reducible refine wc_seq ?_); intro K hK) | (refine auC ?_) | (refine wc_cond rfl (fun hc => ?_) (fun hc => ?_)) | (refine wc_draw (by kernel_rfl) (by kernel_rfl) (by decide +kernel) ?_; intro w0 hw0 hm0; (try simp only [List.append_eq, List.cons_append, List.nil_append])) | (refine auP ?_) | ((refine auR ?_); clear hK K) | (refine auR ?_) | ((with_reducible refine hK _ _ ?_); clear hK K) | fail)
    first | refine end_ret (ResP.tmp rfl ResP.nil) ?_ | refine end_normal (ResP.tmp rfl ResP.nil) ?_
    first | rfl | (show _ = _; rfl) | (simp only [tupV, *]; done)
  | some q =>
    obtain ⟨j, ⟨z, vy, p⟩, h1, h2, rfl, rfl⟩ := getA_some hk
    dsimp only at *
    have FC : ∀ w', Ats w' u l → Calls Try.prog 35 [u, .int .i64 z].toArray w' (Ret (.int .i64 (j : Int)) w') := fun w' h => by
      have := find_c w' (k := z) h
      rwa [h1] at this
    have hjl := (List.getElem?_eq_some_iff.1 h2).1
    have hl63 : l.length ≤ 9223372036854775807 := by obtain ⟨_, _, _, h1, h2, _⟩ := h.cs.ln.out; simp only [maxLen] at h2; omega
    have by' := (h.body _ (List.mem_of_getElem? h2)).old
    have hyv := atsC_val h2
    have t1 : decide ((j : Int) ≥ 0) = true := decide_eq_true (by omega)
    have j2 : (j : Int) < (l.length : Int) := by omega
    dsimp only at by' hyv
    rw [isA, hk] at hr
    clear h hk h1 h2
    by_cases hp : p.length = 1
    · obtain ⟨b, rfl⟩ := List.length_eq_one_iff.1 hp
      have t2 : ((([b].length : Nat) : Int) == 1) = true := rfl
      have g0 : (bl [b])[0]? = some (.int .u8 (b : Int)) := rfl
      have t3 : ((b : Int) == 1) = r := by
        rw [← hr, Bool.eq_iff_iff]
        simp only [beq_iff_eq, Option.some.injEq, List.cons.injEq, and_true]
        omega
      clear hr
      refine fn_ret (N := _) Try.func25 rfl Try.ntmps25 Try.results25 (by simp) ?_
      simp only [initS, Nat.reduceAdd, Nat.zero_add]
      repeat' (first | (refine wlS ?_) | (refine wlB ?_) | ((with_reducible refine sel_call ?_); refine wl_rd rfl rfl (rd_call rfl rfl rfl (fun w hm => by with_reducible exact FC w (VwT.out w hm))) ?_) | (refine wlE ?_) | (refine efSvao ?_; intro v oa ho) | (refine wl_skip rfl rfl ?_) | ((with_reducible refine wc_seq ?_); intro K hK) | (refine auC ?_) | (refine wc_cond rfl (fun hc => ?_) (fun hc => ?_)) | (refine wc_draw (by kernel_rfl) (by kernel_rfl) (by decide +kernel) ?_; intro w0 hw0 hm0; (try simp only [List.append_eq, List.cons_append, List.nil_append])) | (refine auP ?_) | ((refine auR ?_); clear hK K) | (refine auR ?_) | ((with_reducible refine hK _ _ ?_); clear hK K) | fail)
      first | refine end_ret (ResP.tmp rfl ResP.nil) ?_ | refine end_normal (ResP.tmp rfl ResP.nil) ?_
      first | rfl | (show _ = _; rfl) | (simp only [tupV, *]; done)
    · have t2 : ((p.length : Int) == 1) = false := by simp only [beq_eq_false_iff_ne, ne_eq]; omega
      obtain rfl : r = false := by
        rw [← hr, beq_eq_false_iff_ne]
        intro e
        have := Option.some.inj e
        rw [this] at hp; exact hp rfl
      clear hr
      refine fn_ret (N := _) Try.func25 rfl Try.ntmps25 Try.results25 (by simp) ?_
      simp only [initS, Nat.reduceAdd, Nat.zero_add]
      repeat' (first | (refine wlS ?_) | (refine wlB ?_) | ((with_reducible refine sel_call ?_); refine wl_rd rfl rfl (rd_call rfl rfl rfl (fun w hm => by with_reducible exact FC w (VwT.out w hm))) ?_) | (refine wlE ?_) | (refine efSvao ?_; intro v oa ho) | (refine wl_skip rfl rfl ?_) | ((with_reducible refine wc_seq ?_); intro K hK) | (refine auC ?_) | (refine wc_cond rfl (fun hc => ?_) (fun hc => ?_)) | (refine wc_draw (by kernel_rfl) (by kernel_rfl) (by decide +kernel) ?_; intro w0 hw0 hm0; (try simp only [List.append_eq, List.cons_append, List.nil_append])) | (refine auP ?_) | ((refine auR ?_); clear hK K) | (refine auR ?_) | ((with_reducible refine hK _ _ ?_); clear hK K) | fail)
      first | refine end_ret (ResP.tmp rfl ResP.nil) ?_ | refine end_normal (ResP.tmp rfl ResP.nil) ?_
      first | rfl | (show _ = _; rfl) | (simp only [tupV, *]; done)
set_option maxHeartbeats 4000000 in
theorem clone_a (w : World) {v : Value} {m : Nat} {cs : List Value} (h : Cs w v m cs) (hl : cs.length = m * 2) (hm : m ≤ 1048576) (one : ∀ y ∈ cs, y.oneCell' = true) :
    Calls Try.prog 36 [v].toArray w (RetO (fun u => u) (fun u oa => OwnL 29 2 u m cs oa) w) := by
  have i1 := h.old
  obtain ⟨p, c, rfl, h1, h2, h3⟩ := h.ln.out
  cases p with
  | none =>
    have hm0 : m = 0 := by
      rcases Nat.eq_zero_or_pos m with h0 | h0
      · exact h0
      · obtain ⟨_, _, hh⟩ := h3 h0; cases hh
    have hd0 : cs = [] := List.eq_nil_of_length_eq_zero (by rw [hl, hm0])
    have E : ∀ w', (binOp .eql 22 (.slice none m c) (.slice none 0 0)).run Try.prog w' = .ok (.bool true) w' := fun w' => sl_nil (e := 29) (by kernel_rfl) w'
    clear h h3
    subst hm0; subst hd0
    refine fn_own (N := _) Try.func36 rfl Try.ntmps36 Try.results36 (by simp) ?_
    simp only [initS, Nat.reduceAdd, Nat.zero_add]
    repeat' (first | (refine wlS ?_) | (refine wlB ?_) | ((with_reducible refine sel_b_eql ?_); refine wv rfl rfl (rd_eqlG rfl rfl rfl (by with_reducible exact E)) ?_) | (refine wlE ?_) | (refine efSvao ?_; intro v oa ho) | (refine wl_skip rfl rfl ?_) | ((with_reducible refine wc_seq ?_); intro K hK) | (refine auC ?_) | (refine wc_cond rfl (fun hc => ?_) (fun hc => ?_)) | (refine wc_draw (by kernel_rfl) (by kernel_rfl) (by decide +kernel) ?_; intro w0 hw0 hm0; (try simp only [List.append_eq, List.cons_append, List.nil_append])) | (refine auP ?_) | ((refine auR ?_); clear hK K) | (refine auR ?_) | ((with_reducible refine hK _ _ ?_); clear hK K) | fail)
    first | refine end_ret (ResP.tmp rfl ResP.nil) ?_ | refine end_normal (ResP.tmp rfl ResP.nil) ?_
    (try dsimp only [tupV])
    exact ⟨_, _, rfl, OwnL.nil _ _, .nil⟩
  | some a =>
    have E : ∀ w', (binOp .eql 22 (.slice (some a) m c) (.slice none 0 0)).run Try.prog w' = .ok (.bool false) w' := fun w' => sl_nil (e := 29) (by kernel_rfl) w'
    clear h h3
    refine fn_own (N := _) Try.func36 rfl Try.ntmps36 Try.results36 (by simp) ?_
    simp only [initS, Nat.reduceAdd, Nat.zero_add]
    repeat' (first | (refine wlS ?_) | (refine wlB ?_) | ((with_reducible refine sel_b_eql ?_); refine wv rfl rfl (rd_eqlG rfl rfl rfl (by with_reducible exact E)) ?_) | (refine wlE ?_) | (refine efSvao ?_; intro v oa ho) | (refine wl_skip rfl rfl ?_) | ((with_reducible refine wc_seq ?_); intro K hK) | (refine auC ?_) | (refine wc_cond rfl (fun hc => ?_) (fun hc => ?_)) | (refine wc_draw (by kernel_rfl) (by kernel_rfl) (by decide +kernel) ?_; intro w0 hw0 hm0; (try simp only [List.append_eq, List.cons_append, List.nil_append])) | (refine auP ?_) | ((refine auR ?_); clear hK K) | (refine auR ?_) | ((with_reducible refine hK _ _ ?_); clear hK K) | fail)
    first | refine end_ret (ResP.tmp rfl ResP.nil) ?_ | refine end_normal (ResP.tmp rfl ResP.nil) ?_
    (try dsimp only [tupV])
    exact ⟨_, _, rfl, by simpa using ho, SubL.refl _⟩
end Go.Proofs.Ytlpalhagndmpjaa
namespace Go.Proofs.Ytlpalhagndmpjaa
set_option linter.unusedVariables false
def overA (l t : List Ab) : List Ab := t ++ l.filter fun x => (getA t x.1).isNone
theorem getA_cons (x : Ab) (l : List Ab) (k : Int) : getA (x :: l) k = if x.1 = k then some x.2 else getA l k := by
  unfold getA
  rw [List.find?_cons]
  by_cases h : x.1 = k
  · rw [if_pos h, show (x.1 == k) = true by simpa using h]; rfl
  · rw [if_neg h, show (x.1 == k) = false by simpa using h]
theorem getA_mem {l : List Ab} (hn : (l.map (·.1)).Nodup) {k : Int} {q : List Nat} : getA l k = some q ↔ (k, q) ∈ l := by
  induction l with
  | nil => simp [getA]
  | cons x r ih =>
    rw [List.map_cons, List.nodup_cons] at hn
    rw [getA_cons]
    obtain ⟨kx, qx⟩ := x
    dsimp only at hn ⊢
    by_cases h : kx = k
    · subst h
      rw [if_pos rfl]
      constructor
      · intro e; cases e; exact List.mem_cons_self
      · intro hm
        rcases List.mem_cons.1 hm with e | hm
        · cases e; rfl
        · exact absurd (List.mem_map.2 ⟨_, hm, rfl⟩) hn.1
    · rw [if_neg h, ih hn.2]
      constructor
      · exact List.mem_cons_of_mem _
      · intro hm
        rcases List.mem_cons.1 hm with e | hm
        · cases e; exact absurd rfl h
        · exact hm
theorem getA_none_iff {l : List Ab} {k : Int} : getA l k = none ↔ ∀ x ∈ l, x.1 ≠ k := by
  unfold getA
  rw [Option.map_eq_none_iff, List.find?_eq_none]
  simp
theorem getA_perm {l m : List Ab} (hp : l.Perm m) (hn : (l.map (·.1)).Nodup) (k : Int) : getA l k = getA m k := by
  have hm : (m.map (·.1)).Nodup := (hp.map (·.1)).nodup_iff.1 hn
  cases h : getA m k with
  | none =>
    rw [getA_none_iff] at h ⊢
    exact fun x hx => h x (hp.mem_iff.1 hx)
  | some q =>
    rw [getA_mem hm] at h
    rw [getA_mem hn]
    exact hp.mem_iff.2 h
theorem kinds_few {l : List Ab} (h : ∀ x ∈ l, 1 ≤ x.1 ∧ x.1 ≤ 18) (hn : (l.map (·.1)).Nodup) : l.length ≤ 18 := by
  have := hn.length_le_of_subset (l₂ := (List.range 18).map fun (i : Nat) => (i : Int) + 1) (fun k hk => by
    obtain ⟨x, hx, rfl⟩ := List.mem_map.1 hk
    have := h x hx
    refine List.mem_map.2 ⟨(x.1 - 1).toNat, List.mem_range.2 (by omega), by omega⟩)
  simpa using this
theorem fitsB_le {x : Ab} (h : fitsB x = true) : x.2.length ≤ 64 := by
  unfold fitsB at h
  split at h
  · have := of_decide_eq_true h; omega
  · split at h
    · have := of_decide_eq_true h; omega
    · split at h
      · exact of_decide_eq_true h
      · have := of_decide_eq_true h; omega
theorem over_ok {l t : List Ab} (hl : AbOk l) (ht : AbOk t) : AbOk (overA l t) := by
  have he : ∀ x ∈ overA l t, 1 ≤ x.1 ∧ x.1 ≤ 18 ∧ fitsB x = true := fun x hx => by
    rcases List.mem_append.1 hx with hx | hx
    · exact ht.each x hx
    · exact hl.each x (List.mem_filter.1 hx).1
  have hn : ((overA l t).map (·.1)).Nodup := by
    rw [overA, List.map_append, List.nodup_append]
    refine ⟨ht.nd, ?_, fun a ha b hb e => ?_⟩
    · exact (List.Sublist.map _ List.filter_sublist).nodup hl.nd
    · subst e
      obtain ⟨x, hx, rfl⟩ := List.mem_map.1 ha
      obtain ⟨y, hy, hxy⟩ := List.mem_map.1 hb
      have := (List.mem_filter.1 hy).2
      rw [Option.isNone_iff_eq_none, getA_none_iff] at this
      exact this x hx hxy.symm
  exact ⟨by have := kinds_few (fun x hx => ⟨(he x hx).1, (he x hx).2.1⟩) hn; omega, he, hn⟩
theorem norm_okA {l m : List Ab} (h : AbOk l) (hm : IsNorm m l) : AbOk m := ⟨by rw [hm.perm.length_eq]; exact h.len, fun x hx => h.each x (hm.perm.mem_iff.1 hx), (hm.perm.map (·.1)).nodup_iff.2 h.nd⟩
theorem getA_app (a b : List Ab) (k : Int) : getA (a ++ b) k = (getA a k).or (getA b k) := by
  unfold getA
  rw [List.find?_append]
  cases a.find? (fun x => x.1 == k) <;> simp
theorem getA_filter (l t : List Ab) (k : Int) (h : getA t k = none) : getA (l.filter fun x => (getA t x.1).isNone) k = getA l k := by
  induction l with
  | nil => rfl
  | cons x r ih =>
    by_cases hx : (getA t x.1).isNone = true
    · rw [List.filter_cons_of_pos (p := fun x : Ab => (getA t x.1).isNone) hx, getA_cons, getA_cons, ih]
    · rw [List.filter_cons_of_neg (p := fun x : Ab => (getA t x.1).isNone) hx, getA_cons, ih]
      rw [if_neg]
      intro e
      rw [e, h] at hx; exact hx rfl
theorem getA_over (l t : List Ab) (k : Int) : getA (overA l t) k = (getA t k).or (getA l k) := by
  rw [overA, getA_app]
  cases h : getA t k with
  | none => rw [getA_filter l t k h]
  | some q => rfl
theorem nodup_map {α β : Type} {f : α → β} {l : List α} (h : (l.map f).Nodup) : l.Nodup := by
  induction l with
  | nil => exact List.nodup_nil
  | cons x r ih =>
    rw [List.map_cons, List.nodup_cons] at h
    exact List.nodup_cons.2 ⟨fun hm => h.1 (List.mem_map.2 ⟨x, hm, rfl⟩), ih h.2⟩
/-- What has the same at each kind is, where it rises, the same. -/
theorem rises_get {l m : List Ab} (hl : Rises l) (hm : Rises m) (h : ∀ k, getA l k = getA m k) : l = m := by
  have hp : l.Perm m := by
    have n1 : l.Nodup := by
      have := hl.nodup
      exact nodup_map this
    have n2 : m.Nodup := by
      have := hm.nodup
      exact nodup_map this
    rw [List.perm_ext_iff_of_nodup n1 n2]
    rintro ⟨k, q⟩
    rw [← getA_mem hl.nodup, ← getA_mem hm.nodup, h]
  exact rises_only hl hm hp
theorem IsNorm.get {m l : List Ab} (h : IsNorm m l) (k : Int) : getA m k = getA l k := getA_perm h.perm h.rises.nodup k
end Go.Proofs.Ytlpalhagndmpjaa
namespace Go.Proofs.Ytlpalhagndmpjaa
set_option linter.unusedVariables false
def matchA (l ask : List Ab) : Bool := ask.all fun x => getA l x.1 == some x.2
theorem match_abs (l ask : List Att) : matchB l ask = matchA (abs l) (abs ask) := by
  unfold matchB matchA
  rw [show abs ask = ask.map fun x => (x.1, x.2.2) from rfl, List.all_map]
  congr 1
  funext x
  show _ = (getA (abs l) x.1 == some x.2.2)
  rw [find_abs]
  cases l.find? (fun y => y.1 == x.1) with
  | none => rfl
  | some y => show (y.2.2 == x.2.2) = (some y.2.2 == some x.2.2); rfl
theorem match_perm {l m : List Ab} (hn : (l.map (·.1)).Nodup) (hp : m.Perm l) : matchA l m = true ∧ matchA m l = true := by
  have hm : (m.map (·.1)).Nodup := (hp.map (·.1)).nodup_iff.2 hn
  constructor
  · rw [matchA, List.all_eq_true]
    rintro ⟨k, q⟩ hx
    rw [beq_iff_eq]
    exact (getA_mem hn).2 (hp.mem_iff.1 hx)
  · rw [matchA, List.all_eq_true]
    rintro ⟨k, q⟩ hx
    rw [beq_iff_eq]
    exact (getA_mem hm).2 (hp.mem_iff.2 hx)
end Go.Proofs.Ytlpalhagndmpjaa
namespace Go.Proofs.Ytlpalhagndmpjaa
open Go.RowKit
set_option linter.unusedVariables false
set_option linter.unusedSimpArgs false
set_option maxRecDepth 100000
theorem atsC_kind {l : List Att} {i : Nat} {x : Att} (h : l[i]? = some x) : (atsC l)[i * 2]? = some (.int .i64 x.1) := by
  have := congrArg (·[0]?) (atsC_get h)
  simpa using this
theorem abs_get {l : List Att} {i : Nat} {x : Att} (h : l[i]? = some x) : (abs l)[i]? = some (x.1, x.2.2) := by simp [abs, h]
set_option maxHeartbeats 8000000 in
theorem sameA_c (w : World) {va vb : Value} {ps qs : List Att} {r : Bool} (h1 : Ats w va ps) (h2 : Ats w vb qs) (hr : (abs ps == abs qs) = r) :
    Calls Try.prog 14 [va, vb].toArray w (Ret (.bool r) w) := by
  haveI i1 := h1.cs.old
  haveI i2 := h2.cs.old
  have hl63 : ps.length ≤ 9223372036854775807 := by obtain ⟨_, _, _, h1, h2, _⟩ := h1.cs.ln.out; simp only [maxLen] at h2; omega
  have hpl := abs_len ps
  have hql := abs_len qs
  have hB := h1.body
  have hC := h2.body
  clear h1 h2
  by_cases hl : ps.length = qs.length
  · have t1 : ((ps.length : Int) != (qs.length : Int)) = false := by rw [hl]; simp
    have BE := fun w' {v u : Value} {n m : Nat} {p q : List Nat} {r : Bool} (hv : Cb w' v n p) (hu : Cb w' u m q) (h : (p == q) = r) => beq_r w' hv hu h
    refine fn_ret (N := _) Try.func14 rfl Try.ntmps14 Try.results14 (by simp) ?_
    simp only [initS, Nat.reduceAdd, Nat.zero_add]
    repeat' (first | (refine wlS ?_) | (refine wlB ?_) | (refine wlE ?_) | (refine efSvao ?_; intro v oa ho) | (refine wl_skip rfl rfl ?_) | (refine wdS ?_) | (refine wdV ?_) | (refine wdB ?_) | (refine wdE ?_) | (refine wd_skip rfl rfl ?_) | ((with_reducible refine seld_nil ?_); refine wd_nil hm0 ?_; clear hm0 hw0) | ((with_reducible refine wc_seq ?_); intro K hK) | (refine auC ?_) | (refine wc_cond rfl (fun hc => ?_) (fun hc => ?_)) | (refine wc_draw (by kernel_rfl) (by kernel_rfl) (by decide +kernel) ?_; intro w0 hw0 hm0; (try simp only [List.append_eq, List.cons_append, List.nil_append])) | (refine auP ?_) | ((refine auR ?_); clear hK K) | (refine auR ?_) | ((with_reducible refine hK _ _ ?_); clear hK K) | fail)
    refine wc_loop (σ := Nat) (fun i => [(0, va), (1, vb), (12, .int .i64 (ps.length : Int)), (13, .int .i64 (i : Int))]) (fun _ => []) (fun i => i ≤ ps.length ∧ (abs ps).take i = (abs qs).take i) (fun i => ps.length - i) 0 ⟨Nat.zero_le _, rfl⟩ (Fits.of ⟨rfl, rfl, rfl, rfl, trivial⟩ .nil rfl) ?_
    rintro i ⟨hi, ht⟩
    by_cases hlt : i < ps.length
    · have t2 : decide ((i : Int) < (ps.length : Int)) = true := decide_eq_true (by omega)
      have k1 : IntKind.i64.wrap ((i : Int) + 1) = ((i + 1 : Nat) : Int) := by rw [wrap_i64 _ (by omega) (by omega)]; omega
      have j1 : (i : Int) < (ps.length : Int) := by omega
      have j2 : (i : Int) < (qs.length : Int) := by omega
      obtain ⟨⟨k, x, p⟩, g1⟩ : ∃ x, ps[i]? = some x := ⟨ps[i], List.getElem?_eq_getElem hlt⟩
      obtain ⟨⟨m, y, q⟩, f1⟩ : ∃ x, qs[i]? = some x := ⟨qs[i], List.getElem?_eq_getElem (by omega)⟩
      have c1 := (hB _ (List.mem_of_getElem? g1)).old
      have c2 := (hC _ (List.mem_of_getElem? f1)).old
      have gk := atsC_kind g1
      have fk := atsC_kind f1
      have gv := atsC_val g1
      have fv := atsC_val f1
      have ga := abs_get g1
      have fa := abs_get f1
      dsimp only at c1 c2 gk fk gv fv ga fa
      by_cases hkm : k = m
      · subst hkm
        have t3 : (k != k) = false := by simp
        by_cases hpq : p = q
        · subst hpq
          have hb : (p == p) = true := by simp
          have hn : (abs ps).take (i + 1) = (abs qs).take (i + 1) := by rw [List.take_add_one, List.take_add_one, ht, ga, fa]
          clear hB hC g1 f1 ga fa
          repeat' (first | (refine wlS ?_) | (refine wlB ?_) | ((with_reducible refine sel_call ?_); refine wl_rd rfl rfl (rd_call rfl rfl rfl (fun w hm => by with_reducible exact BE w (VwB.out w hm) (VwB.out w hm) (by with_reducible assumption))) ?_) | (refine wlE ?_) | (refine efSvao ?_; intro v oa ho) | (refine wl_skip rfl rfl ?_) | (refine wdS ?_) | (refine wdV ?_) | (refine wdB ?_) | ((with_reducible refine seld_call ?_); refine wd_rd hm0 rfl rfl rfl rfl (rd_call rfl rfl rfl (fun w hm => by with_reducible exact BE w (VwB.out w hm) (VwB.out w hm) (by with_reducible assumption))) ?_) | (refine wdE ?_) | (refine wd_skip rfl rfl ?_) | ((with_reducible refine seld_nil ?_); refine wd_nil hm0 ?_; clear hm0 hw0) | ((with_reducible refine wc_seq ?_); intro K hK) | (refine auC ?_) | (refine wc_cond rfl (fun hc => ?_) (fun hc => ?_)) | (refine wc_draw (by kernel_rfl) (by kernel_rfl) (by decide +kernel) ?_; intro w0 hw0 hm0; (try simp only [List.append_eq, List.cons_append, List.nil_append])) | (refine auP ?_) | ((refine auR ?_); clear hK K) | (refine auR ?_) | ((with_reducible refine hK _ _ ?_); clear hK K) | fail)
          exact ⟨i + 1, ⟨hlt, hn⟩, by omega, Fits.of ⟨rfl, rfl, rfl, rfl, trivial⟩ .nil rfl⟩
        · have hb : (p == q) = false := by simpa using hpq
          have hne : r = false := by
            rw [← hr, beq_eq_false_iff_ne]
            intro e
            rw [e, fa] at ga
            have := Option.some.inj ga
            simp only [Prod.mk.injEq, true_and] at this
            exact hpq this.symm
          subst hne
          clear hB hC g1 f1 ga fa
          repeat' (first | (refine wlS ?_) | (refine wlB ?_) | ((with_reducible refine sel_call ?_); refine wl_rd rfl rfl (rd_call rfl rfl rfl (fun w hm => by with_reducible exact BE w (VwB.out w hm) (VwB.out w hm) (by with_reducible assumption))) ?_) | (refine wlE ?_) | (refine efSvao ?_; intro v oa ho) | (refine wl_skip rfl rfl ?_) | (refine wdS ?_) | (refine wdV ?_) | (refine wdB ?_) | ((with_reducible refine seld_call ?_); refine wd_rd hm0 rfl rfl rfl rfl (rd_call rfl rfl rfl (fun w hm => by with_reducible exact BE w (VwB.out w hm) (VwB.out w hm) (by with_reducible assumption))) ?_) | (refine wdE ?_) | (refine wd_skip rfl rfl ?_) | ((with_reducible refine seld_nil ?_); refine wd_nil hm0 ?_; clear hm0 hw0) | ((with_reducible refine wc_seq ?_); intro K hK) | (refine auC ?_) | (refine wc_cond rfl (fun hc => ?_) (fun hc => ?_)) | (refine wc_draw (by kernel_rfl) (by kernel_rfl) (by decide +kernel) ?_; intro w0 hw0 hm0; (try simp only [List.append_eq, List.cons_append, List.nil_append])) | (refine auP ?_) | ((refine auR ?_); clear hK K) | (refine auR ?_) | ((with_reducible refine hK _ _ ?_); clear hK K) | fail)
          first | refine end_ret (ResP.tmp rfl ResP.nil) ?_ | refine end_normal (ResP.tmp rfl ResP.nil) ?_
          first | rfl | (show _ = _; rfl) | (simp only [tupV, *]; done)
      · have t3 : (k != m) = true := by simpa using hkm
        have hne : r = false := by
          rw [← hr, beq_eq_false_iff_ne]
          intro e
          rw [e, fa] at ga
          have := Option.some.inj ga
          simp only [Prod.mk.injEq] at this
          exact hkm this.1.symm
        subst hne
        clear hB hC g1 f1 ga fa BE
        repeat' (first | (refine wlS ?_) | (refine wlB ?_) | (refine wlE ?_) | (refine efSvao ?_; intro v oa ho) | (refine wl_skip rfl rfl ?_) | (refine wdS ?_) | (refine wdV ?_) | (refine wdB ?_) | (refine wdE ?_) | (refine wd_skip rfl rfl ?_) | ((with_reducible refine seld_nil ?_); refine wd_nil hm0 ?_; clear hm0 hw0) | ((with_reducible refine wc_seq ?_); intro K hK) | (refine auC ?_) | (refine wc_cond rfl (fun hc => ?_) (fun hc => ?_)) | (refine wc_draw (by kernel_rfl) (by kernel_rfl) (by decide +kernel) ?_; intro w0 hw0 hm0; (try simp only [List.append_eq, List.cons_append, List.nil_append])) | (refine auP ?_) | ((refine auR ?_); clear hK K) | (refine auR ?_) | ((with_reducible refine hK _ _ ?_); clear hK K) | fail)
        first | refine end_ret (ResP.tmp rfl ResP.nil) ?_ | refine end_normal (ResP.tmp rfl ResP.nil) ?_
        first | rfl | (show _ = _; rfl) | (simp only [tupV, *]; done)
    · obtain rfl : i = ps.length := by omega
      have t2 : decide ((ps.length : Int) < (ps.length : Int)) = false := decide_eq_false (by omega)
      have hrt : r = true := by
        rw [← hr, beq_iff_eq]
        rw [List.take_of_length_le (by omega), List.take_of_length_le (by omega)] at ht; exact ht
      subst hrt
      clear BE
      repeat' (first | (refine wlS ?_) | (refine wlB ?_) | (refine wlE ?_) | (refine efSvao ?_; intro v oa ho) | (refine wl_skip rfl rfl ?_) | (refine wdS ?_) | (refine wdV ?_) | (refine wdB ?_) | (refine wdE ?_) | (refine wd_skip rfl rfl ?_) | ((with_reducible refine seld_nil ?_); refine wd_nil hm0 ?_; clear hm0 hw0) | ((with_reducible refine wc_seq ?_); intro K hK) | (refine auC ?_) | (refine wc_cond rfl (fun hc => ?_) (fun hc => ?_)) | (refine wc_draw (by kernel_rfl) (by kernel_rfl) (by decide +kernel) ?_; intro w0 hw0 hm0; (try simp only [List.append_eq, List.cons_append, List.nil_append])) | (refine auP ?_) | ((refine auR ?_); clear hK K) | (refine auR ?_) | ((with_reducible refine hK _ _ ?_); clear hK K) | fail)
      first | refine end_ret (ResP.tmp rfl ResP.nil) ?_ | refine end_normal (ResP.tmp rfl ResP.nil) ?_
      first | rfl | (show _ = _; rfl) | (simp only [tupV, *]; done)
  · have t1 : ((ps.length : Int) != (qs.length : Int)) = true := by simp only [bne_iff_ne, ne_eq]; omega
    have hne : r = false := by
      rw [← hr, beq_eq_false_iff_ne]
      intro e
      have := congrArg List.length e
      omega
    subst hne
    refine fn_ret (N := _) Try.func14 rfl Try.ntmps14 Try.results14 (by simp) ?_
    simp only [initS, Nat.reduceAdd, Nat.zero_add]
    repeat' (first | (refine wlS ?_) | (refine wlB ?_) | (refine wlE ?_) | (refine efSvao ?_; intro v oa ho) | (refine wl_skip rfl rfl ?_) | (refine wdS ?_) | (refine wdV ?_) | (refine wdB ?_) | (refine wdE ?_) | (refine wd_skip rfl rfl ?_) | ((with_reducible refine seld_nil ?_); refine wd_nil hm0 ?_; clear hm0 hw0) | ((with_reducible refine wc_seq ?_); intro K hK) | (refine auC ?_) | (refine wc_cond rfl (fun hc => ?_) (fun hc => ?_)) | (refine wc_draw (by kernel_rfl) (by kernel_rfl) (by decide +kernel) ?_; intro w0 hw0 hm0; (try simp only [List.append_eq, List.cons_append, List.nil_append])) | (refine auP ?_) | ((refine auR ?_); clear hK K) | (refine auR ?_) | ((with_reducible refine hK _ _ ?_); clear hK K) | fail)
    first | refine end_ret (ResP.tmp rfl ResP.nil) ?_ | refine end_normal (ResP.tmp rfl ResP.nil) ?_
    first | rfl | (show _ = _; rfl) | (simp only [tupV, *]; done)
end Go.Proofs.Ytlpalhagndmpjaa
namespace Go.Proofs.Ytlpalhagndmpjaa
open Go.RowKit

/-- A word of 64 bits. -/
def U (x : Int) : Prop := 0 ≤ x ∧ x < 18446744073709551616
def limb (n i : Nat) : Int := ((n / 2 ^ (64 * i) % 18446744073709551616 : Nat) : Int)
abbrev num (n : Nat) : Value := .agg #[.int .u64 (limb n 0), .int .u64 (limb n 1), .int .u64 (limb n 2), .int .u64 (limb n 3)]
abbrev wide (n : Nat) : Value := .agg #[.int .u64 (limb n 0), .int .u64 (limb n 1), .int .u64 (limb n 2), .int .u64 (limb n 3), .int .u64 (limb n 4), .int .u64 (limb n 5), .int .u64 (limb n 6), .int .u64 (limb n 7)]
def T256 : Nat := 115792089237316195423570985008687907853269984665640564039457584007913129639936
/-- Less than 2^256, by what it is. -/
class SmT (a : Nat) : Prop where
  out : a < T256
def T512 : Nat := T256 * T256
theorem T256_eq : T256 = 2 ^ 256 := by decide +kernel
theorem T512_eq : T512 = 2 ^ 512 := by decide +kernel

theorem limb_U (n i : Nat) : U (limb n i) := by
  unfold limb U
  have := Nat.mod_lt (n / 2 ^ (64 * i)) (show 0 < 18446744073709551616 by omega)
  omega
theorem limb_nonneg (n i : Nat) : 0 ≤ limb n i := (limb_U n i).1

def sumLo (x y c : Int) : Int := (x + y + c) % 18446744073709551616
def sumHi (x y c : Int) : Int := (x + y + c) / 18446744073709551616
def subLo (x y c : Int) : Int := (x - y - c) % 18446744073709551616
def subHi (x y c : Int) : Int := if x < y + c then 1 else 0
theorem sumHi_bd {x y c : Int} (hx : U x) (hy : U y) (h0 : 0 ≤ c) (h1 : c ≤ 1) : 0 ≤ sumHi x y c ∧ sumHi x y c ≤ 1 := by
  unfold sumHi U at *; omega
theorem subHi_bd (x y c : Int) : 0 ≤ subHi x y c ∧ subHi x y c ≤ 1 := by
  unfold subHi; split <;> omega

/-- A number below 2^256 out of its four words. -/
def four (a0 a1 a2 a3 : Nat) : Nat := a0 + 18446744073709551616 * a1 + 340282366920938463463374607431768211456 * a2 + 6277101735386680763835789423207666416102355444464034512896 * a3
theorem limb0 (n : Nat) : limb n 0 = ((n % 18446744073709551616 : Nat) : Int) := by unfold limb; simp
theorem limb1 (n : Nat) : limb n 1 = ((n / 18446744073709551616 % 18446744073709551616 : Nat) : Int) := by unfold limb; simp
theorem limb2 (n : Nat) : limb n 2 = ((n / 340282366920938463463374607431768211456 % 18446744073709551616 : Nat) : Int) := by unfold limb; simp
theorem limb3 (n : Nat) : limb n 3 = ((n / 6277101735386680763835789423207666416102355444464034512896 % 18446744073709551616 : Nat) : Int) := by unfold limb; simp
theorem limb4 (n : Nat) : limb n 4 = ((n / T256 % 18446744073709551616 : Nat) : Int) := by unfold limb T256; simp
theorem limb_shift4 (n i : Nat) : limb n (i + 4) = limb (n / T256) i := by
  unfold limb
  rw [Nat.div_div_eq_div_mul, T256_eq, ← Nat.pow_add, show 64 * (i + 4) = 256 + 64 * i by omega]
theorem limb_four (a0 a1 a2 a3 : Nat) (h0 : a0 < 18446744073709551616) (h1 : a1 < 18446744073709551616) (h2 : a2 < 18446744073709551616) (h3 : a3 < 18446744073709551616) :
    limb (four a0 a1 a2 a3) 0 = a0 ∧ limb (four a0 a1 a2 a3) 1 = a1 ∧ limb (four a0 a1 a2 a3) 2 = a2 ∧ limb (four a0 a1 a2 a3) 3 = a3 := by
  rw [limb0, limb1, limb2, limb3]; unfold four
  refine ⟨?_, ?_, ?_, ?_⟩ <;> (congr 1; omega)
theorem four_lt (a0 a1 a2 a3 : Nat) (h0 : a0 < 18446744073709551616) (h1 : a1 < 18446744073709551616) (h2 : a2 < 18446744073709551616) (h3 : a3 < 18446744073709551616) : four a0 a1 a2 a3 < T256 := by
  unfold four T256; omega
/-- Every number below 2^256 is four words. -/
theorem four_of (n : Nat) (h : n < T256) : ∃ a0 a1 a2 a3, a0 < 18446744073709551616 ∧ a1 < 18446744073709551616 ∧ a2 < 18446744073709551616 ∧ a3 < 18446744073709551616 ∧ n = four a0 a1 a2 a3 := by
  refine ⟨n % 18446744073709551616, n / 18446744073709551616 % 18446744073709551616, n / 340282366920938463463374607431768211456 % 18446744073709551616, n / 6277101735386680763835789423207666416102355444464034512896 % 18446744073709551616, ?_, ?_, ?_, ?_, ?_⟩
  all_goals unfold T256 at h
  all_goals first | omega | (unfold four; omega)
theorem num_of (x0 x1 x2 x3 : Int) (h0 : U x0) (h1 : U x1) (h2 : U x2) (h3 : U x3) : ∃ n, n < T256 ∧ x0 = limb n 0 ∧ x1 = limb n 1 ∧ x2 = limb n 2 ∧ x3 = limb n 3 := by
  obtain ⟨a0, rfl⟩ := Int.eq_ofNat_of_zero_le h0.1
  obtain ⟨a1, rfl⟩ := Int.eq_ofNat_of_zero_le h1.1
  obtain ⟨a2, rfl⟩ := Int.eq_ofNat_of_zero_le h2.1
  obtain ⟨a3, rfl⟩ := Int.eq_ofNat_of_zero_le h3.1
  unfold U at *
  have k := limb_four a0 a1 a2 a3 (by omega) (by omega) (by omega) (by omega)
  exact ⟨four a0 a1 a2 a3, four_lt _ _ _ _ (by omega) (by omega) (by omega) (by omega), k.1.symm, k.2.1.symm, k.2.2.1.symm, k.2.2.2.symm⟩
/-- Two numbers with the same words are one. -/
theorem num_inj {a b : Nat} (ha : a < T256) (hb : b < T256) (h0 : limb a 0 = limb b 0) (h1 : limb a 1 = limb b 1) (h2 : limb a 2 = limb b 2) (h3 : limb a 3 = limb b 3) : a = b := by
  obtain ⟨a0, a1, a2, a3, k0, k1, k2, k3, rfl⟩ := four_of a ha
  obtain ⟨b0, b1, b2, b3, l0, l1, l2, l3, rfl⟩ := four_of b hb
  have k := limb_four a0 a1 a2 a3 k0 k1 k2 k3
  have l := limb_four b0 b1 b2 b3 l0 l1 l2 l3
  rw [k.1, l.1] at h0; rw [k.2.1, l.2.1] at h1; rw [k.2.2.1, l.2.2.1] at h2; rw [k.2.2.2, l.2.2.2] at h3
  obtain rfl := Int.ofNat.inj h0; obtain rfl := Int.ofNat.inj h1; obtain rfl := Int.ofNat.inj h2; obtain rfl := Int.ofNat.inj h3
  rfl

/-- Two halves make a wide one. -/
theorem limb_lo (n m i : Nat) (hi : i < 4) : limb (n % T256 + T256 * m) i = limb n i := by
  unfold limb
  congr 1
  rw [T256_eq]
  have e : 2 ^ 256 = 2 ^ (64 * i) * (18446744073709551616 * 2 ^ (192 - 64 * i)) := by
    rw [show (18446744073709551616 : Nat) = 2 ^ 64 by decide, ← Nat.pow_add, ← Nat.pow_add]; congr 1; omega
  have h1 : (n % 2 ^ 256 + 2 ^ 256 * m) / 2 ^ (64 * i) = n % 2 ^ 256 / 2 ^ (64 * i) + 18446744073709551616 * (2 ^ (192 - 64 * i) * m) := by
    rw [show 2 ^ 256 * m = 2 ^ (64 * i) * (18446744073709551616 * (2 ^ (192 - 64 * i) * m)) by conv => lhs; rw [e]; simp only [Nat.mul_assoc], Nat.add_mul_div_left _ _ (Nat.two_pow_pos _)]
  rw [h1, Nat.add_mul_mod_self_left]
  conv => lhs; rw [e, Nat.mod_mul_right_div_self]
  rw [Nat.mod_mul_right_mod]
theorem limb_hi (n m i : Nat) (hn : n < T256) : limb (n + T256 * m) (i + 4) = limb m i := by
  rw [limb_shift4, Nat.add_mul_div_left _ _ (by unfold T256; omega), Nat.div_eq_of_lt hn, Nat.zero_add]
theorem limb_two (n m : Nat) (hn : n < T256) : limb (n + T256 * m) 0 = limb n 0 ∧ limb (n + T256 * m) 1 = limb n 1 ∧ limb (n + T256 * m) 2 = limb n 2 ∧ limb (n + T256 * m) 3 = limb n 3 ∧
    limb (n + T256 * m) 4 = limb m 0 ∧ limb (n + T256 * m) 5 = limb m 1 ∧ limb (n + T256 * m) 6 = limb m 2 ∧ limb (n + T256 * m) 7 = limb m 3 := by
  have a := limb_lo n m 0 (by omega)
  have b := limb_lo n m 1 (by omega)
  have c := limb_lo n m 2 (by omega)
  have d := limb_lo n m 3 (by omega)
  rw [Nat.mod_eq_of_lt hn] at a b c d
  exact ⟨a, b, c, d, limb_hi n m 0 hn, limb_hi n m 1 hn, limb_hi n m 2 hn, limb_hi n m 3 hn⟩
theorem two_lt (n m : Nat) (hn : n < T256) (hm : m < T256) : n + T256 * m < T512 := by
  have : T256 * (m + 1) ≤ T256 * T256 := Nat.mul_le_mul_left _ hm
  unfold T512
  rw [Nat.mul_add] at this
  omega
/-- What was added is taken off, and the other way round. -/
theorem add_sub_back {T a b s c d t : Nat} (ha : a < T) (hb : b < T) (h1 : Hid (s = (a + b) % T ∧ c = (a + b) / T)) (h2 : Hid (d = (s + T - b) % T ∧ t = if s < b then 1 else 0)) : d = a ∧ t = c := by
  have ⟨e1, e2⟩ := h1.out
  have ⟨e3, e4⟩ := h2.out
  clear h1 h2
  have z : 0 < T := by omega
  by_cases h : a + b < T
  · rw [Nat.mod_eq_of_lt h] at e1; rw [Nat.div_eq_of_lt h] at e2
    subst e1 e2
    rw [if_neg (by omega)] at e4
    rw [show a + b + T - b = a + T by omega, Nat.add_mod_right, Nat.mod_eq_of_lt ha] at e3
    exact ⟨e3, e4⟩
  · have k : (a + b) = (a + b - T) + T * 1 := by omega
    rw [k, Nat.add_mul_mod_self_left, Nat.mod_eq_of_lt (by omega)] at e1
    rw [k, Nat.add_mul_div_left _ _ z, Nat.div_eq_of_lt (by omega)] at e2
    subst e1 e2
    rw [if_pos (by omega)] at e4
    rw [show a + b - T + T - b = a by omega, Nat.mod_eq_of_lt ha] at e3
    exact ⟨e3, by omega⟩
theorem sub_add_back {T a b s c d t : Nat} (ha : a < T) (hb : b < T) (h1 : Hid (s = (a + T - b) % T ∧ c = if a < b then 1 else 0)) (h2 : Hid (d = (s + b) % T ∧ t = (s + b) / T)) : d = a ∧ t = c := by
  have ⟨e1, e2⟩ := h1.out
  have ⟨e3, e4⟩ := h2.out
  clear h1 h2
  have z : 0 < T := by omega
  by_cases h : a < b
  · rw [Nat.mod_eq_of_lt (by omega)] at e1; rw [if_pos h] at e2
    subst e1 e2
    rw [show a + T - b + b = a + T * 1 by omega] at e3 e4
    rw [Nat.add_mul_mod_self_left, Nat.mod_eq_of_lt ha] at e3
    rw [Nat.add_mul_div_left _ _ z, Nat.div_eq_of_lt ha] at e4
    exact ⟨e3, by omega⟩
  · rw [show a + T - b = a - b + T by omega, Nat.add_mod_right, Nat.mod_eq_of_lt (by omega)] at e1; rw [if_neg h] at e2
    subst e1 e2
    rw [show a - b + b = a by omega] at e3 e4
    rw [Nat.mod_eq_of_lt ha] at e3
    rw [Nat.div_eq_of_lt ha] at e4
    exact ⟨e3, e4⟩

/-- ADD: the four steps make the sum. -/
theorem add_law (a b : Nat) (ha : a < T256) (hb : b < T256) (c0 c1 c2 : Int) (e0 : c0 = sumHi (limb a 0) (limb b 0) 0) (e1 : c1 = sumHi (limb a 1) (limb b 1) c0) (e2 : c2 = sumHi (limb a 2) (limb b 2) c1) :
    limb ((a + b) % T256) 0 = sumLo (limb a 0) (limb b 0) 0 ∧ limb ((a + b) % T256) 1 = sumLo (limb a 1) (limb b 1) c0 ∧ limb ((a + b) % T256) 2 = sumLo (limb a 2) (limb b 2) c1 ∧
    limb ((a + b) % T256) 3 = sumLo (limb a 3) (limb b 3) c2 ∧ (((a + b) / T256 : Nat) : Int) = sumHi (limb a 3) (limb b 3) c2 := by
  obtain ⟨a0, a1, a2, a3, k0, k1, k2, k3, rfl⟩ := four_of a ha
  obtain ⟨b0, b1, b2, b3, l0, l1, l2, l3, rfl⟩ := four_of b hb
  have k := limb_four a0 a1 a2 a3 k0 k1 k2 k3
  have l := limb_four b0 b1 b2 b3 l0 l1 l2 l3
  rw [k.1, l.1] at e0; rw [k.2.1, l.2.1] at e1; rw [k.2.2.1, l.2.2.1] at e2; rw [k.1, l.1, k.2.1, l.2.1, k.2.2.1, l.2.2.1, k.2.2.2, l.2.2.2]
  clear k l
  obtain ⟨s0, t0, hs0, hs0', ht0⟩ : ∃ s t : Nat, a0 + b0 = s + 18446744073709551616 * t ∧ s < 18446744073709551616 ∧ t ≤ 1 := ⟨(a0 + b0) % 18446744073709551616, (a0 + b0) / 18446744073709551616, by omega, by omega, by omega⟩
  obtain ⟨s1, t1, hs1, hs1', ht1⟩ : ∃ s t : Nat, a1 + b1 + t0 = s + 18446744073709551616 * t ∧ s < 18446744073709551616 ∧ t ≤ 1 := ⟨(a1 + b1 + t0) % 18446744073709551616, (a1 + b1 + t0) / 18446744073709551616, by omega, by omega, by omega⟩
  obtain ⟨s2, t2, hs2, hs2', ht2⟩ : ∃ s t : Nat, a2 + b2 + t1 = s + 18446744073709551616 * t ∧ s < 18446744073709551616 ∧ t ≤ 1 := ⟨(a2 + b2 + t1) % 18446744073709551616, (a2 + b2 + t1) / 18446744073709551616, by omega, by omega, by omega⟩
  obtain ⟨s3, t3, hs3, hs3', ht3⟩ : ∃ s t : Nat, a3 + b3 + t2 = s + 18446744073709551616 * t ∧ s < 18446744073709551616 ∧ t ≤ 1 := ⟨(a3 + b3 + t2) % 18446744073709551616, (a3 + b3 + t2) / 18446744073709551616, by omega, by omega, by omega⟩
  have hsum : four a0 a1 a2 a3 + four b0 b1 b2 b3 = four s0 s1 s2 s3 + T256 * t3 := by unfold four T256; omega
  have hlt := four_lt s0 s1 s2 s3 hs0' hs1' hs2' hs3'
  have hm : (four a0 a1 a2 a3 + four b0 b1 b2 b3) % T256 = four s0 s1 s2 s3 := by rw [hsum, Nat.add_mul_mod_self_left, Nat.mod_eq_of_lt hlt]
  have hd : (four a0 a1 a2 a3 + four b0 b1 b2 b3) / T256 = t3 := by
    rw [hsum, Nat.add_mul_div_left _ _ (by unfold T256; omega), Nat.div_eq_of_lt hlt]; omega
  rw [hm, hd]
  have m := limb_four s0 s1 s2 s3 hs0' hs1' hs2' hs3'
  rw [m.1, m.2.1, m.2.2.1, m.2.2.2]
  unfold sumHi at e0; obtain rfl : c0 = (t0 : Int) := by omega
  unfold sumHi at e1; obtain rfl : c1 = (t1 : Int) := by omega
  unfold sumHi at e2; obtain rfl : c2 = (t2 : Int) := by omega
  unfold sumLo sumHi
  omega

/-- SUB: the four steps make the difference. -/
theorem sub_law (a b : Nat) (ha : a < T256) (hb : b < T256) (c0 c1 c2 : Int) (e0 : c0 = subHi (limb a 0) (limb b 0) 0) (e1 : c1 = subHi (limb a 1) (limb b 1) c0) (e2 : c2 = subHi (limb a 2) (limb b 2) c1) :
    limb ((a + T256 - b) % T256) 0 = subLo (limb a 0) (limb b 0) 0 ∧ limb ((a + T256 - b) % T256) 1 = subLo (limb a 1) (limb b 1) c0 ∧ limb ((a + T256 - b) % T256) 2 = subLo (limb a 2) (limb b 2) c1 ∧
    limb ((a + T256 - b) % T256) 3 = subLo (limb a 3) (limb b 3) c2 ∧ (if a < b then 1 else 0 : Int) = subHi (limb a 3) (limb b 3) c2 := by
  obtain ⟨a0, a1, a2, a3, k0, k1, k2, k3, rfl⟩ := four_of a ha
  obtain ⟨b0, b1, b2, b3, l0, l1, l2, l3, rfl⟩ := four_of b hb
  have k := limb_four a0 a1 a2 a3 k0 k1 k2 k3
  have l := limb_four b0 b1 b2 b3 l0 l1 l2 l3
  rw [k.1, l.1] at e0; rw [k.2.1, l.2.1] at e1; rw [k.2.2.1, l.2.2.1] at e2; rw [k.1, l.1, k.2.1, l.2.1, k.2.2.1, l.2.2.1, k.2.2.2, l.2.2.2]
  clear k l
  have step : ∀ x y c : Nat, x < 18446744073709551616 → y < 18446744073709551616 → c ≤ 1 → ∃ s t : Nat, x + 18446744073709551616 * t = s + y + c ∧ s < 18446744073709551616 ∧ t ≤ 1 ∧ subLo x y c = s ∧ subHi x y c = t := by
    intro x y c hx hy hc
    unfold subLo subHi
    by_cases h : x < y + c
    · exact ⟨x + 18446744073709551616 - y - c, 1, by omega, by omega, by omega, by omega, by rw [if_pos (by omega)]; rfl⟩
    · exact ⟨x - y - c, 0, by omega, by omega, by omega, by omega, by rw [if_neg (by omega)]; rfl⟩
  obtain ⟨s0, t0, hs0, hs0', ht0, m0, n0⟩ := step a0 b0 0 k0 l0 (by omega)
  obtain ⟨s1, t1, hs1, hs1', ht1, m1, n1⟩ := step a1 b1 t0 k1 l1 ht0
  obtain ⟨s2, t2, hs2, hs2', ht2, m2, n2⟩ := step a2 b2 t1 k2 l2 ht1
  obtain ⟨s3, t3, hs3, hs3', ht3, m3, n3⟩ := step a3 b3 t2 k3 l3 ht2
  clear step
  have e0' : c0 = (t0 : Int) := e0.trans n0
  subst e0'
  have e1' : c1 = (t1 : Int) := e1.trans n1
  subst e1'
  have e2' : c2 = (t2 : Int) := e2.trans n2
  subst e2'
  clear e0 e1 e2 n0 n1 n2
  have z : ((0 : Nat) : Int) = 0 := rfl
  rw [z] at m0
  rw [m0, m1, m2, m3, n3]
  have hsum : four a0 a1 a2 a3 + T256 * t3 = four s0 s1 s2 s3 + four b0 b1 b2 b3 := by unfold four T256; omega
  have hlt := four_lt s0 s1 s2 s3 hs0' hs1' hs2' hs3'
  have hm : (four a0 a1 a2 a3 + T256 - four b0 b1 b2 b3) % T256 = four s0 s1 s2 s3 := by
    have : t3 = 0 ∨ t3 = 1 := by omega
    rcases this with rfl | rfl
    · rw [show four a0 a1 a2 a3 + T256 - four b0 b1 b2 b3 = four s0 s1 s2 s3 + T256 * 1 by omega, Nat.add_mul_mod_self_left, Nat.mod_eq_of_lt hlt]
    · rw [show four a0 a1 a2 a3 + T256 - four b0 b1 b2 b3 = four s0 s1 s2 s3 by omega, Nat.mod_eq_of_lt hlt]
  rw [hm]
  have m := limb_four s0 s1 s2 s3 hs0' hs1' hs2' hs3'
  rw [m.1, m.2.1, m.2.2.1, m.2.2.2]
  refine ⟨rfl, rfl, rfl, rfl, ?_⟩
  have : t3 = 0 ∨ t3 = 1 := by omega
  rcases this with rfl | rfl
  · rw [if_neg (by omega)]; rfl
  · rw [if_pos (by omega)]; rfl
end Go.Proofs.Ytlpalhagndmpjaa
namespace Go.Proofs.Ytlpalhagndmpjaa
open Go.RowKit Go.ChangeShapes Go.WideShapes Go.ChangeAt
section
variable {H : Type} {enc : TypeId × Value → H} {P : Program} {w : World} {base : Nat} {spare : Nat → Bool} {held : Bool}
theorem okWide_array {t e : TypeId} {n : Nat} {r : Reach} {b0 : Nat} {v : Value} (ht : P.underlying t = some (.array n e)) (h : Value.okWide P w r b0 t v) : ∃ cs, v = .agg cs ∧ cs.size = P.cellsOf t := by
  simp only [Value.okWide, ht] at h
  obtain ⟨cs, h1, h2, _⟩ := h
  exact ⟨cs, h1, h2⟩
def intAt (cs : List Value) (i : Nat) : Int := match cs[i]? with | some (.int _ z) => z | _ => 0
/-- The cells of an array of integers. -/
theorem cells_ints {t e : TypeId} {n : Nat} {k : IntKind} {cs : List Value} {fuel : Nat} {x : DataW H × List MemPlace} (ht : P.underlying t = some (.array n e)) (he : P.underlying e = some (.int k)) (hce : P.cellsOf e = 1) (hct : P.cellsOf t = n)
    (h : DataW.trod enc P w base spare held fuel t cs = some x) : ∃ zs : List Int, zs.length = n ∧ cs = zs.map (Value.int k) ∧ ∀ z ∈ zs, (Lit.int k z).wf = true := by
  obtain ⟨xs, m, _, _, hl, hx, hf⟩ := DataW.trod_array ht h
  rw [hct] at hl
  have key : ∀ i, i < n → ∃ z, cs[i]? = some (.int k z) ∧ (Lit.int k z).wf = true := by
    intro i hi
    have := hf i hi
    rw [hce, Nat.mul_one, List.getElem?_eq_getElem (by omega)] at this
    obtain ⟨z, hc, _, hz⟩ := DataW.trod_int he this
    refine ⟨z, ?_, hz⟩
    have := congrArg (·[0]?) hc
    simpa [List.getElem?_take, List.getElem?_drop] using this
  refine ⟨(List.range n).map (intAt cs), by simp, ?_, ?_⟩
  · apply List.ext_getElem?
    intro i
    by_cases hi : i < n
    · obtain ⟨z, hz, _⟩ := key i hi
      simp [hi, intAt, hz]
    · simp only [List.map_map, List.getElem?_map]
      rw [List.getElem?_eq_none (by omega), List.getElem?_eq_none (by simp; omega)]
      rfl
  · intro z hz
    obtain ⟨i, hi, rfl⟩ := List.mem_map.1 hz
    obtain ⟨z, hz, hw⟩ := key i (List.mem_range.1 hi)
    simpa [intAt, hz] using hw
theorem open_array {t e : TypeId} {n : Nat} {k : IntKind} {r : Reach} {b0 : Nat} {v : Value} {d : DataW H} {p : List MemPlace} (ht : P.underlying t = some (.array n e)) (he : P.underlying e = some (.int k)) (hce : P.cellsOf e = 1) (hct : P.cellsOf t = n)
    (hv : Value.okWide P w r b0 t v) (h : DataW.Trod enc P w base spare held t v d p) : ∃ zs : List Int, zs.length = n ∧ v = .agg (zs.map (Value.int k)).toArray ∧ ∀ z ∈ zs, (Lit.int k z).wf = true := by
  obtain ⟨cs, rfl, _⟩ := okWide_array ht hv
  obtain ⟨fuel, hf⟩ := h
  obtain ⟨zs, h1, h2, h3⟩ := cells_ints ht he hce hct (cs := cs.toList) (by simpa [Value.cells] using hf)
  refine ⟨zs, h1, ?_, h3⟩
  rw [← h2]
theorem wf_U {z : Int} (h : (Lit.int .u64 z).wf = true) : U z := by
  simp [Lit.wf, IntKind.min, IntKind.max, IntKind.signed, IntKind.bits] at h
  exact ⟨h.1, by omega⟩
theorem len4 {α : Type} {l : List α} (h : l.length = 4) : ∃ a b c d, l = [a, b, c, d] := by
  match l, h with | [a, b, c, d], _ => exact ⟨a, b, c, d, rfl⟩
theorem len8 {α : Type} {l : List α} (h : l.length = 8) : ∃ a b c d e f g i, l = [a, b, c, d, e, f, g, i] := by
  match l, h with | [a, b, c, d, e, f, g, i], _ => exact ⟨a, b, c, d, e, f, g, i, rfl⟩
theorem num_list {zs : List Int} (hl : zs.length = 4) (hz : ∀ z ∈ zs, (Lit.int .u64 z).wf = true) : ∃ n, n < T256 ∧ Value.agg (zs.map (Value.int .u64)).toArray = num n := by
  obtain ⟨a, b, c, d, rfl⟩ := len4 hl
  obtain ⟨n, hn, h0, h1, h2, h3⟩ := num_of a b c d (wf_U (hz a (by simp))) (wf_U (hz b (by simp))) (wf_U (hz c (by simp))) (wf_U (hz d (by simp)))
  refine ⟨n, hn, ?_⟩
  rw [h0, h1, h2, h3]
  rfl
theorem wide_list {zs : List Int} (hl : zs.length = 8) (hz : ∀ z ∈ zs, (Lit.int .u64 z).wf = true) : ∃ n, n < T512 ∧ Value.agg (zs.map (Value.int .u64)).toArray = wide n := by
  obtain ⟨a, b, c, d, e, f, g, i, rfl⟩ := len8 hl
  obtain ⟨n, hn, h0, h1, h2, h3⟩ := num_of a b c d (wf_U (hz a (by simp))) (wf_U (hz b (by simp))) (wf_U (hz c (by simp))) (wf_U (hz d (by simp)))
  obtain ⟨m, hm, k0, k1, k2, k3⟩ := num_of e f g i (wf_U (hz e (by simp))) (wf_U (hz f (by simp))) (wf_U (hz g (by simp))) (wf_U (hz i (by simp)))
  have s := limb_two n m hn
  refine ⟨n + T256 * m, two_lt n m hn hm, ?_⟩
  rw [h0, h1, h2, h3, k0, k1, k2, k3]
  simp only [wide, s.1, s.2.1, s.2.2.1, s.2.2.2.1, s.2.2.2.2.1, s.2.2.2.2.2.1, s.2.2.2.2.2.2.1, s.2.2.2.2.2.2.2]
  rfl
theorem open_num {t e : TypeId} {r : Reach} {b0 : Nat} {v : Value} {d : DataW H} {p : List MemPlace} (ht : P.underlying t = some (.array 4 e)) (he : P.underlying e = some (.int .u64)) (hce : P.cellsOf e = 1) (hct : P.cellsOf t = 4)
    (hv : Value.okWide P w r b0 t v) (h : DataW.Trod enc P w base spare held t v d p) : ∃ n, n < T256 ∧ v = num n := by
  obtain ⟨zs, hl, rfl, hz⟩ := open_array ht he hce hct hv h
  exact num_list hl hz
theorem open_wide {t e : TypeId} {r : Reach} {b0 : Nat} {v : Value} {d : DataW H} {p : List MemPlace} (ht : P.underlying t = some (.array 8 e)) (he : P.underlying e = some (.int .u64)) (hce : P.cellsOf e = 1) (hct : P.cellsOf t = 8)
    (hv : Value.okWide P w r b0 t v) (h : DataW.Trod enc P w base spare held t v d p) : ∃ n, n < T512 ∧ v = wide n := by
  obtain ⟨zs, hl, rfl, hz⟩ := open_array ht he hce hct hv h
  exact wide_list hl hz
end
end Go.Proofs.Ytlpalhagndmpjaa
namespace Go.Proofs.Ytlpalhagndmpjaa
set_option maxRecDepth 100000
theorem mayEnter_of {P : Program} {l : List Char} {rest : List (List Char)} (h0 : P.initOrder = String.ofList l) (h : behindMainWord (wordsSigns l) = "cut".toList :: rest) (hs : stripLifts liftWords ("cut".toList :: rest) = ([], "cut".toList :: rest)) (h1 : P.laysLater = false) (h2 : P.bearsReflect = false) (h3 : P.doorFits [] = true) : P.mayEnter = true := by
  unfold Program.mayEnter
  rw [h0, String.toList_ofList, h]
  generalize "cut".toList = c at *
  simp only [hs, h1, h2, h3]
  simp
theorem headLifts_of {P : Program} {l : List Char} {rest : List (List Char)} (h0 : P.initOrder = String.ofList l) (h : behindMainWord (wordsSigns l) = "cut".toList :: rest) (hs : stripLifts liftWords ("cut".toList :: rest) = ([], "cut".toList :: rest)) : P.headLifts = [] := by
  unfold Program.headLifts
  rw [h0, String.toList_ofList, h, hs]
  simp
theorem liftsFinal_of {P : Program} {l : List Char} {rest : List (List Char)} (h0 : P.initOrder = String.ofList l) (h : behindMainWord (wordsSigns l) = "cut".toList :: rest) (hs : stripLifts liftWords ("cut".toList :: rest) = ([], "cut".toList :: rest)) : P.liftsFinal = false := by
  unfold Program.liftsFinal
  rw [headLifts_of h0 h hs, h0, String.toList_ofList, h]
  simp
theorem make_of {P : Program} {l : List Char} {rest : List (List Char)} (h0 : P.initOrder = String.ofList l) (h : behindMainWord (wordsSigns l) = "cut".toList :: rest) : P.make = some .cut := by
  unfold Program.make
  rw [h0, String.toList_ofList, h]
  have e1 : ("cut".toList == "gc".toList || "cut".toList == "spec".toList) = false := by decide +kernel
  simp only [e1]
  simp
theorem word0 : ∃ (l : List Char), Try.prog.initOrder = String.ofList l ∧ behindMainWord (wordsSigns l) = "cut".toList :: (behindMainWord (wordsSigns l)).tail ∧ stripLifts liftWords ("cut".toList :: (behindMainWord (wordsSigns l)).tail) = ([], "cut".toList :: (behindMainWord (wordsSigns l)).tail) := ⟨_, rfl, by kernel_rfl, by kernel_rfl⟩
theorem word1 : ∃ (l : List Char) (rest : List (List Char)), Try.prog.initOrder = String.ofList l ∧ behindMainWord (wordsSigns l) = "cut".toList :: rest ∧ stripLifts liftWords ("cut".toList :: rest) = ([], "cut".toList :: rest) := by
  obtain ⟨l, h⟩ := word0
  exact ⟨l, _, h⟩
theorem mayEnters : Try.prog.mayEnter = true := by
  obtain ⟨l, r, h0, h, hs⟩ := word1
  exact mayEnter_of h0 h hs (by kernel_rfl) (by kernel_rfl) (by kernel_rfl)
theorem liftsNone : Try.prog.liftsFinal = false := by
  obtain ⟨l, r, h0, h, hs⟩ := word1
  exact liftsFinal_of h0 h hs
theorem makeCut : Try.prog.make = some .cut := by
  obtain ⟨l, r, h0, h, hs⟩ := word1
  exact make_of h0 h
end Go.Proofs.Ytlpalhagndmpjaa
namespace Go.Proofs.Ytlpalhagndmpjaa
set_option linter.unusedVariables false
set_option linter.unusedSimpArgs false
/-- An error's number, how long, and of how many bytes that is. -/
def lenD : List Nat → Nat × Nat × Nat
  | [] => (3, 0, 0)
  | k :: r => if k < 128 then (0, k, 1) else if k = 128 ∨ k > 130 then (4, 0, 0) else if r.length + 1 < k - 127 then (3, 0, 0)
    else if k = 129 then (if r.getD 0 0 < 128 then (4, 0, 0) else (0, r.getD 0 0, 2))
    else (if r.getD 0 0 * 256 + r.getD 1 0 < 256 then (4, 0, 0) else (0, r.getD 0 0 * 256 + r.getD 1 0, 3))
/-- An error's number, the first item, and of how many bytes it is. -/
def firstD : List Nat → Nat × (Nat × List Nat) × Nat
  | [] => (3, (0, []), 0)
  | t :: r => if (lenD r).1 ≠ 0 then ((lenD r).1, (0, []), 0) else if (lenD r).2.1 > 4096 then (2, (0, []), 0) else if (lenD r).2.1 > r.length - (lenD r).2.2 then (3, (0, []), 0)
    else (0, (t, (r.drop (lenD r).2.2).take (lenD r).2.1), 1 + (lenD r).2.2 + (lenD r).2.1)
theorem lenD_a {k : Nat} (h : k < 128) (r : List Nat) : lenD (k :: r) = (0, k, 1) := by rw [lenD, if_pos h]
theorem lenD_b {k : Nat} (h : k = 128 ∨ k > 130) (r : List Nat) : lenD (k :: r) = (4, 0, 0) := by rw [lenD, if_neg (by omega), if_pos h]
theorem lenD_129s : lenD [129] = (3, 0, 0) := rfl
theorem lenD_129 (b : Nat) (r : List Nat) : lenD (129 :: b :: r) = if b < 128 then (4, 0, 0) else (0, b, 2) := by
  rw [lenD, if_neg (by omega), if_neg (by omega), if_neg (by simp only [List.length_cons]; omega), if_pos rfl]; rfl
theorem lenD_130s : lenD [130] = (3, 0, 0) := rfl
theorem lenD_130t (b : Nat) : lenD [130, b] = (3, 0, 0) := rfl
theorem lenD_130 (b c : Nat) (r : List Nat) : lenD (130 :: b :: c :: r) = if b * 256 + c < 256 then (4, 0, 0) else (0, b * 256 + c, 3) := by
  rw [lenD, if_neg (by omega), if_neg (by omega), if_neg (by simp only [List.length_cons]; omega), if_neg (by omega)]; rfl
theorem firstD_cons (t : Nat) (r : List Nat) : firstD (t :: r) = if (lenD r).1 ≠ 0 then ((lenD r).1, (0, []), 0) else if (lenD r).2.1 > 4096 then (2, (0, []), 0) else if (lenD r).2.1 > r.length - (lenD r).2.2 then (3, (0, []), 0)
    else (0, (t, (r.drop (lenD r).2.2).take (lenD r).2.1), 1 + (lenD r).2.2 + (lenD r).2.1) := rfl
/-- What stands ahead: the ways. -/
theorem lenD_ways {M : List Nat → Prop} (h0 : M []) (h1 : ∀ k r, k < 128 → M (k :: r)) (h2 : ∀ k r, k = 128 ∨ k > 130 → M (k :: r)) (h3 : M [129]) (h4 : ∀ b r, M (129 :: b :: r)) (h5 : M [130]) (h6 : ∀ b, M [130, b]) (h7 : ∀ b c r, M (130 :: b :: c :: r)) : ∀ r, M r
  | [] => h0
  | k :: r => by
    by_cases c1 : k < 128
    · exact h1 k r c1
    · by_cases c2 : k = 128 ∨ k > 130
      · exact h2 k r c2
      · by_cases c3 : k = 129
        · subst c3
          cases r with
          | nil => exact h3
          | cons b r => exact h4 b r
        · obtain rfl : k = 130 := by omega
          match r with
          | [] => exact h5
          | [b] => exact h6 b
          | b :: c :: r => exact h7 b c r
theorem lenD_at : ∀ {r : List Nat}, (lenD r).1 = 0 → 1 ≤ (lenD r).2.2 ∧ (lenD r).2.2 ≤ 3 ∧ (lenD r).2.2 ≤ r.length := fun {r} => by
  refine lenD_ways (M := fun r => (lenD r).1 = 0 → 1 ≤ (lenD r).2.2 ∧ (lenD r).2.2 ≤ 3 ∧ (lenD r).2.2 ≤ r.length) ?_ ?_ ?_ ?_ ?_ ?_ ?_ ?_ r
  · intro h; simp [lenD] at h
  · intro k r hk _; rw [lenD_a hk]; simp
  · intro k r hk h; rw [lenD_b hk] at h; simp at h
  · intro h; simp [lenD_129s] at h
  · intro b r h
    rw [lenD_129] at h ⊢
    by_cases c : b < 128
    · rw [if_pos c] at h; simp at h
    · rw [if_neg c]; simp
  · intro h; simp [lenD_130s] at h
  · intro b h; simp [lenD_130t] at h
  · intro b c r h
    rw [lenD_130] at h ⊢
    by_cases c5 : b * 256 + c < 256
    · rw [if_pos c5] at h; simp at h
    · rw [if_neg c5]; simp
/-- What was written is read as it was, whatever stands behind it. -/
theorem lenD_head {t n : Nat} (hn : n ≤ 4096) (s : List Nat) : ∃ r a, headL t n = t :: r ∧ lenD (r ++ s) = (0, n, a) ∧ r.length = a := by
  unfold headL
  by_cases c1 : n < 128
  · exact ⟨[n], 1, by simp [c1], lenD_a c1 _, rfl⟩
  · by_cases c2 : n < 256
    · refine ⟨[129, n], 2, by simp [c1, c2], ?_, rfl⟩
      show lenD (129 :: n :: s) = _
      rw [lenD_129, if_neg c1]
    · refine ⟨[130, n / 256 % 256, n % 256], 3, by simp [c1, c2], ?_, rfl⟩
      have e : n / 256 % 256 * 256 + n % 256 = n := by omega
      show lenD (130 :: (n / 256 % 256) :: (n % 256) :: s) = _
      rw [lenD_130, e, if_neg c2]
theorem firstD_wr1 {x : Nat × List Nat} (hx : x.2.length ≤ 4096) (s : List Nat) : firstD (wr1 x ++ s) = (0, x, (wr1 x).length) := by
  obtain ⟨t, q⟩ := x
  dsimp only at hx
  obtain ⟨r, a, h1, h2, h3⟩ := lenD_head (t := t) hx (q ++ s)
  have h4 : wr1 (t, q) ++ s = t :: (r ++ (q ++ s)) := by rw [wr1, h1]; simp
  have h5 : (r ++ (q ++ s)).length - a = q.length + s.length := by simp only [List.length_append]; omega
  have h6 : ((r ++ (q ++ s)).drop a).take q.length = q := by rw [List.drop_left' h3, List.take_left]
  have h7 : (wr1 (t, q)).length = 1 + a + q.length := by rw [wr1, h1]; simp only [List.length_append, List.length_cons]; omega
  rw [h4, firstD_cons, h2]
  dsimp only
  rw [h5, h6, h7, if_neg (by simp), if_neg (by omega), if_neg (by omega)]
/-- What is read is written so. -/
theorem lenD_back : ∀ {r : List Nat}, (∀ y ∈ r, y < 256) → (lenD r).1 = 0 → ∀ t : Nat, headL t (lenD r).2.1 = t :: r.take (lenD r).2.2 := fun {r} => by
  refine lenD_ways (M := fun r => (∀ y ∈ r, y < 256) → (lenD r).1 = 0 → ∀ t : Nat, headL t (lenD r).2.1 = t :: r.take (lenD r).2.2) ?_ ?_ ?_ ?_ ?_ ?_ ?_ ?_ r
  · intro _ h; simp [lenD] at h
  · intro k r hk _ _ t; rw [lenD_a hk]; simp [headL, hk]
  · intro k r hk _ h; rw [lenD_b hk] at h; simp at h
  · intro _ h; simp [lenD_129s] at h
  · intro b r hb h t
    rw [lenD_129] at h ⊢
    by_cases c : b < 128
    · rw [if_pos c] at h; simp at h
    · rw [if_neg c]
      have h1 : b < 256 := hb b (by simp)
      simp [headL, c, h1]
  · intro _ h; simp [lenD_130s] at h
  · intro b _ h; simp [lenD_130t] at h
  · intro b c r hb h t
    rw [lenD_130] at h ⊢
    by_cases c5 : b * 256 + c < 256
    · rw [if_pos c5] at h; simp at h
    · rw [if_neg c5]
      have h1 : b < 256 := hb b (by simp)
      have h2 : c < 256 := hb c (by simp)
      have e1 : (b * 256 + c) / 256 % 256 = b := by omega
      have e2 : (b * 256 + c) % 256 = c := by omega
      dsimp only
      rw [headL, if_neg (by omega), if_neg c5, e1, e2]
      rfl
theorem firstD_back {p : List Nat} (hb : ∀ y ∈ p, y < 256) {x : Nat × List Nat} {n : Nat} (h : firstD p = (0, x, n)) : p = wr1 x ++ p.drop n ∧ n = (wr1 x).length ∧ x.2.length ≤ 4096 ∧ x.1 < 256 := by
  cases p with
  | nil => simp [firstD] at h
  | cons t r =>
    rw [firstD_cons] at h
    by_cases c1 : (lenD r).1 ≠ 0
    · rw [if_pos c1] at h; exact absurd (congrArg (·.1) h) c1
    · rw [if_neg c1] at h
      by_cases c2 : (lenD r).2.1 > 4096
      · rw [if_pos c2] at h; simp at h
      · rw [if_neg c2] at h
        by_cases c3 : (lenD r).2.1 > r.length - (lenD r).2.2
        · rw [if_pos c3] at h; simp at h
        · rw [if_neg c3] at h
          have c1' : (lenD r).1 = 0 := Decidable.of_not_not c1
          obtain ⟨a1, a2, a3⟩ := lenD_at c1'
          have hbk := lenD_back (fun y hy => hb y (by simp [hy])) c1' t
          simp only [Prod.mk.injEq, true_and] at h
          obtain ⟨rfl, rfl⟩ := h
          have hl : ((r.drop (lenD r).2.2).take (lenD r).2.1).length = (lenD r).2.1 := by rw [List.length_take, List.length_drop]; omega
          have hw : wr1 (t, (r.drop (lenD r).2.2).take (lenD r).2.1) = t :: (r.take (lenD r).2.2 ++ (r.drop (lenD r).2.2).take (lenD r).2.1) := by
            rw [wr1]; dsimp only; rw [hl, hbk]; rfl
          have hd : r = r.take (lenD r).2.2 ++ ((r.drop (lenD r).2.2).take (lenD r).2.1 ++ r.drop ((lenD r).2.2 + (lenD r).2.1)) := by
            rw [← List.drop_drop, List.take_append_drop, List.take_append_drop]
          refine ⟨?_, ?_, by dsimp only; omega, hb t (by simp)⟩
          · rw [hw, show 1 + (lenD r).2.2 + (lenD r).2.1 = (lenD r).2.2 + (lenD r).2.1 + 1 by omega, List.drop_succ_cons]
            rw [List.cons_append, List.append_assoc, ← hd]
          · rw [hw]; simp only [List.length_cons, List.length_append, List.length_take, List.length_drop]; omega
/-- What is cut is too short. -/
theorem firstD_short {t : Nat} {r : List Nat} (h : (lenD r).1 = 3 ∨ ((lenD r).1 = 0 ∧ (lenD r).2.1 ≤ 4096 ∧ (lenD r).2.1 > r.length - (lenD r).2.2)) : firstD (t :: r) = (3, (0, []), 0) := by
  rw [firstD_cons]
  rcases h with h | ⟨h1, h2, h3⟩
  · rw [if_pos (by omega), h]
  · rw [if_neg (by omega), if_neg (by omega), if_pos h3]
theorem firstD_cut {x : Nat × List Nat} (hx : x.2.length ≤ 4096) {k : Nat} (hk : k < (wr1 x).length) : firstD ((wr1 x).take k) = (3, (0, []), 0) := by
  obtain ⟨t, q⟩ := x
  dsimp only at hx
  cases k with
  | zero => rfl
  | succ k =>
    unfold wr1 headL at hk ⊢
    dsimp only at hk ⊢
    by_cases c1 : q.length < 128
    · rw [if_pos c1] at hk ⊢
      cases k with
      | zero => exact firstD_short (.inl rfl)
      | succ k =>
        simp only [List.cons_append, List.nil_append, List.length_cons] at hk
        simp only [List.cons_append, List.nil_append, List.take_succ_cons]
        refine firstD_short (.inr ?_)
        rw [lenD_a c1]
        refine ⟨rfl, by dsimp only; omega, ?_⟩
        dsimp only
        rw [List.length_cons, List.length_take]
        omega
    · rw [if_neg c1] at hk ⊢
      by_cases c2 : q.length < 256
      · rw [if_pos c2] at hk ⊢
        match k with
        | 0 => exact firstD_short (.inl rfl)
        | 1 => exact firstD_short (.inl rfl)
        | k + 2 =>
          simp only [List.cons_append, List.nil_append, List.length_cons] at hk
          simp only [List.cons_append, List.nil_append, List.take_succ_cons]
          refine firstD_short (.inr ?_)
          rw [lenD_129, if_neg c1]
          refine ⟨rfl, by dsimp only; omega, ?_⟩
          dsimp only
          rw [List.length_cons, List.length_cons, List.length_take]
          omega
      · rw [if_neg c2] at hk ⊢
        have e : q.length / 256 % 256 * 256 + q.length % 256 = q.length := by omega
        match k with
        | 0 => exact firstD_short (.inl rfl)
        | 1 => exact firstD_short (.inl rfl)
        | 2 => exact firstD_short (.inl rfl)
        | k + 3 =>
          simp only [List.cons_append, List.nil_append, List.length_cons] at hk
          simp only [List.cons_append, List.nil_append, List.take_succ_cons]
          refine firstD_short (.inr ?_)
          rw [lenD_130, e, if_neg c2]
          refine ⟨rfl, by dsimp only; omega, ?_⟩
          dsimp only
          rw [List.length_cons, List.length_cons, List.length_cons, List.length_take]
          omega
/-! ### All -/
/-- An error's number, and the items: of at most 200 with those that are there. -/
def rdL : Nat → Nat → List Nat → Nat × List (Nat × List Nat)
  | 0, _, _ => (0, [])
  | _ + 1, _, [] => (0, [])
  | f + 1, c, y :: r => if c = 200 then (2, []) else if (firstD (y :: r)).1 ≠ 0 then ((firstD (y :: r)).1, [])
    else if (rdL f (c + 1) ((y :: r).drop (firstD (y :: r)).2.2)).1 ≠ 0 then ((rdL f (c + 1) ((y :: r).drop (firstD (y :: r)).2.2)).1, [])
    else (0, (firstD (y :: r)).2.1 :: (rdL f (c + 1) ((y :: r).drop (firstD (y :: r)).2.2)).2)
def rdD (p : List Nat) : Nat × List (Nat × List Nat) := if p.length > 65536 then (2, []) else rdL p.length 0 p
theorem wr1_pos (x : Nat × List Nat) : 2 ≤ (wr1 x).length := by
  have := (headL_len x.1 x.2.length).2
  rw [wr1, List.length_append]; omega
theorem wr1_ne (x : Nat × List Nat) (s : List Nat) : wr1 x ++ s ≠ [] := fun h => by
  have h1 := congrArg List.length h
  have h2 := wr1_pos x
  rw [List.length_append, List.length_nil] at h1
  omega
theorem rdL_step {f c : Nat} {p : List Nat} (hp : p ≠ []) (hc : c ≠ 200) {x : Nat × List Nat} {n : Nat} (h : firstD p = (0, x, n)) :
    rdL (f + 1) c p = if (rdL f (c + 1) (p.drop n)).1 ≠ 0 then ((rdL f (c + 1) (p.drop n)).1, []) else (0, x :: (rdL f (c + 1) (p.drop n)).2) := by
  cases p with
  | nil => exact absurd rfl hp
  | cons y r => rw [rdL, h, if_neg hc, if_neg (by simp)]
theorem rdL_wrL : ∀ (l : List (Nat × List Nat)) (f c : Nat), (∀ x ∈ l, x.2.length ≤ 4096) → c + l.length ≤ 200 → (wrL l).length ≤ f → rdL f c (wrL l) = (0, l)
  | [], f, c, _, _, _ => by cases f <;> rfl
  | x :: r, f, c, h, hc, hf => by
    have hx := h x (by simp)
    have e : wrL (x :: r) = wr1 x ++ wrL r := by rw [show x :: r = [x] ++ r from rfl, wrL_app, wrL_one]
    have hp := wr1_pos x
    rw [e, List.length_append] at hf
    simp only [List.length_cons] at hc
    obtain ⟨f, rfl⟩ : ∃ g, f = g + 1 := ⟨f - 1, by omega⟩
    rw [e, rdL_step (wr1_ne _ _) (by omega) (firstD_wr1 hx (wrL r)), List.drop_left, rdL_wrL r f (c + 1) (fun y hy => h y (by simp [hy])) (by omega) (by omega)]
    simp
theorem rdL_back : ∀ (f c : Nat) (p : List Nat), (∀ y ∈ p, y < 256) → p.length ≤ f → (rdL f c p).1 = 0 → c ≤ 200 → p = wrL (rdL f c p).2 ∧ (∀ x ∈ (rdL f c p).2, x.2.length ≤ 4096 ∧ x.1 < 256) ∧ c + (rdL f c p).2.length ≤ 200
  | 0, c, p, _, hf, _, hc => by
    obtain rfl : p = [] := List.eq_nil_of_length_eq_zero (by omega)
    exact ⟨rfl, by simp [rdL], by simp [rdL]; exact hc⟩
  | f + 1, c, [], _, _, _, hc => ⟨rfl, by simp [rdL], by simp [rdL]; exact hc⟩
  | f + 1, c, y :: r, hb, hf, h, hc => by
    by_cases c1 : c = 200
    · rw [rdL, if_pos c1] at h; simp at h
    by_cases c2 : (firstD (y :: r)).1 ≠ 0
    · rw [rdL, if_neg c1, if_pos c2] at h; exact absurd h c2
    have c2' : (firstD (y :: r)).1 = 0 := Decidable.of_not_not c2
    obtain ⟨x, n, hx⟩ : ∃ x n, firstD (y :: r) = (0, x, n) := ⟨_, _, Prod.ext c2' rfl⟩
    obtain ⟨b1, b2, b3, b4⟩ := firstD_back hb hx
    have hs := rdL_step (f := f) (c := c) (p := y :: r) (by simp) c1 hx
    rw [hs] at h ⊢
    have hn := wr1_pos x
    by_cases c3 : (rdL f (c + 1) ((y :: r).drop n)).1 ≠ 0
    · rw [if_pos c3] at h; exact absurd h c3
    rw [if_neg c3]
    have c3' : (rdL f (c + 1) ((y :: r).drop n)).1 = 0 := Decidable.of_not_not c3
    obtain ⟨i1, i2, i3⟩ := rdL_back f (c + 1) ((y :: r).drop n) (fun z hz => hb z (List.mem_of_mem_drop hz)) (by rw [List.length_drop]; generalize (y :: r).length = L at *; omega) c3' (by omega)
    refine ⟨?_, ?_, by simp only [List.length_cons]; omega⟩
    · dsimp only
      rw [show x :: (rdL f (c + 1) ((y :: r).drop n)).2 = [x] ++ (rdL f (c + 1) ((y :: r).drop n)).2 from rfl, wrL_app, wrL_one, ← i1]
      exact b1
    · intro z hz
      rcases List.mem_cons.1 hz with rfl | hz
      · exact ⟨b3, b4⟩
      · exact i2 z hz
theorem rdL_cut : ∀ (l : List (Nat × List Nat)) (f c : Nat) (x : Nat × List Nat) (k : Nat), (∀ y ∈ l, y.2.length ≤ 4096) → x.2.length ≤ 4096 → 0 < k → k < (wr1 x).length → c + l.length < 200 → (wrL l).length + k ≤ f → rdL f c (wrL l ++ (wr1 x).take k) = (3, [])
  | [], f, c, x, k, _, hx, hk, hkl, hc, hf => by
    have e : wrL [] ++ (wr1 x).take k = (wr1 x).take k := rfl
    rw [e]
    have hlen : ((wr1 x).take k).length = k := by rw [List.length_take]; omega
    have hf' : 0 < f := by simp [wrL] at hf; omega
    obtain ⟨f, rfl⟩ : ∃ g, f = g + 1 := ⟨f - 1, by omega⟩
    have hc1 := firstD_cut hx hkl
    cases hq : (wr1 x).take k with
    | nil => rw [hq] at hlen; simp at hlen; omega
    | cons y r =>
      rw [hq] at hc1
      rw [rdL, hc1, if_neg (by simp at hc; omega), if_pos (by simp)]
  | z :: r, f, c, x, k, h, hx, hk, hkl, hc, hf => by
    have hz := h z (by simp)
    have e : wrL (z :: r) = wr1 z ++ wrL r := by rw [show z :: r = [z] ++ r from rfl, wrL_app, wrL_one]
    have hp := wr1_pos z
    rw [e, List.length_append] at hf
    simp only [List.length_cons] at hc
    obtain ⟨f, rfl⟩ : ∃ g, f = g + 1 := ⟨f - 1, by omega⟩
    rw [e, List.append_assoc, rdL_step (wr1_ne _ _) (by omega) (firstD_wr1 hz _), List.drop_left, rdL_cut r f (c + 1) x k (fun y hy => h y (by simp [hy])) hx hk hkl (by omega) (by omega)]
    simp
end Go.Proofs.Ytlpalhagndmpjaa
namespace Go.Proofs.Ytlpalhagndmpjaa
open Go.RowKit
theorem wrapU (x : Nat) : IntKind.u64.wrap (x : Int) = ((x % 18446744073709551616 : Nat) : Int) := by
  have e : (2 : Int) ^ 64 = 18446744073709551616 := rfl
  simp only [IntKind.wrap, IntKind.bits, IntKind.signed, Bool.false_and, e]; simp
theorem wrapB (x : Nat) : IntKind.u8.wrap (x : Int) = ((x % 256 : Nat) : Int) := by
  simp only [IntKind.wrap, IntKind.bits, IntKind.signed]; simp
theorem rep_snoc {α : Type} (k : Nat) (x : α) : List.replicate k x ++ [x] = List.replicate (k + 1) x := by rw [List.replicate_succ']
theorem range_snoc {α : Type} (k : Nat) (f : Nat → α) : (List.range k).map f ++ [f k] = (List.range (k + 1)).map f := by rw [List.range_succ, List.map_append]; rfl
end Go.Proofs.Ytlpalhagndmpjaa
