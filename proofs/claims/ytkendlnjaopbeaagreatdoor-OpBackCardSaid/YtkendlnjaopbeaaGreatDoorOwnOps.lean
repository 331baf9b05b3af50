/- Slices: the walk's rules. -/
import Derived.Test.YtkendlnjaopbeaaGreatDoorOwn
import Derived.Test.YtkendlnjaopbeaaGreatDoorZc
namespace Go.Proofs.YtkendlnjaopbeaaGreatDoor
open Go.RowKit
set_option linter.unusedVariables false
set_option linter.unusedSimpArgs false
section
variable {X : Cx} {s : Slots} {l : Blks} {o : Oper} {v : Value}
/-! ### Reads -/
theorem Ln.shape {n : Nat} (h : Ln v n) (hn : 0 < n) : ∃ cap, v = .slice (some ⟨elB v, elO v, none⟩) n cap ∧ n ≤ cap ∧ cap ≤ maxLen := by
  obtain ⟨p, cap, rfl, h1, h2, h3⟩ := h.out
  obtain ⟨b, off, rfl⟩ := h3 hn
  exact ⟨cap, rfl, h1, h2⟩
theorem rd_lenO {c : Call} {x : Operand} {n t e : Nat} (ho : o.op = .call c) (hc : c.callee = .builtin .len) (ha : c.args = #[x]) (ht : c.argTypes = #[t]) (hx : val s x = some v) [hu : UT X.P t (.slice e)] [hl : Ln v n] : RdV X s l o (.int .i64 n) := by
  obtain ⟨p, cap, rfl, _⟩ := hl.out
  exact rd_lenS ho hc ha ht hx
theorem rd_ixO {t e k n j : Nat} {x ix : Operand} {ki : IntKind} {i : Int} (ho : o.op = .indexAddr t x ix) (hx : val s x = some v) (hi : val s ix = some (.int ki i))
    [ht : UT X.P t (.slice e)] [hs : SZ X.P e k] [hl : Ln v n] (h0 : 0 ≤ i := by first | (with_reducible assumption) | omega | decide) (h1 : i < n := by first | (with_reducible assumption) | omega | decide) (hj : i.toNat * k = j := by first | (with_reducible assumption) | ((try simp only [Int.toNat_natCast, Nat.mul_one, Int.reduceToNat, Nat.reduceMul]); first | done | exact rfl)) : RdV X s l o (.pointer (some ⟨elB v, elO v + j, none⟩)) :=
  rd_val fun a w he hm => by
    subst hj
    obtain ⟨cap, hv, _, _⟩ := hl.shape (by omega)
    have hx' := he.eval hx
    rw [hv] at hx'
    simp [execOp, ho, hx', he.eval hi, Instr.indexAt, asIntOf, Sem.run_bind, run_underlying ht.out, hs.run, h0, h1, Instr.sureAddr, Addr.add_mid]
theorem rd_fdO {t f k ty fo j j' : Nat} {x : Operand} {b q : Nat} (ho : o.op = .fieldAddr t x f) (hx : val s x = some (.pointer (some ⟨b, q + j, none⟩)))
    [hf : FD X.P t f fo ty (k + 1)] (hj : j + fo = j' := by first | (with_reducible assumption) | ((try simp only [Nat.add_zero, Nat.zero_add, Nat.reduceAdd]); first | done | exact rfl)) : RdV X s l o (.pointer (some ⟨b, q + j', none⟩)) :=
  rd_fdA ho hx (by omega)
theorem ld_O {t n j : Nat} {u y : Value} {xs : List Value} [hu : KD X.P t false] [hv : Vw X l u n xs] (hj : xs[j]? = some y := by first | (with_reducible assumption) | ((try simp only [List.getElem?_cons_zero, List.getElem?_cons_succ]); first | done | exact rfl)) : Ld X l t (elB u) (elO u + j) y := fun w hm => by
  obtain ⟨b, off, cap, rfl, hc⟩ := (hv.out w hm).cell j y hj
  have hc' : w.cell? ⟨elB (.slice (some ⟨b, off, none⟩) n cap), elO (.slice (some ⟨b, off, none⟩) n cap) + j, none⟩ = some y := hc
  simp [loadVar, Sem.run_bind, hu.agg, run_load, hc']
theorem ld_OR {t n j k : Nat} {u : Value} {xs cs : List Value} [hu : KD X.P t true] [hs : SZ X.P t k] [hv : Vw X l u n xs] (hj : (xs.drop j).take k = cs := by first | (with_reducible assumption) | ((try simp only [List.drop_zero, List.drop_succ_cons, List.take_succ_cons, List.take_zero]); first | done | exact rfl)) (hk : cs.length = k := by first | (with_reducible assumption) | rfl) (hpos : cs ≠ [] := by first | (with_reducible assumption) | (simp; done)) : Ld X l t (elB u) (elO u + j) (.agg cs.toArray) := fun w hm => by
  have h := hu.out
  have hlt : 0 < cs.length := List.length_pos_iff.2 hpos
  have hgo : ∀ i y, cs[i]? = some y → ∃ cap, u = .slice (some ⟨elB u, elO u, none⟩) n cap ∧ w.cell? ⟨elB u, elO u + (j + i), none⟩ = some y := fun i y hi => by
    have hi' : i < cs.length := (List.getElem?_eq_some_iff.1 hi).1
    subst hj
    have hlt' : i < k := by rw [← hk]; exact hi'
    rw [List.getElem?_take_of_lt hlt', List.getElem?_drop] at hi
    obtain ⟨b, off, cap, rfl, hc⟩ := (hv.out w hm).cell (j + i) y hi
    exact ⟨cap, rfl, hc⟩
  cases hd : X.P.underlying t with
  | none => simp [hd] at h
  | some d =>
    simp only [hd, Option.map_some, Option.some.injEq] at h
    refine run_loadVar_mid w (elB u) (elO u + j) t cs d (fun i y hi => ?_) hd h (by rw [hs.out, hk])
    obtain ⟨cap, _, hc⟩ := hgo i y hi
    rw [Nat.add_assoc]
    exact hc
/-! ### Slices of slices -/
def loV (s : Slots) : Option Operand → Option Int
  | none => some 0
  | some x => match val s x with
    | some (.int _ i) => some i
    | _ => none
def hiV (s : Slots) (n : Nat) : Option Operand → Option Int
  | none => some n
  | some x => match val s x with
    | some (.int _ i) => some i
    | _ => none
/-- The part of a slice from element a on. -/
class Part (v v' : Value) (j : outParam Nat) (m : outParam Nat) : Prop where
  out : ∀ b off n cap, v = .slice (some ⟨b, off, none⟩) n cap → 0 < m → ∃ cap', v' = .slice (some ⟨b, off + j, none⟩) m cap'
theorem opnd_int {a : Act} (he : Env X.N s a) {x : Operand} {i : Int} (h : (match val s x with | some (.int _ i) => some i | _ => none) = some i) : ∃ k, a.eval x = .int k i := by
  cases hv : val s x with
  | none => simp [hv] at h
  | some u =>
    cases u <;> simp [hv] at h
    subst h
    exact ⟨_, he.eval hv⟩
theorem run_sub {P : Program} {w : World} {t e k n lo hi : Nat} {p : Option Addr} {cap : Nat} {a : Act} {N : Nat} (he : Env N s a) {ol oh : Option Operand} (ht : P.underlying t = some (.slice e)) (hs : SZ P e k) (hl : loV s ol = some (lo : Int)) (hh : hiV s n oh = some (hi : Int))
    (h1 : lo ≤ hi) (h2 : hi ≤ n) (h3 : n ≤ cap) : (Instr.sliceAt t (.slice p n cap) (ol.map a.eval) (oh.map a.eval) none).run P w = .ok (sliced p lo hi cap k) w := by
  have hsz : ∀ w, (sizeOf e).run P w = .ok k w := hs.run
  have ho : ∀ {x : Operand} {i : Int}, (match val s x with | some (.int _ i) => some i | _ => none) = some i → ∃ k, a.eval x = .int k i := fun {x i} h => by
    cases hv : val s x with
    | none => simp [hv] at h
    | some u =>
      cases u <;> simp [hv] at h
      subst h
      exact ⟨_, he.eval hv⟩
  have e0 : Instr.sliceAt t (.slice p n cap) (ol.map a.eval) (oh.map a.eval) none = (do
      match ← underlying t with
      | .array n elem =>
        let a' ← Instr.sureAddr (.slice p n cap)
        let (l, h, m) ← Instr.sliceBounds false n n (ol.map a.eval) (oh.map a.eval) none
        let size ← sizeOf elem
        pure (.slice (some (if m = l then a' else a'.add (l * size))) (h - l) (m - l))
      | _ => Instr.slice t (.slice p n cap) (ol.map a.eval) (oh.map a.eval) none) := rfl
  rw [e0, Sem.run_bind, run_underlying ht]
  simp only [Result.andThen_ok, Instr.slice, Sem.run_bind, run_underlying ht]
  have hb : (Instr.sliceBounds true n cap (ol.map a.eval) (oh.map a.eval) none).run P w = .ok (lo, hi, cap) w := by
    cases ol with
    | none =>
      obtain rfl : lo = 0 := by simp [loV] at hl; omega
      cases oh with
      | none =>
        obtain rfl : hi = n := by simp [hiV] at hh; omega
        simp [Instr.sliceBounds]
      | some y =>
        obtain ⟨ky, hy⟩ := ho hh
        simp [Instr.sliceBounds, hy, run_sliceBound, (by omega : hi ≤ cap)]
    | some x =>
      obtain ⟨kx, hx⟩ := ho hl
      cases oh with
      | none =>
        obtain rfl : hi = n := by simp [hiV] at hh; omega
        simp [Instr.sliceBounds, hx, run_sliceBound, (by omega : lo ≤ hi)]
      | some y =>
        obtain ⟨ky, hy⟩ := ho hh
        simp [Instr.sliceBounds, hx, hy, run_sliceBound, (by omega : hi ≤ cap), (by omega : lo ≤ hi)]
  simp only [hb, Result.andThen_ok, hsz, Sem.run_pure]
  rfl
theorem sliced_cs {w : World} {n lo hi k cap : Nat} {p : Option Addr} {xs : List Value} (h : Cs w (.slice p n cap) n xs) (h1 : lo ≤ hi) (h2 : hi ≤ n) : Cs w (sliced p lo hi cap k) (hi - lo) ((xs.drop (lo * k)).take ((hi - lo) * k)) := by
  obtain ⟨q, c, hq, h3, h4, h5⟩ := h.ln.out
  injection hq with hq1 hq2 hq3
  subst hq1; subst hq3
  refine ⟨⟨_, _, rfl, by omega, by omega, fun hpos => ?_⟩, fun j u hj => ?_⟩
  · obtain ⟨b, off, rfl⟩ := h5 (by omega)
    rw [if_neg (by omega)]
    exact ⟨b, off + lo * k, by rw [Option.map_some, Addr.add_mid]⟩
  · have hlt : j < (hi - lo) * k := by
      have := (List.getElem?_eq_some_iff.1 hj).1
      rw [List.length_take] at this; omega
    rw [List.getElem?_take_of_lt hlt, List.getElem?_drop] at hj
    obtain ⟨b, off, c', hv, hc⟩ := h.cell _ _ hj
    injection hv with hv1 hv2 hv3
    subst hv1
    have hpos : lo < hi := by
      rcases Nat.lt_or_ge lo hi with h | h
      · exact h
      · rw [Nat.sub_eq_zero_of_le h, Nat.zero_mul] at hlt; omega
    refine ⟨b, off + lo * k, cap - lo, ?_, by rw [Nat.add_assoc]; exact hc⟩
    unfold sliced
    rw [if_neg (by omega), Option.map_some, Addr.add_mid]
end
section
variable {X : Cx} {s : Slots} {l : Blks} {o : Oper} {v : Value} {Q : Post} {ops : Array Oper} {r : List Oper}
/-- What is cut out of a slice. -/
theorem sub_ex {t e k n n' lo hi : Nat} {x : Operand} {ol oh : Option Operand} {Φ : World → Prop} {xs xs' : List Value} (ho : o.op = .slice t x ol oh none) (hx : val s x = some v)
    (ht : UT X.P t (.slice e)) (hs : SZ X.P e k) {la ha : Int} (hv : CsF Φ v n xs) (hl : loV s ol = some la) (hh : hiV s n oh = some ha) (hnl : la = (lo : Int)) (hnh : ha = (hi : Int))
    (h1 : lo ≤ hi) (h2 : hi ≤ n) (hn : hi - lo = n') (hxs : (xs.drop (lo * k)).take ((hi - lo) * k) = xs') : ∃ v', RdV X s [] o v' ∧ CsF Φ v' n' xs' ∧ Part v v' (lo * k) n' := by
  subst hn; subst hxs
  rw [hnl] at hl
  rw [hnh] at hh
  obtain ⟨p, cap, rfl, h3, h4, h5⟩ := hv.ln.out
  refine ⟨sliced p lo hi cap k, fun ac w he hm => ?_, ⟨?_, fun w' hw' => sliced_cs (hv.out w' hw') h1 h2⟩, ⟨fun b off n2 cap2 he hpos => ?_⟩⟩
  · have hr := run_sub (P := X.P) (w := w) he (p := p) ht.out hs hl hh h1 h2 h3
    simp only [execOp, ho, he.eval hx, Sem.run_bind, Option.map_none]
    rw [show (Instr.sliceAt t (Value.slice p n cap) (Option.map ac.eval ol) (Option.map ac.eval oh) none).run X.P w = _ from hr]
    simp
  · refine ⟨_, _, rfl, by omega, by omega, fun hpos => ?_⟩
    obtain ⟨b, off, rfl⟩ := h5 (by omega)
    rw [if_neg (by omega)]
    exact ⟨b, off + lo * k, by rw [Option.map_some, Addr.add_mid]⟩
  · injection he with he1 he2 he3
    subst he1
    refine ⟨cap - lo, ?_⟩
    unfold sliced
    rw [if_neg (by omega), Option.map_some, Addr.add_mid]
theorem wl_sub {t e k n n' lo hi : Nat} {x : Operand} {ol oh : Option Operand} {Φ : World → Prop} {xs xs' : List Value} {s' : Value → Slots} (hg : gd s ops o = some true) (hd : dOk X.N o.dst = true) (ho : o.op = .slice t x ol oh none) (hx : val s x = some v)
    [ht : UT X.P t (.slice e)] [hs : SZ X.P e k] {la ha : Int} [hv : CsF Φ v n xs] (hl : loV s ol = some la) (hh : hiV s n oh = some ha) (hnl : la = (lo : Int)) (hnh : ha = (hi : Int))
    (h : ∀ v', CsF Φ v' n' xs' → Part v v' (lo * k) n' → Wl X ops Q r (s' v') l)
    (h1 : lo ≤ hi := by first | (with_reducible assumption) | omega) (h2 : hi ≤ n := by first | (with_reducible assumption) | omega)
    (hn : hi - lo = n' := by first | (with_reducible assumption) | rfl) (hxs : (xs.drop (lo * k)).take ((hi - lo) * k) = xs' := by first | (with_reducible assumption) | rfl)
    (hs' : ∀ v', sputO s o.dst v' = s' v' := by intro _; (try dsimp only [sputO, sput, Nat.reduceBEq, cond_true, cond_false, beq_self_eq_true]); first | done | exact rfl) : Wl X ops Q (o :: r) s l := by
  obtain rfl : (fun v' => sputO s o.dst v') = s' := funext hs'
  obtain ⟨v', h3, h4, h5⟩ := sub_ex ho hx ht hs hv hl hh hnl hnh h1 h2 hn hxs
  exact wl_rd hg hd (RdV.rd fun a w he hm => h3 a w he (hm.sub .nil)) (h v' h4 h5) rfl
/-- A whole array's slice, or a part of it. -/
theorem rd_slA {t n e k lo hi p : Nat} {x : Operand} {ol oh : Option Operand} {b off : Nat} {la ha : Int} (ho : o.op = .slice t x ol oh none) (hx : val s x = some (.pointer (some ⟨b, off, none⟩))) [ht : UT X.P t (.array n e)] [hs : SZ X.P e k]
    (hl : loV s ol = some la) (hh : hiV s n oh = some ha) (hnl : la = (lo : Int)) (hnh : ha = (hi : Int)) (h1 : lo ≤ hi := by first | (with_reducible assumption) | omega | decide) (h2 : hi ≤ n := by first | (with_reducible assumption) | omega | decide) (h0 : lo < n := by first | (with_reducible assumption) | omega | decide) {q m : Nat} (hp : off + lo * k = p := by first | (with_reducible assumption) | ((try simp only [Nat.add_zero, Nat.zero_add, Nat.mul_one, Nat.zero_mul, Nat.reduceAdd, Nat.reduceMul]); first | done | exact rfl)) (hq : hi - lo = q := by first | (with_reducible assumption) | ((try simp only [Nat.sub_zero, Nat.reduceSub]); first | done | exact rfl)) (hm : n - lo = m := by first | (with_reducible assumption) | ((try simp only [Nat.sub_zero, Nat.reduceSub]); first | done | exact rfl)) : RdV X s l o (.slice (some ⟨b, p, none⟩) q m) := by
  subst hp; subst hq; subst hm
  rw [hnl] at hl
  rw [hnh] at hh
  refine rd_val fun a w he hmem => ?_
  have hsz : ∀ w, (sizeOf e).run X.P w = .ok k w := hs.run
  have hi' : ∀ {x : Operand} {i : Int}, (match val s x with | some (.int _ i) => some i | _ => none) = some i → ∃ k, a.eval x = .int k i := fun {x i} h => by
    cases hv : val s x with
    | none => simp [hv] at h
    | some u =>
      cases u <;> simp [hv] at h
      subst h
      exact ⟨_, he.eval hv⟩
  have hb : (Instr.sliceBounds false n n (ol.map a.eval) (oh.map a.eval) none).run X.P w = .ok (lo, hi, n) w := by
    cases ol with
    | none =>
      obtain rfl : lo = 0 := by simp [loV] at hl; omega
      cases oh with
      | none =>
        obtain rfl : hi = n := by simp [hiV] at hh; omega
        simp [Instr.sliceBounds]
      | some y =>
        obtain ⟨ky, hy⟩ := hi' hh
        simp [Instr.sliceBounds, hy, run_sliceBound, h2]
    | some z =>
      obtain ⟨kx, hx'⟩ := hi' hl
      cases oh with
      | none =>
        obtain rfl : hi = n := by simp [hiV] at hh; omega
        simp [Instr.sliceBounds, hx', run_sliceBound, h1]
      | some y =>
        obtain ⟨ky, hy⟩ := hi' hh
        simp [Instr.sliceBounds, hx', hy, run_sliceBound, h2, h1]
  have hne : ¬ n = lo := by omega
  simp only [execOp, ho, he.eval hx, Sem.run_bind, Option.map_none, Instr.sliceAt, run_underlying ht.out, Result.andThen_ok, Instr.sureAddr, Sem.run_pure, hb, hsz]
  simp [hne, Addr.add_mid]
/-! ### append, new slices, calls that make them -/
theorem wl_appendO {x y : Operand} {t e k bytes n m : Nat} {z : Array Value} {u : Value} {xs ys zs : List Value} {oa : Blks} {f : Blks → Blks} {s' : Value → Slots}
    (hg : gd s ops o = some true) (hd : dOk X.N o.dst = true) (hop : o.op = .call { callee := .builtin .append, args := #[x, y], argTypes := #[t, t] })
    (hx : val s x = some v) (hy : val s y = some u) [ht : UT X.P t (.slice e)] [hei : EI X.P e k bytes z] [hown : OwnL e k v n xs oa] [hseg : Seg l oa f] [hu : Vw X l u m ys]
    (h : ∀ v' oa', OwnL e k v' (n + m) zs oa' → Wl X ops Q r (s' v') (f oa'))
    (hl : ys.length = m * k := by first | (with_reducible assumption) | (simp only [bl_len, List.length_cons, List.length_nil, Nat.mul_one]; done) | rfl) (h1 : ∀ y ∈ ys, y.oneCell' = true := by first | (with_reducible assumption) | exact bl_one _ | (simp only [List.forall_mem_cons, List.not_mem_nil, false_imp_iff, implies_true, and_true, One.out]; done) | simp [Value.oneCell'])
    (h63 : (n + m) * bytes ≤ 1152921504606846976 ∧ n + m ≤ 1152921504606846976 ∧ (n + m) * bytes ≤ 140737488355328 := by (refine ⟨?_, ?_, ?_⟩ <;> omega))
    (hzs : xs ++ ys = zs := by first | (with_reducible assumption) | exact (bl_app _ _).symm | rfl)
    (hs' : ∀ v', sputO s o.dst v' = s' v' := by intro _; (try dsimp only [sputO, sput, Nat.reduceBEq, cond_true, cond_false, beq_self_eq_true]); first | done | exact rfl) : Wl X ops Q (o :: r) s l := fun ac w hst => by
  obtain rfl : (fun v' => sputO s o.dst v') = s' := funext hs'
  subst hzs
  have hw := gd_wanted hst.env hg
  have hd0 : Hd oa w := by
    obtain ⟨pre, post, rfl, _⟩ := hseg.out
    exact fun p hp => hst.mem.cls.now p.1 p.2.1 p.2.2 (mu_mem_of (by simp [hp]) hst.mem.nd)
  obtain ⟨v', w', oa', hr, hv', hup⟩ := append_own (ty := o.type) ht.out hei hown hd0 (hu.out w hst.mem) hl h1 (by simp only [maxLen]; omega) h63.2.2
  unfold wpList
  rw [if_pos hw]
  refine .inl ?_
  unfold Oper.wp execOp
  simp only [hop, resolve, invoke, builtin, Sem.run_bind, Sem.run_pure, Result.andThen_ok, List.map_toArray, List.map_cons, List.map_nil, hst.env.eval hx, hst.env.eval hy, hr]
  exact h v' oa' hv' _ _ ⟨hst.env.put hd _, hup.mem hst.mem⟩
/-- One value and what it stands on are told of; all below is as it was. -/
def RetO {T : Type} (mk : T → Value) (Φ : T → Blks → Prop) (w : World) (e : Ending) (w' : World) : Prop := ∃ x oa, e = .returned (mk x) ∧ Φ x oa ∧ Upd w [] w' oa
theorem fn_own {T : Type} {mk : T → Value} {Φ : T → Blks → Prop} {P : Program} {f : Nat} {fn : Func} {c : Code} {vs : List Value} {W : World} {N : Nat} (hf : P.funcs[f]? = some fn) (hb : fn.body = some c) (hN : fn.ntmps = N) {rs : List ResultVar} (hrs : fn.results = rs.toArray) (hl : vs.length ≤ N)
    (h : Wc ⟨P, W, N, []⟩ c (endP ⟨P, W, N, []⟩ rs fun u l => ∃ x oa, u = mk x ∧ Φ x oa ∧ SubL oa l) (initS vs 0) []) : Calls P f vs.toArray W (RetO mk Φ W) :=
  (fn_calls hf hb hN hrs hl Mem.init h).mono fun e w' ⟨u, l, he, ⟨x, oa, hu, hφ, hs⟩, hm⟩ => by
    have hm' := hm.sub hs
    refine ⟨x, oa, by rw [he, hu], hφ, Upd.of_below (hm.below rfl) hm'.nd (fun n hn => ?_) (fun p hp => hm'.cls.now p.1 p.2.1 p.2.2 (mu_mem_of hp hm'.nd))⟩
    rcases Nat.lt_or_ge n W.heap.size with h | h
    · exact absurd (hm'.fresh n hn h) (by simp)
    · exact h
theorem wl_newO {T : Type} {mk : T → Value} {Φ : T → Blks → Prop} {c : Call} {fi : Nat} {vs : List Value} {f : Blks → Blks} {s' : T → Slots} (hg : gd s ops o = some true) (hd : dOk X.N o.dst = true) (ho : o.op = .call c) (hc : c.callee = .value (.func fi)) (ha : vals s c.args.toList = some vs)
    (hC : ∀ w, Mem X l w → Calls X.P fi vs.toArray w (RetO mk Φ w)) [hf : Snoc l f] (h : ∀ x oa, Φ x oa → Wl X ops Q r (s' x) (f oa)) (hk : callOk X.P fi = true := by kernel_rfl)
    (hs' : ∀ x, sputO s o.dst (mk x) = s' x := by intro _; (try dsimp only [sputO, sput, Nat.reduceBEq, cond_true, cond_false, beq_self_eq_true]); first | done | exact rfl) : Wl X ops Q (o :: r) s l := fun a w hst => by
  obtain rfl : (fun x => sputO s o.dst (mk x)) = s' := funext hs'
  have hw := gd_wanted hst.env hg
  unfold wpList
  rw [if_pos hw]
  refine .inl ?_
  unfold Oper.wp
  rw [run_op_call ho hc hst.env ha, run_enter hk]
  refine (hC w hst.mem).mono fun e w' ⟨x, oa, he, hφ, hup⟩ => ?_
  subst he
  haveI : Seg l [] f := ⟨l, [], by simp, fun o => by rw [hf.out, List.append_nil]⟩
  exact h x oa hφ _ _ ⟨hst.env.put hd _, hup.mem hst.mem⟩
/-- Parts, each in its place. -/
theorem fillC_all {k : Nat} : ∀ (vs : List (Nat × Value)) (i : Nat) (z : List Value), vs.map (·.1) = List.range' i vs.length → (∀ p ∈ vs, p.2.cells.size = k) → z.length = (i + vs.length) * k →
    fillC (fun i => some (i * k, k)) z vs = some (z.take (i * k) ++ (vs.map fun p => p.2.cells.toList).flatten)
  | [], i, z, _, _, hz => by
    simp only [fillC, List.map_nil, List.flatten_nil, List.append_nil, Option.some.injEq]
    rw [List.take_of_length_le (by rw [hz]; simp)]
  | (j, v) :: r, i, z, hi, hk, hz => by
    simp only [List.map_cons, List.length_cons, List.range'_succ, List.cons.injEq] at hi hz
    obtain ⟨rfl, hi⟩ := hi
    have hv : v.cells.size = k := hk (j, v) (by simp)
    have hle : j * k + k ≤ z.length := by rw [hz, show j + (r.length + 1) = (j + 1) + r.length by omega, Nat.add_mul, Nat.succ_mul]; omega
    unfold fillC
    have hb : (v.cells.size == k && Nat.ble (j * k + k) z.length) = true := by simp [hv, hle]
    simp only [hb, cond_true]
    have hp : (putR z (j * k) v.cells.toList).length = z.length := by
      unfold putR
      simp only [List.length_append, List.length_take, List.length_drop, Array.length_toList, hv]
      omega
    rw [fillC_all r (j + 1) _ hi (fun p hp => hk p (by simp [hp])) (by rw [hp, hz]; congr 1; omega)]
    congr 1
    rw [List.map_cons, List.flatten_cons, ← List.append_assoc]
    congr 1
    unfold putR
    rw [Nat.succ_mul, List.take_append_of_le_length (by simp [hv]; omega), List.take_of_length_le (by simp [hv]; omega)]
theorem flat_len {k : Nat} : ∀ (l : List (Nat × Value)), (∀ p ∈ l, p.2.cells.size = k) → ((l.map fun p => p.2.cells.toList).flatten).length = l.length * k
  | [], _ => by simp
  | p :: r, h => by
    rw [List.map_cons, List.flatten_cons, List.length_append, flat_len r (fun q hq => h q (by simp [hq])), Array.length_toList, h p (by simp), List.length_cons, Nat.succ_mul, Nat.add_comm]
theorem run_bslice {P : Program} {w : World} {t e k bytes len : Nat} {z : Array Value} {pm : Array (Nat × Value)} {vs : List (Nat × Value)} (ht : P.underlying t = some (.slice e)) (hei : EI P e k bytes z) (hp : pm.toList = vs)
    (hi : vs.map (·.1) = List.range' 0 vs.length) (hk : ∀ p ∈ vs, p.2.cells.size = k) (hlen : vs.length = len) (hbig : len * k ≤ 16777216) :
    (Instr.buildSlice t len pm).run P w = .ok (.slice (some ⟨w.heap.size, 0, none⟩) len len) (w.alloc (.cells ((vs.map fun p => p.2.cells.toList).flatten).toArray e)) := by
  obtain ⟨i, zv, hinfo, rfl, rfl, hz, hzc, hzs⟩ := hei.out
  have hzl : ∀ zc : Array Value, ((Array.range (len * i.size)).map (zc[· % zc.size]!)).toList.length = (0 + vs.length) * i.size := fun zc => by simp [hlen]
  have hfl : ∀ zc : Array Value, Instr.fill (fun j => some (j * i.size, i.size)) ((Array.range (len * i.size)).map (zc[· % zc.size]!)) pm.toList = some ((vs.map fun p => p.2.cells.toList).flatten).toArray := fun zc => by
    have h1 := fillC_all vs 0 _ hi hk (hzl zc)
    simp only [Nat.zero_mul, List.take_zero, List.nil_append] at h1
    have h2 := fill_of h1
    rw [Array.toArray_toList] at h2
    rw [hp]; exact h2
  have hb' : ¬ (len * i.size > 2 ^ 24) := by omega
  have hsz : ∀ w, (sizeOf e).run P w = .ok i.size w := fun w => by simp [sizeOf, typeInfo, hinfo]
  have hzv : ∀ w, (zeroValue e).run P w = .ok zv w := fun w => by simp [zeroValue, typeInfo, hinfo, hz]
  unfold Instr.buildSlice
  simp only [Sem.run_bind, run_underlying ht, Result.andThen_ok, hsz]
  rw [if_neg hb']
  by_cases h0 : len * i.size = 0
  · rw [if_pos h0]
    simp only [Sem.run_pure, Result.andThen_ok, hfl]
    simp [newRow, go_sem]
  · rw [if_neg h0]
    simp only [Sem.run_bind, hzv, Sem.run_pure, Result.andThen_ok, hfl]
    simp [newRow, go_sem]
theorem wl_bslice {t e k bytes len : Nat} {z : Array Value} {ps : Array (Nat × Operand)} {vs : List (Nat × Value)} {xs : List Value} {f : Blks → Blks} {s' : Value → Slots}
    (hg : gd s ops o = some true) (hd : dOk X.N o.dst = true) (hop : o.op = .buildSlice t len ps) (hx : valsP s ps.toList = some vs) [ht : UT X.P t (.slice e)] [hei : EI X.P e k bytes z] [hf : Snoc l f]
    (h : ∀ v' oa', OwnL e k v' len xs oa' → Wl X ops Q r (s' v') (f oa'))
    (hi : vs.map (·.1) = List.range' 0 vs.length := by rfl) (hk : (vs.all fun p => p.2.cells.size == k) = true := by rfl) (hlen : vs.length = len := by rfl) (hbig : len * k ≤ 16777216 ∧ len ≤ 16777216 := by decide)
    (hxs : (vs.map fun p => p.2.cells.toList).flatten = xs := by (try simp only [List.map_cons, List.map_nil, List.flatten_cons, List.flatten_nil, Value.cells, List.cons_append, List.nil_append, List.append_nil]); first | done | rfl)
    (hs' : ∀ v', sputO s o.dst v' = s' v' := by intro _; (try dsimp only [sputO, sput, Nat.reduceBEq, cond_true, cond_false, beq_self_eq_true]); first | done | exact rfl) : Wl X ops Q (o :: r) s l := fun ac w hst => by
  obtain rfl : (fun v' => sputO s o.dst v') = s' := funext hs'
  have hw := gd_wanted hst.env hg
  have hcl : ∀ p ∈ vs, p.2.cells.size = k := by simpa using hk
  have h2 : (ps.map fun (j, x) => (j, ac.eval x)).toList = vs := by rw [Array.toList_map]; exact hst.env.valsP hx
  have hr := run_bslice (w := w) ht.out hei h2 hi hcl hlen hbig.1
  have hxl := flat_len vs hcl
  rw [hxs] at hr hxl
  rw [hlen] at hxl
  unfold wpList
  rw [if_pos hw]
  refine .inl ?_
  unfold Oper.wp
  have : (execOp ac.eval o).run X.P w = .ok (.value (.slice (some ⟨w.heap.size, 0, none⟩) len len)) (w.alloc (.cells xs.toArray e)) := by
    simp only [execOp, hop, Sem.run_bind, hr, Result.andThen_ok, Sem.run_pure]
  rw [this]
  haveI : Seg l [] f := ⟨l, [], by simp, fun o => by rw [hf.out, List.append_nil]⟩
  refine h _ [(w.heap.size, (xs.toArray, e))] ⟨hxl, .inr ⟨w.heap.size, len, xs.toArray, rfl, Nat.le_refl _, ?_, by simpa using hxl, by rw [← hxl]; simp, rfl⟩, .inr hei.tb⟩ _ _ ⟨hst.env.put hd _, (upd_new (w := w) (w1 := w) rfl rfl rfl rfl [] _ e hei.tb).mem hst.mem⟩
  have := hbig.2
  simp only [maxLen]
  omega
/-- A whole value of parts of one cell each, all of them told. -/
theorem fillC_congr {f g : Nat → Option (Nat × Nat)} : ∀ {vs : List (Nat × Value)} {z : List Value}, (∀ p ∈ vs, f p.1 = g p.1) → fillC f z vs = fillC g z vs
  | [], _, _ => rfl
  | (i, v) :: r, z, h => by
    have h0 : f i = g i := h (i, v) (by simp)
    unfold fillC
    rw [h0]
    cases g i with
    | none => rfl
    | some q =>
      obtain ⟨off, size⟩ := q
      dsimp only
      rw [fillC_congr (vs := r) fun p hp => h p (by simp [hp])]
theorem one_cells {v : Value} (h : v.oneCell' = true) : v.cells = #[v] := by cases v <;> simp_all [Value.oneCell', Value.cells]
theorem rd_buildO {t : Nat} {ps : Array (Nat × Operand)} {vs : List (Nat × Value)} {pl : List (Nat × Nat)} {z : Array Value} {c : Array Value} (ho : o.op = .build t ps) (hx : valsP s ps.toList = some vs)
    [ht : SP X.P t pl] [hz : ZR X.P t (.agg z)] (hp : pl = (List.range' 0 vs.length).map fun i => (i, 1)) (hzs : z.size = vs.length) (hi : vs.map (·.1) = List.range' 0 vs.length) (h1 : ∀ p ∈ vs, p.2.oneCell' = true := by simp only [List.forall_mem_cons, List.not_mem_nil, false_imp_iff, implies_true, and_true, One.out])
    (hc : (vs.map (·.2)).toArray = c := by (try simp only [List.map_cons, List.map_nil]); first | done | rfl) : RdV X s l o (.agg c) := by
  subst hc
  refine rd_buildS ho hx ?_
  have hfl : ∀ us : List (Nat × Value), (∀ q ∈ us, q.2.oneCell' = true) → (us.map fun p => p.2.cells.toList).flatten = us.map (·.2) := fun us => by
    induction us with
    | nil => simp
    | cons a r ih => intro h; rw [List.map_cons, List.flatten_cons, one_cells (h a (by simp)), ih fun q hq => h q (by simp [hq])]; rfl
  have h2 := fillC_all (k := 1) vs 0 z.toList hi (fun p hp => by rw [one_cells (h1 p hp)]; rfl) (by rw [Array.length_toList, hzs]; omega)
  rw [hfl vs h1] at h2
  simp only [Nat.zero_mul, List.take_zero, List.nil_append] at h2
  rw [← h2]
  refine fillC_congr fun p hp' => ?_
  have : p.1 < vs.length := by
    have : p.1 ∈ List.range' 0 vs.length := hi ▸ List.mem_map.2 ⟨p, hp', rfl⟩
    simpa using this
  rw [hp]
  simp [this]
theorem wl_bsliceO {t e bytes len : Nat} {z : Array Value} {ps : Array (Nat × Operand)} {vs : List (Nat × Value)} {xs : List Value} {f : Blks → Blks} {s' : Value → Slots}
    (hg : gd s ops o = some true) (hd : dOk X.N o.dst = true) (hop : o.op = .buildSlice t len ps) (hx : valsP s ps.toList = some vs) [ht : UT X.P t (.slice e)] [hei : EI X.P e 1 bytes z] [hf : Snoc l f]
    (h : ∀ v' oa', OwnL e 1 v' len xs oa' → Wl X ops Q r (s' v') (f oa'))
    (h1 : ∀ v ∈ vs.map (·.2), v.oneCell' = true := by simp only [List.map_cons, List.map_nil, List.forall_mem_cons, List.not_mem_nil, false_imp_iff, implies_true, and_true, One.out])
    (hi : vs.map (·.1) = List.range' 0 vs.length := by rfl) (hlen : vs.length = len := by rfl) (hbig : len * 1 ≤ 16777216 ∧ len ≤ 16777216 := by decide)
    (hxs : vs.map (·.2) = xs := by (try simp only [List.map_cons, List.map_nil]); first | done | rfl)
    (hs' : ∀ v', sputO s o.dst v' = s' v' := by intro _; (try dsimp only [sputO, sput, Nat.reduceBEq, cond_true, cond_false, beq_self_eq_true]); first | done | exact rfl) : Wl X ops Q (o :: r) s l := by
  have h1' : ∀ p ∈ vs, p.2.oneCell' = true := fun p hp => h1 p.2 (List.mem_map.2 ⟨p, hp, rfl⟩)
  have hfl : ∀ us : List (Nat × Value), (∀ q ∈ us, q.2.oneCell' = true) → (us.map fun p => p.2.cells.toList).flatten = us.map (·.2) := fun us => by
    induction us with
    | nil => simp
    | cons a r ih => intro h; rw [List.map_cons, List.flatten_cons, one_cells (h a (by simp)), ih fun q hq => h q (by simp [hq])]; rfl
  refine wl_bslice (k := 1) hg hd hop hx h hi ?_ hlen hbig (by rw [hfl vs h1', hxs]) hs'
  rw [List.all_eq_true]
  intro q hq
  simp [one_cells (h1' q hq)]
end
end Go.Proofs.YtkendlnjaopbeaaGreatDoor
