/- The package tape, walked: all that can be read. append to a slice of bytes that is full. der.Write, walked. The package tape, walked: Read, Append. Bytes that are told as strings; bytes.Equal. The laws' own helpers: sameTexts, written, tapes. Closed facts of the translation that hang on its long word of the order of beginnings: read once, by the signs of the word. The table of the roots: what a row's list gives, and a world for the witness. What a [][]uint8 is that came in. -/
import Derived.Test.YtlpalhagndmpjaaDoorJnAC
import Derived.Test.YtlpalhagndmpjaaDoorJnAB
import Derived.Test.YtlpalhagndmpjaaDoorLwH
import Derived.Test.YtlpalhagndmpjaaDoorTyS
import Derived.Test.YtlpalhagndmpjaaDoorJnAA
import Derived.Lib.AppendZerosOnto
import Derived.Test.YtlpalhagndmpjaaDoorOwnB
import Derived.Laws.BytesArg
import Derived.Laws.Strings
import Derived.Test.YtlpalhagndmpjaaDoorProg
import Derived.JoinedOf
import Derived.WalkKit
import Derived.Test.YtlpalhagndmpjaaDoorRows
import Derived.Lib.LaidTab
import Derived.Deep.DeepHandedRow
namespace Go.Proofs.YtlpalhagndmpjaaDoor
open Go.RowKit
attribute [local irreducible] rwA bys iw
set_option linter.unusedVariables false
set_option maxRecDepth 100000
set_option linter.unusedSimpArgs false
/-- The loop's state. -/
structure TpS where
  f : Nat
  rs : List (List Nat)
  xs : List Value
  rv : Value
  oo : Blks
  ob : Blks
  last : List Nat
  n : Nat
structure TpS.Ok (key p : List Nat) (R : RdTp) (x : TpS) : Prop where
  own : OwnL 22 1 x.rv x.rs.length x.xs x.oo
  bod : BodL x.xs x.rs x.ob
  len : NBy x.last 32
  byt : ByL x.last
  le : x.n ≤ p.length
  cnt : x.rs.length ≤ x.n
  fuel : p.length - x.n ≤ x.f
  e : (allTp key x.f (p.drop x.n) x.last).e = R.e
  lst : (allTp key x.f (p.drop x.n) x.last).last = R.last
  rcs : x.rs ++ (allTp key x.f (p.drop x.n) x.last).recs = R.recs
  num : x.n + (allTp key x.f (p.drop x.n) x.last).n = R.n
theorem TpS.Ok.stop {key p : List Nat} {R : RdTp} {x : TpS} (h : x.Ok key p R) {e : Nat} (hq : allTp key x.f (p.drop x.n) x.last = ⟨e, x.last, [], 0⟩) : R.e = e ∧ R.last = x.last ∧ R.recs = x.rs ∧ R.n = x.n := by
  have h1 := h.e; have h2 := h.lst; have h3 := h.rcs; have h4 := h.num
  rw [hq] at h1 h2 h3 h4
  exact ⟨h1.symm, h2.symm, by rw [← h3]; simp, by rw [← h4]; simp⟩
theorem all_stop {key p last : List Nat} {f e : Nat} (hp : p ≠ []) (hf : p.length ≤ f) (h : oneT key p last = (e, last, [], 0)) (he : e ≠ 0) : allTp key f p last = ⟨e, last, [], 0⟩ := by
  obtain ⟨g, rfl⟩ : ∃ g, f = g + 1 := ⟨f - 1, by have := List.length_pos_iff.2 hp; omega⟩
  rw [allTp, if_neg hp, h, if_pos he]
/-- What all makes. -/
def AllP (R : RdTp) (kv : Value) (e : Nat) (c : Array Value) (oa : Blks) : Prop := e = R.e ∧ ∃ rv, c = rwA (sgR kv R.last rv R.n) ∧ OwnLL 22 rv R.recs oa ∧ NBy R.last 32 ∧ ByL R.last
theorem TpS.Ok.fin {key p : List Nat} {R : RdTp} {x : TpS} (h : x.Ok key p R) {e : Nat} (hq : allTp key x.f (p.drop x.n) x.last = ⟨e, x.last, [], 0⟩) (kv : Value) : AllP R kv e (rwA (sgR kv x.last x.rv x.n)) (x.oo ++ x.ob) := by
  obtain ⟨h1, h2, h3, h4⟩ := h.stop hq
  refine ⟨h1.symm, x.rv, by rw [h2, h4], ⟨x.oo, x.ob, x.xs, rfl, by rw [h3]; exact h.own, by rw [h3]; exact h.bod⟩, by rw [h2]; exact h.len, by rw [h2]; exact h.byt⟩
theorem TpS.Ok.next {key p : List Nat} {R : RdTp} {x : TpS} (h : x.Ok key p R) {r : List Nat} {c k : Nat} (hq : oneT key (p.drop x.n) x.last = (0, mkT key x.last r, r, c)) (hne : p.drop x.n ≠ []) (hc : x.n + c ≤ p.length) (hc1 : 1 ≤ c)
    {v vc : Value} {oo oc : Blks} {e : Nat} (ho : OwnL 22 1 v (x.rs.length + 1) (x.xs ++ [vc]) oo) (hb : OwnB e vc k r oc) : TpS.Ok key p R ⟨x.f - 1, x.rs ++ [r], x.xs ++ [vc], v, oo, x.ob ++ oc, mkT key x.last r, x.n + c⟩ := by
  obtain ⟨f, rs, xs, rv, oo0, ob, last, n⟩ := x
  obtain ⟨g1, hbod, hnb, hby, hle, hcnt, hfu, h1, h2, h3, h4⟩ := h
  dsimp only at *
  have hlen : 0 < (p.drop n).length := List.length_pos_iff.2 hne
  rw [List.length_drop] at hlen
  obtain ⟨g, rfl⟩ : ∃ g, f = g + 1 := ⟨f - 1, by omega⟩
  have hs : allTp key (g + 1) (p.drop n) last = ⟨(allTp key g (p.drop (n + c)) (mkT key last r)).e, (allTp key g (p.drop (n + c)) (mkT key last r)).last, r :: (allTp key g (p.drop (n + c)) (mkT key last r)).recs, c + (allTp key g (p.drop (n + c)) (mkT key last r)).n⟩ := by
    rw [allTp, if_neg hne, hq, if_neg (by simp)]
    dsimp only
    rw [List.drop_drop]
  rw [hs] at h1 h2 h3 h4
  dsimp only at h1 h2 h3 h4
  exact ⟨by rw [List.length_append]; exact ho, hbod.app (BodL.one hb), inferInstance, inferInstance, hc, by simp only [List.length_append, List.length_singleton]; omega, by show p.length - (n + c) ≤ g; omega, h1, h2, by show (rs ++ [r]) ++ _ = _; rw [List.append_assoc]; exact h3, by show n + c + _ = _; rw [Nat.add_assoc]; exact h4⟩
set_option maxHeartbeats 16000000 in
theorem all_t (w : World) (hT : Tab w) {kv tv : Value} {nk m : Nat} {key p : List Nat} (hk : Cb w kv nk key) (ht : Cb w tv m p) (hm : m ≤ 1073741824) (w' : World) (hb : Below w.heap.size w w') {g : Nat}
    (hg : w'.heap[g]? = some (.cells (rwA (sgR kv z32L (.slice none 0 0) 0)) 42)) (hgf : w.heap.size ≤ g) :
    Calls Tryd.prog 14 [ptr g, tv].toArray w' (RetPO (fun e : Nat => .int .i64 (e : Int)) g (rwA (sgR kv z32L (.slice none 0 0) 0)) 42 (AllP (rdT key p) kv) w') := by
  have hfo : ∀ k ∈ [g], w.heap.size ≤ k := fun k hk => by simp only [List.mem_singleton] at hk; omega
  have i1 : CsB (Old w' [g]) kv nk key := hk.oldB hb hfo
  have i2 : CsB (Old w' [g]) tv m p := ht.oldB hb hfo
  haveI : One kv := by obtain ⟨_, _, rfl, _⟩ := hk.cs.ln.out; exact ⟨rfl⟩
  have hpl := ht.ok.len
  have hpb := ht.ok.by'
  have MK : ∀ {last : List Nat} {rv : Value} {at' : Nat} [NBy last 32] [ByL last] [One rv] w'', Below w.heap.size w w'' → w''.heap[g]? = some (.cells (rwA (sgR kv last rv at')) 42) → Cb w'' kv nk key → ∀ {v : Value} {m : Nat} {q : List Nat}, Cb w'' v m q →
    Calls Tryd.prog 15 [ptr g, v].toArray w'' (Ret (.agg (bys (mkT key last q))) w'') := fun w'' h1 h2 h3 _ _ _ h4 => mark_t w hT w'' h1 h2 h3 h4
  have FE : ∀ {v : Value} {k e : Nat} {q : List Nat}, (firstD q).1 = e → e ≠ 0 → k ≤ 1073741824 → ∀ w', Cb w' v k q → Calls Tryd.prog 18 [v].toArray w' (Ret (.tuple #[.agg #[.int .u8 0, .slice none 0 0], .int .i64 0, .int .i64 (e : Int)]) w') := fun he h0 hk w' h => first_err w' h he h0 (by omega)
  have FY : ∀ {v : Value} {k c t0 : Nat} {q b : List Nat}, firstD q = (0, (t0, b), c) → k ≤ 1073741824 → ∀ w', Cb w' v k q → Calls Tryd.prog 18 [v].toArray w' (RetO (fun b : Value => .tuple #[.agg #[.int .u8 (t0 : Int), b], .int .i64 (c : Int), .int .i64 0]) (fun v oa => OwnB 5 v b.length b oa) w') := fun he hk w' h => first_yes w' h he (by omega)
  have CL : ∀ w' {v : Value} {k : Nat} {q : List Nat}, Cb w' v k q → k ≤ 1099511627776 → Calls Tryd.prog 17 [v].toArray w' (RetO (fun u => u) (fun u oa => OwnB 5 u k q oa) w') := fun w' {v k q} h hk => clone_b w' h hk
  obtain ⟨R, hR⟩ : ∃ R, R = rdT key p := ⟨_, rfl⟩
  rw [← hR]
  have hI : TpS.Ok key p R ⟨p.length, [], [], .slice none 0 0, [], [], z32L, 0⟩ := ⟨OwnL.nil _ _, BodL.nil, ⟨by simp [z32L]⟩, ⟨fun x hx => by rw [(List.mem_replicate.1 hx).2]; decide⟩, Nat.zero_le _, Nat.le_refl _, Nat.sub_le _ _, by rw [hR]; rfl, by rw [hR]; rfl, by rw [hR]; rfl, by rw [hR, Nat.zero_add]; rfl⟩
  clear hR hk ht hT
  refine fn_updPO (N := _) Tryd.func14 rfl Tryd.ntmps14 Tryd.results14 (by simp) hg ?_
  simp only [initS, Nat.reduceAdd, Nat.zero_add]
  repeat' (first | (refine wlS ?_) | (refine wlG ?_) | (refine wlB ?_) | (refine wlE ?_) | (refine efSvvp ?_; intro v hv hp) | (refine efSvao ?_; intro v oa ho) | (refine efG ?_) | (refine efGnn ?_; intro n hn) | (refine efBnn ?_; intro n hn) | (refine efB ?_) | (refine efBS ?_) | (refine wl_skip rfl rfl ?_) | (refine wdS ?_) | (refine wdG ?_) | (refine wdV ?_) | (refine wdB ?_) | (refine wdE ?_) | (refine wdT ?_) | (refine wdTO ?_) | (refine wd_skip rfl rfl ?_) | ((with_reducible refine seld_nil ?_); refine wd_nil hm0 ?_; clear hm0 hw0) | ((with_reducible refine wc_seq ?_); intro K hK) | (refine auC ?_) | (refine wc_cond rfl (fun hc => ?_) (fun hc => ?_)) | (refine wc_draw (by kernel_rfl) (by kernel_rfl) (by decide +kernel) ?_; intro w0 hw0 hm0; (try simp only [List.append_eq, List.cons_append, List.nil_append])) | (refine auP ?_) | ((refine auR ?_); clear hK K) | (refine auR ?_) | ((with_reducible refine hK _ _ ?_); clear hK K) | fail)
  refine wc_loop (σ := TpS) (fun x => [(0, ptr g), (1, tv)]) (fun x => (g, (rwA (sgR kv x.last x.rv x.n), 42)) :: (x.oo ++ x.ob)) (TpS.Ok key p R) (fun x => p.length - x.n) ⟨p.length, [], [], .slice none 0 0, [], [], z32L, 0⟩ hI (Fits.of ⟨rfl, rfl, trivial⟩ (SubL.refl _) rfl) ?_
  clear hI hg
  rintro ⟨f, rs, xs, rv, oo, ob, last, n⟩ hI
  have hI' := hI
  obtain ⟨ho, hbod, hnb, hby, hle, hcnt, hfu, h1, h2, h3, h4⟩ := hI'
  dsimp only at ho hbod hnb hby hle hcnt hfu h1 h2 h3 h4 ⊢
  haveI : One rv := by obtain ⟨_, _, rfl, _⟩ := ho.ln.out; exact ⟨rfl⟩
  by_cases hlt : n < m
  · have t1 : decide ((n : Int) < (m : Int)) = true := decide_eq_true (by omega)
    have d1 : (p.drop n).take (m - n) = p.drop n := List.take_of_length_le (by rw [List.length_drop]; omega)
    have d0 : n ≤ m := by omega
    have hne : p.drop n ≠ [] := fun h => by have := congrArg List.length h; rw [List.length_drop, List.length_nil] at this; omega
    have hql : (p.drop n).length ≤ f := by rw [List.length_drop]; omega
    by_cases he : (firstD (p.drop n)).1 = 0
    · obtain ⟨⟨t0, b⟩, c, hx⟩ : ∃ x c, firstD (p.drop n) = (0, x, c) := ⟨_, _, Prod.ext he rfl⟩
      obtain ⟨b1, b2, b3, b4⟩ := firstD_back (fun y hy => hpb y (List.mem_of_mem_drop hy)) hx
      dsimp only at b3 b4
      have FY1 := fun w' {v : Value} (h : Cb w' v (m - n) (p.drop n)) => FY hx (by omega) w' h
      have hc2 := wr1_pos (t0, b)
      have hcm : n + c ≤ m := by have := congrArg List.length b1; rw [List.length_append, ← b2, List.length_drop, List.length_drop] at this; omega
      have t2 : ((0 : Int) != 0) = false := rfl
      have hone : oneT key (p.drop n) last = if t0 ≠ 1 ∨ b.length < 32 then (4, last, [], 0) else if mkT key last (b.drop 32) ≠ b.take 32 then (5, last, [], 0) else (0, mkT key last (b.drop 32), b.drop 32, c) := by
        rw [oneT, hx, if_neg (by simp)]
      by_cases ht0 : t0 = 1
      · subst ht0
        have t3 : (((1 : Nat) : Int) != 1) = false := rfl
        by_cases hbl : b.length < 32
        · have t4 : decide ((b.length : Int) < 32) = true := decide_eq_true (by omega)
          have hst : oneT key (p.drop n) last = (4, last, [], 0) := by rw [hone, if_pos (.inr hbl)]
          have hfin := hI.fin (all_stop hne hql hst (by decide)) kv
          clear FE FY MK CL h1 h2 h3 h4 hI hst hone b1
          repeat' (first | (refine wlS ?_) | (refine wlG ?_) | (refine wlB ?_) | (refine wlE ?_) | (refine efSvvp ?_; intro v hv hp) | (refine efSvao ?_; intro v oa ho) | (refine efG ?_) | (refine efGnn ?_; intro n hn) | (refine efZCnn ?_; intro n hn) | ((with_reducible refine sel_call ?_); first | (refine wl_newO rfl rfl rfl rfl rfl (fun w hm => by with_reducible exact FY1 w (VwB.out w hm)) ?_; intro x oa hx)) | (refine efBnn ?_; intro n hn) | (refine efB ?_) | (refine efBS ?_) | (refine wl_skip rfl rfl ?_) | (refine wdS ?_) | (refine wdG ?_) | (refine wdV ?_) | (refine wdB ?_) | (refine wdE ?_) | (refine wdT ?_) | (refine wdTO ?_) | (refine wd_skip rfl rfl ?_) | ((with_reducible refine seld_nil ?_); refine wd_nil hm0 ?_; clear hm0 hw0) | ((with_reducible refine wc_seq ?_); intro K hK) | (refine auC ?_) | (refine wc_cond rfl (fun hc => ?_) (fun hc => ?_)) | (refine wc_draw (by kernel_rfl) (by kernel_rfl) (by decide +kernel) ?_; intro w0 hw0 hm0; (try simp only [List.append_eq, List.cons_append, List.nil_append])) | (refine auP ?_) | ((refine auR ?_); clear hK K) | (refine auR ?_) | ((with_reducible refine hK _ _ ?_); clear hK K) | fail)
          first | refine end_ret (ResP.tmp rfl ResP.nil) ?_ | refine end_normal (ResP.tmp rfl ResP.nil) ?_
          (try dsimp only [tupV])
          refine ⟨4, _, _, rfl, hfin, ?_⟩
          repeat (first | exact SubL.nil | exact SubL.refl _ | refine SubL.keep ?_ | exact SubL.headA _ _ | refine SubL.keepA ?_ _ | refine SubL.skip ?_ | refine SubL.skipA ?_ _)
        · have t4 : decide ((b.length : Int) < 32) = false := decide_eq_false (by omega)
          have j1 : 32 ≤ b.length := by omega
          have d2 : (b.drop 32).take (b.length - 32) = b.drop 32 := List.take_of_length_le (by rw [List.length_drop]; omega)
          have d3 : (b.drop 0).take (32 - 0) = b.take 32 := rfl
          haveI : BLc 32 (mkT key last (b.drop 32)) := ⟨⟨mkT_len _ _ _, mkT_byte _ _ _⟩, by decide⟩
          by_cases hmk : mkT key last (b.drop 32) = b.take 32
          · have SM := fun w' {v u : Value} (h1 : Cb w' v 32 (mkT key last (b.drop 32))) (h2 : Cb w' u 32 (b.take 32)) => same_g w' h1 h2 (r := true) (by rw [hmk]; simp)
            have CL1 := fun w' {v : Value} (h : Cb w' v (b.length - 32) (b.drop 32)) => CL w' h (by omega)
            have hst : oneT key (p.drop n) last = (0, mkT key last (b.drop 32), b.drop 32, c) := by rw [hone, if_neg (by omega), if_neg (by rw [hmk]; simp)]
            have hnx := fun {v vc : Value} {oo oc : Blks} {e : Nat} => hI.next (v := v) (vc := vc) (oo := oo) (oc := oc) (e := e) (k := b.length - 32) hst hne (by dsimp only; omega) (by omega)
            have k1 : IntKind.i64.wrap ((n : Int) + (c : Int)) = ((n + c : Nat) : Int) := by rw [wrap_i64 _ (by omega) (by omega)]; omega
            clear FE FY CL h1 h2 h3 h4 hI hst hone b1
            repeat' (first | (refine wlS ?_) | (refine wlG ?_) | (refine wlB ?_) | ((with_reducible refine sel_call ?_); refine wl_rd rfl rfl (rd_call rfl rfl rfl (fun w hm => by with_reducible first | exact MK w (Mem.belowO hm (by with_reducible assumption) (by with_reducible assumption)) (Has.sees hm) (VwB.out w hm) (VwB.out w hm) | exact SM w (VwB.out w hm) (VwB.out w hm))) ?_) | (refine wlE ?_) | (refine efSvvp ?_; intro v hv hp) | (refine efSvao ?_; intro v oa ho) | (refine efG ?_) | (refine efGnn ?_; intro n hn) | ((with_reducible refine sel_slice ?_); first | (refine wl_subB (lo := 32) rfl rfl rfl rfl rfl rfl rfl rfl ?_; intro v hv hp) | (refine wl_subB (hi := 32) rfl rfl rfl rfl rfl rfl rfl rfl ?_; intro v hv hp)) | (refine efZCnn ?_; intro n hn) | ((with_reducible refine sel_call ?_); first | (refine wl_newO rfl rfl rfl rfl rfl (fun w hm => by with_reducible exact FY1 w (VwB.out w hm)) ?_; intro x oa hx) | (refine wl_newO rfl rfl rfl rfl rfl (fun w hm => by with_reducible exact CL1 w (VwB.out w hm)) ?_; intro x oa hx)) | (refine efBnn ?_; intro n hn) | (refine efB ?_) | (refine efBS ?_) | (refine wl_skip rfl rfl ?_) | ((with_reducible refine wc_seq ?_); intro K hK) | (refine auC ?_) | (refine wc_cond rfl (fun hc => ?_) (fun hc => ?_)) | ((with_reducible refine wc_drawH _ [10, 13] (by kernel_rfl) (SubL.refl _) ?_); (try simp only [List.append_eq, List.cons_append, List.nil_append, List.length_cons, List.length_nil, Nat.reduceAdd])) | ((with_reducible refine sel_wh ?_); (refine wh_if (by decide +kernel) ?_); first | (refine wh_take (lq := []) rfl rfl rfl rfl (by first | exact rvS | exact rvG | exact rvB | exact rvE) (Or.inl rfl) ?_) | (refine wh_takeL rfl rfl rfl rfl (by first | exact rvS | exact rvG | exact rvB | exact rvE) (by decide +kernel) ?_)) | (refine whS ?_; intro v hv hp) | ((with_reducible refine sel_wh ?_); first | (refine wh_pass rfl rfl rfl rfl ?_) | (refine wh_done rfl ?_) | (refine wh_all rfl ?_)) | ((with_reducible refine sel_rest ?_); first | exact rest_nil rfl | refine rest_cons rfl rfl ?_ ?_) | ((with_reducible refine sel_nx ?_); first | refine next_of ?_ | refine next_late (by decide +kernel) ?_) | (refine auP ?_) | ((refine auR ?_); clear hK K) | (refine auR ?_) | ((with_reducible refine hK _ _ ?_); clear hK K) | fail)
            refine ⟨_, hnx ho hx, by dsimp only; omega, Fits.of ⟨rfl, rfl, trivial⟩ ?_ rfl⟩
            dsimp only
            (try simp only [List.append_assoc])
            repeat (first | exact SubL.nil | exact SubL.refl _ | refine SubL.keep ?_ | exact SubL.headA _ _ | refine SubL.keepA ?_ _ | refine SubL.skip ?_ | refine SubL.skipA ?_ _)
          · have SM := fun w' {v u : Value} (h1 : Cb w' v 32 (mkT key last (b.drop 32))) (h2 : Cb w' u 32 (b.take 32)) => same_g w' h1 h2 (r := false) (by simpa using hmk)
            have hst : oneT key (p.drop n) last = (5, last, [], 0) := by rw [hone, if_neg (by omega), if_pos hmk]
            have hfin := hI.fin (all_stop hne hql hst (by decide)) kv
            clear FE FY CL h1 h2 h3 h4 hI hst hone b1
            repeat' (first | (refine wlS ?_) | (refine wlG ?_) | (refine wlB ?_) | ((with_reducible refine sel_call ?_); refine wl_rd rfl rfl (rd_call rfl rfl rfl (fun w hm => by with_reducible first | exact MK w (Mem.belowO hm (by with_reducible assumption) (by with_reducible assumption)) (Has.sees hm) (VwB.out w hm) (VwB.out w hm) | exact SM w (VwB.out w hm) (VwB.out w hm))) ?_) | (refine wlE ?_) | (refine efSvvp ?_; intro v hv hp) | (refine efSvao ?_; intro v oa ho) | (refine efG ?_) | (refine efGnn ?_; intro n hn) | ((with_reducible refine sel_slice ?_); first | (refine wl_subB (lo := 32) rfl rfl rfl rfl rfl rfl rfl rfl ?_; intro v hv hp) | (refine wl_subB (hi := 32) rfl rfl rfl rfl rfl rfl rfl rfl ?_; intro v hv hp)) | (refine efZCnn ?_; intro n hn) | ((with_reducible refine sel_call ?_); first | (refine wl_newO rfl rfl rfl rfl rfl (fun w hm => by with_reducible exact FY1 w (VwB.out w hm)) ?_; intro x oa hx)) | (refine efBnn ?_; intro n hn) | (refine efB ?_) | (refine efBS ?_) | (refine wl_skip rfl rfl ?_) | ((with_reducible refine wc_seq ?_); intro K hK) | (refine auC ?_) | (refine wc_cond rfl (fun hc => ?_) (fun hc => ?_)) | ((with_reducible refine wc_drawT (by kernel_rfl) ?_); (try simp only [List.append_eq, List.cons_append, List.nil_append, List.length_cons, List.length_nil, Nat.reduceAdd])) | ((with_reducible refine sel_wh ?_); (refine wh_if (by decide +kernel) ?_); first | (refine wh_take (lq := []) rfl rfl rfl rfl (by first | exact rvS | exact rvG | exact rvB | exact rvE) (Or.inl rfl) ?_) | (refine wh_takeL rfl rfl rfl rfl (by first | exact rvS | exact rvG | exact rvB | exact rvE) (by decide +kernel) ?_)) | (refine whS ?_; intro v hv hp) | ((with_reducible refine sel_wh ?_); first | (refine wh_pass rfl rfl rfl rfl ?_) | (refine wh_done rfl ?_) | (refine wh_all rfl ?_)) | ((with_reducible refine sel_rest ?_); first | exact rest_nil rfl | refine rest_cons rfl rfl ?_ ?_) | ((with_reducible refine sel_nx ?_); first | refine next_of ?_ | refine next_late (by decide +kernel) ?_) | (refine auP ?_) | ((refine auR ?_); clear hK K) | (refine auR ?_) | ((with_reducible refine hK _ _ ?_); clear hK K) | fail)
            first | refine end_ret (ResP.tmp rfl ResP.nil) ?_ | refine end_normal (ResP.tmp rfl ResP.nil) ?_
            (try dsimp only [tupV])
            refine ⟨5, _, _, rfl, hfin, ?_⟩
            repeat (first | exact SubL.nil | exact SubL.refl _ | refine SubL.keep ?_ | exact SubL.headA _ _ | refine SubL.keepA ?_ _ | refine SubL.skip ?_ | refine SubL.skipA ?_ _)
      · have t3 : ((t0 : Int) != 1) = true := by simp only [bne_iff_ne, ne_eq]; omega
        have hst : oneT key (p.drop n) last = (4, last, [], 0) := by rw [hone, if_pos (.inl ht0)]
        have hfin := hI.fin (all_stop hne hql hst (by decide)) kv
        clear FE FY MK CL h1 h2 h3 h4 hI hst hone b1
        repeat' (first | (refine wlS ?_) | (refine wlG ?_) | (refine wlB ?_) | (refine wlE ?_) | (refine efSvvp ?_; intro v hv hp) | (refine efSvao ?_; intro v oa ho) | (refine efG ?_) | (refine efGnn ?_; intro n hn) | (refine efZCnn ?_; intro n hn) | ((with_reducible refine sel_call ?_); first | (refine wl_newO rfl rfl rfl rfl rfl (fun w hm => by with_reducible exact FY1 w (VwB.out w hm)) ?_; intro x oa hx)) | (refine efBnn ?_; intro n hn) | (refine efB ?_) | (refine efBS ?_) | (refine wl_skip rfl rfl ?_) | (refine wdS ?_) | (refine wdG ?_) | (refine wdV ?_) | (refine wdB ?_) | (refine wdE ?_) | (refine wdT ?_) | (refine wdTO ?_) | (refine wd_skip rfl rfl ?_) | ((with_reducible refine seld_nil ?_); refine wd_nil hm0 ?_; clear hm0 hw0) | ((with_reducible refine wc_seq ?_); intro K hK) | (refine auC ?_) | (refine wc_cond rfl (fun hc => ?_) (fun hc => ?_)) | (refine wc_draw (by kernel_rfl) (by kernel_rfl) (by decide +kernel) ?_; intro w0 hw0 hm0; (try simp only [List.append_eq, List.cons_append, List.nil_append])) | (refine auP ?_) | ((refine auR ?_); clear hK K) | (refine auR ?_) | ((with_reducible refine hK _ _ ?_); clear hK K) | fail)
        first | refine end_ret (ResP.tmp rfl ResP.nil) ?_ | refine end_normal (ResP.tmp rfl ResP.nil) ?_
        (try dsimp only [tupV])
        refine ⟨4, _, _, rfl, hfin, ?_⟩
        repeat (first | exact SubL.nil | exact SubL.refl _ | refine SubL.keep ?_ | exact SubL.headA _ _ | refine SubL.keepA ?_ _ | refine SubL.skip ?_ | refine SubL.skipA ?_ _)
    · have FE1 := fun w' {v : Value} (h : Cb w' v (m - n) (p.drop n)) => FE rfl he (by omega) w' h
      have hst : oneT key (p.drop n) last = ((firstD (p.drop n)).1, last, [], 0) := by rw [oneT, if_pos he]
      have hfin := hI.fin (all_stop hne hql hst he) kv
      generalize (firstD (p.drop n)).1 = e at *
      have t2 : ((e : Int) != 0) = true := by simp only [bne_iff_ne, ne_eq]; omega
      clear FE FY MK CL h1 h2 h3 h4 hI hst
      repeat' (first | (refine wlS ?_) | (refine wlG ?_) | (refine wlB ?_) | ((with_reducible refine sel_call ?_); refine wl_rd rfl rfl (rd_call rfl rfl rfl (fun w hm => by with_reducible exact FE1 w (VwB.out w hm))) ?_) | (refine wlE ?_) | (refine efSvvp ?_; intro v hv hp) | (refine efSvao ?_; intro v oa ho) | (refine efG ?_) | (refine efGnn ?_; intro n hn) | (refine efZCnn ?_; intro n hn) | (refine efBnn ?_; intro n hn) | (refine efB ?_) | (refine efBS ?_) | (refine wl_skip rfl rfl ?_) | (refine wdS ?_) | (refine wdG ?_) | (refine wdV ?_) | (refine wdB ?_) | ((with_reducible refine seld_call ?_); refine wd_rd hm0 rfl rfl rfl rfl (rd_call rfl rfl rfl (fun w hm => by with_reducible exact FE1 w (VwB.out w hm))) ?_) | (refine wdE ?_) | (refine wdT ?_) | (refine wdTO ?_) | (refine wd_skip rfl rfl ?_) | ((with_reducible refine seld_nil ?_); refine wd_nil hm0 ?_; clear hm0 hw0) | ((with_reducible refine wc_seq ?_); intro K hK) | (refine auC ?_) | (refine wc_cond rfl (fun hc => ?_) (fun hc => ?_)) | (refine wc_draw (by kernel_rfl) (by kernel_rfl) (by decide +kernel) ?_; intro w0 hw0 hm0; (try simp only [List.append_eq, List.cons_append, List.nil_append])) | (refine auP ?_) | ((refine auR ?_); clear hK K) | (refine auR ?_) | ((with_reducible refine hK _ _ ?_); clear hK K) | fail)
      first | refine end_ret (ResP.tmp rfl ResP.nil) ?_ | refine end_normal (ResP.tmp rfl ResP.nil) ?_
      (try dsimp only [tupV])
      exact ⟨e, _, _, rfl, hfin, .skip (SubL.refl _)⟩
  · obtain rfl : n = m := by omega
    have t1 : decide ((n : Int) < (n : Int)) = false := decide_eq_false (by omega)
    have hnil : p.drop n = [] := List.drop_of_length_le (by omega)
    have hfin := hI.fin (e := 0) (by rw [hnil]; exact all_nil _ _ _) kv
    clear FE FY MK CL h1 h2 h3 h4 hI
    repeat' (first | (refine wlS ?_) | (refine wlG ?_) | (refine wlB ?_) | (refine wlE ?_) | (refine efSvvp ?_; intro v hv hp) | (refine efSvao ?_; intro v oa ho) | (refine efG ?_) | (refine efGnn ?_; intro n hn) | (refine efBnn ?_; intro n hn) | (refine efB ?_) | (refine efBS ?_) | (refine wl_skip rfl rfl ?_) | (refine wdS ?_) | (refine wdG ?_) | (refine wdV ?_) | (refine wdB ?_) | (refine wdE ?_) | (refine wdT ?_) | (refine wdTO ?_) | (refine wd_skip rfl rfl ?_) | ((with_reducible refine seld_nil ?_); refine wd_nil hm0 ?_; clear hm0 hw0) | ((with_reducible refine wc_seq ?_); intro K hK) | (refine auC ?_) | (refine wc_cond rfl (fun hc => ?_) (fun hc => ?_)) | (refine wc_draw (by kernel_rfl) (by kernel_rfl) (by decide +kernel) ?_; intro w0 hw0 hm0; (try simp only [List.append_eq, List.cons_append, List.nil_append])) | (refine auP ?_) | ((refine auR ?_); clear hK K) | (refine auR ?_) | ((with_reducible refine hK _ _ ?_); clear hK K) | fail)
    first | refine end_ret (ResP.tmp rfl ResP.nil) ?_ | refine end_normal (ResP.tmp rfl ResP.nil) ?_
    (try dsimp only [tupV])
    exact ⟨0, _, _, rfl, hfin, SubL.refl _⟩
end Go.Proofs.YtlpalhagndmpjaaDoor
namespace Go.Proofs.YtlpalhagndmpjaaDoor
open Go.RowKit
set_option linter.unusedVariables false
set_option linter.unusedSimpArgs false
set_option maxRecDepth 100000
/-! ### Appends to a slice that is full -/
section
variable {X : Cx} {s : Slots} {l : Blks} {o : Oper} {v : Value} {Q : Post} {ops : Array Oper} {r : List Oper}
theorem full_cells {w : World} {b off n : Nat} {c : Nat} {p : List Nat} (h : Cb w (.slice (some ⟨b, off, none⟩) n c) n p) : ∀ j y, (bl p)[j]? = some y → w.cell? ((⟨b, off, none⟩ : Addr).add j) = some y := fun j y hj => by
  obtain ⟨b', off', cap', hv, hc⟩ := h.cs.cell j y hj
  injection hv with hv
  injection hv with hv
  injection hv with hb' ho'
  subst hb'; subst ho'
  rw [Addr.add_mid]; exact hc
theorem append_full {P : Program} {w : World} {t ty e bytes b off n m : Nat} {u : Value} {p q : List Nat} {z : Array Value}
    (ht : P.underlying t = some (.slice e)) (hei : EI P e 1 bytes z) (hv : Cb w (.slice (some ⟨b, off, none⟩) n n) n p) (hu : Cb w u m q) (h0 : 0 < m)
    (h63 : n + m ≤ maxLen) (hb : (n + m) * bytes ≤ 140737488355328) :
    ∃ v' w' oa', (Builtin.append_ #[t, t] ty #[.slice (some ⟨b, off, none⟩) n n, u]).run P w = .ok v' w' ∧ OwnB e v' (n + m) (p ++ q) oa' ∧ Upd w [] w' oa' := by
  obtain ⟨i, zv, hi, hsz, rfl, hz, rfl, hzs⟩ := hei.out
  obtain ⟨pu, cu, rfl, h1, h2, h3⟩ := hu.cs.ln.out
  obtain ⟨b', off', rfl⟩ := h3 h0
  have hsmall : n + m ≤ 9223372036854775807 := by simp only [maxLen] at h63; omega
  have hlp : (bl p).length = n * i.size := by rw [bl_len, hv.ok.len, hsz, Nat.mul_one]
  have hlq : (bl q).length = m * i.size := by rw [bl_len, hu.ok.len, hsz, Nat.mul_one]
  have hr := run_append_grow (P := P) w t ty e i zv ht hi hz ⟨b, off, none⟩ n n (bl p) hlp (full_cells hv) ⟨b', off', none⟩ m cu (bl q) hlq (full_cells hu) (by omega) (by omega) (growslice_fits (by omega) hb)
  have hge := grownCap_ge w (n + m) n e
  have hcl := grownCap_le_maxLen w (n + m) n e h63
  refine ⟨_, _, [(w.heap.size, (_, e))], hr, ⟨⟨by rw [bl_len, List.length_append, hv.ok.len, hu.ok.len, Nat.mul_one], .inr ⟨w.heap.size, _, _, rfl, hge, hcl, ?_, ?_, rfl⟩⟩, hv.ok.app hu.ok⟩, upd_new (w := w) (w1 := w.drew) rfl rfl rfl rfl [] _ e⟩
  · simp only [Array.size_append, List.size_toArray, size_zeroCells, hzs, hlp, hlq, hsz, Nat.mul_one]
    omega
  · simp only [Array.toList_append, List.append_assoc]
    rw [← List.append_assoc, ← bl_app]
    have : (bl (p ++ q)).length = (n + m) * 1 := by rw [bl_len, List.length_append, hv.ok.len, hu.ok.len, Nat.mul_one]
    rw [← this]
    exact List.take_left
theorem append_full0 {P : Program} {w : World} {t tn ty e bytes b off n m : Nat} {kn kv : IntKind} {p : List Nat}
    (ht : P.underlying t = some (.slice e)) (htn : P.underlying tn = some (.int kn)) (hei : EI P e 1 bytes #[.int .u8 0]) (hv : Cb w (.slice (some ⟨b, off, none⟩) n n) n p) (h0 : 0 < m)
    (h63 : n + m ≤ maxLen) (hb : (n + m) * bytes ≤ 140737488355328) :
    ∃ v' w' oa', (Builtin.append_ #[t, tn] ty #[.slice (some ⟨b, off, none⟩) n n, .int kv (m : Int)]).run P w = .ok v' w' ∧ OwnB e v' (n + m) (p ++ List.replicate m 0) oa' ∧ Upd w [] w' oa' := by
  obtain ⟨i, zv, hi, hsz, rfl, hz, hzc, hzs⟩ := hei.out
  have hsmall : n + m ≤ 9223372036854775807 := by simp only [maxLen] at h63; omega
  have hlp : (bl p).length = n * i.size := by rw [bl_len, hv.ok.len, hsz, Nat.mul_one]
  have hmb : m * i.bytes ≤ 140737488355328 := Nat.le_trans (Nat.mul_le_mul_right _ (by omega)) hb
  have hfc := run_firstCells_some (P := P) w.drew i.size n ⟨b, off, none⟩ n n (bl p) hlp (by simpa using full_cells hv)
  have hr := Lib.run_append_grow_zeros (P := P) w t tn ty e i zv kv kn ht htn hi hz (some ⟨b, off, none⟩) n n (bl p) hfc m (by omega) (by omega) (by omega) (by omega) (by omega) (growslice_fits (by omega) hb)
  have hge := grownCap_ge w (n + m) n e
  have hcl := grownCap_le_maxLen w (n + m) n e h63
  refine ⟨_, _, [(w.heap.size, (_, e))], hr, ⟨⟨by rw [bl_len, List.length_append, hv.ok.len, List.length_replicate, Nat.mul_one], .inr ⟨w.heap.size, _, _, rfl, hge, hcl, ?_, ?_, rfl⟩⟩, hv.ok.app (BL.rep m 0 (by decide))⟩, upd_new (w := w) (w1 := w.drew) rfl rfl rfl rfl [] _ e⟩
  · simp only [Array.size_append, List.size_toArray, size_zeroCells, hzc, hlp, hsz, Nat.mul_one]
    simp only [List.size_toArray, List.length_cons, List.length_nil]
    omega
  · simp only [Array.toList_append, hzc, zeros_one]
    rw [show List.replicate m (Value.int .u8 0) = bl (List.replicate m 0) from (bl_rep m 0).symm, ← bl_app]
    have : (bl (p ++ List.replicate m 0)).length = (n + m) * 1 := by rw [bl_len, List.length_append, hv.ok.len, List.length_replicate, Nat.mul_one]
    rw [← this]
    exact List.take_left
theorem wl_appendF {x y : Operand} {t e bytes b off n m : Nat} {z : Array Value} {u : Value} {p q : List Nat} {f : Blks → Blks} {s' : Value → Slots}
    (hg : gd s ops o = some true) (hd : dOk X.N o.dst = true) (hop : o.op = .call { callee := .builtin .append, args := #[x, y], argTypes := #[t, t] })
    (hx : val s x = some (.slice (some ⟨b, off, none⟩) n n)) (hy : val s y = some u) [ht : UT X.P t (.slice e)] [hei : EI X.P e 1 bytes z] [hv : VwB X l (.slice (some ⟨b, off, none⟩) n n) n p] [hu : VwB X l u m q] [hf : Snoc l f]
    (h : ∀ v' oa', OwnB e v' (n + m) (p ++ q) oa' → Wl X ops Q r (s' v') (f oa')) (h0 : 0 < m := by first | (with_reducible assumption) | omega | decide)
    (h63 : (n + m) * bytes ≤ 1152921504606846976 ∧ n + m ≤ 1152921504606846976 ∧ (n + m) * bytes ≤ 140737488355328 := by (refine ⟨?_, ?_, ?_⟩ <;> omega))
    (hs' : ∀ v', sputO s o.dst v' = s' v' := by intro _; (try dsimp only [sputO, sput, Nat.reduceBEq, cond_true, cond_false, beq_self_eq_true]); first | done | exact rfl) : Wl X ops Q (o :: r) s l := fun ac w hst => by
  obtain rfl : (fun v' => sputO s o.dst v') = s' := funext hs'
  have hw := gd_wanted hst.env hg
  haveI : Seg l [] f := ⟨l, [], by simp, fun o => by rw [hf.out, List.append_nil]⟩
  obtain ⟨v', w', oa', hr, ho', hup⟩ := append_full (ty := o.type) ht.out hei (hv.out w hst.mem) (hu.out w hst.mem) h0 (by simp only [maxLen]; omega) h63.2.2
  unfold wpList
  rw [if_pos hw]
  refine .inl ?_
  unfold Oper.wp
  have : (execOp ac.eval o).run X.P w = .ok (.value v') w' := by
    simp only [execOp, hop, resolve, invoke, builtin, Sem.run_bind, Sem.run_pure, Result.andThen_ok, List.map_toArray, List.map_cons, List.map_nil, hst.env.eval hx, hst.env.eval hy, hr]
  rw [this]
  exact h v' oa' ho' _ _ ⟨hst.env.put hd _, hup.mem hst.mem⟩
theorem wl_appendF0 {x y : Operand} {t tn e bytes b off n m : Nat} {kn kv : IntKind} {p : List Nat} {f : Blks → Blks} {s' : Value → Slots}
    (hg : gd s ops o = some true) (hd : dOk X.N o.dst = true) (hop : o.op = .call { callee := .builtin .append, args := #[x, y], argTypes := #[t, tn] })
    (hx : val s x = some (.slice (some ⟨b, off, none⟩) n n)) (hy : val s y = some (.int kv (m : Int))) [ht : UT X.P t (.slice e)] [htn : UT X.P tn (.int kn)] [hei : EI X.P e 1 bytes #[.int .u8 0]] [hv : VwB X l (.slice (some ⟨b, off, none⟩) n n) n p] [hf : Snoc l f]
    (h : ∀ v' oa', OwnB e v' (n + m) (p ++ List.replicate m 0) oa' → Wl X ops Q r (s' v') (f oa')) (h0 : 0 < m := by first | (with_reducible assumption) | omega | decide)
    (h63 : (n + m) * bytes ≤ 1152921504606846976 ∧ n + m ≤ 1152921504606846976 ∧ (n + m) * bytes ≤ 140737488355328 := by (refine ⟨?_, ?_, ?_⟩ <;> omega))
    (hs' : ∀ v', sputO s o.dst v' = s' v' := by intro _; (try dsimp only [sputO, sput, Nat.reduceBEq, cond_true, cond_false, beq_self_eq_true]); first | done | exact rfl) : Wl X ops Q (o :: r) s l := fun ac w hst => by
  obtain rfl : (fun v' => sputO s o.dst v') = s' := funext hs'
  have hw := gd_wanted hst.env hg
  haveI : Seg l [] f := ⟨l, [], by simp, fun o => by rw [hf.out, List.append_nil]⟩
  obtain ⟨v', w', oa', hr, ho', hup⟩ := append_full0 (ty := o.type) (kv := kv) ht.out htn.out hei (hv.out w hst.mem) h0 (by simp only [maxLen]; omega) h63.2.2
  unfold wpList
  rw [if_pos hw]
  refine .inl ?_
  unfold Oper.wp
  have : (execOp ac.eval o).run X.P w = .ok (.value v') w' := by
    simp only [execOp, hop, resolve, invoke, builtin, Sem.run_bind, Sem.run_pure, Result.andThen_ok, List.map_toArray, List.map_cons, List.map_nil, hst.env.eval hx, hst.env.eval hy, hr]
  rw [this]
  exact h v' oa' ho' _ _ ⟨hst.env.put hd _, hup.mem hst.mem⟩
/-- No nought is appended. -/
theorem rd_append00 {x y : Operand} {t tn e bytes b off n : Nat} {kn kv : IntKind} {z : Array Value} (hop : o.op = .call { callee := .builtin .append, args := #[x, y], argTypes := #[t, tn] })
    (hx : val s x = some (.slice (some ⟨b, off, none⟩) n n)) (hy : val s y = some (.int kv 0)) [ht : UT X.P t (.slice e)] [htn : UT X.P tn (.int kn)] [hei : EI X.P e 1 bytes z] : RdV X s l o (.slice (some ⟨b, off, none⟩) n n) := rd_val fun a w he hm => by
  obtain ⟨i, zv, hi, hsz, hby, hz, hzc, hzs⟩ := hei.out
  have hw0 : IntKind.i64.wrap 0 = 0 := by decide
  have hr : (Builtin.append_ #[t, tn] o.type #[.slice (some ⟨b, off, none⟩) n n, .int kv 0]).run X.P w = .ok (.slice (some ⟨b, off, none⟩) n n) w := by
    simp [Builtin.append_, run_underlying ht.out, run_underlying htn.out, sizeOf, typeInfo, hi, asInt, asIntOf, hw0, storeCells]
  simp only [execOp, hop, resolve, invoke, builtin, Sem.run_bind, Sem.run_pure, Result.andThen_ok, List.map_toArray, List.map_cons, List.map_nil, he.eval hx, he.eval hy, hr]
/-- Nothing is appended. -/
theorem rd_appendN {x y : Operand} {t e k bytes b off n c : Nat} {u : Value} {z : Array Value} (hop : o.op = .call { callee := .builtin .append, args := #[x, y], argTypes := #[t, t] })
    (hx : val s x = some (.slice (some ⟨b, off, none⟩) n c)) (hy : val s y = some u) [ht : UT X.P t (.slice e)] [hei : EI X.P e k bytes z] [hu : Ln u 0] (hn : n ≤ c := by first | (with_reducible assumption) | omega | decide) : RdV X s l o (.slice (some ⟨b, off, none⟩) n c) := rd_val fun a w he hm => by
  obtain ⟨i, zv, hi, hsz, hby, hz, hzc, hzs⟩ := hei.out
  obtain ⟨p, cu, rfl, _, _, _⟩ := hu.out
  have hr : (Builtin.append_ #[t, t] o.type #[.slice (some ⟨b, off, none⟩) n c, .slice p 0 cu]).run X.P w = .ok (.slice (some ⟨b, off, none⟩) n c) w := by
    cases p <;> simp [Builtin.append_, run_underlying ht.out, sizeOf, typeInfo, hi, Builtin.lenOf, Builtin.firstCells, loadCells, loadCellsFrom, hn, storeCells]
  simp only [execOp, hop, resolve, invoke, builtin, Sem.run_bind, Sem.run_pure, Result.andThen_ok, List.map_toArray, List.map_cons, List.map_nil, he.eval hx, he.eval hy, hr]
end
end Go.Proofs.YtlpalhagndmpjaaDoor
namespace Go.Proofs.YtlpalhagndmpjaaDoor
open Go.RowKit
set_option linter.unusedVariables false
set_option maxRecDepth 100000
set_option linter.unusedSimpArgs false
abbrev itP (l : List It) : List (Nat × List Nat) := l.map It.p
theorem itP_get {l : List It} {i : Nat} {x : It} (h : l[i]? = some x) : (itP l)[i]? = some x.p := by simp [itP, h]
/-- The state of the loop. -/
def WrOkL (l : List It) (x : Nat × Value × Nat × Blks) : Prop := x.1 ≤ l.length ∧ (∀ y ∈ l.take x.1, y.2.2.length ≤ 4096) ∧ x.2.2.1 ≤ 4100 * x.1 ∧ OwnB 5 x.2.1 x.2.2.1 (wrL (itP (l.take x.1))) x.2.2.2
theorem wrOk_step {l : List It} {i n : Nat} {v : Value} {oa : Blks} {x : It} (h : WrOkL l (i, v, n, oa)) (hx : l[i]? = some x) (hb : x.2.2.length ≤ 4096) {v' : Value} {m : Nat} {p : List Nat} {oa' : Blks} (ho : OwnB 5 v' (n + m + x.2.2.length) ((wrL (itP (l.take i)) ++ p) ++ x.2.2) oa') (hp : p = headL x.1 x.2.2.length) (hm : m ≤ 4) : WrOkL l (i + 1, v', n + m + x.2.2.length, oa') := by
  obtain ⟨h1, h2, h3, h4⟩ := h
  dsimp only at *
  have hlt : i < l.length := (List.getElem?_eq_some_iff.1 hx).1
  refine ⟨hlt, fun y hy => ?_, by dsimp only; omega, ?_⟩
  · rw [List.take_add_one, hx] at hy
    rcases List.mem_append.1 hy with hy | hy
    · exact h2 y hy
    · simp at hy; subst hy; exact hb
  · have e : wrL (itP (l.take (i + 1))) = (wrL (itP (l.take i)) ++ p) ++ x.2.2 := by
      have := wrL_snoc (itP_get hx)
      rw [itP, ← List.map_take] at this
      rw [itP, this, hp, List.append_assoc]
      simp [itP, List.map_take, wr1, It.p]
    dsimp only
    rw [e]; exact ho
set_option maxHeartbeats 8000000 in
theorem write_ok (w : World) {v : Value} {l : List It} (h : Its w v l) (hf : fitsL (itP l)) : Calls Tryd.prog 16 [v].toArray w (RetO (fun b => .tuple #[b, .int .i64 0]) (fun b oa => OwnB 5 b (wrL (itP l)).length (wrL (itP l)) oa) w) := by
  haveI := h.cs.old
  have hlen : l.length ≤ 200 := by have := hf.1; simpa using this
  have t0 : decide ((l.length : Int) > 200) = false := decide_eq_false (by omega)
  refine fn_own (N := _) Tryd.func16 rfl Tryd.ntmps16 Tryd.results16 (by simp) ?_
  simp only [initS, Nat.reduceAdd, Nat.zero_add]
  repeat' (first | (refine wlS ?_) | (refine wlB ?_) | (refine wlE ?_) | (refine efSvao ?_; intro v oa ho) | (refine efBnn ?_; intro n hn) | (refine efB ?_) | (refine efBS ?_) | (refine wl_skip rfl rfl ?_) | ((with_reducible refine wc_seq ?_); intro K hK) | (refine auC ?_) | (refine wc_cond rfl (fun hc => ?_) (fun hc => ?_)) | (refine wc_draw (by kernel_rfl) (by kernel_rfl) (by decide +kernel) ?_; intro w0 hw0 hm0; (try simp only [List.append_eq, List.cons_append, List.nil_append])) | (refine auP ?_) | ((refine auR ?_); clear hK K) | (refine auR ?_) | ((with_reducible refine hK _ _ ?_); clear hK K) | fail)
  refine wc_loop (σ := Nat × Value × Nat × Blks) (fun x => [(0, v), (4, x.2.1), (11, v), (12, .int .i64 (l.length : Int)), (13, .int .i64 (x.1 : Int))]) (fun x => x.2.2.2)
    (WrOkL l) (fun x => l.length - x.1) (0, .slice none 0 0, 0, []) ⟨Nat.zero_le _, by simp, Nat.le_refl _, ⟨OwnL.nil _ _, BL.nil⟩⟩ (Fits.of ⟨rfl, rfl, rfl, rfl, rfl, trivial⟩ .nil rfl) ?_
  rintro ⟨i, v4, n, oa⟩ hok
  have hok' := hok
  obtain ⟨hi, hall, hn, ho⟩ := hok'
  dsimp only at hi hall hn ho
  by_cases hlt : i < l.length
  · obtain ⟨x, hx⟩ : ∃ x, l[i]? = some x := ⟨l[i], List.getElem?_eq_getElem hlt⟩
    obtain ⟨tag, bv, p⟩ := x
    have hmem := List.mem_of_getElem? hx
    have htag : tag < 256 := h.tag _ hmem
    haveI : CsB (Old w []) bv p.length p := (h.body _ hmem).old
    have hbody : p.length ≤ 4096 := hf.2 (tag, p) (List.mem_map.2 ⟨_, hmem, rfl⟩)
    have hget := itsC_get hx
    have t1 : decide ((i : Int) < (l.length : Int)) = true := decide_eq_true (by omega)
    have t2 : decide ((p.length : Int) > 4096) = false := decide_eq_false (by omega)
    have hi1 : IntKind.i64.wrap ((i : Int) + 1) = ((i + 1 : Nat) : Int) := wrap_i64 _ (by omega) (by omega)
    dsimp only at hget
    by_cases c1 : p.length < 128
    · have t3 : decide ((p.length : Int) < 128) = true := decide_eq_true (by omega)
      have w1 : IntKind.u8.wrap (p.length : Int) = (p.length : Int) := wrap_u8 _ (by omega) (by omega)
      clear hall hf h
      repeat' (first | (refine wlS ?_) | (refine wlB ?_) | (refine wlE ?_) | (refine efSvao ?_; intro v oa ho) | (refine efBnn ?_; intro n hn) | (refine efB ?_) | (refine efBS ?_) | (refine wl_skip rfl rfl ?_) | ((with_reducible refine wc_seq ?_); intro K hK) | (refine auC ?_) | (refine wc_cond rfl (fun hc => ?_) (fun hc => ?_)) | (refine wc_draw (by kernel_rfl) (by kernel_rfl) (by decide +kernel) ?_; intro w0 hw0 hm0; (try simp only [List.append_eq, List.cons_append, List.nil_append])) | (refine auP ?_) | ((refine auR ?_); clear hK K) | (refine auR ?_) | ((with_reducible refine hK _ _ ?_); clear hK K) | fail)
      exact ⟨(i + 1, v, _, oa), wrOk_step hok hx hbody ho (by simp [headL, c1]) (by omega), by dsimp only; omega, Fits.of ⟨rfl, rfl, rfl, rfl, rfl, trivial⟩ (.skip (SubL.headA _ _)) rfl⟩
    · have t3 : decide ((p.length : Int) < 128) = false := decide_eq_false (by omega)
      by_cases c2 : p.length < 256
      · have t4 : decide ((p.length : Int) < 256) = true := decide_eq_true (by omega)
        have w1 : IntKind.u8.wrap (p.length : Int) = (p.length : Int) := wrap_u8 _ (by omega) (by omega)
        clear hall hf h
        repeat' (first | (refine wlS ?_) | (refine wlB ?_) | (refine wlE ?_) | (refine efSvao ?_; intro v oa ho) | (refine efBnn ?_; intro n hn) | (refine efB ?_) | (refine efBS ?_) | (refine wl_skip rfl rfl ?_) | ((with_reducible refine wc_seq ?_); intro K hK) | (refine auC ?_) | (refine wc_cond rfl (fun hc => ?_) (fun hc => ?_)) | (refine wc_draw (by kernel_rfl) (by kernel_rfl) (by decide +kernel) ?_; intro w0 hw0 hm0; (try simp only [List.append_eq, List.cons_append, List.nil_append])) | (refine auP ?_) | ((refine auR ?_); clear hK K) | (refine auR ?_) | ((with_reducible refine hK _ _ ?_); clear hK K) | fail)
        exact ⟨(i + 1, v, _, oa), wrOk_step hok hx hbody ho (by simp [headL, c1, c2]) (by omega), by dsimp only; omega, Fits.of ⟨rfl, rfl, rfl, rfl, rfl, trivial⟩ (.skip (SubL.headA _ _)) rfl⟩
      · have t4 : decide ((p.length : Int) < 256) = false := decide_eq_false (by omega)
        have w0 : (p.length : Int) / 2 ^ (min ((8 : Int).toNat) IntKind.i64.bits) = ((p.length / 256 : Nat) : Int) := rfl
        have w1 : IntKind.u8.wrap ((p.length / 256 : Nat) : Int) = ((p.length / 256 % 256 : Nat) : Int) := wrapB _
        have w2 : IntKind.u8.wrap (p.length : Int) = ((p.length % 256 : Nat) : Int) := wrapB _
        clear hall hf h
        repeat' (first | (refine wlS ?_) | (refine wlB ?_) | (refine wlE ?_) | (refine efSvao ?_; intro v oa ho) | (refine efBnn ?_; intro n hn) | (refine efB ?_) | (refine efBS ?_) | (refine wl_skip rfl rfl ?_) | ((with_reducible refine wc_seq ?_); intro K hK) | (refine auC ?_) | (refine wc_cond rfl (fun hc => ?_) (fun hc => ?_)) | (refine wc_draw (by kernel_rfl) (by kernel_rfl) (by decide +kernel) ?_; intro w0 hw0 hm0; (try simp only [List.append_eq, List.cons_append, List.nil_append])) | (refine auP ?_) | ((refine auR ?_); clear hK K) | (refine auR ?_) | ((with_reducible refine hK _ _ ?_); clear hK K) | fail)
        exact ⟨(i + 1, v, _, oa), wrOk_step hok hx hbody ho (by simp [headL, c1, c2]) (by omega), by dsimp only; omega, Fits.of ⟨rfl, rfl, rfl, rfl, rfl, trivial⟩ (.skip (SubL.headA _ _)) rfl⟩
  · obtain rfl : i = l.length := by omega
    have t1 : decide ((l.length : Int) < (l.length : Int)) = false := decide_eq_false (by omega)
    rw [List.take_length] at ho
    clear hall hf h hok
    repeat' (first | (refine wlS ?_) | (refine wlB ?_) | (refine wlE ?_) | (refine efSvao ?_; intro v oa ho) | (refine efBnn ?_; intro n hn) | (refine efB ?_) | (refine efBS ?_) | (refine wl_skip rfl rfl ?_) | ((with_reducible refine wc_seq ?_); intro K hK) | (refine auC ?_) | (refine wc_cond rfl (fun hc => ?_) (fun hc => ?_)) | (refine wc_draw (by kernel_rfl) (by kernel_rfl) (by decide +kernel) ?_; intro w0 hw0 hm0; (try simp only [List.append_eq, List.cons_append, List.nil_append])) | (refine auP ?_) | ((refine auR ?_); clear hK K) | (refine auR ?_) | ((with_reducible refine hK _ _ ?_); clear hK K) | fail)
    first | refine end_ret (ResP.tmp rfl (ResP.tmp rfl ResP.nil)) ?_ | refine end_normal (ResP.tmp rfl (ResP.tmp rfl ResP.nil)) ?_
    (try dsimp only [tupV])
    exact ⟨_, _, rfl, by rw [ho.ok.len]; exact ho, SubL.refl _⟩
/-- What is too large is not written. -/
theorem firstBig : ∀ {l : List It}, ¬ (∀ x ∈ l, x.2.2.length ≤ 4096) → ∃ k x, l[k]? = some x ∧ 4096 < x.2.2.length ∧ ∀ y ∈ l.take k, y.2.2.length ≤ 4096
  | [], h => absurd (fun x hx => by cases hx) h
  | a :: r, h => by
    by_cases ha : a.2.2.length ≤ 4096
    · obtain ⟨k, x, h1, h2, h3⟩ := firstBig (l := r) fun hr => h fun x hx => by
        rcases List.mem_cons.1 hx with rfl | hx
        · exact ha
        · exact hr x hx
      refine ⟨k + 1, x, by rw [List.getElem?_cons_succ]; exact h1, h2, fun y hy => ?_⟩
      rw [List.take_succ_cons] at hy
      rcases List.mem_cons.1 hy with rfl | hy
      · exact ha
      · exact h3 y hy
    · exact ⟨0, a, rfl, by omega, by simp⟩
set_option maxHeartbeats 8000000 in
theorem write_no (w : World) {v : Value} {l : List It} (h : Its w v l) (hll : l.length ≤ 1152921504606846976) (hf : ¬ fitsL (itP l)) : Calls Tryd.prog 16 [v].toArray w (Ret (.tuple #[.slice none 0 0, .int .i64 2]) w) := by
  haveI := h.cs.old
  by_cases hlen : l.length ≤ 200
  · obtain ⟨k, xk, hk, hbig, hsm⟩ := firstBig (l := l) fun hh => hf ⟨by simpa using hlen, fun x hx => by
      obtain ⟨y, hy, rfl⟩ := List.mem_map.1 hx
      exact hh y hy⟩
    have hkl : k < l.length := (List.getElem?_eq_some_iff.1 hk).1
    have t0 : decide ((l.length : Int) > 200) = false := decide_eq_false (by omega)
    refine fn_ret (N := _) Tryd.func16 rfl Tryd.ntmps16 Tryd.results16 (by simp) ?_
    simp only [initS, Nat.reduceAdd, Nat.zero_add]
    repeat' (first | (refine wlS ?_) | (refine wlB ?_) | (refine wlE ?_) | (refine efSvao ?_; intro v oa ho) | (refine efBnn ?_; intro n hn) | (refine efB ?_) | (refine efBS ?_) | (refine wl_skip rfl rfl ?_) | ((with_reducible refine wc_seq ?_); intro K hK) | (refine auC ?_) | (refine wc_cond rfl (fun hc => ?_) (fun hc => ?_)) | (refine wc_draw (by kernel_rfl) (by kernel_rfl) (by decide +kernel) ?_; intro w0 hw0 hm0; (try simp only [List.append_eq, List.cons_append, List.nil_append])) | (refine auP ?_) | ((refine auR ?_); clear hK K) | (refine auR ?_) | ((with_reducible refine hK _ _ ?_); clear hK K) | fail)
    refine wc_loop (σ := Nat × Value × Nat × Blks) (fun x => [(0, v), (4, x.2.1), (11, v), (12, .int .i64 (l.length : Int)), (13, .int .i64 (x.1 : Int))]) (fun x => x.2.2.2)
      (fun x => x.1 ≤ k ∧ WrOkL l x) (fun x => l.length - x.1) (0, .slice none 0 0, 0, []) ⟨Nat.zero_le _, Nat.zero_le _, by simp, Nat.le_refl _, ⟨OwnL.nil _ _, BL.nil⟩⟩ (Fits.of ⟨rfl, rfl, rfl, rfl, rfl, trivial⟩ .nil rfl) ?_
    rintro ⟨i, v4, n, oa⟩ ⟨hik, hok⟩
    have hok' := hok
    obtain ⟨hi, hall, hn, ho⟩ := hok'
    dsimp only at hik hi hall hn ho
    have hlt : i < l.length := by omega
    obtain ⟨x, hx⟩ : ∃ x, l[i]? = some x := ⟨l[i], List.getElem?_eq_getElem hlt⟩
    obtain ⟨tag, bv, p⟩ := x
    have hmem := List.mem_of_getElem? hx
    have htag : tag < 256 := h.tag _ hmem
    haveI : CsB (Old w []) bv p.length p := (h.body _ hmem).old
    have hget := itsC_get hx
    have t1 : decide ((i : Int) < (l.length : Int)) = true := decide_eq_true (by omega)
    have hi1 : IntKind.i64.wrap ((i : Int) + 1) = ((i + 1 : Nat) : Int) := wrap_i64 _ (by omega) (by omega)
    dsimp only at hget
    by_cases hbody : p.length ≤ 4096
    · have t2 : decide ((p.length : Int) > 4096) = false := decide_eq_false (by omega)
      have hne : i ≠ k := fun e => by
        subst e
        rw [hk] at hx
        cases hx
        dsimp only at hbig
        omega
      by_cases c1 : p.length < 128
      · have t3 : decide ((p.length : Int) < 128) = true := decide_eq_true (by omega)
        have w1 : IntKind.u8.wrap (p.length : Int) = (p.length : Int) := wrap_u8 _ (by omega) (by omega)
        clear hall hf h
        repeat' (first | (refine wlS ?_) | (refine wlB ?_) | (refine wlE ?_) | (refine efSvao ?_; intro v oa ho) | (refine efBnn ?_; intro n hn) | (refine efB ?_) | (refine efBS ?_) | (refine wl_skip rfl rfl ?_) | ((with_reducible refine wc_seq ?_); intro K hK) | (refine auC ?_) | (refine wc_cond rfl (fun hc => ?_) (fun hc => ?_)) | (refine wc_draw (by kernel_rfl) (by kernel_rfl) (by decide +kernel) ?_; intro w0 hw0 hm0; (try simp only [List.append_eq, List.cons_append, List.nil_append])) | (refine auP ?_) | ((refine auR ?_); clear hK K) | (refine auR ?_) | ((with_reducible refine hK _ _ ?_); clear hK K) | fail)
        exact ⟨(i + 1, v, _, oa), ⟨by dsimp only; omega, wrOk_step hok hx hbody ho (by simp [headL, c1]) (by omega)⟩, by dsimp only; omega, Fits.of ⟨rfl, rfl, rfl, rfl, rfl, trivial⟩ (.skip (SubL.headA _ _)) rfl⟩
      · have t3 : decide ((p.length : Int) < 128) = false := decide_eq_false (by omega)
        by_cases c2 : p.length < 256
        · have t4 : decide ((p.length : Int) < 256) = true := decide_eq_true (by omega)
          have w1 : IntKind.u8.wrap (p.length : Int) = (p.length : Int) := wrap_u8 _ (by omega) (by omega)
          clear hall hf h
          repeat' (first | (refine wlS ?_) | (refine wlB ?_) | (refine wlE ?_) | (refine efSvao ?_; intro v oa ho) | (refine efBnn ?_; intro n hn) | (refine efB ?_) | (refine efBS ?_) | (refine wl_skip rfl rfl ?_) | ((with_reducible refine wc_seq ?_); intro K hK) | (refine auC ?_) | (refine wc_cond rfl (fun hc => ?_) (fun hc => ?_)) | (refine wc_draw (by kernel_rfl) (by kernel_rfl) (by decide +kernel) ?_; intro w0 hw0 hm0; (try simp only [List.append_eq, List.cons_append, List.nil_append])) | (refine auP ?_) | ((refine auR ?_); clear hK K) | (refine auR ?_) | ((with_reducible refine hK _ _ ?_); clear hK K) | fail)
          exact ⟨(i + 1, v, _, oa), ⟨by dsimp only; omega, wrOk_step hok hx hbody ho (by simp [headL, c1, c2]) (by omega)⟩, by dsimp only; omega, Fits.of ⟨rfl, rfl, rfl, rfl, rfl, trivial⟩ (.skip (SubL.headA _ _)) rfl⟩
        · have t4 : decide ((p.length : Int) < 256) = false := decide_eq_false (by omega)
          have w0 : (p.length : Int) / 2 ^ (min ((8 : Int).toNat) IntKind.i64.bits) = ((p.length / 256 : Nat) : Int) := rfl
          have w1 : IntKind.u8.wrap ((p.length / 256 : Nat) : Int) = ((p.length / 256 % 256 : Nat) : Int) := wrapB _
          have w2 : IntKind.u8.wrap (p.length : Int) = ((p.length % 256 : Nat) : Int) := wrapB _
          clear hall hf h
          repeat' (first | (refine wlS ?_) | (refine wlB ?_) | (refine wlE ?_) | (refine efSvao ?_; intro v oa ho) | (refine efBnn ?_; intro n hn) | (refine efB ?_) | (refine efBS ?_) | (refine wl_skip rfl rfl ?_) | ((with_reducible refine wc_seq ?_); intro K hK) | (refine auC ?_) | (refine wc_cond rfl (fun hc => ?_) (fun hc => ?_)) | (refine wc_draw (by kernel_rfl) (by kernel_rfl) (by decide +kernel) ?_; intro w0 hw0 hm0; (try simp only [List.append_eq, List.cons_append, List.nil_append])) | (refine auP ?_) | ((refine auR ?_); clear hK K) | (refine auR ?_) | ((with_reducible refine hK _ _ ?_); clear hK K) | fail)
          exact ⟨(i + 1, v, _, oa), ⟨by dsimp only; omega, wrOk_step hok hx hbody ho (by simp [headL, c1, c2]) (by omega)⟩, by dsimp only; omega, Fits.of ⟨rfl, rfl, rfl, rfl, rfl, trivial⟩ (.skip (SubL.headA _ _)) rfl⟩
    · have t2 : decide ((p.length : Int) > 4096) = true := decide_eq_true (by omega)
      clear hall hf h hok ho
      repeat' (first | (refine wlS ?_) | (refine wlB ?_) | (refine wlE ?_) | (refine efSvao ?_; intro v oa ho) | (refine efBnn ?_; intro n hn) | (refine efB ?_) | (refine efBS ?_) | (refine wl_skip rfl rfl ?_) | ((with_reducible refine wc_seq ?_); intro K hK) | (refine auC ?_) | (refine wc_cond rfl (fun hc => ?_) (fun hc => ?_)) | (refine wc_draw (by kernel_rfl) (by kernel_rfl) (by decide +kernel) ?_; intro w0 hw0 hm0; (try simp only [List.append_eq, List.cons_append, List.nil_append])) | (refine auP ?_) | ((refine auR ?_); clear hK K) | (refine auR ?_) | ((with_reducible refine hK _ _ ?_); clear hK K) | fail)
      first | refine end_ret (ResP.tmp rfl (ResP.tmp rfl ResP.nil)) ?_ | refine end_normal (ResP.tmp rfl (ResP.tmp rfl ResP.nil)) ?_
      first | rfl | (show _ = _; rfl) | (simp only [tupV, *]; done)
  · have t0 : decide ((l.length : Int) > 200) = true := decide_eq_true (by omega)
    clear hf h
    refine fn_ret (N := _) Tryd.func16 rfl Tryd.ntmps16 Tryd.results16 (by simp) ?_
    simp only [initS, Nat.reduceAdd, Nat.zero_add]
    repeat' (first | (refine wlS ?_) | (refine wlB ?_) | (refine wlE ?_) | (refine efSvao ?_; intro v oa ho) | (refine efBnn ?_; intro n hn) | (refine efB ?_) | (refine efBS ?_) | (refine wl_skip rfl rfl ?_) | ((with_reducible refine wc_seq ?_); intro K hK) | (refine auC ?_) | (refine wc_cond rfl (fun hc => ?_) (fun hc => ?_)) | (refine wc_draw (by kernel_rfl) (by kernel_rfl) (by decide +kernel) ?_; intro w0 hw0 hm0; (try simp only [List.append_eq, List.cons_append, List.nil_append])) | (refine auP ?_) | ((refine auR ?_); clear hK K) | (refine auR ?_) | ((with_reducible refine hK _ _ ?_); clear hK K) | fail)
    first | refine end_ret (ResP.tmp rfl (ResP.tmp rfl ResP.nil)) ?_ | refine end_normal (ResP.tmp rfl (ResP.tmp rfl ResP.nil)) ?_
    first | rfl | (show _ = _; rfl) | (simp only [tupV, *]; done)
end Go.Proofs.YtlpalhagndmpjaaDoor
namespace Go.Proofs.YtlpalhagndmpjaaDoor
open Go.RowKit
attribute [local irreducible] rwA bys iw
set_option linter.unusedVariables false
set_option maxRecDepth 100000
set_option linter.unusedSimpArgs false
instance : ByL z32L := ⟨fun x hx => by rw [(List.mem_replicate.1 hx).2]; decide⟩
instance : NBy z32L 32 := ⟨by simp [z32L]⟩
set_option maxRecDepth 100000 in
instance : ZG Tryd.prog 42 (sgR (.slice none 0 0) z32L (.slice none 0 0) 0) := ⟨by kernel_rfl, inferInstance⟩
set_option maxHeartbeats 8000000 in
theorem read_t (w : World) (hT : Tab w) (w' : World) (hb : Below w.heap.size w w') {tv kv : Value} {m nk : Nat} {p key : List Nat} (ht : Cb w' tv m p) (hk : Cb w' kv nk key) (hm : m ≤ 1073741824) :
    Calls Tryd.prog 8 [tv, kv].toArray w' (RetO (fun v : Value => .tuple #[v, .int .i64 ((rdT key p).n : Int), .int .i64 ((rdT key p).e : Int)]) (fun v oa => OwnLL 22 v (rdT key p).recs oa) w') := by
  obtain ⟨pk, ck, rfl, _, _, _⟩ := hk.cs.ln.out
  have AL := fun w'' (h1 : Below w'.heap.size w' w'') {g : Nat} => all_t w' (hT.below hb) hk ht hm w'' h1 (g := g)
  have i1 := ht.old
  have i2 := hk.old
  clear hT hb ht hk
  generalize rdT key p = R at *
  refine fn_own (N := _) Tryd.func8 rfl Tryd.ntmps8 Tryd.results8 (by simp) ?_
  simp only [initS, Nat.reduceAdd, Nat.zero_add]
  repeat' (first | (refine wlS ?_) | (refine wlG ?_) | (refine wlB ?_) | (refine wlE ?_) | (refine efSvao ?_; intro v oa ho) | ((with_reducible refine sel_call ?_); first | (refine wl_updPO rfl rfl rfl rfl rfl (fun w hm hw => by with_reducible exact AL w (hm.below rfl) hw (Mem.freshK hm)) (by intro _; repeat (first | exact At.here | apply At.there | apply At.skipA)) ?_; intro x c oa hx)) | (refine efBnn ?_; intro n hn) | (refine wl_skip rfl rfl ?_) | (refine wdS ?_) | (refine wdG ?_) | (refine wdV ?_) | (refine wdB ?_) | (refine wd_skip rfl rfl ?_) | ((with_reducible refine seld_nil ?_); refine wd_nil hm0 ?_; clear hm0 hw0) | ((with_reducible refine wc_seq ?_); intro K hK) | (refine auC ?_) | (refine wc_cond rfl (fun hc => ?_) (fun hc => ?_)) | (refine wc_draw (by kernel_rfl) (by kernel_rfl) (by decide +kernel) ?_; intro w0 hw0 hm0; (try simp only [List.append_eq, List.cons_append, List.nil_append])) | (refine auP ?_) | ((refine auR ?_); clear hK K) | (refine auR ?_) | ((with_reducible refine hK _ _ ?_); clear hK K) | fail)
  obtain ⟨rfl, rv, rfl, hll, hnb, hby⟩ := hx
  haveI : One rv := by obtain ⟨_, _, rfl, _⟩ := hll.is.ln.out; exact ⟨rfl⟩
  repeat' (first | (refine wlS ?_) | (refine wlG ?_) | (refine wlB ?_) | (refine wlE ?_) | (refine efSvao ?_; intro v oa ho) | (refine efBnn ?_; intro n hn) | (refine wl_skip rfl rfl ?_) | (refine wdS ?_) | (refine wdG ?_) | (refine wdV ?_) | (refine wdB ?_) | (refine wd_skip rfl rfl ?_) | ((with_reducible refine seld_nil ?_); refine wd_nil hm0 ?_; clear hm0 hw0) | ((with_reducible refine wc_seq ?_); intro K hK) | (refine auC ?_) | (refine wc_cond rfl (fun hc => ?_) (fun hc => ?_)) | (refine wc_draw (by kernel_rfl) (by kernel_rfl) (by decide +kernel) ?_; intro w0 hw0 hm0; (try simp only [List.append_eq, List.cons_append, List.nil_append])) | (refine auP ?_) | ((refine auR ?_); clear hK K) | (refine auR ?_) | ((with_reducible refine hK _ _ ?_); clear hK K) | fail)
  first | refine end_ret (ResP.tmp rfl (ResP.tmp rfl (ResP.tmp rfl ResP.nil))) ?_ | refine end_normal (ResP.tmp rfl (ResP.tmp rfl (ResP.tmp rfl ResP.nil))) ?_
  (try dsimp only [tupV])
  exact ⟨_, _, rfl, hll, .skip (SubL.refl _)⟩
theorem csb_blk {n k : Nat} {p : List Nat} {e : Nat} (h : BLc k p) : CsB (Hd [(n, (bys p, e))]) (.slice (some ⟨n, 0, none⟩) k k) k p :=
  ⟨⟨⟨_, _, rfl, Nat.le_refl _, by have := h.small; simp only [maxLen]; omega, fun _ => ⟨n, 0, rfl⟩⟩, fun w hd => ⟨⟨_, _, rfl, Nat.le_refl _, by have := h.small; simp only [maxLen]; omega, fun _ => ⟨n, 0, rfl⟩⟩, fun j u hj => ⟨n, 0, k, rfl, cell_of (hd (n, (bys p, e)) (by simp)) (by rw [Nat.zero_add, bys, List.getElem?_toArray]; exact hj)⟩⟩⟩, h.out⟩
/-- One item of the walk's own. -/
theorem IsF.one {Φ Ψ : World → Prop} {v b : Value} {t n : Nat} {q : List Nat} (h : CsF Φ v 1 [.int .u8 (t : Int), b]) (h' : CsB Ψ b n q) (ht : t < 256) : IsF (fun w => Φ w ∧ Ψ w) v [(t, b, q)] :=
  ⟨⟨h.ln, fun w hw => h.out w hw.1⟩, fun w hw => ⟨h.out w hw.1, fun x hx => by simp only [List.mem_singleton] at hx; subst hx; exact ht, fun x hx => by
    simp only [List.mem_singleton] at hx
    subst hx
    obtain rfl : n = q.length := h'.ok.len.symm
    exact ⟨h'.cs.out w hw.2, h'.ok⟩⟩⟩
instance {X : Cx} {l : Blks} {Φ Ψ : World → Prop} [h : Hold X l Φ] [h' : Hold X l Ψ] : Hold X l (fun w => Φ w ∧ Ψ w) := ⟨fun w hm => ⟨h.out w hm, h'.out w hm⟩⟩
set_option maxHeartbeats 8000000 in
theorem append_t (w : World) (hT : Tab w) (w' : World) (hb : Below w.heap.size w w') {tv kv rv : Value} {m nk nr : Nat} {p key rec : List Nat} (ht : Cb w' tv m p) (hk : Cb w' kv nk key) (hr : Cb w' rv nr rec) (hm : m ≤ 1073741824) :
    Calls Tryd.prog 11 [tv, kv, rv].toArray w' (RetO (fun v : Value => .tuple #[v, .int .i64 ((appT key p rec).1 : Int)]) (fun v oa => OwnB 5 v (appT key p rec).2.length (appT key p rec).2 oa) w') := by
  obtain ⟨pk, ck, rfl, _, _, _⟩ := hk.cs.ln.out
  have i1 := ht.old
  have i2 := hk.old
  have i3 := hr.old
  have hrl := hr.ok.len
  by_cases hbig : nr > 4064
  · have t1 : decide ((nr : Int) > 4064) = true := decide_eq_true (by omega)
    have e : appT key p rec = (2, []) := by rw [appT, if_pos (by omega)]
    rw [e]
    clear hT hb ht hk hr
    refine fn_own (N := _) Tryd.func11 rfl Tryd.ntmps11 Tryd.results11 (by simp) ?_
    simp only [initS, Nat.reduceAdd, Nat.zero_add]
    repeat' (first | (refine wlS ?_) | (refine wlB ?_) | (refine wlE ?_) | (refine efSvvp ?_; intro v hv hp) | (refine efSvao ?_; intro v oa ho) | (refine efBnn ?_; intro n hn) | (refine efB ?_) | (refine efBS ?_) | (refine wl_skip rfl rfl ?_) | ((with_reducible refine wc_seq ?_); intro K hK) | (refine auC ?_) | (refine wc_cond rfl (fun hc => ?_) (fun hc => ?_)) | (refine wc_draw (by kernel_rfl) (by kernel_rfl) (by decide +kernel) ?_; intro w0 hw0 hm0; (try simp only [List.append_eq, List.cons_append, List.nil_append])) | (refine auP ?_) | ((refine auR ?_); clear hK K) | (refine auR ?_) | ((with_reducible refine hK _ _ ?_); clear hK K) | fail)
    first | refine end_ret (ResP.tmp rfl (ResP.tmp rfl ResP.nil)) ?_ | refine end_normal (ResP.tmp rfl (ResP.tmp rfl ResP.nil)) ?_
    (try dsimp only [tupV])
    exact ⟨_, _, rfl, ⟨OwnL.nil _ _, BL.nil⟩, .nil⟩
  have t1 : decide ((nr : Int) > 4064) = false := decide_eq_false (by omega)
  have AL := fun w'' (h1 : Below w'.heap.size w' w'') {g : Nat} => all_t w' (hT.below hb) hk ht hm w'' h1 (g := g)
  have MK : ∀ {last : List Nat} {rv' : Value} {at' g : Nat} [NBy last 32] [ByL last] [One rv'] w'', Below w'.heap.size w' w'' → w''.heap[g]? = some (.cells (rwA (sgR (.slice pk nk ck) last rv' at')) 42) → 
    Calls Tryd.prog 15 [ptr g, rv].toArray w'' (Ret (.agg (bys (mkT key last rec))) w'') := fun w'' h1 h2 => mark_t w' (hT.below hb) w'' h1 h2 (hk.below h1) (hr.below h1)
  have CL : ∀ w' {v : Value} {k : Nat} {q : List Nat}, Cb w' v k q → k ≤ 1099511627776 → Calls Tryd.prog 17 [v].toArray w' (RetO (fun u => u) (fun u oa => OwnB 5 u k q oa) w') := fun w' {v k q} h hk => clone_b w' h hk
  have WR := fun w'' {v b : Value} {q : List Nat} (h : Its w'' v [(1, b, q)]) (hq : q.length ≤ 4096) => write_ok w'' h (by exact ⟨by simp, by simpa [It.p] using hq⟩)
  have hn := (rd_back key ht.ok.by').2.1
  have hpl := ht.ok.len
  have hap : appT key p rec = if (rdT key p).n + (recT key (rdT key p).last rec).length > 65536 then (2, []) else (0, p.take (rdT key p).n ++ recT key (rdT key p).last rec) := by rw [appT, if_neg (by omega)]
  obtain ⟨T, hTT⟩ : ∃ T, T = appT key p rec := ⟨_, rfl⟩
  rw [← hTT] at hap ⊢
  clear hTT hT hb ht hk hr
  generalize rdT key p = R at *
  obtain ⟨B, hB⟩ : ∃ B, B = recT key R.last rec := ⟨_, rfl⟩
  rw [← hB] at hap
  have hBl : B.length ≤ 4100 := by rw [hB]; have := (recT_len key R.last rec).1; omega
  rw [recT_def] at hB
  refine fn_own (N := _) Tryd.func11 rfl Tryd.ntmps11 Tryd.results11 (by simp) ?_
  simp only [initS, Nat.reduceAdd, Nat.zero_add]
  repeat' (first | (refine wlS ?_) | (refine wlG ?_) | (refine wlB ?_) | (refine wlE ?_) | (refine efSvvp ?_; intro v hv hp) | (refine efSvao ?_; intro v oa ho) | (refine efG ?_) | (refine efGnn ?_; intro n hn) | ((with_reducible refine sel_call ?_); first | (refine wl_updPO rfl rfl rfl rfl rfl (fun w hm hw => by with_reducible exact AL w (hm.below rfl) hw (Mem.freshK hm)) (by intro _; repeat (first | exact At.here | apply At.there | apply At.skipA)) ?_; intro x c oa hx)) | (refine efBnn ?_; intro n hn) | (refine efB ?_) | (refine efBS ?_) | (refine wl_skip rfl rfl ?_) | ((with_reducible refine wc_seq ?_); intro K hK) | (refine auC ?_) | (refine wc_cond rfl (fun hc => ?_) (fun hc => ?_)) | (refine wc_draw (by kernel_rfl) (by kernel_rfl) (by decide +kernel) ?_; intro w0 hw0 hm0; (try simp only [List.append_eq, List.cons_append, List.nil_append])) | (refine auP ?_) | ((refine auR ?_); clear hK K) | (refine auR ?_) | ((with_reducible refine hK _ _ ?_); clear hK K) | fail)
  obtain ⟨rfl, rw', rfl, hll, hnb, hby⟩ := hx
  haveI : One rw' := by obtain ⟨_, _, rfl, _⟩ := hll.is.ln.out; exact ⟨rfl⟩
  haveI : BLc 32 (mkT key R.last rec) := ⟨⟨mkT_len _ _ _, mkT_byte _ _ _⟩, by decide⟩
  repeat' (first | (refine wlS ?_) | (refine wlG ?_) | (refine wlB ?_) | ((with_reducible refine sel_call ?_); refine wl_rd rfl rfl (rd_call rfl rfl rfl (fun w hm => by with_reducible exact MK w (hm.below rfl) (Has.sees hm))) ?_) | (refine wlE ?_) | (refine efSvvp ?_; intro v hv hp) | (refine efSvao ?_; intro v oa ho) | (refine efG ?_) | (refine efGnn ?_; intro n hn) | (refine efZCnn ?_; intro n hn) | (refine efBnn ?_; intro n hn) | (refine efB ?_) | (refine efBS ?_) | (refine wl_skip rfl rfl ?_) | ((with_reducible refine wc_seq ?_); intro K hK) | (refine auC ?_) | (refine wc_cond rfl (fun hc => ?_) (fun hc => ?_)) | (refine wc_draw (by kernel_rfl) (by kernel_rfl) (by decide +kernel) ?_; intro w0 hw0 hm0; (try simp only [List.append_eq, List.cons_append, List.nil_append])) | (refine auP ?_) | ((refine auR ?_); clear hK K) | (refine auR ?_) | ((with_reducible refine hK _ _ ?_); clear hK K) | fail)
  rcases Nat.eq_zero_or_pos nr with h0 | h0
  · subst h0
    obtain rfl : rec = [] := List.eq_nil_of_length_eq_zero hrl
    repeat' (first | (refine wlS ?_) | (refine wlG ?_) | (refine wlB ?_) | ((with_reducible refine sel_call ?_); refine wv rfl rfl (rd_appendN rfl rfl rfl) ?_) | (refine wlE ?_) | (refine efSvvp ?_; intro v hv hp) | (refine efSvao ?_; intro v oa ho) | (refine efG ?_) | (refine efGnn ?_; intro n hn) | (refine efBnn ?_; intro n hn) | (refine efB ?_) | (refine efBS ?_) | (refine wl_skip rfl rfl ?_) | ((with_reducible refine wc_seq ?_); intro K hK) | (refine auC ?_) | (refine wc_cond rfl (fun hc => ?_) (fun hc => ?_)) | (refine wc_draw (by kernel_rfl) (by kernel_rfl) (by decide +kernel) ?_; intro w0 hw0 hm0; (try simp only [List.append_eq, List.cons_append, List.nil_append])) | (refine auP ?_) | ((refine auR ?_); clear hK K) | (refine auR ?_) | ((with_reducible refine hK _ _ ?_); clear hK K) | fail)
    haveI hF : IsF _ v [(1, .slice (some ⟨n, 0, none⟩) 32 32, mkT key R.last [])] := IsF.one (t := 1) (OwnL.cs (h := ho)) (csb_blk (n := n) (e := 40) (by assumption)) (by decide)
    have hB' : B = wrL (itP [(1, .slice (some ⟨n, 0, none⟩) 32 32, mkT key R.last [])]) := by rw [hB, List.append_nil]; exact (wrL_one _).symm
    have WR1 := fun w'' (h : Its w'' v [(1, .slice (some ⟨n, 0, none⟩) 32 32, mkT key R.last [])]) => WR w'' h (by rw [mkT_len]; decide)
    rw [← hB'] at WR1
    by_cases hbb : R.n + B.length > 65536
    · have t2 : decide (((R.n + B.length : Nat) : Int) > 65536) = true := decide_eq_true (by omega)
      have k2 : IntKind.i64.wrap ((R.n : Int) + (B.length : Int)) = ((R.n + B.length : Nat) : Int) := by rw [wrap_i64 _ (by omega) (by omega)]; omega
      rw [if_pos hbb] at hap
      subst hap
      clear MK CL WR
      repeat' (first | (refine wlS ?_) | (refine wlG ?_) | (refine wlB ?_) | (refine wlE ?_) | (refine efSvvp ?_; intro v hv hp) | (refine efSvao ?_; intro v oa ho) | (refine efG ?_) | (refine efGnn ?_; intro n hn) | ((with_reducible refine sel_call ?_); first | (refine wl_newO rfl rfl rfl rfl rfl (fun w hm => by with_reducible exact WR1 w (VwI.out w hm)) ?_; intro x oa hx)) | (refine efBnn ?_; intro n hn) | (refine efB ?_) | (refine efBS ?_) | (refine wl_skip rfl rfl ?_) | ((with_reducible refine wc_seq ?_); intro K hK) | (refine auC ?_) | (refine wc_cond rfl (fun hc => ?_) (fun hc => ?_)) | (refine wc_draw (by kernel_rfl) (by kernel_rfl) (by decide +kernel) ?_; intro w0 hw0 hm0; (try simp only [List.append_eq, List.cons_append, List.nil_append])) | (refine auP ?_) | ((refine auR ?_); clear hK K) | (refine auR ?_) | ((with_reducible refine hK _ _ ?_); clear hK K) | fail)
      first | refine end_ret (ResP.tmp rfl (ResP.tmp rfl ResP.nil)) ?_ | refine end_normal (ResP.tmp rfl (ResP.tmp rfl ResP.nil)) ?_
      (try dsimp only [tupV])
      exact ⟨_, _, rfl, ⟨OwnL.nil _ _, BL.nil⟩, .nil⟩
    · have t2 : decide (((R.n + B.length : Nat) : Int) > 65536) = false := decide_eq_false (by omega)
      have k2 : IntKind.i64.wrap ((R.n : Int) + (B.length : Int)) = ((R.n + B.length : Nat) : Int) := by rw [wrap_i64 _ (by omega) (by omega)]; omega
      rw [if_neg hbb] at hap
      subst hap
      have d2 : (p.drop 0).take (R.n - 0) = p.take R.n := rfl
      have CL1 := fun w' {v : Value} (h : Cb w' v R.n (p.take R.n)) => CL w' h (by omega)
      clear MK CL WR
      repeat' (first | (refine wlS ?_) | (refine wlG ?_) | (refine wlB ?_) | (refine wlE ?_) | (refine efSvvp ?_; intro v hv hp) | (refine efSvao ?_; intro v oa ho) | (refine efG ?_) | (refine efGnn ?_; intro n hn) | ((with_reducible refine sel_call ?_); first | (refine wl_newO rfl rfl rfl rfl rfl (fun w hm => by with_reducible exact WR1 w (VwI.out w hm)) ?_; intro x oa hx) | (refine wl_newO rfl rfl rfl rfl rfl (fun w hm => by with_reducible exact CL1 w (VwB.out w hm)) ?_; intro x oa hx)) | (refine efBnn ?_; intro n hn) | (refine efB ?_) | (refine efBS ?_) | (refine wl_skip rfl rfl ?_) | ((with_reducible refine wc_seq ?_); intro K hK) | (refine auC ?_) | (refine wc_cond rfl (fun hc => ?_) (fun hc => ?_)) | (refine wc_draw (by kernel_rfl) (by kernel_rfl) (by decide +kernel) ?_; intro w0 hw0 hm0; (try simp only [List.append_eq, List.cons_append, List.nil_append])) | (refine auP ?_) | ((refine auR ?_); clear hK K) | (refine auR ?_) | ((with_reducible refine hK _ _ ?_); clear hK K) | fail)
      first | refine end_ret (ResP.tmp rfl (ResP.tmp rfl ResP.nil)) ?_ | refine end_normal (ResP.tmp rfl (ResP.tmp rfl ResP.nil)) ?_
      (try dsimp only [tupV])
      have hlen : (p.take R.n ++ B).length = R.n + B.length := by rw [List.length_append, List.length_take]; omega
      refine ⟨v, _, rfl, (by show OwnB _ v (p.take R.n ++ B).length _ _; rw [hlen]; exact ho), ?_⟩
      repeat (first | exact SubL.nil | exact SubL.refl _ | refine SubL.keep ?_ | exact SubL.headA _ _ | refine SubL.keepA ?_ _ | refine SubL.skip ?_ | refine SubL.skipA ?_ _)
  · have q1 : ((nr : Int) + 32) * 1 ≤ 4096 := by omega
    repeat' (first | (refine wlS ?_) | (refine wlG ?_) | (refine wlB ?_) | (refine wlE ?_) | (refine efSvvp ?_; intro v hv hp) | (refine efSvao ?_; intro v oa ho) | (refine efG ?_) | (refine efGnn ?_; intro n hn) | (refine efAFvao ?_; intro v oa ho) | (refine efBnn ?_; intro n hn) | (refine efB ?_) | (refine efBS ?_) | (refine wl_skip rfl rfl ?_) | ((with_reducible refine wc_seq ?_); intro K hK) | (refine auC ?_) | (refine wc_cond rfl (fun hc => ?_) (fun hc => ?_)) | (refine wc_draw (by kernel_rfl) (by kernel_rfl) (by decide +kernel) ?_; intro w0 hw0 hm0; (try simp only [List.append_eq, List.cons_append, List.nil_append])) | (refine auP ?_) | ((refine auR ?_); clear hK K) | (refine auR ?_) | ((with_reducible refine hK _ _ ?_); clear hK K) | fail)
    rename_i v0 oa0 ho0
    haveI hF : IsF _ v [(1, v0, mkT key R.last rec ++ rec)] := IsF.one (t := 1) (OwnL.cs (h := ho)) (OwnB.csb (h := ho0)) (by decide)
    have hB' : B = wrL (itP [(1, v0, mkT key R.last rec ++ rec)]) := by rw [hB]; exact (wrL_one _).symm
    have WR1 := fun w'' (h : Its w'' v [(1, v0, mkT key R.last rec ++ rec)]) => WR w'' h (by rw [List.length_append, mkT_len]; omega)
    rw [← hB'] at WR1
    by_cases hbb : R.n + B.length > 65536
    · have t2 : decide (((R.n + B.length : Nat) : Int) > 65536) = true := decide_eq_true (by omega)
      have k2 : IntKind.i64.wrap ((R.n : Int) + (B.length : Int)) = ((R.n + B.length : Nat) : Int) := by rw [wrap_i64 _ (by omega) (by omega)]; omega
      rw [if_pos hbb] at hap
      subst hap
      clear MK CL WR
      repeat' (first | (refine wlS ?_) | (refine wlG ?_) | (refine wlB ?_) | (refine wlE ?_) | (refine efSvvp ?_; intro v hv hp) | (refine efSvao ?_; intro v oa ho) | (refine efG ?_) | (refine efGnn ?_; intro n hn) | ((with_reducible refine sel_call ?_); first | (refine wl_newO rfl rfl rfl rfl rfl (fun w hm => by with_reducible exact WR1 w (VwI.out w hm)) ?_; intro x oa hx)) | (refine efBnn ?_; intro n hn) | (refine efB ?_) | (refine efBS ?_) | (refine wl_skip rfl rfl ?_) | ((with_reducible refine wc_seq ?_); intro K hK) | (refine auC ?_) | (refine wc_cond rfl (fun hc => ?_) (fun hc => ?_)) | (refine wc_draw (by kernel_rfl) (by kernel_rfl) (by decide +kernel) ?_; intro w0 hw0 hm0; (try simp only [List.append_eq, List.cons_append, List.nil_append])) | (refine auP ?_) | ((refine auR ?_); clear hK K) | (refine auR ?_) | ((with_reducible refine hK _ _ ?_); clear hK K) | fail)
      first | refine end_ret (ResP.tmp rfl (ResP.tmp rfl ResP.nil)) ?_ | refine end_normal (ResP.tmp rfl (ResP.tmp rfl ResP.nil)) ?_
      (try dsimp only [tupV])
      exact ⟨_, _, rfl, ⟨OwnL.nil _ _, BL.nil⟩, .nil⟩
    · have t2 : decide (((R.n + B.length : Nat) : Int) > 65536) = false := decide_eq_false (by omega)
      have k2 : IntKind.i64.wrap ((R.n : Int) + (B.length : Int)) = ((R.n + B.length : Nat) : Int) := by rw [wrap_i64 _ (by omega) (by omega)]; omega
      rw [if_neg hbb] at hap
      subst hap
      have d2 : (p.drop 0).take (R.n - 0) = p.take R.n := rfl
      have CL1 := fun w' {v : Value} (h : Cb w' v R.n (p.take R.n)) => CL w' h (by omega)
      clear MK CL WR
      repeat' (first | (refine wlS ?_) | (refine wlG ?_) | (refine wlB ?_) | (refine wlE ?_) | (refine efSvvp ?_; intro v hv hp) | (refine efSvao ?_; intro v oa ho) | (refine efG ?_) | (refine efGnn ?_; intro n hn) | ((with_reducible refine sel_call ?_); first | (refine wl_newO rfl rfl rfl rfl rfl (fun w hm => by with_reducible exact WR1 w (VwI.out w hm)) ?_; intro x oa hx) | (refine wl_newO rfl rfl rfl rfl rfl (fun w hm => by with_reducible exact CL1 w (VwB.out w hm)) ?_; intro x oa hx)) | (refine efBnn ?_; intro n hn) | (refine efB ?_) | (refine efBS ?_) | (refine wl_skip rfl rfl ?_) | ((with_reducible refine wc_seq ?_); intro K hK) | (refine auC ?_) | (refine wc_cond rfl (fun hc => ?_) (fun hc => ?_)) | (refine wc_draw (by kernel_rfl) (by kernel_rfl) (by decide +kernel) ?_; intro w0 hw0 hm0; (try simp only [List.append_eq, List.cons_append, List.nil_append])) | (refine auP ?_) | ((refine auR ?_); clear hK K) | (refine auR ?_) | ((with_reducible refine hK _ _ ?_); clear hK K) | fail)
      first | refine end_ret (ResP.tmp rfl (ResP.tmp rfl ResP.nil)) ?_ | refine end_normal (ResP.tmp rfl (ResP.tmp rfl ResP.nil)) ?_
      (try dsimp only [tupV])
      have hlen : (p.take R.n ++ B).length = R.n + B.length := by rw [List.length_append, List.length_take]; omega
      refine ⟨v, _, rfl, (by show OwnB _ v (p.take R.n ++ B).length _ _; rw [hlen]; exact ho), ?_⟩
      repeat (first | exact SubL.nil | exact SubL.refl _ | refine SubL.keep ?_ | exact SubL.headA _ _ | refine SubL.keepA ?_ _ | refine SubL.skip ?_ | refine SubL.skipA ?_ _)
end Go.Proofs.YtlpalhagndmpjaaDoor
namespace Go.Proofs.YtlpalhagndmpjaaDoor
open Go.RowKit
set_option linter.unusedVariables false
set_option linter.unusedSimpArgs false
def strB (l : List Nat) : ByteArray := strOfNums (l.map fun k : Nat => (k : Int))
theorem strB_data (l : List Nat) : (strB l).data.toList = l.map UInt8.ofNat := by
  rw [strB, strOfNums_data, List.map_map]
  apply List.map_congr_left
  intro k _
  simp
theorem strB_size (l : List Nat) : (strB l).size = l.length := by rw [strB, strOfNums_size, List.length_map]
theorem ofNat_inj {a b : Nat} (ha : a < 256) (hb : b < 256) (h : UInt8.ofNat a = UInt8.ofNat b) : a = b := by
  have := congrArg UInt8.toNat h
  rwa [UInt8.toNat_ofNat', UInt8.toNat_ofNat', Nat.mod_eq_of_lt ha, Nat.mod_eq_of_lt hb] at this
theorem map_inj {p q : List Nat} (hp : ∀ x ∈ p, x < 256) (hq : ∀ x ∈ q, x < 256) (h : p.map UInt8.ofNat = q.map UInt8.ofNat) : p = q := by
  induction p generalizing q with
  | nil => cases q with
    | nil => rfl
    | cons b r => simp at h
  | cons a r ih => cases q with
    | nil => simp at h
    | cons b r' =>
      simp only [List.map_cons, List.cons.injEq] at h
      rw [ofNat_inj (hp a (by simp)) (hq b (by simp)) h.1, ih (fun x hx => hp x (by simp [hx])) (fun x hx => hq x (by simp [hx])) h.2]
theorem strB_inj {n m : Nat} {p q : List Nat} (hp : BL n p) (hq : BL m q) : strB p = strB q ↔ p = q := by
  refine ⟨fun h => ?_, fun h => by rw [h]⟩
  have h1 := congrArg (fun b => b.data.toList) h
  simp only [strB_data] at h1
  exact map_inj hp.by' hq.by' h1
theorem cs_string {P : Program} {w : World} {v : Value} {n src dst e : Nat} {p : List Nat} (hb : Cb w v n p) (hs : P.underlying src = some (.slice e)) (he : P.underlying e = some (.int .u8)) (hd : P.underlying dst = some .string) :
    (convert src dst v).run P w = .ok (.string (strB p)) w := by
  have hp := hb.ok
  have h := hb.cs
  clear hb
  obtain ⟨q, cap, rfl, h1, h2, h3⟩ := h.ln.out
  rcases Nat.eq_zero_or_pos n with h0 | h0
  · have hp0 : p = [] := List.eq_nil_of_length_eq_zero (by rw [hp.len, h0])
    subst hp0
    cases q with
    | none => rw [run_convert_bytes_nil w src e hs he n cap dst hd]; rfl
    | some a =>
      obtain ⟨b, off, spot⟩ := a
      have hl : (loadCells ⟨b, off, spot⟩ n).run P w = .ok (([] : List Int).map (Value.int .u8)).toArray w := by subst h0; simp [loadCells, loadCellsFrom]
      rw [run_convert_bytes_string w src dst e _ n cap hs he hd, run_bytesToString w _ n cap [] hl]
      rfl
  · obtain ⟨b, off, rfl⟩ := h3 h0
    refine run_convert_bytes_arg w src e hs he b off n cap (p.map fun k : Nat => (k : Int)) (by rw [List.length_map, hp.len]) (fun i hi => ?_) dst hd
    obtain ⟨b', off', cap', hv, hc⟩ := h.cell i (.int .u8 ((p.getD i 0 : Nat) : Int)) (bl_get (by rw [hp.len]; exact hi))
    injection hv with hv
    injection hv with hv
    injection hv with hb ho
    subst hb; subst ho
    rw [hc]
    have hi' : i < p.length := by rw [hp.len]; exact hi
    simp [List.getD, hi']
section
variable {X : Cx} {s : Slots} {l : Blks} {o : Oper} {v : Value}
theorem rd_convS {src dst e n : Nat} {x : Operand} {p : List Nat} (ho : o.op = .convert src dst x) (hx : val s x = some v) [hs : UT X.P src (.slice e)] [he : UT X.P e (.int .u8)] [hd : UT X.P dst .string] [hv : VwB X l v n p] : RdV X s l o (.string (strB p)) :=
  rd_val fun a w hev hm => by
    simp only [execOp, ho, hev.eval hx, Sem.run_bind, cs_string (hv.out w hm) hs.out he.out hd.out, Result.andThen_ok, Sem.run_pure]
theorem rd_eqlS {t yt : Nat} {x y : Operand} {a b : ByteArray} {r : Bool} (ho : o.op = .binOp .eql t x y yt) (hx : val s x = some (.string a)) (hy : val s y = some (.string b)) (hr : (a.toList == b.toList) = r := by first | (with_reducible assumption) | rfl) : RdV X s l o (.bool r) :=
  rd_val fun e w he hm => by
    subst hr
    simp only [execOp, ho, he.eval hx, he.eval hy, eqGuard]
    simp [binOp_string_eql]
end
theorem strB_beq {n m : Nat} {p q : List Nat} (hp : BL n p) (hq : BL m q) : ((strB p).toList == (strB q).toList) = (p == q) := by
  rw [Bool.eq_iff_iff, beq_iff_eq, beq_iff_eq, ← strB_inj hp hq, ByteArray.toList_eq, ByteArray.toList_eq]
  constructor
  · intro h
    cases h1 : strB p; cases h2 : strB q
    rw [h1, h2] at h
    congr 1
    exact Array.ext' h
  · intro h; rw [h]
set_option maxHeartbeats 1000000 in
set_option maxRecDepth 100000 in
theorem beq_c (w : World) {v u : Value} {n m : Nat} {p q : List Nat} (hv : Cb w v n p) (hu : Cb w u m q) : Calls Tryd.prog 12 [v, u].toArray w (Ret (.bool (p == q)) w) := by
  haveI := hv.old
  haveI := hu.old
  have hr := strB_beq hv.ok hu.ok
  refine fn_ret (N := _) Tryd.func12 rfl Tryd.ntmps12 Tryd.results12 (by simp) ?_
  simp only [initS, Nat.reduceAdd, Nat.zero_add]
  repeat' (first | (refine wlS ?_) | (refine wlB ?_) | (refine wl_skip rfl rfl ?_) | ((with_reducible refine wc_seq ?_); intro K hK) | (refine auC ?_) | (refine wc_cond rfl (fun hc => ?_) (fun hc => ?_)) | (refine wc_draw (by kernel_rfl) (by kernel_rfl) (by decide +kernel) ?_; intro w0 hw0 hm0; (try simp only [List.append_eq, List.cons_append, List.nil_append])) | (refine auP ?_) | ((refine auR ?_); clear hK K) | (refine auR ?_) | ((with_reducible refine hK _ _ ?_); clear hK K) | fail)
  first | refine end_ret (ResP.tmp rfl ResP.nil) ?_ | refine end_normal (ResP.tmp rfl ResP.nil) ?_
  first | rfl | (show _ = _; rfl) | (simp only [tupV, *]; done)
theorem beq_r (w : World) {v u : Value} {n m : Nat} {p q : List Nat} {r : Bool} (hv : Cb w v n p) (hu : Cb w u m q) (h : (p == q) = r) : Calls Tryd.prog 12 [v, u].toArray w (Ret (.bool r) w) := by
  rw [← h]; exact beq_c w hv hu
end Go.Proofs.YtlpalhagndmpjaaDoor
namespace Go.Proofs.YtlpalhagndmpjaaDoor
open Go.RowKit
attribute [local irreducible] rwA bys iw
set_option linter.unusedVariables false
set_option maxRecDepth 100000
set_option linter.unusedSimpArgs false
/-- They fit on a tape. -/
def fitsT (key : List Nat) (qs : List (List Nat)) : Prop := (∀ r ∈ qs, r.length ≤ 4064) ∧ (encT key z32L qs).length ≤ 65536
/-- Where each ends. -/
def endsC (key : List Nat) (qs : List (List Nat)) (i : Nat) : List Value := (List.range i).map fun j => .int .i64 (((encT key z32L (qs.take (j + 1))).length : Nat) : Int)
theorem endsC_succ (key : List Nat) (qs : List (List Nat)) (i : Nat) : endsC key qs (i + 1) = endsC key qs i ++ [.int .i64 (((encT key z32L (qs.take (i + 1))).length : Nat) : Int)] := by simp [endsC, List.range_succ]
theorem endsC_get (key : List Nat) (qs : List (List Nat)) {i j : Nat} (h : j < i) : (endsC key qs i)[j]? = some (.int .i64 (((encT key z32L (qs.take (j + 1))).length : Nat) : Int)) := by simp [endsC, h]
theorem encT_take (key : List Nat) {qs : List (List Nat)} {i : Nat} : (encT key z32L (qs.take i)).length ≤ (encT key z32L qs).length := by
  have := encT_app key (qs.take i) (qs.drop i) z32L
  rw [List.take_append_drop] at this
  rw [this, List.length_append]; omega
set_option maxHeartbeats 4000000 in
theorem sameTexts_t (w : World) {va vb : Value} {ps qs : List (List Nat)} {r : Bool} (h1 : ∃ xs, Cll w va ps.length xs ps) (h2 : ∃ xs, Cll w vb qs.length xs qs) (hr : (ps == qs) = r) (hs : ps.length ≤ 1099511627776) :
    Calls Tryd.prog 9 [va, vb].toArray w (Ret (.bool r) w) := by
  obtain ⟨xs, h1⟩ := h1
  obtain ⟨ys, h2⟩ := h2
  haveI i1 := h1.cs.old
  haveI i2 := h2.cs.old
  have hE := h1.el
  have hF := h2.el
  have hxl := h1.len
  have hyl := h2.len
  clear h1 h2
  by_cases hl : ps.length = qs.length
  · have t1 : ((ps.length : Int) != (qs.length : Int)) = false := by rw [hl]; simp
    have BE := fun w' {v u : Value} {n m : Nat} {p q : List Nat} {r : Bool} (hv : Cb w' v n p) (hu : Cb w' u m q) (h : (p == q) = r) => beq_r w' hv hu h
    refine fn_ret (N := _) Tryd.func9 rfl Tryd.ntmps9 Tryd.results9 (by simp) ?_
    simp only [initS, Nat.reduceAdd, Nat.zero_add]
    repeat' (first | (refine wlS ?_) | (refine wlB ?_) | (refine wlE ?_) | (refine efSvao ?_; intro v oa ho) | (refine wl_skip rfl rfl ?_) | (refine wdS ?_) | (refine wdV ?_) | (refine wdB ?_) | (refine wdE ?_) | (refine wd_skip rfl rfl ?_) | ((with_reducible refine seld_nil ?_); refine wd_nil hm0 ?_; clear hm0 hw0) | ((with_reducible refine wc_seq ?_); intro K hK) | (refine auC ?_) | (refine wc_cond rfl (fun hc => ?_) (fun hc => ?_)) | (refine wc_draw (by kernel_rfl) (by kernel_rfl) (by decide +kernel) ?_; intro w0 hw0 hm0; (try simp only [List.append_eq, List.cons_append, List.nil_append])) | (refine auP ?_) | ((refine auR ?_); clear hK K) | (refine auR ?_) | ((with_reducible refine hK _ _ ?_); clear hK K) | fail)
    refine wc_loop (σ := Nat) (fun i => [(0, va), (1, vb), (12, .int .i64 (ps.length : Int)), (13, .int .i64 (i : Int))]) (fun _ => []) (fun i => i ≤ ps.length ∧ ps.take i = qs.take i) (fun i => ps.length - i) 0 ⟨Nat.zero_le _, rfl⟩ (Fits.of ⟨rfl, rfl, rfl, rfl, trivial⟩ .nil rfl) ?_
    rintro i ⟨hi, ht⟩
    by_cases hlt : i < ps.length
    · have t2 : decide ((i : Int) < (ps.length : Int)) = true := decide_eq_true (by omega)
      have k1 : IntKind.i64.wrap ((i : Int) + 1) = ((i + 1 : Nat) : Int) := by rw [wrap_i64 _ (by omega) (by omega)]; omega
      have j1 : (i : Int) < (ps.length : Int) := by omega
      have j2 : (i : Int) < (qs.length : Int) := by omega
      obtain ⟨x, p, g1, g2, g3⟩ := hE.at (i := i) (by omega)
      obtain ⟨y, q, f1, f2, f3⟩ := hF.at (i := i) (by omega)
      haveI c1 := g3.old
      haveI c2 := f3.old
      by_cases hpq : p = q
      · subst hpq
        have hb : (p == p) = true := by simp
        have hn : ps.take (i + 1) = qs.take (i + 1) := by rw [List.take_add_one, List.take_add_one, ht, g2, f2]
        clear hE hF
        repeat' (first | (refine wlS ?_) | (refine wlB ?_) | ((with_reducible refine sel_call ?_); refine wl_rd rfl rfl (rd_call rfl rfl rfl (fun w hm => by with_reducible exact BE w (VwB.out w hm) (VwB.out w hm) (by with_reducible assumption))) ?_) | (refine wlE ?_) | (refine efSvao ?_; intro v oa ho) | (refine wl_skip rfl rfl ?_) | (refine wdS ?_) | (refine wdV ?_) | (refine wdB ?_) | ((with_reducible refine seld_call ?_); refine wd_rd hm0 rfl rfl rfl rfl (rd_call rfl rfl rfl (fun w hm => by with_reducible exact BE w (VwB.out w hm) (VwB.out w hm) (by with_reducible assumption))) ?_) | (refine wdE ?_) | (refine wd_skip rfl rfl ?_) | ((with_reducible refine seld_nil ?_); refine wd_nil hm0 ?_; clear hm0 hw0) | ((with_reducible refine wc_seq ?_); intro K hK) | (refine auC ?_) | (refine wc_cond rfl (fun hc => ?_) (fun hc => ?_)) | (refine wc_draw (by kernel_rfl) (by kernel_rfl) (by decide +kernel) ?_; intro w0 hw0 hm0; (try simp only [List.append_eq, List.cons_append, List.nil_append])) | (refine auP ?_) | ((refine auR ?_); clear hK K) | (refine auR ?_) | ((with_reducible refine hK _ _ ?_); clear hK K) | fail)
        exact ⟨i + 1, ⟨hlt, hn⟩, by omega, Fits.of ⟨rfl, rfl, rfl, rfl, trivial⟩ .nil rfl⟩
      · have hb : (p == q) = false := by simpa using hpq
        have hne : r = false := by
          rw [← hr, beq_eq_false_iff_ne]
          rintro rfl
          rw [g2] at f2; exact hpq (Option.some.inj f2)
        subst hne
        clear hE hF
        repeat' (first | (refine wlS ?_) | (refine wlB ?_) | ((with_reducible refine sel_call ?_); refine wl_rd rfl rfl (rd_call rfl rfl rfl (fun w hm => by with_reducible exact BE w (VwB.out w hm) (VwB.out w hm) (by with_reducible assumption))) ?_) | (refine wlE ?_) | (refine efSvao ?_; intro v oa ho) | (refine wl_skip rfl rfl ?_) | (refine wdS ?_) | (refine wdV ?_) | (refine wdB ?_) | ((with_reducible refine seld_call ?_); refine wd_rd hm0 rfl rfl rfl rfl (rd_call rfl rfl rfl (fun w hm => by with_reducible exact BE w (VwB.out w hm) (VwB.out w hm) (by with_reducible assumption))) ?_) | (refine wdE ?_) | (refine wd_skip rfl rfl ?_) | ((with_reducible refine seld_nil ?_); refine wd_nil hm0 ?_; clear hm0 hw0) | ((with_reducible refine wc_seq ?_); intro K hK) | (refine auC ?_) | (refine wc_cond rfl (fun hc => ?_) (fun hc => ?_)) | (refine wc_draw (by kernel_rfl) (by kernel_rfl) (by decide +kernel) ?_; intro w0 hw0 hm0; (try simp only [List.append_eq, List.cons_append, List.nil_append])) | (refine auP ?_) | ((refine auR ?_); clear hK K) | (refine auR ?_) | ((with_reducible refine hK _ _ ?_); clear hK K) | fail)
        first | refine end_ret (ResP.tmp rfl ResP.nil) ?_ | refine end_normal (ResP.tmp rfl ResP.nil) ?_
        first | rfl | (show _ = _; rfl) | (simp only [tupV, *]; done)
    · obtain rfl : i = ps.length := by omega
      have t2 : decide ((ps.length : Int) < (ps.length : Int)) = false := decide_eq_false (by omega)
      have hrt : r = true := by
        rw [← hr, beq_iff_eq]
        rw [List.take_length, hl, List.take_length] at ht; exact ht
      subst hrt
      clear BE
      repeat' (first | (refine wlS ?_) | (refine wlB ?_) | (refine wlE ?_) | (refine efSvao ?_; intro v oa ho) | (refine wl_skip rfl rfl ?_) | (refine wdS ?_) | (refine wdV ?_) | (refine wdB ?_) | (refine wdE ?_) | (refine wd_skip rfl rfl ?_) | ((with_reducible refine seld_nil ?_); refine wd_nil hm0 ?_; clear hm0 hw0) | ((with_reducible refine wc_seq ?_); intro K hK) | (refine auC ?_) | (refine wc_cond rfl (fun hc => ?_) (fun hc => ?_)) | (refine wc_draw (by kernel_rfl) (by kernel_rfl) (by decide +kernel) ?_; intro w0 hw0 hm0; (try simp only [List.append_eq, List.cons_append, List.nil_append])) | (refine auP ?_) | ((refine auR ?_); clear hK K) | (refine auR ?_) | ((with_reducible refine hK _ _ ?_); clear hK K) | fail)
      first | refine end_ret (ResP.tmp rfl ResP.nil) ?_ | refine end_normal (ResP.tmp rfl ResP.nil) ?_
      first | rfl | (show _ = _; rfl) | (simp only [tupV, *]; done)
  · have t1 : ((ps.length : Int) != (qs.length : Int)) = true := by simp only [bne_iff_ne, ne_eq]; omega
    have hne : r = false := by rw [← hr, beq_eq_false_iff_ne]; rintro rfl; exact hl rfl
    subst hne
    refine fn_ret (N := _) Tryd.func9 rfl Tryd.ntmps9 Tryd.results9 (by simp) ?_
    simp only [initS, Nat.reduceAdd, Nat.zero_add]
    repeat' (first | (refine wlS ?_) | (refine wlB ?_) | (refine wlE ?_) | (refine efSvao ?_; intro v oa ho) | (refine wl_skip rfl rfl ?_) | (refine wdS ?_) | (refine wdV ?_) | (refine wdB ?_) | (refine wdE ?_) | (refine wd_skip rfl rfl ?_) | ((with_reducible refine seld_nil ?_); refine wd_nil hm0 ?_; clear hm0 hw0) | ((with_reducible refine wc_seq ?_); intro K hK) | (refine auC ?_) | (refine wc_cond rfl (fun hc => ?_) (fun hc => ?_)) | (refine wc_draw (by kernel_rfl) (by kernel_rfl) (by decide +kernel) ?_; intro w0 hw0 hm0; (try simp only [List.append_eq, List.cons_append, List.nil_append])) | (refine auP ?_) | ((refine auR ?_); clear hK K) | (refine auR ?_) | ((with_reducible refine hK _ _ ?_); clear hK K) | fail)
    first | refine end_ret (ResP.tmp rfl ResP.nil) ?_ | refine end_normal (ResP.tmp rfl ResP.nil) ?_
    first | rfl | (show _ = _; rfl) | (simp only [tupV, *]; done)
/-- What written makes. -/
def WrT (key : List Nat) (qs : List (List Nat)) (x : Value × Value) (oa : Blks) : Prop :=
  (fitsT key qs ∧ ∃ ot oe, oa = oe ++ ot ∧ OwnB 5 x.1 (encT key z32L qs).length (encT key z32L qs) ot ∧ OwnL 3 1 x.2 qs.length (endsC key qs qs.length) oe) ∨ (¬ fitsT key qs ∧ x.1 = .slice none 0 0 ∧ x.2 = .slice none 0 0 ∧ oa = [])
def WtOk (key : List Nat) (qs : List (List Nat)) (x : Nat × Value × Blks × Value × Blks) : Prop :=
  x.1 ≤ qs.length ∧ fitsT key (qs.take x.1) ∧ OwnB 5 x.2.1 (encT key z32L (qs.take x.1)).length (encT key z32L (qs.take x.1)) x.2.2.1 ∧ OwnL 3 1 x.2.2.2.1 x.1 (endsC key qs x.1) x.2.2.2.2
set_option maxHeartbeats 8000000 in
theorem written_t (w : World) (hT : Tab w) (w' : World) (hb : Below w.heap.size w w') {kv rv : Value} {nk : Nat} {key : List Nat} {qs : List (List Nat)} (hk : Cb w' kv nk key) (hr : ∃ xs, Cll w' rv qs.length xs qs) (hn : qs.length ≤ 1048576) :
    Calls Tryd.prog 7 [kv, rv].toArray w' (RetO (fun x : Value × Value => .tuple #[x.1, x.2]) (WrT key qs) w') := by
  obtain ⟨xs, hr⟩ := hr
  haveI i1 := hk.old
  haveI i2 := hr.cs.old
  have hE := hr.el
  have hxl := hr.len
  have AP := fun w'' (h0 : Below w'.heap.size w' w'') {tv rv : Value} {m nr : Nat} {p rec : List Nat} {e : Nat} {t : List Nat} (he : appT key p rec = (e, t)) (hm : m ≤ 1073741824) (ht : Cb w'' tv m p) (hk : Cb w'' kv nk key) (hr : Cb w'' rv nr rec) =>
    (show Calls Tryd.prog 11 [tv, kv, rv].toArray w'' (RetO (fun v : Value => .tuple #[v, .int .i64 (e : Int)]) (fun v oa => OwnB 5 v t.length t oa) w'') by
      have := append_t w' (hT.below hb) w'' h0 ht hk hr hm
      rwa [he] at this)
  clear hT hb hk hr
  refine fn_own (N := _) Tryd.func7 rfl Tryd.ntmps7 Tryd.results7 (by simp) ?_
  simp only [initS, Nat.reduceAdd, Nat.zero_add]
  repeat' (first | (refine wlS ?_) | (refine wlB ?_) | (refine wlE ?_) | (refine efSvao ?_; intro v oa ho) | (refine wl_skip rfl rfl ?_) | ((with_reducible refine wc_seq ?_); intro K hK) | (refine auC ?_) | (refine wc_cond rfl (fun hc => ?_) (fun hc => ?_)) | (refine wc_draw (by kernel_rfl) (by kernel_rfl) (by decide +kernel) ?_; intro w0 hw0 hm0; (try simp only [List.append_eq, List.cons_append, List.nil_append])) | (refine auP ?_) | ((refine auR ?_); clear hK K) | (refine auR ?_) | ((with_reducible refine hK _ _ ?_); clear hK K) | fail)
  refine wc_loop (σ := Nat × Value × Blks × Value × Blks) (fun x => [(0, kv), (6, x.2.1), (7, x.2.2.2.1), (12, rv), (13, .int .i64 (qs.length : Int)), (14, .int .i64 (x.1 : Int))]) (fun x => x.2.2.2.2 ++ x.2.2.1)
    (WtOk key qs) (fun x => qs.length - x.1) (0, .slice none 0 0, [], .slice none 0 0, [])
    ⟨Nat.zero_le _, ⟨by simp, by simp [encT]⟩, ⟨OwnL.nil _ _, BL.nil⟩, OwnL.nil _ _⟩ (Fits.of ⟨rfl, rfl, rfl, rfl, rfl, rfl, trivial⟩ (SubL.refl _) rfl) ?_
  rintro ⟨i, tv, ot, ev, oe⟩ ⟨hi, hfit, ho, hoe⟩
  dsimp only at hi hfit ho hoe ⊢
  by_cases hlt : i < qs.length
  · have t1 : decide ((i : Int) < (qs.length : Int)) = true := decide_eq_true (by omega)
    have k1 : IntKind.i64.wrap ((i : Int) + 1) = ((i + 1 : Nat) : Int) := by rw [wrap_i64 _ (by omega) (by omega)]; omega
    have j1 : (i : Int) < (qs.length : Int) := by omega
    obtain ⟨x, q, g1, g2, g3⟩ := hE.at (i := i) (by omega)
    haveI c1 := g3.old
    have hst : qs.take (i + 1) = qs.take i ++ [q] := by rw [List.take_add_one, g2]; rfl
    have hsm := hfit.2
    have hes := endsC_succ key qs i
    by_cases hq : q.length ≤ 4064 ∧ (encT key z32L (qs.take i ++ [q])).length ≤ 65536
    · have AP1 := fun w'' (h0 : Below w'.heap.size w' w'') {tv : Value} => AP w'' h0 (tv := tv) (rv := x) (m := (encT key z32L (qs.take i)).length) (nr := q.length) (app_enc key hfit.1 hq.1 hq.2) (by omega)
      have hfit' : fitsT key (qs.take (i + 1)) := by
        rw [hst]
        exact ⟨fun r hr => by
          rcases List.mem_append.1 hr with h | h
          · exact hfit.1 r h
          · simp only [List.mem_singleton] at h; rw [h]; exact hq.1, hq.2⟩
      rw [← hst] at AP1
      have t2 : ((0 : Int) != 0) = false := rfl
      clear hE AP hfit hst
      have hgo : ∀ {y v : Value} {oa ob : Blks}, OwnB 5 y (encT key z32L (qs.take (i + 1))).length (encT key z32L (qs.take (i + 1))) oa → OwnL 3 1 v (i + 1) (endsC key qs (i + 1)) ob → WtOk key qs (i + 1, y, oa, v, ob) := fun h1 h2 => ⟨hlt, hfit', h1, h2⟩
      rw [hes] at hgo
      generalize encT key z32L (qs.take (i + 1)) = E1 at *
      generalize encT key z32L (qs.take i) = E0 at *
      repeat' (first | (refine wlS ?_) | (refine wlB ?_) | (refine wlE ?_) | (refine efSvao ?_; intro v oa ho) | ((with_reducible refine sel_call ?_); first | (refine wl_newO rfl rfl rfl rfl rfl (fun w hm => by with_reducible exact AP1 w (hm.below rfl) (VwB.out w hm) (VwB.out w hm) (VwB.out w hm)) ?_; intro x oa hx)) | (refine wl_skip rfl rfl ?_) | ((with_reducible refine wc_seq ?_); intro K hK) | (refine auC ?_) | (refine wc_cond rfl (fun hc => ?_) (fun hc => ?_)) | (refine wc_draw (by kernel_rfl) (by kernel_rfl) (by decide +kernel) ?_; intro w0 hw0 hm0; (try simp only [List.append_eq, List.cons_append, List.nil_append])) | (refine auP ?_) | ((refine auR ?_); clear hK K) | (refine auR ?_) | ((with_reducible refine hK _ _ ?_); clear hK K) | fail)
      refine ⟨(i + 1, _, _, _, _), hgo hx ho, by dsimp only; omega, Fits.of ⟨rfl, rfl, rfl, rfl, rfl, rfl, trivial⟩ ?_ rfl⟩
      dsimp only
      repeat (first | exact SubL.nil | exact SubL.refl _ | refine SubL.keep ?_ | exact SubL.headA _ _ | refine SubL.keepA ?_ _ | refine SubL.skip ?_ | refine SubL.skipA ?_ _)
    · have AP1 := fun w'' (h0 : Below w'.heap.size w' w'') {tv : Value} => AP w'' h0 (tv := tv) (rv := x) (m := (encT key z32L (qs.take i)).length) (nr := q.length) (app_big key hfit.1 hq) (by omega)
      have hno : ¬ fitsT key qs := fun h => hq ⟨h.1 q (List.mem_of_getElem? g2), by rw [← hst]; exact Nat.le_trans (encT_take key) h.2⟩
      have t2 : ((2 : Int) != 0) = true := rfl
      clear hE AP hfit hst
      repeat' (first | (refine wlS ?_) | (refine wlB ?_) | (refine wlE ?_) | (refine efSvao ?_; intro v oa ho) | ((with_reducible refine sel_call ?_); first | (refine wl_newO rfl rfl rfl rfl rfl (fun w hm => by with_reducible exact AP1 w (hm.below rfl) (VwB.out w hm) (VwB.out w hm) (VwB.out w hm)) ?_; intro x oa hx)) | (refine wl_skip rfl rfl ?_) | ((with_reducible refine wc_seq ?_); intro K hK) | (refine auC ?_) | (refine wc_cond rfl (fun hc => ?_) (fun hc => ?_)) | (refine wc_draw (by kernel_rfl) (by kernel_rfl) (by decide +kernel) ?_; intro w0 hw0 hm0; (try simp only [List.append_eq, List.cons_append, List.nil_append])) | (refine auP ?_) | ((refine auR ?_); clear hK K) | (refine auR ?_) | ((with_reducible refine hK _ _ ?_); clear hK K) | fail)
      first | refine end_ret (ResP.tmp rfl (ResP.tmp rfl ResP.nil)) ?_ | refine end_normal (ResP.tmp rfl (ResP.tmp rfl ResP.nil)) ?_
      (try dsimp only [tupV])
      exact ⟨(_, _), [], rfl, .inr ⟨hno, rfl, rfl, rfl⟩, .nil⟩
  · obtain rfl : i = qs.length := by omega
    have t1 : decide ((qs.length : Int) < (qs.length : Int)) = false := decide_eq_false (by omega)
    rw [List.take_length] at ho hfit
    clear AP hE
    repeat' (first | (refine wlS ?_) | (refine wlB ?_) | (refine wlE ?_) | (refine efSvao ?_; intro v oa ho) | (refine wl_skip rfl rfl ?_) | ((with_reducible refine wc_seq ?_); intro K hK) | (refine auC ?_) | (refine wc_cond rfl (fun hc => ?_) (fun hc => ?_)) | (refine wc_draw (by kernel_rfl) (by kernel_rfl) (by decide +kernel) ?_; intro w0 hw0 hm0; (try simp only [List.append_eq, List.cons_append, List.nil_append])) | (refine auP ?_) | ((refine auR ?_); clear hK K) | (refine auR ?_) | ((with_reducible refine hK _ _ ?_); clear hK K) | fail)
    first | refine end_ret (ResP.tmp rfl (ResP.tmp rfl ResP.nil)) ?_ | refine end_normal (ResP.tmp rfl (ResP.tmp rfl ResP.nil)) ?_
    (try dsimp only [tupV])
    exact ⟨(_, _), _, rfl, .inl ⟨hfit, _, _, rfl, ho, hoe⟩, SubL.refl _⟩
theorem written_yes (w : World) (hT : Tab w) (w' : World) (hb : Below w.heap.size w w') {kv rv : Value} {nk : Nat} {key : List Nat} {qs : List (List Nat)} (hk : Cb w' kv nk key) (hr : ∃ xs, Cll w' rv qs.length xs qs) (hn : qs.length ≤ 1048576) (hf : fitsT key qs) :
    Calls Tryd.prog 7 [kv, rv].toArray w' (RetO (fun x : Value × Value => .tuple #[x.1, x.2]) (fun x oa => ∃ ot oe, oa = oe ++ ot ∧ OwnB 5 x.1 (encT key z32L qs).length (encT key z32L qs) ot ∧ OwnL 3 1 x.2 qs.length (endsC key qs qs.length) oe) w') :=
  (written_t w hT w' hb hk hr hn).mono fun e w3 ⟨x, oa, he, hx, hu⟩ => ⟨x, oa, he, hx.elim (fun h => h.2) (fun h => absurd hf h.1), hu⟩
theorem written_no (w : World) (hT : Tab w) (w' : World) (hb : Below w.heap.size w w') {kv rv : Value} {nk : Nat} {key : List Nat} {qs : List (List Nat)} (hk : Cb w' kv nk key) (hr : ∃ xs, Cll w' rv qs.length xs qs) (hn : qs.length ≤ 1048576) (hf : ¬ fitsT key qs) :
    Calls Tryd.prog 7 [kv, rv].toArray w' (RetO (fun x : Unit => .tuple #[.slice none 0 0, .slice none 0 0]) (fun x oa => oa = []) w') :=
  (written_t w hT w' hb hk hr hn).mono fun e w3 ⟨x, oa, he, hx, hu⟩ => hx.elim (fun h => absurd h.1 hf) (fun h => ⟨(), oa, by obtain ⟨x1, x2⟩ := x; obtain ⟨_, rfl, rfl, _⟩ := h; exact he, h.2.2.2, hu⟩)
theorem fitsT_small {key : List Nat} {qs : List (List Nat)} (h : qs.length ≤ 20) (h2 : ∀ r ∈ qs, r.length ≤ 3000) : fitsT key qs :=
  ⟨fun r hr => by have := h2 r hr; omega, by
    have := encT_small key qs z32L 3000 h2
    have h3 := Nat.mul_le_mul_right 3036 h
    omega⟩
set_option maxHeartbeats 4000000 in
theorem tapes_t (w : World) (hT : Tab w) (w' : World) (hb : Below w.heap.size w w') : Calls Tryd.prog 10 [].toArray w' (Ret (.bool true) w') := by
  have he : appT [] [] [] = (0, recT [] z32L []) := by
    have := app_enc [] (rs := []) (by simp) (r := []) (by simp) (by
      have := (recT_len [] z32L []).1
      show (recT [] z32L [] ++ []).length ≤ 65536
      rw [List.append_nil]; simp at this; omega)
    have e : encT [] z32L ([] ++ [[]]) = recT [] z32L [] := by show recT [] z32L [] ++ [] = _; rw [List.append_nil]
    rw [e] at this; exact this
  have hl : (recT [] z32L []).length = 34 := by
    have := mkT_len [] z32L []
    rw [recT_def, List.append_nil, wr1, List.length_append]
    dsimp only
    rw [this]; rfl
  have AP : ∀ w'', Below w'.heap.size w' w'' → Calls Tryd.prog 11 [.slice none 0 0, .slice none 0 0, .slice none 0 0].toArray w'' (RetO (fun v : Value => .tuple #[v, .int .i64 0]) (fun v oa => OwnB 5 v 34 (recT [] z32L []) oa) w'') := fun w'' h0 => by
    have := append_t w' (hT.below hb) w'' h0 (cb_nil w'') (cb_nil w'') (cb_nil w'') (by decide)
    rw [he] at this
    dsimp only at this
    rw [hl] at this
    exact this
  have t1 : ((0 : Int) == 0) = true := rfl
  have t2 : (((34 : Nat) : Int) == 34) = true := rfl
  clear hT hb he hl
  refine fn_ret (N := _) Tryd.func10 rfl Tryd.ntmps10 Tryd.results10 (by simp) ?_
  simp only [initS, Nat.reduceAdd, Nat.zero_add]
  repeat' (first | (refine wlS ?_) | (refine wlB ?_) | (refine wlE ?_) | (refine efSvao ?_; intro v oa ho) | ((with_reducible refine sel_call ?_); first | (refine wl_newO rfl rfl rfl rfl rfl (fun w hm => by with_reducible exact AP w (hm.below rfl)) ?_; intro x oa hx)) | (refine wl_skip rfl rfl ?_) | ((with_reducible refine wc_seq ?_); intro K hK) | (refine auC ?_) | (refine wc_cond rfl (fun hc => ?_) (fun hc => ?_)) | (refine wc_draw (by kernel_rfl) (by kernel_rfl) (by decide +kernel) ?_; intro w0 hw0 hm0; (try simp only [List.append_eq, List.cons_append, List.nil_append])) | (refine auP ?_) | ((refine auR ?_); clear hK K) | (refine auR ?_) | ((with_reducible refine hK _ _ ?_); clear hK K) | fail)
  first | refine end_ret (ResP.tmp rfl ResP.nil) ?_ | refine end_normal (ResP.tmp rfl ResP.nil) ?_
  first | rfl | (show _ = _; rfl) | (simp only [tupV, *]; done)
end Go.Proofs.YtlpalhagndmpjaaDoor
namespace Go.Proofs.YtlpalhagndmpjaaDoor
set_option maxRecDepth 100000
theorem mayEnter_of {P : Program} {l : List Char} {rest : List (List Char)} (h0 : P.initOrder = String.ofList l) (h : behindMainWord (wordsSigns l) = "cut".toList :: rest) (hs : stripLifts liftWords ("cut".toList :: rest) = ([], "cut".toList :: rest)) (h1 : P.laysLater = false) (h2 : P.bearsReflect = false) (h3 : P.doorFits [] = true) : P.mayEnter = true := by
  unfold Program.mayEnter
  rw [h0, String.toList_ofList, h]
  generalize "cut".toList = c at *
  simp only [hs, h1, h2, h3]
  simp
theorem headLifts_of {P : Program} {l : List Char} {rest : List (List Char)} (h0 : P.initOrder = String.ofList l) (h : behindMainWord (wordsSigns l) = "cut".toList :: rest) (hs : stripLifts liftWords ("cut".toList :: rest) = ([], "cut".toList :: rest)) : P.headLifts = [] := by
  unfold Program.headLifts
  rw [h0, String.toList_ofList, h, hs]
  simp
theorem liftsFinal_of {P : Program} {l : List Char} {rest : List (List Char)} (h0 : P.initOrder = String.ofList l) (h : behindMainWord (wordsSigns l) = "cut".toList :: rest) (hs : stripLifts liftWords ("cut".toList :: rest) = ([], "cut".toList :: rest)) : P.liftsFinal = false := by
  unfold Program.liftsFinal
  rw [headLifts_of h0 h hs, h0, String.toList_ofList, h]
  simp
theorem make_of {P : Program} {l : List Char} {rest : List (List Char)} (h0 : P.initOrder = String.ofList l) (h : behindMainWord (wordsSigns l) = "cut".toList :: rest) : P.make = some .cut := by
  unfold Program.make
  rw [h0, String.toList_ofList, h]
  have e1 : ("cut".toList == "gc".toList || "cut".toList == "spec".toList) = false := by decide +kernel
  simp only [e1]
  simp
theorem word0 : ∃ (l : List Char), Tryd.prog.initOrder = String.ofList l ∧ behindMainWord (wordsSigns l) = "cut".toList :: (behindMainWord (wordsSigns l)).tail ∧ stripLifts liftWords ("cut".toList :: (behindMainWord (wordsSigns l)).tail) = ([], "cut".toList :: (behindMainWord (wordsSigns l)).tail) := ⟨_, rfl, by kernel_rfl, by kernel_rfl⟩
theorem word1 : ∃ (l : List Char) (rest : List (List Char)), Tryd.prog.initOrder = String.ofList l ∧ behindMainWord (wordsSigns l) = "cut".toList :: rest ∧ stripLifts liftWords ("cut".toList :: rest) = ([], "cut".toList :: rest) := by
  obtain ⟨l, h⟩ := word0
  exact ⟨l, _, h⟩
theorem mayEnters : Tryd.prog.mayEnter = true := by
  obtain ⟨l, r, h0, h, hs⟩ := word1
  exact mayEnter_of h0 h hs (by kernel_rfl) (by kernel_rfl) (by kernel_rfl)
theorem liftsNone : Tryd.prog.liftsFinal = false := by
  obtain ⟨l, r, h0, h, hs⟩ := word1
  exact liftsFinal_of h0 h hs
theorem makeCut : Tryd.prog.make = some .cut := by
  obtain ⟨l, r, h0, h, hs⟩ := word1
  exact make_of h0 h
end Go.Proofs.YtlpalhagndmpjaaDoor
namespace Go.Proofs.YtlpalhagndmpjaaDoor
open Go.RowKit
theorem gTab : Tryd.prog.globalNamed "sealring/hash.primeRoots" = some 0 := by kernel_rfl
theorem gTabType : (Tryd.prog.globals[0]?).map (·.type) = some 69 := by kernel_rfl
theorem tab_of {W : World} (h : Lib.TabIs Tryd.prog W "sealring/hash.primeRoots" .u32 roots) : Tab W := fun i hi => h.cell gTab i hi
noncomputable def laidWorld (os : Os) : World :=
  { World.holding Tryd.prog os ⟨#[], #[], []⟩ with heap := (World.holding Tryd.prog os ⟨#[], #[], []⟩).heap.modify 0 fun
      | .cells _ t frozen => .cells (iw roots) t frozen
      | o => o }
end Go.Proofs.YtlpalhagndmpjaaDoor
namespace Go.Proofs.YtlpalhagndmpjaaDoor
open Go.RowKit Go.ChangeShapes Go.WideShapes
set_option linter.unusedVariables false
set_option maxRecDepth 100000 in
theorem open_bll {H : Type} {enc : TypeId × Value → H} {W : World} {r : Reach} {b0 : Nat} {v : Value} {d : DataW H} {q : List MemPlace} (hv : Value.okWide Tryd.prog W r b0 23 v) (h : DataW.Trod enc Tryd.prog W 0 (fun _ => true) true 23 v d q) :
    ∃ x : Nat × List Value × List (List Nat), Cll W v x.1 x.2.1 x.2.2 ∧ x.2.2.length + (x.2.2.map List.length).sum + 1 ≤ Rows.uptoBulk d := open_bll' (t := 23) (e := 22) (e' := 5) (by kernel_rfl) (by kernel_rfl) (by kernel_rfl) (by kernel_rfl) (by kernel_rfl) hv h
end Go.Proofs.YtlpalhagndmpjaaDoor
