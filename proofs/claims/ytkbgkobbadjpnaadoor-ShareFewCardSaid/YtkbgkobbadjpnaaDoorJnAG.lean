/- Bytes out of a seed: Bytes walked. Bytes that are told as strings; bytes.Equal. Bytes out of a seed: the contracts, by key and place. Numbers out of a seed: what the numbers' functions answer here. Numbers out of a seed: Below walked. share.Split, walked. Sums of shares: the plain law. Closed facts of the translation that hang on its long word of the order of beginnings: read once, by the signs of the word. The table of the roots: what a row's list gives, and a world for the witness. What a []api.Share is that came in. sealringkeep.shares, walked. Blocks among blocks, in whatever order: what stands behind a region whose orders meet again is walked once. Functions' values that have caught something: made, called. SHAMIR: to one share too few there is, for each secret, one more that makes it. Plain laws. ShareFew: with, walked; what it answers. Shares told alike; slices.Index, slices.Contains of shares; sealringkeep.chosen. sealringkeep.chosen, walked: shares of these, each once. What a []int is that came in. -/
import Derived.Test.YtkbgkobbadjpnaaDoorJnAF
import Derived.Test.YtkbgkobbadjpnaaDoorOwnB
import Derived.Test.YtkbgkobbadjpnaaDoorTyS
import Derived.Laws.BytesArg
import Derived.Laws.Strings
import Derived.Test.YtkbgkobbadjpnaaDoorJnAA
import Derived.Test.YtkbgkobbadjpnaaDoorJnAB
import Derived.Test.YtkbgkobbadjpnaaDoorJnAD
import Derived.Test.YtkbgkobbadjpnaaDoorJnAE
import Derived.Test.YtkbgkobbadjpnaaDoorProg
import Derived.JoinedOf
import Derived.WalkKit
import Derived.Test.YtkbgkobbadjpnaaDoorRows
import Derived.Lib.LaidTab
import Derived.Deep.DeepHandedRow
import Derived.Test.YtkbgkobbadjpnaaDoorLwH
import Derived.Test.YtkbgkobbadjpnaaDoorJnAC
import Derived.Laws.StructEq
import Derived.ChangeKeysEq
namespace Go.Proofs.YtkbgkobbadjpnaaDoor
open Go.RowKit
attribute [local irreducible] rwA bys iw blkD byteD MS.sum MS.write
set_option linter.unusedVariables false
set_option maxRecDepth 100000
set_option linter.unusedSimpArgs false
end Go.Proofs.YtkbgkobbadjpnaaDoor
namespace Go.Proofs.YtkbgkobbadjpnaaDoor
open Go.RowKit
set_option linter.unusedVariables false
set_option linter.unusedSimpArgs false
def strB (l : List Nat) : ByteArray := strOfNums (l.map fun k : Nat => (k : Int))
theorem strB_data (l : List Nat) : (strB l).data.toList = l.map UInt8.ofNat := by
  rw [strB, strOfNums_data, List.map_map]
  apply List.map_congr_left
  intro k _
  simp
theorem strB_size (l : List Nat) : (strB l).size = l.length := by rw [strB, strOfNums_size, List.length_map]
theorem ofNat_inj {a b : Nat} (ha : a < 256) (hb : b < 256) (h : UInt8.ofNat a = UInt8.ofNat b) : a = b := by
  have := congrArg UInt8.toNat h
  rwa [UInt8.toNat_ofNat', UInt8.toNat_ofNat', Nat.mod_eq_of_lt ha, Nat.mod_eq_of_lt hb] at this
theorem map_inj {p q : List Nat} (hp : ∀ x ∈ p, x < 256) (hq : ∀ x ∈ q, x < 256) (h : p.map UInt8.ofNat = q.map UInt8.ofNat) : p = q := by
  induction p generalizing q with
  | nil => cases q with
    | nil => rfl
    | cons b r => simp at h
  | cons a r ih => cases q with
    | nil => simp at h
    | cons b r' =>
      simp only [List.map_cons, List.cons.injEq] at h
      rw [ofNat_inj (hp a (by simp)) (hq b (by simp)) h.1, ih (fun x hx => hp x (by simp [hx])) (fun x hx => hq x (by simp [hx])) h.2]
theorem strB_inj {n m : Nat} {p q : List Nat} (hp : BL n p) (hq : BL m q) : strB p = strB q ↔ p = q := by
  refine ⟨fun h => ?_, fun h => by rw [h]⟩
  have h1 := congrArg (fun b => b.data.toList) h
  simp only [strB_data] at h1
  exact map_inj hp.by' hq.by' h1
theorem cs_string {P : Program} {w : World} {v : Value} {n src dst e : Nat} {p : List Nat} (hb : Cb w v n p) (hs : P.underlying src = some (.slice e)) (he : P.underlying e = some (.int .u8)) (hd : P.underlying dst = some .string) :
    (convert src dst v).run P w = .ok (.string (strB p)) w := by
  have hp := hb.ok
  have h := hb.cs
  clear hb
  obtain ⟨q, cap, rfl, h1, h2, h3⟩ := h.ln.out
  rcases Nat.eq_zero_or_pos n with h0 | h0
  · have hp0 : p = [] := List.eq_nil_of_length_eq_zero (by rw [hp.len, h0])
    subst hp0
    cases q with
    | none => rw [run_convert_bytes_nil w src e hs he n cap dst hd]; rfl
    | some a =>
      obtain ⟨b, off, spot⟩ := a
      have hl : (loadCells ⟨b, off, spot⟩ n).run P w = .ok (([] : List Int).map (Value.int .u8)).toArray w := by subst h0; simp [loadCells, loadCellsFrom]
      rw [run_convert_bytes_string w src dst e _ n cap hs he hd, run_bytesToString w _ n cap [] hl]
      rfl
  · obtain ⟨b, off, rfl⟩ := h3 h0
    refine run_convert_bytes_arg w src e hs he b off n cap (p.map fun k : Nat => (k : Int)) (by rw [List.length_map, hp.len]) (fun i hi => ?_) dst hd
    obtain ⟨b', off', cap', hv, hc⟩ := h.cell i (.int .u8 ((p.getD i 0 : Nat) : Int)) (bl_get (by rw [hp.len]; exact hi))
    injection hv with hv
    injection hv with hv
    injection hv with hb ho
    subst hb; subst ho
    rw [hc]
    have hi' : i < p.length := by rw [hp.len]; exact hi
    simp [List.getD, hi']
section
variable {X : Cx} {s : Slots} {l : Blks} {o : Oper} {v : Value}
theorem rd_convS {src dst e n : Nat} {x : Operand} {p : List Nat} (ho : o.op = .convert src dst x) (hx : val s x = some v) [hs : UT X.P src (.slice e)] [he : UT X.P e (.int .u8)] [hd : UT X.P dst .string] [hv : VwB X l v n p] : RdV X s l o (.string (strB p)) :=
  rd_val fun a w hev hm => by
    simp only [execOp, ho, hev.eval hx, Sem.run_bind, cs_string (hv.out w hm) hs.out he.out hd.out, Result.andThen_ok, Sem.run_pure]
theorem rd_eqlS {t yt : Nat} {x y : Operand} {a b : ByteArray} {r : Bool} (ho : o.op = .binOp .eql t x y yt) (hx : val s x = some (.string a)) (hy : val s y = some (.string b)) (hr : (a.toList == b.toList) = r := by first | (with_reducible assumption) | rfl) : RdV X s l o (.bool r) :=
  rd_val fun e w he hm => by
    subst hr
    simp only [execOp, ho, he.eval hx, he.eval hy, eqGuard]
    simp [binOp_string_eql]
end
theorem strB_beq {n m : Nat} {p q : List Nat} (hp : BL n p) (hq : BL m q) : ((strB p).toList == (strB q).toList) = (p == q) := by
  rw [Bool.eq_iff_iff, beq_iff_eq, beq_iff_eq, ← strB_inj hp hq, ByteArray.toList_eq, ByteArray.toList_eq]
  constructor
  · intro h
    cases h1 : strB p; cases h2 : strB q
    rw [h1, h2] at h
    congr 1
    exact Array.ext' h
  · intro h; rw [h]
end Go.Proofs.YtkbgkobbadjpnaaDoor
namespace Go.Proofs.YtkbgkobbadjpnaaDoor
open Go.RowKit
attribute [local irreducible] rwA bys iw blkD byteD MS.sum MS.write
set_option linter.unusedVariables false
set_option maxRecDepth 100000
set_option linter.unusedSimpArgs false
theorem new_k (w : World) (hT : Tab w) : ∀ w', Below w.heap.size w w' → ∀ {v : Value} {n : Nat} {key : List Nat}, Cb w' v n key →
    Calls Tryd.prog 50 [v].toArray w' (RetO (fun n => ptr n) (fun n oa => ∃ s : Src, SrcOk s ∧ s.key = newM key ∧ s.place = 0 ∧ oa = [(n, (rwA (sgS s), 135))]) w') := fun w' hb v n key hq => by
  haveI : ByL key := ⟨hq.ok.by'⟩
  exact (new_d w hT w' hb hq).mono fun e w'' ⟨x, oa, he, hφ, hu⟩ => ⟨x, oa, he, ⟨newS key, newS_ok, rfl, rfl, hφ⟩, hu⟩
theorem newM_dig {key : List Nat} (h : key.length > 64) : newM (dig key) = newM key := by rw [newM, keyL_long key h, newM]
end Go.Proofs.YtkbgkobbadjpnaaDoor
namespace Go.Proofs.YtkbgkobbadjpnaaDoor
open Go.RowKit
set_option linter.unusedVariables false
set_option maxRecDepth 100000
set_option linter.unusedSimpArgs false
/-- Bytes as a number. -/
def ofL (l : List Nat) : Nat := fb (fun i => l.getD i 0) 32
theorem getD_lt {l : List Nat} (h : ∀ x ∈ l, x < 256) (i : Nat) : l.getD i 0 < 256 := by
  rw [List.getD_eq_getElem?_getD]
  cases hx : l[i]? with
  | none => simp
  | some x => exact h x (List.mem_of_getElem? hx)
theorem ofL_lt {l : List Nat} (h : ∀ x ∈ l, x < 256) : ofL l < T256 := by
  have := fb_lt (fun i => l.getD i 0) (getD_lt h) 32
  rw [T256_eq]; exact this
theorem bys_cells {l : List Nat} (h : l.length = 32) : bys l = byteCells (fun i => l.getD i 0) := by
  unfold bys bl byteCells
  congr 1
  refine List.ext_getElem (by simp [h]) fun i h1 h2 => ?_
  simp only [List.length_map] at h1
  simp [List.getD, h1]
theorem of_l {l : List Nat} (h : l.length = 32) (hb : ∀ x ∈ l, x < 256) (w : World) : Calls Tryd.prog 22 [.agg (bys l)].toArray w (Ret (nu (ofL l)) w) := by
  have := of_all (fun i => l.getD i 0) (getD_lt hb) w
  rw [nu_num, ← bys_cells h] at this
  exact this
theorem z_nu : Value.agg #[.int .u64 0, .int .u64 0, .int .u64 0, .int .u64 0] = nu 0 := nu_l0
theorem up_k (a k : Nat) (ha : a < T256) (hk : k ≤ 256) (w : World) : Calls Tryd.prog 76 [nu a, .int .i64 ((256 - k : Nat) : Int)].toArray w (Ret (nu (a * 2 ^ (256 - k) % T256)) w) := by
  by_cases h0 : k = 0
  · subst h0
    rw [show a * 2 ^ (256 - 0) % T256 = 0 by rw [T256_eq]; exact Nat.mul_mod_left _ _, ← z_nu, ← nu_num a]
    exact shift_big (limb a 0) (limb a 1) (limb a 2) (limb a 3) ((256 - 0 : Nat) : Int) (by decide) w
  · exact shl_nu a (256 - k) ha (by omega) w
theorem dn_k (b k : Nat) (hb : b < T256) (hk : k ≤ 256) (w : World) : Calls Tryd.prog 76 [nu b, .int .i64 (-((256 - k : Nat) : Int))].toArray w (Ret (nu (b / 2 ^ (256 - k))) w) := by
  by_cases h0 : k = 0
  · subst h0
    rw [show b / 2 ^ (256 - 0) = 0 from Nat.div_eq_of_lt (by rw [T256_eq] at hb; exact hb), ← z_nu, ← nu_num b]
    exact shift_small (limb b 0) (limb b 1) (limb b 2) (limb b 3) (-((256 - 0 : Nat) : Int)) (by decide) w
  · by_cases h1 : k = 256
    · subst h1
      have := shl_nu b 0 hb (by omega) w
      rw [Nat.pow_zero, Nat.mul_one, Nat.mod_eq_of_lt hb] at this
      rw [show b / 2 ^ (256 - 256) = b by simp]
      exact this
    · exact shr_nu b (256 - k) hb (by omega) (by omega) w
theorem up_dn (a k : Nat) (hk : k ≤ 256) : a * 2 ^ (256 - k) % T256 / 2 ^ (256 - k) = a % 2 ^ k := by
  rw [T256_eq]
  have e : (2 : Nat) ^ 256 = 2 ^ k * 2 ^ (256 - k) := by rw [← Nat.pow_add]; congr 1; omega
  generalize 2 ^ (256 - k) = D at *
  by_cases hD : D = 0
  · subst hD
    rw [Nat.mul_zero] at e
    exact absurd e (by have := Nat.two_pow_pos 256; omega)
  · rw [e, Nat.mul_mod_mul_right, Nat.mul_div_cancel _ (Nat.pos_of_ne_zero hD)]
/-- What a try draws. -/
def valD (K : MS) (m p : Nat) : Nat := ofL (bytesD K p 32) % 2 ^ blen (m - 1)
theorem blen_256 {m : Nat} (h : m < T256) : blen (m - 1) ≤ 256 := blen_le.2 (by rw [T256_eq] at h; omega)
theorem valD_lt {K : MS} {m p : Nat} : valD K m p < T256 := Nat.lt_of_le_of_lt (Nat.mod_le _ _) (ofL_lt ByL.out)
theorem cmp_lt {a b : Nat} : decide (cmpI a b < 0) = decide (a < b) := by
  rw [decide_eq_decide]
  unfold cmpI
  by_cases h : a < b
  · rw [if_pos h]; simp [h]
  · rw [if_neg h]
    split <;> simp [h]
theorem sub_one {m : Nat} (h : m < T256) (h0 : m ≠ 0) (w : World) : Calls Tryd.prog 55 [nu m, nu 1].toArray w (Ret (.tuple #[nu (m - 1), .int .u64 0]) w) := by
  have := sub_nu m 1 h (by unfold T256; omega) w
  rw [if_neg (by omega), show (m + T256 - 1) % T256 = m - 1 by rw [show m + T256 - 1 = (m - 1) + T256 by omega, Nat.add_mod_right, Nat.mod_eq_of_lt (by omega)]] at this
  exact this
end Go.Proofs.YtkbgkobbadjpnaaDoor
namespace Go.Proofs.YtkbgkobbadjpnaaDoor
open Go.RowKit
attribute [local irreducible] rwA bys iw blkD byteD MS.sum MS.write
set_option linter.unusedVariables false
set_option linter.unusedSimpArgs false
set_option maxRecDepth 100000
/-- What Below answers: behind r tries that are none. -/
def belV (K : MS) (m p r : Nat) : Value := if r < 100 then .tuple #[nu (valD K m (p + 32 * r)), .int .i64 0] else .tuple #[nu 0, .int .i64 6]
structure BelO (K : MS) (m p r : Nat) (c : Array Value) : Prop where
  le : r ≤ 100
  none : ∀ j, j < r → m ≤ valD K m (p + 32 * j)
  some : r < 100 → valD K m (p + 32 * r) < m
  src : ∃ s : Src, SrcOk s ∧ s.key = K ∧ s.place = (if r < 100 then p + 32 * (r + 1) else p + 3200) ∧ c = rwA (sgS s)
set_option maxHeartbeats 4000000 in
theorem below_zero (w' : World) {v : Value} : Calls Tryd.prog 51 [v, nu 0].toArray w' (Ret (.tuple #[nu 0, .int .i64 1]) w') := by
  have E0 := eqNu (x := 0) (y := 0) (r := true) (by decide) (by decide +kernel) (by decide +kernel)
  refine fn_ret (N := _) Tryd.func51 rfl Tryd.ntmps51 Tryd.results51 (by simp) ?_
  simp only [initS, Nat.reduceAdd, Nat.zero_add]
  repeat' (first | (refine wlS ?_) | (refine wlB ?_) | (refine wlNL ?_) | ((with_reducible refine sel_b_eql ?_); refine wv rfl rfl (rd_eqlV rfl rfl rfl (by with_reducible exact E0)) ?_) | (refine wlE ?_) | (refine efSvao ?_; intro v oa ho) | (refine efZCnn ?_; intro n hn) | (refine efBnn ?_; intro n hn) | (refine efB ?_) | (refine efBS ?_) | (refine wl_skip rfl rfl ?_) | ((with_reducible refine wc_seq ?_); intro K hK) | (refine auC ?_) | (refine wc_cond rfl (fun hc => ?_) (fun hc => ?_)) | (refine wc_draw (by kernel_rfl) (by kernel_rfl) (by decide +kernel) ?_; intro w0 hw0 hm0; (try simp only [List.append_eq, List.cons_append, List.nil_append])) | (refine auP ?_) | ((refine auR ?_); clear hK K) | (refine auR ?_) | ((with_reducible refine hK _ _ ?_); clear hK K) | fail)
  first | refine end_ret (ResP.cell rfl ld_whole (ResP.tmp rfl ResP.nil)) ?_ | refine end_normal (ResP.cell rfl ld_whole (ResP.tmp rfl ResP.nil)) ?_
  first | rfl | (show _ = _; rfl) | (simp only [tupV, *]; done)
set_option maxHeartbeats 8000000 in
theorem below_c (w : World) (hT : Tab w) {ky : MS} {p g m : Nat} {s : Src} (hs : SrcOk s) (hk : s.key = ky) (hl : s.place = p) (hp : p + 3200 < 18446744073709551616) (hm : m < T256) (h0 : m ≠ 0) : ∀ w', Below w.heap.size w w' → w.heap.size ≤ g → w'.heap[g]? = some (.cells (rwA (sgS s)) 135) →
    Calls Tryd.prog 51 [ptr g, nu m].toArray w' (RetP (fun r : Nat => belV ky m p r) g (rwA (sgS s)) 135 (fun r c => BelO ky m p r c) w') := fun w' hb hf hg => by
  have hfo : ∀ k ∈ [g], w.heap.size ≤ k := by simpa using hf
  have E0 := eqNu (x := m) (y := 0) (r := false) (decide_eq_false h0) hm (by decide +kernel)
  have SB := sub_one hm h0
  have LN := len_nu (m - 1) (by omega)
  have hk256 := blen_256 hm
  have NX : ∀ s' : Src, SrcOk s' → s'.place + 1 < 18446744073709551616 → ∀ w'', Below w.heap.size w w'' → w''.heap[g]? = some (.cells (rwA (sgS s')) 135) → Calls Tryd.prog 75 [ptr g].toArray w'' (RetP (fun _ : Unit => .int .u8 (byteD s'.key s'.place : Int)) g (rwA (sgS s')) 135
      (fun _ c => ∃ s2 : Src, s2.key = s'.key ∧ s2.place = s'.place + 1 ∧ SrcOk s2 ∧ c = rwA (sgS s2)) w'') := fun s' h1 h2 w'' h hg' => next_c w hT w'' h h1 h2 hf hg'
  have hval : ∀ q, valD ky m q = ofL (bytesD ky q 32) % 2 ^ blen (m - 1) := fun q => rfl
  have UP := fun a ha w => up_k a (blen (m - 1)) ha hk256 w
  have DN := fun b hb w => dn_k b (blen (m - 1)) hb hk256 w
  have UD := fun a => up_dn a (blen (m - 1)) hk256
  have s1 : IntKind.i64.wrap ((blen (m - 1) : Int) - 256) = -((256 - blen (m - 1) : Nat) : Int) := by rw [wrap_i64 _ (by omega) (by omega)]; omega
  have s2 : IntKind.i64.wrap (0 - -((256 - blen (m - 1) : Nat) : Int)) = ((256 - blen (m - 1) : Nat) : Int) := by rw [wrap_i64 _ (by omega) (by omega)]; omega
  clear hT
  refine fn_updP (N := _) Tryd.func51 rfl Tryd.ntmps51 Tryd.results51 (by simp) hg ?_
  simp only [initS, Nat.reduceAdd, Nat.zero_add]
  repeat' (first | (refine wlS ?_) | (refine wlB ?_) | (refine wlNL ?_) | ((with_reducible refine sel_b_eql ?_); refine wv rfl rfl (rd_eqlV rfl rfl rfl (by with_reducible exact E0)) ?_) | ((with_reducible refine sel_call ?_); refine wl_rd rfl rfl (rd_call rfl rfl rfl (fun w hm => by with_reducible first | exact SB w | exact LN w)) ?_) | (refine wlE ?_) | (refine efSvao ?_; intro v oa ho) | (refine efZCnn ?_; intro n hn) | (refine efBnn ?_; intro n hn) | (refine efB ?_) | (refine efBS ?_) | (refine wl_skip rfl rfl ?_) | ((with_reducible refine wc_seq ?_); intro K hK) | (refine auC ?_) | (refine wc_cond rfl (fun hc => ?_) (fun hc => ?_)) | (refine wc_draw (by kernel_rfl) (by kernel_rfl) (by decide +kernel) ?_; intro w0 hw0 hm0; (try simp only [List.append_eq, List.cons_append, List.nil_append])) | (refine auP ?_) | ((refine auR ?_); clear hK K) | (refine auR ?_) | ((with_reducible refine hK _ _ ?_); clear hK K) | fail)
  rename_i n3 hn3 n4 hn4 n6 hn6
  refine wc_loop (σ := Nat × Src) (fun x => [(0, ptr g), (3, ptr n3), (4, ptr n4), (6, ptr n6), (9, .int .i64 (-((256 - blen (m - 1) : Nat) : Int))), (26, .int .i64 (x.1 : Int))])
    (fun x => [(n6, (numC 0, 29)), (n4, (numC 0, 29)), (n3, (numC m, 29)), (g, (rwA (sgS x.2), 135))])
    (fun x => x.1 ≤ 100 ∧ SrcOk x.2 ∧ x.2.key = ky ∧ x.2.place = p + 32 * x.1 ∧ ∀ j, j < x.1 → m ≤ valD ky m (p + 32 * j)) (fun x => 100 - x.1) (0, s) ⟨Nat.zero_le _, hs, hk, hl, fun j hj => absurd hj (Nat.not_lt_zero j)⟩
    (Fits.of ⟨rfl, rfl, rfl, rfl, rfl, rfl, trivial⟩ (.skip (SubL.refl _)) rfl) ?_
  clear hs hk hl SB LN E0 s1
  rintro ⟨i, s⟩ ⟨hi, hs, hk, hl, hno⟩
  dsimp only at hi hs hk hl hno ⊢
  by_cases hlt : i < 100
  · have t1 : decide ((i : Int) < 100) = true := decide_eq_true (by omega)
    have k1 : IntKind.i64.wrap ((i : Int) + 1) = ((i + 1 : Nat) : Int) := by rw [wrap_i64 _ (by omega) (by omega)]; omega
    repeat' (first | (refine wlS ?_) | (refine wlB ?_) | (refine wlE ?_) | (refine efSvao ?_; intro v oa ho) | (refine efZCnn ?_; intro n hn) | (refine efBnn ?_; intro n hn) | (refine efB ?_) | (refine efBS ?_) | (refine wl_skip rfl rfl ?_) | ((with_reducible refine wc_seq ?_); intro K hK) | (refine auC ?_) | (refine wc_cond rfl (fun hc => ?_) (fun hc => ?_)) | (refine wc_draw (by kernel_rfl) (by kernel_rfl) (by decide +kernel) ?_; intro w0 hw0 hm0; (try simp only [List.append_eq, List.cons_append, List.nil_append])) | (refine auP ?_) | ((refine auR ?_); clear hK K) | (refine auR ?_) | ((with_reducible refine hK _ _ ?_); clear hK K) | fail)
    obtain ⟨nb, rfl⟩ : ∃ nb, nb = n := ⟨n, rfl⟩
    refine wc_loop (σ := Nat × Src) (fun x => [(0, ptr g), (3, ptr n3), (4, ptr n4), (6, ptr n6), (9, .int .i64 (-((256 - blen (m - 1) : Nat) : Int))), (26, .int .i64 (i : Int)), (10, ptr nb), (28, .int .i64 (x.1 : Int))])
      (fun x => [(nb, (bys (outD ky (p + 32 * i) 32 x.1), 22)), (n6, (numC 0, 29)), (n4, (numC 0, 29)), (n3, (numC m, 29)), (g, (rwA (sgS x.2), 135))])
      (fun x => x.1 ≤ 32 ∧ SrcOk x.2 ∧ x.2.key = ky ∧ x.2.place = p + 32 * i + x.1) (fun x => 32 - x.1) (0, s) ⟨Nat.zero_le _, hs, hk, hl⟩
      (Fits.of ⟨rfl, rfl, rfl, rfl, rfl, rfl, rfl, rfl, trivial⟩ (by rw [show outD ky (p + 32 * i) 32 0 = List.replicate 32 0 from rfl]; exact SubL.refl _) rfl) ?_
    clear hs hk hl s
    rintro ⟨j, s⟩ ⟨hj, hs, hk, hl⟩
    dsimp only at hj hs hk hl ⊢
    by_cases hjt : j < 32
    · have t2 : decide ((j : Int) < 32) = true := decide_eq_true (by omega)
      have k2 : IntKind.i64.wrap ((j : Int) + 1) = ((j + 1 : Nat) : Int) := by rw [wrap_i64 _ (by omega) (by omega)]; omega
      have j2 : (j : Int) < ((32 : Nat) : Int) := by omega
      have NY := NX s hs (by omega)
      have st := outD_step ky (p + 32 * i) hjt
      haveI : NBy (outD ky (p + 32 * i) 32 j) 32 := ⟨by rw [outD, List.length_append, bytesD_len, List.length_replicate]; omega⟩
      rw [hk, hl] at NY
      clear NX UP DN UD hno
      generalize byteD ky (p + 32 * i + j) = B at *
      repeat' (first | (refine wlS ?_) | (refine wlB ?_) | (refine wlE ?_) | (refine efSvao ?_; intro v oa ho) | ((with_reducible refine sel_call ?_); first | (refine wl_updP rfl rfl rfl rfl rfl (fun w hm hw => by with_reducible exact NY w (Mem.belowO hm (by with_reducible assumption) (by with_reducible assumption)) hw) ?_ (hat := by intro _; repeat (first | exact At.here | apply At.there | apply At.skipA)); intro x c hx)) | (refine efBnn ?_; intro n hn) | (refine efB ?_) | (refine efBS ?_) | (refine wl_skip rfl rfl ?_) | ((with_reducible refine wc_seq ?_); intro K hK) | (refine auC ?_) | (refine wc_cond rfl (fun hc => ?_) (fun hc => ?_)) | (refine wc_draw (by kernel_rfl) (by kernel_rfl) (by decide +kernel) ?_; intro w0 hw0 hm0; (try simp only [List.append_eq, List.cons_append, List.nil_append])) | (refine auP ?_) | ((refine auR ?_); clear hK K) | (refine auR ?_) | ((with_reducible refine hK _ _ ?_); clear hK K) | fail)
      obtain ⟨s2, e1, e2, e3, rfl⟩ := hx
      exact ⟨(j + 1, s2), ⟨hjt, e3, e1, by rw [e2, Nat.add_assoc]⟩, by show 32 - (j + 1) < 32 - j; omega, Fits.of ⟨rfl, rfl, rfl, rfl, rfl, rfl, rfl, rfl, trivial⟩ (by rw [← st]; exact SubL.refl _) rfl⟩
    · obtain rfl : j = 32 := by omega
      have t2 : decide (((32 : Nat) : Int) < 32) = false := by decide
      rw [outD_all]
      have OFC := of_l (bytesD_len ky (p + 32 * i) 32) (ByL.out)
      have hvl := hval (p + 32 * i)
      have hol : ofL (bytesD ky (p + 32 * i) 32) < T256 := ofL_lt ByL.out
      have UP1 := UP _ hol
      have DN1 := DN (ofL (bytesD ky (p + 32 * i) 32) * 2 ^ (256 - blen (m - 1)) % T256) (Nat.mod_lt _ (by decide +kernel))
      rw [UD, ← hvl] at DN1
      have CM := cmp_nu (valD ky m (p + 32 * i)) m valD_lt hm
      haveI : NBy (bytesD ky (p + 32 * i) 32) 32 := ⟨bytesD_len _ _ _⟩
      have hcl : decide (cmpI (valD ky m (p + 32 * i)) m < 0) = decide (valD ky m (p + 32 * i) < m) := cmp_lt
      have hl' : s.place = p + 32 * (i + 1) := by rw [hl]; omega
      clear NX UP DN UD hval hvl
      by_cases hv : valD ky m (p + 32 * i) < m
      · rw [decide_eq_true hv] at hcl
        repeat' (first | (refine wlS ?_) | (refine wlB ?_) | ((with_reducible refine sel_call ?_); refine wl_rd rfl rfl (rd_call rfl rfl rfl (fun w hm => by with_reducible first | exact OFC w | exact UP1 w | exact DN1 w | exact CM w)) ?_) | (refine wlE ?_) | (refine efSvao ?_; intro v oa ho) | (refine efZCnn ?_; intro n hn) | (refine efBnn ?_; intro n hn) | (refine efB ?_) | (refine efBS ?_) | (refine wl_skip rfl rfl ?_) | ((with_reducible refine wc_seq ?_); intro K hK) | (refine auC ?_) | (refine wc_cond rfl (fun hc => ?_) (fun hc => ?_)) | (refine wc_draw (by kernel_rfl) (by kernel_rfl) (by decide +kernel) ?_; intro w0 hw0 hm0; (try simp only [List.append_eq, List.cons_append, List.nil_append])) | (refine auP ?_) | ((refine auR ?_); clear hK K) | (refine auR ?_) | ((with_reducible refine hK _ _ ?_); clear hK K) | fail)
        first | refine end_ret (ResP.cell rfl ld_whole (ResP.tmp rfl ResP.nil)) ?_ | refine end_normal (ResP.cell rfl ld_whole (ResP.tmp rfl ResP.nil)) ?_
        (try dsimp only [tupV])
        refine ⟨i, _, by rw [belV, if_pos hlt], ⟨hi, hno, fun _ => hv, s, hs, hk, by rw [if_pos hlt]; exact hl', rfl⟩, ?_⟩
        repeat (first | exact SubL.nil | exact SubL.refl _ | refine SubL.keep ?_ | exact SubL.headA _ _ | refine SubL.keepA ?_ _ | refine SubL.skip ?_ | refine SubL.skipA ?_ _)
      · rw [decide_eq_false hv] at hcl
        repeat' (first | (refine wlS ?_) | (refine wlB ?_) | ((with_reducible refine sel_call ?_); refine wl_rd rfl rfl (rd_call rfl rfl rfl (fun w hm => by with_reducible first | exact OFC w | exact UP1 w | exact DN1 w | exact CM w)) ?_) | (refine wlE ?_) | (refine efSvao ?_; intro v oa ho) | (refine efZCnn ?_; intro n hn) | (refine efBnn ?_; intro n hn) | (refine efB ?_) | (refine efBS ?_) | (refine wl_skip rfl rfl ?_) | ((with_reducible refine wc_seq ?_); intro K hK) | (refine auC ?_) | (refine wc_cond rfl (fun hc => ?_) (fun hc => ?_)) | (refine wc_draw (by kernel_rfl) (by kernel_rfl) (by decide +kernel) ?_; intro w0 hw0 hm0; (try simp only [List.append_eq, List.cons_append, List.nil_append])) | (refine auP ?_) | ((refine auR ?_); clear hK K) | (refine auR ?_) | ((with_reducible refine hK _ _ ?_); clear hK K) | fail)
        exact ⟨(i + 1, s), ⟨hlt, hs, hk, hl', fun j hj => by
          rcases Nat.lt_succ_iff_lt_or_eq.1 hj with h | rfl
          · exact hno j h
          · exact Nat.not_lt.1 hv⟩, by show 100 - (i + 1) < 100 - i; omega, Fits.of ⟨rfl, rfl, rfl, rfl, rfl, rfl, trivial⟩ (.skip (.skip (SubL.refl _))) rfl⟩
  · obtain rfl : i = 100 := by omega
    have t1 : decide (((100 : Nat) : Int) < 100) = false := by decide
    clear NX UP DN UD
    repeat' (first | (refine wlS ?_) | (refine wlB ?_) | (refine wlE ?_) | (refine efSvao ?_; intro v oa ho) | (refine efZCnn ?_; intro n hn) | (refine efBnn ?_; intro n hn) | (refine efB ?_) | (refine efBS ?_) | (refine wl_skip rfl rfl ?_) | ((with_reducible refine wc_seq ?_); intro K hK) | (refine auC ?_) | (refine wc_cond rfl (fun hc => ?_) (fun hc => ?_)) | (refine wc_draw (by kernel_rfl) (by kernel_rfl) (by decide +kernel) ?_; intro w0 hw0 hm0; (try simp only [List.append_eq, List.cons_append, List.nil_append])) | (refine auP ?_) | ((refine auR ?_); clear hK K) | (refine auR ?_) | ((with_reducible refine hK _ _ ?_); clear hK K) | fail)
    first | refine end_ret (ResP.cell rfl ld_whole (ResP.tmp rfl ResP.nil)) ?_ | refine end_normal (ResP.cell rfl ld_whole (ResP.tmp rfl ResP.nil)) ?_
    (try dsimp only [tupV])
    refine ⟨100, _, rfl, ⟨Nat.le_refl _, hno, fun h => absurd h (by decide), s, hs, hk, ?_, rfl⟩, ?_⟩
    · rw [hl]; rfl
    · repeat (first | exact SubL.nil | exact SubL.refl _ | refine SubL.keep ?_ | exact SubL.headA _ _ | refine SubL.keepA ?_ _ | refine SubL.skip ?_ | refine SubL.skipA ?_ _)
end Go.Proofs.YtkbgkobbadjpnaaDoor
namespace Go.Proofs.YtkbgkobbadjpnaaDoor
open Go.RowKit
set_option linter.unusedVariables false
set_option linter.unusedSimpArgs false
set_option maxRecDepth 100000
/-- A polynomial's value modulo L. -/
def evS : List Nat → Nat → Nat
  | [], _ => 0
  | c :: r, x => sadd (smul (evS r x) x) c
theorem evS_lt : ∀ (cs : List Nat) (x : Nat), evS cs x < SLn
  | [], _ => SL_pos
  | _ :: _, _ => sadd_L _ _
theorem evS_T (cs : List Nat) (x : Nat) : evS cs x < T256 := Nat.lt_trans (evS_lt _ _) SL_T
theorem evS_one {c x : Nat} (h : c < SLn) : evS [c] x = c := by
  show sadd (smul 0 x) c = c
  rw [sadd_def, smul_def, Nat.zero_mul, Nat.zero_mod, Nat.zero_add, Nat.mod_eq_of_lt h]
theorem evS_drop {cs : List Nat} {q c : Nat} (h : cs[q]? = some c) (x : Nat) : evS (cs.drop q) x = sadd (smul (evS (cs.drop (q + 1)) x) x) c := by
  have hq := (List.getElem?_eq_some_iff.1 h).1
  rw [List.drop_eq_getElem_cons hq]
  have := (List.getElem?_eq_some_iff.1 h).2
  rw [this]; rfl
theorem sw_ev {n : Nat} [NeZero n] (u x c : Fin n) : u * x + c = c + x * u := by grind
theorem toS_ev : ∀ (cs : List Nat) (x : Nat), toS (evS cs x) = pev (cs.map toS) (toS x)
  | [], _ => rfl
  | c :: r, x => by
    show toS (sadd _ _) = toS c + toS x * pev (r.map toS) (toS x)
    rw [toS_add, toS_mul, toS_ev r x]
    exact sw_ev _ _ _
/-- The shares of it. -/
def polyS (cs : List Nat) (i : Nat) : List (Int × Nat) := (List.range i).map fun j => (((j + 1 : Nat) : Int), evS cs (j + 1))
theorem polyS_succ (cs : List Nat) (i : Nat) : polyS cs (i + 1) = polyS cs i ++ [(((i + 1 : Nat) : Int), evS cs (i + 1))] := by simp [polyS, List.range_succ]
theorem polyS_len (cs : List Nat) (i : Nat) : (polyS cs i).length = i := by simp [polyS]
/-- A number, in a slice of records. -/
theorem ld_num4 {X : Cx} {l : Blks} {t n j y : Nat} {u : Value} {xs : List Value} [hu : KD X.P t true] [hs : SZ X.P t 4] [hv : Vw X l u n xs] (hj : (xs.drop j).take 4 = (numC y).toList := by with_reducible assumption) : Ld X l t (elB u) (elO u + j) (.agg (numC y)) :=
  ld_OR hj (numC_len y) (fun h => by have := numC_len y; rw [h] at this; simp at this)
theorem put_take {A B C : List Value} {a b : Nat} (hA : A.length = a) (hB : B.length = b) : (A ++ (B ++ C)).take (a + b) = A ++ B := by
  rw [← List.append_assoc]
  exact List.take_left' (by rw [List.length_append, hA, hB])
def numES : Enc Nat 4 := ⟨fun y => (numC y).toList, fun y => numC_len y, fun y u hu => List.all_eq_true.1 (by rw [Array.all_toList]; exact (numC_cells y).one) u hu⟩
/-- What Split gives. -/
def SplR (s k n : Nat) (x : Value × Int) (oa : Blks) : Prop :=
  (2 ≤ k ∧ x.2 ≠ 0 ∧ x.1 = .slice none 0 0 ∧ oa = []) ∨
  (x.2 = 0 ∧ ∃ cs, cs.length = k ∧ cs[0]? = some s ∧ (∀ c ∈ cs, c < SLn) ∧ OwnL 64 5 x.1 n (recs shE (polyS cs n)) oa)
set_option maxHeartbeats 8000000 in
theorem split_bad (w : World) (s : Nat) (hs : s < T256) (k n : Int) (hno : ¬ (1 ≤ k ∧ k ≤ n ∧ n ≤ 20 ∧ s < SLn)) {v : Value} : Calls Tryd.prog 27 [nu s, .int .i64 k, .int .i64 n, v].toArray w (Ret (.tuple #[.slice none 0 0, .int .i64 1]) w) := by
  have LC := l_c
  have CC := cmp_nu s SLn hs SL_T
  by_cases c1 : k < 1
  · have t1 : decide (k < 1) = true := decide_eq_true c1
    clear hs hno
    generalize cmpI s SLn = cz at *
    generalize SLn = sl at *
    refine fn_ret (N := _) Tryd.func27 rfl Tryd.ntmps27 Tryd.results27 (by simp) ?_
    simp only [initS, Nat.reduceAdd, Nat.zero_add]
    repeat' (first | (refine wlS ?_) | (refine wlB ?_) | ((with_reducible refine sel_call ?_); refine wl_rd rfl rfl (rd_call rfl rfl rfl (fun w hm => by with_reducible first | exact LC w | exact CC w)) ?_) | (refine wlE ?_) | (refine efSvao ?_; intro v oa ho) | (refine efZCnn ?_; intro n hn) | (refine efBnn ?_; intro n hn) | (refine efB ?_) | (refine efBS ?_) | (refine wl_skip rfl rfl ?_) | (refine wdS ?_) | (refine wdV ?_) | (refine wdB ?_) | ((with_reducible refine seld_call ?_); refine wd_rd hm0 rfl rfl rfl rfl (rd_call rfl rfl rfl (fun w hm => by with_reducible first | exact LC w | exact CC w)) ?_) | (refine wdE ?_) | (refine wdT ?_) | (refine wdTO ?_) | (refine wd_skip rfl rfl ?_) | ((with_reducible refine seld_nil ?_); refine wd_nil hm0 ?_; clear hm0 hw0) | ((with_reducible refine wc_seq ?_); intro K hK) | (refine auC ?_) | (refine wc_cond rfl (fun hc => ?_) (fun hc => ?_)) | (refine wc_draw (by kernel_rfl) (by kernel_rfl) (by decide +kernel) ?_; intro w0 hw0 hm0; (try simp only [List.append_eq, List.cons_append, List.nil_append])) | (refine auP ?_) | ((refine auR ?_); clear hK K) | (refine auR ?_) | ((with_reducible refine hK _ _ ?_); clear hK K) | fail)
    first | refine end_ret (ResP.tmp rfl (ResP.tmp rfl ResP.nil)) ?_ | refine end_normal (ResP.tmp rfl (ResP.tmp rfl ResP.nil)) ?_
    first | rfl | (show _ = _; rfl) | (simp only [tupV, *]; done)
  have t1 : decide (k < 1) = false := decide_eq_false c1
  by_cases c2 : k > n
  · have t2 : decide (k > n) = true := decide_eq_true c2
    clear hs hno
    generalize cmpI s SLn = cz at *
    generalize SLn = sl at *
    refine fn_ret (N := _) Tryd.func27 rfl Tryd.ntmps27 Tryd.results27 (by simp) ?_
    simp only [initS, Nat.reduceAdd, Nat.zero_add]
    repeat' (first | (refine wlS ?_) | (refine wlB ?_) | ((with_reducible refine sel_call ?_); refine wl_rd rfl rfl (rd_call rfl rfl rfl (fun w hm => by with_reducible first | exact LC w | exact CC w)) ?_) | (refine wlE ?_) | (refine efSvao ?_; intro v oa ho) | (refine efZCnn ?_; intro n hn) | (refine efBnn ?_; intro n hn) | (refine efB ?_) | (refine efBS ?_) | (refine wl_skip rfl rfl ?_) | (refine wdS ?_) | (refine wdV ?_) | (refine wdB ?_) | ((with_reducible refine seld_call ?_); refine wd_rd hm0 rfl rfl rfl rfl (rd_call rfl rfl rfl (fun w hm => by with_reducible first | exact LC w | exact CC w)) ?_) | (refine wdE ?_) | (refine wdT ?_) | (refine wdTO ?_) | (refine wd_skip rfl rfl ?_) | ((with_reducible refine seld_nil ?_); refine wd_nil hm0 ?_; clear hm0 hw0) | ((with_reducible refine wc_seq ?_); intro K hK) | (refine auC ?_) | (refine wc_cond rfl (fun hc => ?_) (fun hc => ?_)) | (refine wc_draw (by kernel_rfl) (by kernel_rfl) (by decide +kernel) ?_; intro w0 hw0 hm0; (try simp only [List.append_eq, List.cons_append, List.nil_append])) | (refine auP ?_) | ((refine auR ?_); clear hK K) | (refine auR ?_) | ((with_reducible refine hK _ _ ?_); clear hK K) | fail)
    first | refine end_ret (ResP.tmp rfl (ResP.tmp rfl ResP.nil)) ?_ | refine end_normal (ResP.tmp rfl (ResP.tmp rfl ResP.nil)) ?_
    first | rfl | (show _ = _; rfl) | (simp only [tupV, *]; done)
  have t2 : decide (k > n) = false := decide_eq_false c2
  by_cases c3 : n > 20
  · have t3 : decide (n > 20) = true := decide_eq_true c3
    clear hs hno
    generalize cmpI s SLn = cz at *
    generalize SLn = sl at *
    refine fn_ret (N := _) Tryd.func27 rfl Tryd.ntmps27 Tryd.results27 (by simp) ?_
    simp only [initS, Nat.reduceAdd, Nat.zero_add]
    repeat' (first | (refine wlS ?_) | (refine wlB ?_) | ((with_reducible refine sel_call ?_); refine wl_rd rfl rfl (rd_call rfl rfl rfl (fun w hm => by with_reducible first | exact LC w | exact CC w)) ?_) | (refine wlE ?_) | (refine efSvao ?_; intro v oa ho) | (refine efZCnn ?_; intro n hn) | (refine efBnn ?_; intro n hn) | (refine efB ?_) | (refine efBS ?_) | (refine wl_skip rfl rfl ?_) | (refine wdS ?_) | (refine wdV ?_) | (refine wdB ?_) | ((with_reducible refine seld_call ?_); refine wd_rd hm0 rfl rfl rfl rfl (rd_call rfl rfl rfl (fun w hm => by with_reducible first | exact LC w | exact CC w)) ?_) | (refine wdE ?_) | (refine wdT ?_) | (refine wdTO ?_) | (refine wd_skip rfl rfl ?_) | ((with_reducible refine seld_nil ?_); refine wd_nil hm0 ?_; clear hm0 hw0) | ((with_reducible refine wc_seq ?_); intro K hK) | (refine auC ?_) | (refine wc_cond rfl (fun hc => ?_) (fun hc => ?_)) | (refine wc_draw (by kernel_rfl) (by kernel_rfl) (by decide +kernel) ?_; intro w0 hw0 hm0; (try simp only [List.append_eq, List.cons_append, List.nil_append])) | (refine auP ?_) | ((refine auR ?_); clear hK K) | (refine auR ?_) | ((with_reducible refine hK _ _ ?_); clear hK K) | fail)
    first | refine end_ret (ResP.tmp rfl (ResP.tmp rfl ResP.nil)) ?_ | refine end_normal (ResP.tmp rfl (ResP.tmp rfl ResP.nil)) ?_
    first | rfl | (show _ = _; rfl) | (simp only [tupV, *]; done)
  have t3 : decide (n > 20) = false := decide_eq_false c3
  have c4 : SLn ≤ s := by omega
  have s3 : decide (cmpI s SLn ≥ 0) = true := decide_eq_true (by unfold cmpI; rw [if_neg (by omega)]; split <;> decide)
  clear hs hno c4
  generalize cmpI s SLn = cz at *
  generalize SLn = sl at *
  refine fn_ret (N := _) Tryd.func27 rfl Tryd.ntmps27 Tryd.results27 (by simp) ?_
  simp only [initS, Nat.reduceAdd, Nat.zero_add]
  repeat' (first | (refine wlS ?_) | (refine wlB ?_) | ((with_reducible refine sel_call ?_); refine wl_rd rfl rfl (rd_call rfl rfl rfl (fun w hm => by with_reducible first | exact LC w | exact CC w)) ?_) | (refine wlE ?_) | (refine efSvao ?_; intro v oa ho) | (refine efZCnn ?_; intro n hn) | (refine efBnn ?_; intro n hn) | (refine efB ?_) | (refine efBS ?_) | (refine wl_skip rfl rfl ?_) | (refine wdS ?_) | (refine wdV ?_) | (refine wdB ?_) | ((with_reducible refine seld_call ?_); refine wd_rd hm0 rfl rfl rfl rfl (rd_call rfl rfl rfl (fun w hm => by with_reducible first | exact LC w | exact CC w)) ?_) | (refine wdE ?_) | (refine wdT ?_) | (refine wdTO ?_) | (refine wd_skip rfl rfl ?_) | ((with_reducible refine seld_nil ?_); refine wd_nil hm0 ?_; clear hm0 hw0) | ((with_reducible refine wc_seq ?_); intro K hK) | (refine auC ?_) | (refine wc_cond rfl (fun hc => ?_) (fun hc => ?_)) | (refine wc_draw (by kernel_rfl) (by kernel_rfl) (by decide +kernel) ?_; intro w0 hw0 hm0; (try simp only [List.append_eq, List.cons_append, List.nil_append])) | (refine auP ?_) | ((refine auR ?_); clear hK K) | (refine auR ?_) | ((with_reducible refine hK _ _ ?_); clear hK K) | fail)
  first | refine end_ret (ResP.tmp rfl (ResP.tmp rfl ResP.nil)) ?_ | refine end_normal (ResP.tmp rfl (ResP.tmp rfl ResP.nil)) ?_
  first | rfl | (show _ = _; rfl) | (simp only [tupV, *]; done)
set_option maxHeartbeats 32000000 in
theorem split_ok (w : World) (hT : Tab w) (w' : World) (hb : Below w.heap.size w w') (s : Nat) (hs : s < SLn) (kk nn : Nat) (h1 : 1 ≤ kk) (h2 : kk ≤ nn) (h3 : nn ≤ 20) {sv : Value} {m : Nat} {key : List Nat} (hq : Cb w' sv m key) :
    Calls Tryd.prog 27 [nu s, .int .i64 (kk : Int), .int .i64 (nn : Int), sv].toArray w' (RetO (fun x : Value × Int => .tuple #[x.1, .int .i64 x.2]) (SplR s kk nn) w') := by
  have hT' := hT.below hb
  have i1 := hq.old
  have LC := l_c
  have sT : s < T256 := Nat.lt_trans hs SL_T
  have CC := cmp_nu s SLn sT SL_T
  have t1 : decide ((kk : Int) < 1) = false := decide_eq_false (by omega)
  have t2 : decide ((kk : Int) > (nn : Int)) = false := decide_eq_false (by omega)
  have t3 : decide ((nn : Int) > 20) = false := decide_eq_false (by omega)
  have s3 : decide (cmpI s SLn ≥ 0) = false := decide_eq_false (by unfold cmpI; rw [if_pos (by omega)]; decide)
  have ND : ∀ w'', Below w'.heap.size w' w'' → Cb w'' sv m key → Calls Tryd.prog 50 [sv].toArray w'' (RetO (fun n => ptr n) (fun n oa => ∃ s : Src, SrcOk s ∧ s.key = newM key ∧ s.place = 0 ∧ oa = [(n, (rwA (sgS s), 135))]) w'') := fun w'' h h' => new_k w' hT' w'' h h'
  have BD : ∀ {p : Nat} {g : Nat} {z : Src}, SrcOk z → z.key = newM key → z.place = p → p + 3200 < 18446744073709551616 → ∀ w'', Below w'.heap.size w' w'' → w'.heap.size ≤ g → w''.heap[g]? = some (.cells (rwA (sgS z)) 135) →
    Calls Tryd.prog 51 [ptr g, nu SLn].toArray w'' (RetP (fun r : Nat => belV (newM key) SLn p r) g (rwA (sgS z)) 135 (fun r c => BelO (newM key) SLn p r c) w'') := fun h1 h2 h3 h4 => below_c w' hT' h1 h2 h3 h4 SL_T (Nat.pos_iff_ne_zero.1 SL_pos)
  have hr0 : (numC s).toList = recs numES [s] := by simp [recs, numES]
  clear hT hb hq hT'
  generalize newM key = K' at *
  refine fn_own (N := _) Tryd.func27 rfl Tryd.ntmps27 Tryd.results27 (by simp) ?_
  simp only [initS, Nat.reduceAdd, Nat.zero_add]
  repeat' (first | (refine wlS ?_) | (refine wlB ?_) | ((with_reducible refine sel_call ?_); refine wl_rd rfl rfl (rd_call rfl rfl rfl (fun w hm => by with_reducible first | exact LC w | exact CC w)) ?_) | (refine wlE ?_) | (refine efSvao ?_; intro v oa ho) | (refine efZCnn ?_; intro n hn) | ((with_reducible refine sel_bslice ?_); first | (refine wl_bslice1 rfl rfl rfl rfl ?_; intro v oa ho)) | ((with_reducible refine sel_call ?_); first | (refine wl_newO rfl rfl rfl rfl rfl (fun w hm => by with_reducible exact ND w (hm.below rfl) (VwB.out w hm)) ?_; intro x oa hx)) | (refine efBnn ?_; intro n hn) | (refine efB ?_) | (refine efBS ?_) | (refine wl_skip rfl rfl ?_) | (refine wdS ?_) | (refine wdV ?_) | (refine wdB ?_) | ((with_reducible refine seld_call ?_); refine wd_rd hm0 rfl rfl rfl rfl (rd_call rfl rfl rfl (fun w hm => by with_reducible first | exact LC w | exact CC w)) ?_) | (refine wdE ?_) | (refine wdT ?_) | (refine wdTO ?_) | (refine wd_skip rfl rfl ?_) | ((with_reducible refine seld_nil ?_); refine wd_nil hm0 ?_; clear hm0 hw0) | ((with_reducible refine wc_seq ?_); intro K hK) | (refine auC ?_) | (refine wc_cond rfl (fun hc => ?_) (fun hc => ?_)) | (refine wc_draw (by kernel_rfl) (by kernel_rfl) (by decide +kernel) ?_; intro w0 hw0 hm0; (try simp only [List.append_eq, List.cons_append, List.nil_append])) | (refine auP ?_) | ((refine auR ?_); clear hK K) | (refine auR ?_) | ((with_reducible refine hK _ _ ?_); clear hK K) | fail)
  obtain ⟨z0, hz1, hz2, hz3, rfl⟩ := hx
  obtain ⟨g, rfl⟩ : ∃ g, g = x := ⟨x, rfl⟩
  rw [hr0] at ho
  refine wc_loop (σ := List Nat × Value × Blks × Src) (fun x => [(1, .int .i64 (kk : Int)), (2, .int .i64 (nn : Int)), (10, x.2.1), (11, ptr g)])
    (fun x => x.2.2.1 ++ [(g, (rwA (sgS x.2.2.2), 135))])
    (fun x => x.1.length ≤ kk ∧ 1 ≤ x.1.length ∧ OwnL 29 4 x.2.1 x.1.length (recs numES x.1) x.2.2.1 ∧ x.1[0]? = some s ∧ (∀ c ∈ x.1, c < SLn) ∧ SrcOk x.2.2.2 ∧ x.2.2.2.key = K' ∧ x.2.2.2.place ≤ 3200 * x.1.length)
    (fun x => kk - x.1.length) ([s], v, oa, z0) ⟨h1, Nat.le_refl _, ho, rfl, by simpa using hs, hz1, hz2, by rw [hz3]; exact Nat.zero_le _⟩ (Fits.of ⟨rfl, rfl, rfl, rfl, trivial⟩ (.skip (SubL.refl _)) rfl) ?_
  clear hz1 hz2 hz3 ho ND t1 t2 t3 s3 CC i1 hr0
  rintro ⟨cs, u, oc, z⟩ ⟨hl, hl1, hown, hc0, hcL, hz1, hz2, hz3⟩
  dsimp only at hl hl1 hown hc0 hcL hz1 hz2 hz3 ⊢
  haveI := hown
  have iln : Ln u cs.length := hown.ln
  by_cases hlt : cs.length < kk
  · have u1 : decide ((cs.length : Int) < (kk : Int)) = true := decide_eq_true (by omega)
    obtain ⟨p, hp⟩ : ∃ p, p = z.place := ⟨_, rfl⟩
    have BE := fun {g : Nat} => BD (g := g) hz1 hz2 hp.symm (by omega)
    clear BD
    repeat' (first | (refine wlS ?_) | (refine wlB ?_) | ((with_reducible refine sel_call ?_); refine wl_rd rfl rfl (rd_call rfl rfl rfl (fun w hm => by with_reducible exact LC w)) ?_) | (refine wlE ?_) | (refine efSvao ?_; intro v oa ho) | (refine efZCnn ?_; intro n hn) | ((with_reducible refine sel_call ?_); first | (refine wl_updP rfl rfl rfl rfl rfl (fun w hm hw => by with_reducible exact BE w (hm.below rfl) (Mem.freshK hm) hw) ?_ (hat := by intro _; repeat (first | exact At.here | apply At.there | apply At.skipA)); intro x c hx)) | (refine efBnn ?_; intro n hn) | (refine efB ?_) | (refine efBS ?_) | (refine wl_skip rfl rfl ?_) | (refine wdS ?_) | (refine wdV ?_) | (refine wdB ?_) | ((with_reducible refine seld_call ?_); refine wd_rd hm0 rfl rfl rfl rfl (rd_call rfl rfl rfl (fun w hm => by with_reducible exact LC w)) ?_) | (refine wdE ?_) | (refine wdT ?_) | (refine wdTO ?_) | (refine wd_skip rfl rfl ?_) | ((with_reducible refine seld_nil ?_); refine wd_nil hm0 ?_; clear hm0 hw0) | ((with_reducible refine wc_seq ?_); intro K hK) | (refine auC ?_) | (refine wc_cond rfl (fun hc => ?_) (fun hc => ?_)) | (refine wc_draw (by kernel_rfl) (by kernel_rfl) (by decide +kernel) ?_; intro w0 hw0 hm0; (try simp only [List.append_eq, List.cons_append, List.nil_append])) | (refine auP ?_) | ((refine auR ?_); clear hK K) | (refine auR ?_) | ((with_reducible refine hK _ _ ?_); clear hK K) | fail)
    obtain ⟨z', hy1, hy2, hy3, rfl⟩ := hx.src
    by_cases hr : x < 100
    · have e : belV K' SLn p x = .tuple #[nu (valD K' SLn (p + 32 * x)), .int .i64 0] := by rw [belV, if_pos hr]
      rw [e]
      rw [if_pos hr] at hy3
      have hyL := hx.some hr
      have n0 : ((0 : Int) != 0) = false := rfl
      generalize valD K' SLn (p + 32 * x) = y at *
      have hz : recs numES cs ++ (numC y).toList = recs numES (cs ++ [y]) := recs_snoc numES cs y
      have hl4 : (numC y).toList.length = 1 * 4 := numC_len y
      have one := numES.one y
      have hlen : (cs ++ [y]).length = cs.length + 1 := by simp
      have hcn : (cs ++ [y])[0]? = some s := by rw [List.getElem?_append_left (by omega)]; exact hc0
      have hcl : ∀ c ∈ cs ++ [y], c < SLn := fun c hc => by
        rcases List.mem_append.1 hc with hc | hc
        · exact hcL c hc
        · simp only [List.mem_singleton] at hc
          rw [hc]; exact hyL
      clear e hx BE LC
      dsimp only [numES] at one
      repeat' (first | (refine wlS ?_) | (refine wlB ?_) | (refine wlNB ?_) | (refine wlE ?_) | (refine efSvao ?_; intro v oa ho) | (refine efZCnn ?_; intro n hn) | ((with_reducible refine sel_bslice ?_); first | (refine wl_bslice1 rfl rfl rfl rfl ?_; intro v oa ho)) | (refine efBnn ?_; intro n hn) | (refine efB ?_) | (refine efBS ?_) | (refine wl_skip rfl rfl ?_) | (refine wdS ?_) | (refine wdV ?_) | (refine wdB ?_) | (refine wdE ?_) | (refine wdT ?_) | (refine wdTO ?_) | (refine wd_skip rfl rfl ?_) | ((with_reducible refine seld_nil ?_); refine wd_nil hm0 ?_; clear hm0 hw0) | ((with_reducible refine wc_seq ?_); intro K hK) | (refine auC ?_) | (refine wc_cond rfl (fun hc => ?_) (fun hc => ?_)) | (refine wc_draw (by kernel_rfl) (by kernel_rfl) (by decide +kernel) ?_; intro w0 hw0 hm0; (try simp only [List.append_eq, List.cons_append, List.nil_append])) | (refine auP ?_) | ((refine auR ?_); clear hK K) | (refine auR ?_) | ((with_reducible refine hK _ _ ?_); clear hK K) | fail)
      refine ⟨(cs ++ [y], v, oa, z'), ⟨by rw [hlen]; exact hlt, by rw [hlen]; omega, by rw [hlen]; assumption, hcn, hcl, hy1, hy2, by rw [hy3, hlen]; omega⟩, by show kk - (cs ++ [y]).length < kk - cs.length; omega, Fits.of ⟨rfl, rfl, rfl, rfl, trivial⟩ ?_ rfl⟩
      repeat (first | exact SubL.nil | exact SubL.refl _ | refine SubL.keep ?_ | exact SubL.headA _ _ | refine SubL.keepA ?_ _ | refine SubL.skip ?_ | refine SubL.skipA ?_ _)
    · have e : belV K' SLn p x = .tuple #[nu 0, .int .i64 6] := by rw [belV, if_neg hr]
      rw [e]
      have n0 : ((6 : Int) != 0) = true := rfl
      clear e hx BE LC
      repeat' (first | (refine wlS ?_) | (refine wlB ?_) | (refine wlNB ?_) | (refine wlE ?_) | (refine efSvao ?_; intro v oa ho) | (refine efZCnn ?_; intro n hn) | (refine efBnn ?_; intro n hn) | (refine efB ?_) | (refine efBS ?_) | (refine wl_skip rfl rfl ?_) | (refine wdS ?_) | (refine wdV ?_) | (refine wdB ?_) | (refine wdE ?_) | (refine wdT ?_) | (refine wdTO ?_) | (refine wd_skip rfl rfl ?_) | ((with_reducible refine seld_nil ?_); refine wd_nil hm0 ?_; clear hm0 hw0) | ((with_reducible refine wc_seq ?_); intro K hK) | (refine auC ?_) | (refine wc_cond rfl (fun hc => ?_) (fun hc => ?_)) | (refine wc_draw (by kernel_rfl) (by kernel_rfl) (by decide +kernel) ?_; intro w0 hw0 hm0; (try simp only [List.append_eq, List.cons_append, List.nil_append])) | (refine auP ?_) | ((refine auR ?_); clear hK K) | (refine auR ?_) | ((with_reducible refine hK _ _ ?_); clear hK K) | fail)
      first | refine end_ret (ResP.tmp rfl (ResP.tmp rfl ResP.nil)) ?_ | refine end_normal (ResP.tmp rfl (ResP.tmp rfl ResP.nil)) ?_
      (try dsimp only [tupV])
      exact ⟨(.slice none 0 0, 6), [], rfl, .inl ⟨by omega, by decide, rfl, rfl⟩, .nil⟩
  · have u1 : decide ((cs.length : Int) < (kk : Int)) = false := decide_eq_false (by omega)
    have hck : cs.length = kk := by omega
    clear BD LC hz1 hz2 hz3 hl hl1 hlt
    rw [hck] at hown iln u1
    repeat' (first | (refine wlS ?_) | (refine wlB ?_) | (refine wlE ?_) | (refine efSvao ?_; intro v oa ho) | ((with_reducible refine sel_mslice ?_); first | (refine wl_makeR rfl rfl rfl rfl rfl ?_; intro v xs oa ho)) | (refine efBnn ?_; intro n hn) | (refine efB ?_) | (refine efBS ?_) | (refine wl_skip rfl rfl ?_) | (refine wdS ?_) | (refine wdV ?_) | (refine wdB ?_) | (refine wdE ?_) | (refine wdT ?_) | (refine wdTO ?_) | (refine wd_skip rfl rfl ?_) | ((with_reducible refine seld_nil ?_); refine wd_nil hm0 ?_; clear hm0 hw0) | ((with_reducible refine wc_seq ?_); intro K hK) | (refine auC ?_) | (refine wc_cond rfl (fun hc => ?_) (fun hc => ?_)) | (refine wc_draw (by kernel_rfl) (by kernel_rfl) (by decide +kernel) ?_; intro w0 hw0 hm0; (try simp only [List.append_eq, List.cons_append, List.nil_append])) | (refine auP ?_) | ((refine auR ?_); clear hK K) | (refine auR ?_) | ((with_reducible refine hK _ _ ?_); clear hK K) | fail)
    have hcsl : ∀ j, j < kk → ∃ c, cs[j]? = some c ∧ c < SLn := fun j hj => ⟨cs[j], List.getElem?_eq_getElem (by omega), hcL _ (List.getElem_mem _)⟩
    refine wc_loop (σ := Nat × List Value × Blks) (fun x => [(1, .int .i64 (kk : Int)), (10, u), (14, v), (59, .int .i64 (nn : Int)), (60, .int .i64 (x.1 : Int))])
      (fun x => oc ++ x.2.2)
      (fun x => x.1 ≤ nn ∧ OwnL 64 5 v nn x.2.1 x.2.2 ∧ x.2.1.take (x.1 * 5) = recs shE (polyS cs x.1))
      (fun x => nn - x.1) (0, xs, oa) ⟨Nat.zero_le _, ho, by simp [polyS, recs]⟩ (Fits.of ⟨rfl, rfl, rfl, rfl, rfl, trivial⟩ ?_ rfl) ?_
    · repeat (first | exact SubL.nil | exact SubL.refl _ | refine SubL.keep ?_ | exact SubL.headA _ _ | refine SubL.keepA ?_ _ | refine SubL.skip ?_ | refine SubL.skipA ?_ _)
    clear ho u1
    rintro ⟨i, ys, ob⟩ ⟨hi, ho, hx⟩
    dsimp only at hi ho hx ⊢
    haveI := ho
    have ilv : Ln v nn := ho.ln
    by_cases hlt : i < nn
    · have w1 : decide ((i : Int) < (nn : Int)) = true := decide_eq_true (by omega)
      obtain ⟨c, hc, hcl⟩ := hcsl (kk - 1) (by omega)
      have s1 : IntKind.i64.wrap ((kk : Int) - 1) = ((kk - 1 : Nat) : Int) := by rw [wrap_i64 _ (by omega) (by omega)]; omega
      have s2 : IntKind.i64.wrap ((kk : Int) - 2) = ((kk - 1 : Nat) : Int) - 1 := by rw [wrap_i64 _ (by omega) (by omega)]; omega
      have s4 : IntKind.i64.wrap ((i : Int) + 1) = ((i + 1 : Nat) : Int) := by rw [wrap_i64 _ (by omega) (by omega)]; omega
      have hget : ((recs numES cs).drop ((kk - 1) * 4)).take 4 = (numC c).toList := recs_get numES hc
      have j1 : ((kk - 1 : Nat) : Int) < (kk : Int) := by omega
      have j0 : (i : Int) < (nn : Int) := by omega
      have hev : evS (cs.drop (kk - 1)) (i + 1) = c := by
        rw [List.drop_eq_getElem_cons (by omega : kk - 1 < cs.length), show kk - 1 + 1 = cs.length by omega, List.drop_length, (List.getElem?_eq_some_iff.1 hc).2]
        exact evS_one hcl
      repeat' (first | (refine wlS ?_) | (refine wlB ?_) | ((with_reducible refine sel_load ?_); refine wv rfl rfl (rd_load rfl rfl ld_num4) ?_) | (refine wlE ?_) | (refine efSvao ?_; intro v oa ho) | (refine efZCnn ?_; intro n hn) | (refine efBnn ?_; intro n hn) | (refine efB ?_) | (refine efBS ?_) | (refine wl_skip rfl rfl ?_) | (refine wdS ?_) | (refine wdV ?_) | (refine wdB ?_) | ((with_reducible refine seld_load ?_); refine wdv hm0 rfl rfl rfl rfl (rd_load rfl rfl ld_num4) ?_) | (refine wdE ?_) | (refine wdT ?_) | (refine wdTO ?_) | (refine wd_skip rfl rfl ?_) | ((with_reducible refine seld_nil ?_); refine wd_nil hm0 ?_; clear hm0 hw0) | ((with_reducible refine wc_seq ?_); intro K hK) | (refine auC ?_) | (refine wc_cond rfl (fun hc => ?_) (fun hc => ?_)) | (refine wc_draw (by kernel_rfl) (by kernel_rfl) (by decide +kernel) ?_; intro w0 hw0 hm0; (try simp only [List.append_eq, List.cons_append, List.nil_append])) | (refine auP ?_) | ((refine auR ?_); clear hK K) | (refine auR ?_) | ((with_reducible refine hK _ _ ?_); clear hK K) | fail)
      clear hget s1 s2 j1
      obtain ⟨mm, rfl⟩ : ∃ mm, mm = n := ⟨n, rfl⟩
      refine wc_loop (σ := Nat) (fun j => [(1, .int .i64 (kk : Int)), (10, u), (14, v), (59, .int .i64 (nn : Int)), (60, .int .i64 (i : Int)), (15, .int .i64 (i : Int)), (16, ptr mm), (17, .int .i64 ((j : Int) - 1))])
        (fun j => (mm, (numC (evS (cs.drop j) (i + 1)), 29)) :: (oc ++ ob))
        (fun j => j < kk) (fun j => j) (kk - 1) (by omega) (Fits.of ⟨rfl, rfl, rfl, rfl, rfl, rfl, rfl, rfl, trivial⟩ (by rw [hev]; exact SubL.refl _) rfl) ?_
      clear hev hc hcl
      intro j hj
      cases j with
      | succ q =>
        obtain ⟨c, hc, hcl⟩ := hcsl q (by omega)
        have e1 : (((q + 1 : Nat) : Int) - 1) = (q : Int) := by omega
        have s1 : IntKind.i64.wrap ((q : Int) - 1) = (q : Int) - 1 := by rw [wrap_i64 _ (by omega) (by omega)]
        have w3 : decide ((q : Int) ≥ 0) = true := decide_eq_true (by omega)
        have hget : ((recs numES cs).drop (q * 4)).take 4 = (numC c).toList := recs_get numES hc
        have j1 : (q : Int) < (kk : Int) := by omega
        have NA := num_c (i + 1) (by omega)
        have cT : c < T256 := Nat.lt_trans hcl SL_T
        have xT : i + 1 < T256 := Nat.lt_trans (by omega : i + 1 < 256) (by decide)
        have hev := evS_drop hc (i + 1)
        have yT := evS_T (cs.drop (q + 1)) (i + 1)
        rw [e1]
        generalize evS (cs.drop (q + 1)) (i + 1) = y at *
        clear hcsl hc hcl e1
        repeat' (first | (refine wlS ?_) | (refine wlB ?_) | ((with_reducible refine sel_call ?_); first | refine wl_rd rfl rfl (rd_call rfl rfl rfl (fun w hm => by with_reducible exact NA w)) ?_ | refine wl_rd rfl rfl (rd_call rfl rfl rfl (fun w _ => by with_reducible exact mulS _ _ (by first | (with_reducible assumption) | (with_reducible exact SmT.out) | decide) (by first | (with_reducible assumption) | (with_reducible exact SmT.out) | decide) w)) ?_ | refine wl_rd rfl rfl (rd_call rfl rfl rfl (fun w _ => by with_reducible exact addS _ _ (by first | (with_reducible assumption) | (with_reducible exact SmT.out) | decide) (by first | (with_reducible assumption) | (with_reducible exact SmT.out) | decide) w)) ?_) | ((with_reducible refine sel_load ?_); refine wv rfl rfl (rd_load rfl rfl ld_num4) ?_) | (refine wlE ?_) | (refine efSvao ?_; intro v oa ho) | (refine efZCnn ?_; intro n hn) | (refine efBnn ?_; intro n hn) | (refine efB ?_) | (refine efBS ?_) | (refine wl_skip rfl rfl ?_) | (refine wdS ?_) | (refine wdV ?_) | (refine wdB ?_) | ((with_reducible refine seld_call ?_); refine wd_rd hm0 rfl rfl rfl rfl (rd_call rfl rfl rfl (fun w hm => by with_reducible exact NA w)) ?_) | ((with_reducible refine seld_call ?_); refine wd_rd hm0 rfl rfl rfl rfl (rd_call rfl rfl rfl (fun w _ => by with_reducible exact mulS _ _ (by first | (with_reducible assumption) | (with_reducible exact SmT.out) | decide) (by first | (with_reducible assumption) | (with_reducible exact SmT.out) | decide) w)) ?_) | ((with_reducible refine seld_call ?_); refine wd_rd hm0 rfl rfl rfl rfl (rd_call rfl rfl rfl (fun w _ => by with_reducible exact addS _ _ (by first | (with_reducible assumption) | (with_reducible exact SmT.out) | decide) (by first | (with_reducible assumption) | (with_reducible exact SmT.out) | decide) w)) ?_) | ((with_reducible refine seld_load ?_); refine wdv hm0 rfl rfl rfl rfl (rd_load rfl rfl ld_num4) ?_) | (refine wdE ?_) | (refine wdT ?_) | (refine wdTO ?_) | (refine wd_skip rfl rfl ?_) | ((with_reducible refine seld_nil ?_); refine wd_nil hm0 ?_; clear hm0 hw0) | ((with_reducible refine wc_seq ?_); intro K hK) | (refine auC ?_) | (refine wc_cond rfl (fun hc => ?_) (fun hc => ?_)) | (refine wc_draw (by kernel_rfl) (by kernel_rfl) (by decide +kernel) ?_; intro w0 hw0 hm0; (try simp only [List.append_eq, List.cons_append, List.nil_append])) | (refine auP ?_) | ((refine auR ?_); clear hK K) | (refine auR ?_) | ((with_reducible refine hK _ _ ?_); clear hK K) | fail)
        refine ⟨q, by omega, Nat.lt_succ_self q, Fits.of ⟨rfl, rfl, rfl, rfl, rfl, rfl, rfl, rfl, trivial⟩ ?_ rfl⟩
        rw [hev]
        repeat (first | exact SubL.nil | exact SubL.refl _ | refine SubL.keep ?_ | exact SubL.headA _ _ | refine SubL.keepA ?_ _ | refine SubL.skip ?_ | refine SubL.skipA ?_ _)
      | zero =>
        have w3 : decide (((0 : Nat) : Int) - 1 ≥ 0) = false := by decide
        have hev : evS (cs.drop 0) (i + 1) = evS cs (i + 1) := rfl
        rw [hev]
        have hp := polyS_succ cs i
        generalize evS cs (i + 1) = y at *
        have h1 := rwL_one (g := sgSh ((i + 1 : Nat) : Int) y) inferInstance
        have hb : i * 5 + 5 ≤ nn * 5 := by omega
        have hl5 := sgSh_len ((i + 1 : Nat) : Int) y
        obtain ⟨zs, hq2⟩ : ∃ zs, ys.take (i * 5) ++ (rwL (sgSh ((i + 1 : Nat) : Int) y) ++ ys.drop (i * 5 + 5)) = zs := ⟨_, rfl⟩
        have hput : zs.take ((i + 1) * 5) = recs shE (polyS cs (i + 1)) := by
          rw [hp, ← recs_snoc, ← hx, ← hq2, show (i + 1) * 5 = i * 5 + 5 by omega]
          exact put_take (by rw [List.length_take, ho.len]; omega) (sgSh_len _ _)
        clear hcsl
        repeat' (first | (refine wlS ?_) | (refine wlG ?_) | (refine wlB ?_) | (refine wlE ?_) | (refine efSvao ?_; intro v oa ho) | (refine efG ?_) | (refine efGnn ?_; intro n hn) | (refine efZCnn ?_; intro n hn) | ((with_reducible refine sel_store ?_); first | (refine wl_putR rfl rfl rfl rfl ?_; intro od hod)) | (refine efBnn ?_; intro n hn) | (refine efB ?_) | (refine efBS ?_) | (refine wl_skip rfl rfl ?_) | (refine wdS ?_) | (refine wdG ?_) | (refine wdV ?_) | (refine wdB ?_) | (refine wdE ?_) | (refine wdT ?_) | (refine wdTO ?_) | (refine wd_skip rfl rfl ?_) | ((with_reducible refine seld_nil ?_); refine wd_nil hm0 ?_; clear hm0 hw0) | ((with_reducible refine wc_seq ?_); intro K hK) | (refine auC ?_) | (refine wc_cond rfl (fun hc => ?_) (fun hc => ?_)) | (refine wc_draw (by kernel_rfl) (by kernel_rfl) (by decide +kernel) ?_; intro w0 hw0 hm0; (try simp only [List.append_eq, List.cons_append, List.nil_append])) | (refine auP ?_) | ((refine auR ?_); clear hK K) | (refine auR ?_) | ((with_reducible refine hK _ _ ?_); clear hK K) | fail)
        refine ⟨(i + 1, zs, od), ⟨hlt, by assumption, hput⟩, by show nn - (i + 1) < nn - i; omega, Fits.of ⟨rfl, rfl, rfl, rfl, rfl, trivial⟩ ?_ rfl⟩
        repeat (first | exact SubL.nil | exact SubL.refl _ | refine SubL.keep ?_ | exact SubL.headA _ _ | refine SubL.keepA ?_ _ | refine SubL.skip ?_ | refine SubL.skipA ?_ _)
    · obtain rfl : i = nn := by omega
      have w1 : decide ((i : Int) < (i : Int)) = false := decide_eq_false (by omega)
      clear hcsl
      repeat' (first | (refine wlS ?_) | (refine wlB ?_) | (refine wlE ?_) | (refine efSvao ?_; intro v oa ho) | (refine efBnn ?_; intro n hn) | (refine efB ?_) | (refine efBS ?_) | (refine wl_skip rfl rfl ?_) | (refine wdS ?_) | (refine wdV ?_) | (refine wdB ?_) | (refine wdE ?_) | (refine wdT ?_) | (refine wdTO ?_) | (refine wd_skip rfl rfl ?_) | ((with_reducible refine seld_nil ?_); refine wd_nil hm0 ?_; clear hm0 hw0) | ((with_reducible refine wc_seq ?_); intro K hK) | (refine auC ?_) | (refine wc_cond rfl (fun hc => ?_) (fun hc => ?_)) | (refine wc_draw (by kernel_rfl) (by kernel_rfl) (by decide +kernel) ?_; intro w0 hw0 hm0; (try simp only [List.append_eq, List.cons_append, List.nil_append])) | (refine auP ?_) | ((refine auR ?_); clear hK K) | (refine auR ?_) | ((with_reducible refine hK _ _ ?_); clear hK K) | fail)
      first | refine end_ret (ResP.tmp rfl (ResP.tmp rfl ResP.nil)) ?_ | refine end_normal (ResP.tmp rfl (ResP.tmp rfl ResP.nil)) ?_
      (try dsimp only [tupV])
      refine ⟨(v, 0), ob, rfl, .inr ⟨rfl, cs, hck, hc0, hcL, ?_⟩, ?_⟩
      · rw [← hx, List.take_of_length_le (by rw [ho.len]; exact Nat.le_refl _)]
        exact ho
      · repeat (first | exact SubL.nil | exact SubL.refl _ | refine SubL.keep ?_ | exact SubL.headA _ _ | refine SubL.keepA ?_ _ | refine SubL.skip ?_ | refine SubL.skipA ?_ _)
end Go.Proofs.YtkbgkobbadjpnaaDoor
namespace Go.Proofs.YtkbgkobbadjpnaaDoor
theorem shAt_poly {cs : List Nat} {l : List (Nat × Nat)} (h : ShOk l) (hv : ∀ q ∈ l, q.2 = evS cs q.1) (hc : cs.length ≤ l.length) (x : Nat) : shAt l x = evS cs x := by
  refine toS_inj (shAt_L _ _) (evS_lt _ _) ?_
  rw [toS_shAt, toS_ev]
  refine lag_only Ks h.ndF (by simpa [sF] using hc) (fun q hq => ?_) _
  obtain ⟨r, hr, rfl⟩ := List.mem_map.1 hq
  show pev _ (toS r.1) = toS r.2
  rw [hv r hr, toS_ev]
theorem evS_zero {c : Nat} {r : List Nat} (h : c < SLn) : evS (c :: r) 0 = c := by
  show sadd (smul _ 0) c = c
  rw [sadd_def, smul_def, Nat.mul_zero, Nat.zero_mod, Nat.zero_add, Nat.mod_eq_of_lt h]
theorem sw_add {n : Nat} [NeZero n] (A B x c d : Fin n) : (A + B) * x + (c + d) = (A * x + c) + (B * x + d) := by grind
theorem evS_add : ∀ (cs ds : List Nat) (x : Nat), cs.length = ds.length → evS (List.zipWith sadd cs ds) x = sadd (evS cs x) (evS ds x)
  | [], [], x, _ => by
    show 0 = sadd 0 0
    rw [sadd_def]; rfl
  | c :: cs, d :: ds, x, h => by
    have ih := evS_add cs ds x (by simpa using h)
    refine toS_inj (evS_lt _ _) (sadd_L _ _) ?_
    show toS (sadd (smul (evS (List.zipWith sadd cs ds) x) x) (sadd c d)) = toS (sadd (sadd (smul (evS cs x) x) c) (sadd (smul (evS ds x) x) d))
    rw [ih]
    simp only [toS_add, toS_mul]
    exact sw_add _ _ _ _ _
/-- The first i shares of both, added. -/
def bothN (cs ds : List Nat) (i : Nat) : List (Nat × Nat) := (List.range i).map fun j => (j + 1, sadd (evS cs (j + 1)) (evS ds (j + 1)))
theorem bothN_len (cs ds : List Nat) (i : Nat) : (bothN cs ds i).length = i := by simp [bothN]
theorem bothN_succ (cs ds : List Nat) (i : Nat) : bothN cs ds (i + 1) = bothN cs ds i ++ [(i + 1, sadd (evS cs (i + 1)) (evS ds (i + 1)))] := by simp [bothN, List.range_succ]
theorem bothN_mem {cs ds : List Nat} {i : Nat} {q : Nat × Nat} (h : q ∈ bothN cs ds i) : 1 ≤ q.1 ∧ q.1 ≤ i ∧ q.2 = sadd (evS cs q.1) (evS ds q.1) := by
  obtain ⟨j, hj, rfl⟩ := List.mem_map.1 h
  have := List.mem_range.1 hj
  exact ⟨by dsimp only; omega, by dsimp only; omega, rfl⟩
theorem bothN_nd (cs ds : List Nat) (i : Nat) : ((bothN cs ds i).map (·.1)).Nodup := by
  have e : (bothN cs ds i).map (·.1) = (List.range i).map (· + 1) := by simp [bothN, Function.comp_def]
  rw [e, List.nodup_iff_pairwise_ne, List.pairwise_map]
  have := List.nodup_range (n := i)
  rw [List.nodup_iff_pairwise_ne] at this
  exact this.imp fun hne he => hne (by omega)
theorem both_at {a b k : Nat} {cs ds : List Nat} (hk : k ≤ 20) (hc : cs.length = k) (hd : ds.length = k) (ha : cs[0]? = some a) (hb : ds[0]? = some b) : shAt (bothN cs ds k) 0 = sadd a b := by
  have hok : ShOk (bothN cs ds k) := ⟨fun q hq => by
    obtain ⟨h1, h2, h3⟩ := bothN_mem hq
    exact ⟨Nat.lt_trans (by omega : q.1 < 256) (by decide +kernel), by rw [h3]; exact sadd_L _ _⟩, bothN_nd _ _ _⟩
  have hcd : cs.length = ds.length := by omega
  have hv : ∀ q ∈ bothN cs ds k, q.2 = evS (List.zipWith sadd cs ds) q.1 := fun q hq => by rw [evS_add _ _ _ hcd]; exact (bothN_mem hq).2.2
  rw [shAt_poly hok hv (by rw [bothN_len, List.length_zipWith]; omega)]
  cases cs with
  | nil => simp at ha
  | cons c cs =>
    cases ds with
    | nil => simp at hb
    | cons d ds =>
      obtain rfl : c = a := by simpa using ha
      obtain rfl : d = b := by simpa using hb
      exact evS_zero (sadd_L _ _)
theorem both_err {k : Nat} (cs ds : List Nat) (h1 : 1 ≤ k) (h20 : k ≤ 20) : shErr (liI (bothN cs ds k)) ((0 : Nat) : Int) = 0 := by
  refine shErr_of (by rw [liI_len, bothN_len]; exact h20) (by rw [liI_len, bothN_len]; omega) (by decide) (by decide) ⟨fun q hq => ?_, ?_⟩
  · obtain ⟨r, hr, rfl⟩ := List.mem_map.1 hq
    obtain ⟨h2, h3, h4⟩ := bothN_mem hr
    exact ⟨by dsimp only; omega, by dsimp only; omega, by dsimp only; rw [h4]; exact sadd_L _ _⟩
  · have e : (liI (bothN cs ds k)).map (·.1) = ((bothN cs ds k).map (·.1)).map (fun j : Nat => (j : Int)) := by simp [liI, Function.comp_def]
    have := bothN_nd cs ds k
    rw [e, List.nodup_iff_pairwise_ne, List.pairwise_map]
    rw [List.nodup_iff_pairwise_ne] at this
    exact this.imp fun hne he => hne (by omega)
theorem polyS_get {cs : List Nat} {n i : Nat} (h : i < n) : (polyS cs n)[i]? = some (((i + 1 : Nat) : Int), evS cs (i + 1)) := by simp [polyS, h]
/-- A share's number, where it lies. -/
theorem sh_num {l : List (Int × Nat)} {k : Nat} {a : Int} {y : Nat} (hq : l[k]? = some (a, y)) : ((recs shE l).drop (k * 5 + 1)).take 4 = (numC y).toList := by
  have h5 := recs_get shE hq
  have h6 := congrArg (fun c => (c.drop 1).take 4) h5
  rw [List.drop_take, List.take_take, List.drop_drop] at h6
  rw [show min 4 (5 - 1) = 4 from rfl] at h6
  rw [h6]
  have hl4 : (numC y).toList.length = 4 := numC_len y
  show ((rwL (sgSh a y)).drop 1).take 4 = _
  have e : rwL (sgSh a y) = .int .i64 a :: (numC y).toList := by simp [rwL]
  rw [e, List.drop_succ_cons, List.drop_zero, List.take_of_length_le (by rw [hl4]; exact Nat.le_refl _)]
theorem sh_x {l : List (Int × Nat)} {k : Nat} {a : Int} {y : Nat} (hq : l[k]? = some (a, y)) : (recs shE l)[k * 5]? = some (.int .i64 a) := recs_cell shE hq (j := 0) (by decide)
open Go.RowKit
theorem upd_below {w w' : World} (h : Below w.heap.size w w') : Upd w [] w' [] := ⟨h.os, h.tape, h.output, h.size, fun k hk _ => h.block k hk, by simp [keys], fun p hp => (by cases hp), by simp [keys]⟩
/-- What Split gives, whatever it is given. -/
def SplA (s : Nat) (k n : Int) (x : Value × Int) (oa : Blks) : Prop :=
  (x.2 ≠ 0 ∧ x.1 = .slice none 0 0 ∧ oa = []) ∨ (x.2 = 0 ∧ s < SLn ∧ ∃ kk nn : Nat, k = kk ∧ n = nn ∧ 1 ≤ kk ∧ kk ≤ nn ∧ nn ≤ 20 ∧ ∃ cs, cs.length = kk ∧ cs[0]? = some s ∧ OwnL 64 5 x.1 nn (recs shE (polyS cs nn)) oa)
theorem split_any (w : World) (hT : Tab w) (w' : World) (hb : Below w.heap.size w w') (s : Nat) (hs : s < T256) (k n : Int) {sv : Value} {m : Nat} {key : List Nat} (hq : Cb w' sv m key) :
    Calls Tryd.prog 27 [nu s, .int .i64 k, .int .i64 n, sv].toArray w' (RetO (fun x : Value × Int => .tuple #[x.1, .int .i64 x.2]) (SplA s k n) w') := by
  by_cases hg : 1 ≤ k ∧ k ≤ n ∧ n ≤ 20 ∧ s < SLn
  · obtain ⟨h1, h2, h3, h4⟩ := hg
    obtain ⟨kk, rfl⟩ := Int.eq_ofNat_of_zero_le (show 0 ≤ k by omega)
    obtain ⟨nn, rfl⟩ := Int.eq_ofNat_of_zero_le (show 0 ≤ n by omega)
    refine (split_ok w hT w' hb s h4 kk nn (by omega) (by omega) (by omega) hq).mono fun e w3 => ?_
    rintro ⟨x, oa, he, hx | ⟨h0, cs, hc1, hc2, _, ho⟩, hu⟩
    · exact ⟨x, oa, he, .inl hx.2, hu⟩
    · exact ⟨x, oa, he, .inr ⟨h0, h4, kk, nn, rfl, rfl, by omega, by omega, by omega, cs, hc1, hc2, ho⟩, hu⟩
  · refine (split_bad w' s hs k n hg).mono fun e w3 => ?_
    rintro ⟨he, hbl⟩
    exact ⟨(.slice none 0 0, 1), [], he, .inl ⟨by decide, rfl, rfl⟩, upd_below hbl⟩
end Go.Proofs.YtkbgkobbadjpnaaDoor
namespace Go.Proofs.YtkbgkobbadjpnaaDoor
set_option maxRecDepth 100000
theorem mayEnter_of {P : Program} {l : List Char} {rest : List (List Char)} (h0 : P.initOrder = String.ofList l) (h : behindMainWord (wordsSigns l) = "cut".toList :: rest) (hs : stripLifts liftWords ("cut".toList :: rest) = ([], "cut".toList :: rest)) (h1 : P.laysLater = false) (h2 : P.bearsReflect = false) (h3 : P.doorFits [] = true) : P.mayEnter = true := by
  unfold Program.mayEnter
  rw [h0, String.toList_ofList, h]
  generalize "cut".toList = c at *
  simp only [hs, h1, h2, h3]
  simp
theorem headLifts_of {P : Program} {l : List Char} {rest : List (List Char)} (h0 : P.initOrder = String.ofList l) (h : behindMainWord (wordsSigns l) = "cut".toList :: rest) (hs : stripLifts liftWords ("cut".toList :: rest) = ([], "cut".toList :: rest)) : P.headLifts = [] := by
  unfold Program.headLifts
  rw [h0, String.toList_ofList, h, hs]
  simp
theorem liftsFinal_of {P : Program} {l : List Char} {rest : List (List Char)} (h0 : P.initOrder = String.ofList l) (h : behindMainWord (wordsSigns l) = "cut".toList :: rest) (hs : stripLifts liftWords ("cut".toList :: rest) = ([], "cut".toList :: rest)) : P.liftsFinal = false := by
  unfold Program.liftsFinal
  rw [headLifts_of h0 h hs, h0, String.toList_ofList, h]
  simp
theorem make_of {P : Program} {l : List Char} {rest : List (List Char)} (h0 : P.initOrder = String.ofList l) (h : behindMainWord (wordsSigns l) = "cut".toList :: rest) : P.make = some .cut := by
  unfold Program.make
  rw [h0, String.toList_ofList, h]
  have e1 : ("cut".toList == "gc".toList || "cut".toList == "spec".toList) = false := by decide +kernel
  simp only [e1]
  simp
theorem word0 : ∃ (l : List Char), Tryd.prog.initOrder = String.ofList l ∧ behindMainWord (wordsSigns l) = "cut".toList :: (behindMainWord (wordsSigns l)).tail ∧ stripLifts liftWords ("cut".toList :: (behindMainWord (wordsSigns l)).tail) = ([], "cut".toList :: (behindMainWord (wordsSigns l)).tail) := ⟨_, rfl, by kernel_rfl, by kernel_rfl⟩
theorem word1 : ∃ (l : List Char) (rest : List (List Char)), Tryd.prog.initOrder = String.ofList l ∧ behindMainWord (wordsSigns l) = "cut".toList :: rest ∧ stripLifts liftWords ("cut".toList :: rest) = ([], "cut".toList :: rest) := by
  obtain ⟨l, h⟩ := word0
  exact ⟨l, _, h⟩
theorem mayEnters : Tryd.prog.mayEnter = true := by
  obtain ⟨l, r, h0, h, hs⟩ := word1
  exact mayEnter_of h0 h hs (by kernel_rfl) (by kernel_rfl) (by kernel_rfl)
theorem liftsNone : Tryd.prog.liftsFinal = false := by
  obtain ⟨l, r, h0, h, hs⟩ := word1
  exact liftsFinal_of h0 h hs
theorem makeCut : Tryd.prog.make = some .cut := by
  obtain ⟨l, r, h0, h, hs⟩ := word1
  exact make_of h0 h
end Go.Proofs.YtkbgkobbadjpnaaDoor
namespace Go.Proofs.YtkbgkobbadjpnaaDoor
open Go.RowKit
theorem gTab : Tryd.prog.globalNamed "sealring/hash.primeRoots" = some 0 := by kernel_rfl
theorem gTabType : (Tryd.prog.globals[0]?).map (·.type) = some 127 := by kernel_rfl
theorem tab_of {W : World} (h : Lib.TabIs Tryd.prog W "sealring/hash.primeRoots" .u32 roots) : Tab W := fun i hi => h.cell gTab i hi
noncomputable def laidWorld (os : Os) : World :=
  { World.holding Tryd.prog os ⟨#[], #[], []⟩ with heap := (World.holding Tryd.prog os ⟨#[], #[], []⟩).heap.modify 0 fun
      | .cells _ t frozen => .cells (iw roots) t frozen
      | o => o }
end Go.Proofs.YtkbgkobbadjpnaaDoor
namespace Go.Proofs.YtkbgkobbadjpnaaDoor
open Go.RowKit Go.ChangeShapes Go.WideShapes
set_option linter.unusedVariables false
set_option maxRecDepth 100000
/-- Shares that came in. -/
structure ShI (w : World) (v : Value) (l : List (Int × Nat)) : Prop where
  cs : Shs w v l
  lt : ∀ q ∈ l, q.2 < T256
section
variable {W : World}
theorem cells_sh : Tryd.prog.cellsOf 64 = 5 := by kernel_rfl
theorem cells_ish : Tryd.prog.cellsOf 3 = 1 := by kernel_rfl
theorem cells_nsh : Tryd.prog.cellsOf 29 = 4 := by kernel_rfl
theorem rdg_numS : Rdg Tryd.prog W 29 fun cs b => ∃ y, y < T256 ∧ cs = (numC y).toList := fun H enc fuel cs x hx => by
  obtain ⟨zs, l0, q0, w0⟩ := cells_ints (t := 29) (e := 27) (n := 4) (k := .u64) (by kernel_rfl) (by kernel_rfl) (by kernel_rfl) cells_nsh hx
  obtain ⟨a, ha, ea⟩ := num_list l0 w0
  rw [nu_num] at ea
  have ea' : (zs.map (Value.int .u64)) = (numC a).toList := by
    have := congrArg (fun v => match v with | Value.agg c => c.toList | _ => []) ea
    simpa using this
  exact ⟨a, ha, by rw [q0, ea']⟩
theorem rdg_share : Rdg Tryd.prog W 64 fun cs b => ∃ q : Int × Nat, q.2 < T256 ∧ cs = shE.enc q ∧ 1 ≤ b :=
  (rdg_struct2 Tryd.underlying64 (rdg_int (k := .i64) (by kernel_rfl)) rdg_numS).mono fun cs b ⟨b0, b1, hl, h0, h1, hb⟩ => by
    rw [cells_sh] at hl
    dsimp only at h0 h1
    rw [cells_ish] at h0
    rw [cells_nsh] at h1
    obtain ⟨z, hz, hw⟩ := h0
    obtain ⟨y, hy, hn⟩ := h1
    refine ⟨(z, y), hy, ?_, by omega⟩
    have e : cs = (cs.drop 0).take 1 ++ (cs.drop 1).take 4 := by
      rw [List.take_of_length_le (l := cs.drop 1) (by rw [List.length_drop, hl]; omega), List.drop_zero, List.take_append_drop]
    rw [e, hz, hn]
    show _ = rwL (sgSh z y)
    simp [rwL]
theorem open_shs {r : Reach} {b0 : Nat} {v : Value} {H : Type} {enc : TypeId × Value → H} {d : DataW H} {q : List MemPlace} (hv : Value.okWide Tryd.prog W r b0 60 v) (h : DataW.Trod enc Tryd.prog W 0 (fun _ => true) true 60 v d q) :
    ∃ l : List (Int × Nat), ShI W v l ∧ l.length + 1 ≤ Rows.uptoBulk d := by
  obtain ⟨a, len, cap, rfl⟩ := okWide_slice (e := 64) (by kernel_rfl) hv
  obtain ⟨v', n, cc, h1, h2, h3, h4, h5⟩ := open_cell (r := r) (b0 := b0) (rdg_slice (e := 64) (by kernel_rfl) cells_sh (by decide) rdg_share) rfl h
  cases h1
  have key : ∀ l : List (List Value × Nat), (∀ c ∈ l, (∃ q : Int × Nat, q.2 < T256 ∧ c.1 = shE.enc q ∧ 1 ≤ c.2) ∧ c.1.length = 5) → ∃ its : List (Int × Nat), (l.map (·.1)).flatten = recs shE its ∧ its.length = l.length ∧ (∀ x ∈ its, x.2 < T256) ∧ l.length ≤ (l.map (·.2)).sum := by
    intro l
    induction l with
    | nil => intro _; exact ⟨[], rfl, rfl, by simp, by simp⟩
    | cons c r ih =>
      intro h
      obtain ⟨its, e1, e2, e3, e4⟩ := ih fun d hd => h d (by simp [hd])
      obtain ⟨⟨x, f1, f2, f4⟩, _⟩ := h c (by simp)
      refine ⟨x :: its, ?_, by simp [e2], fun y hy => ?_, by simp only [List.map_cons, List.sum_cons, List.length_cons]; omega⟩
      · rw [List.map_cons, List.flatten_cons, e1, f2, recs_cons]
      · rcases List.mem_cons.1 hy with rfl | hy
        · exact f1
        · exact e3 y hy
  obtain ⟨its, e1, e2, e3, e4⟩ := key cc h3
  rw [e1] at h4
  refine ⟨its, ⟨?_, e3⟩, by omega⟩
  show Cs W _ its.length _
  rw [e2, h2]; exact h4
end
end Go.Proofs.YtkbgkobbadjpnaaDoor
namespace Go.Proofs.YtkbgkobbadjpnaaDoor
open Go.RowKit
set_option linter.unusedVariables false
set_option linter.unusedSimpArgs false
set_option maxRecDepth 100000
set_option maxHeartbeats 8000000 in
theorem shares_t (w : World) (hT : Tab w) (w' : World) (hb : Below w.heap.size w w') : Calls Tryd.prog 30 [].toArray w' (Ret (.bool true) w') := by
  have SC : ∀ w'', Below w'.heap.size w' w'' → Calls Tryd.prog 27 [nu 5, .int .i64 1, .int .i64 1, .slice none 0 0].toArray w'' (RetO (fun x : Value => .tuple #[x, .int .i64 0]) (fun x oa => OwnL 64 5 x 1 (recs shE (polyS [5] 1)) oa) w'') := fun w'' h => by
    have := split_ok w' (hT.below hb) w'' h 5 (by decide +kernel) 1 1 (Nat.le_refl _) (Nat.le_refl _) (by decide) (cb_nil w'')
    refine this.mono fun e w3 => ?_
    rintro ⟨⟨a, b⟩, oa, rfl, hx | ⟨h0, cs, hc1, hc2, _, ho⟩, hu⟩
    · exact absurd hx.1 (by decide)
    · dsimp only at h0
      subst h0
      obtain ⟨c, rfl⟩ := List.length_eq_one_iff.1 hc1
      obtain rfl : c = 5 := by simpa using hc2
      exact ⟨a, oa, rfl, ho, hu⟩
  have q1 : ((0 : Int) == 0) = true := rfl
  have q2 : (((1 : Nat) : Int) == 1) = true := rfl
  clear hT hb
  refine fn_ret (N := _) Tryd.func30 rfl Tryd.ntmps30 Tryd.results30 (by simp) ?_
  simp only [initS, Nat.reduceAdd, Nat.zero_add]
  repeat' (first | (refine wlS ?_) | (refine wlB ?_) | (refine wlEQ ?_) | (refine wlNL ?_) | (refine wlE ?_) | (refine efSvao ?_; intro v oa ho) | ((with_reducible refine sel_call ?_); first | (refine wl_newO rfl rfl rfl rfl rfl (fun w hm => by with_reducible exact SC w (hm.below rfl)) ?_; intro x oa hx)) | (refine wl_skip rfl rfl ?_) | ((with_reducible refine wc_seq ?_); intro K hK) | (refine auC ?_) | (refine wc_cond rfl (fun hc => ?_) (fun hc => ?_)) | (refine wc_draw (by kernel_rfl) (by kernel_rfl) (by decide +kernel) ?_; intro w0 hw0 hm0; (try simp only [List.append_eq, List.cons_append, List.nil_append])) | (refine auP ?_) | ((refine auR ?_); clear hK K) | (refine auR ?_) | ((with_reducible refine hK _ _ ?_); clear hK K) | fail)
  first | refine end_ret (ResP.tmp rfl ResP.nil) ?_ | refine end_normal (ResP.tmp rfl ResP.nil) ?_
  first | rfl | (show _ = _; rfl) | (simp only [tupV, *]; done)
end Go.Proofs.YtkbgkobbadjpnaaDoor
namespace Go.Proofs.YtkbgkobbadjpnaaDoor
open Go.RowKit
set_option linter.unusedVariables false
class SubPm (l' l : Blks) : Prop where
  out : ∃ r, l.Perm (l' ++ r)
instance (priority := 1100) seg_one1 {p : Nat × (Array Value × TypeId)} {r : Blks} : Seg (p :: r) [p] (fun o => o ++ r) := ⟨[], r, rfl, fun _ => rfl⟩
instance subPm_nil {l : Blks} : SubPm [] l := ⟨l, List.Perm.refl _⟩
theorem SubPm.step {a t l : Blks} {f : Blks → Blks} (h1 : Seg l a f) (h2 : SubPm t (f [])) : SubPm (a ++ t) l := by
  obtain ⟨pre, post, rfl, hf⟩ := h1.out
  obtain ⟨r, hr⟩ := h2.out
  rw [hf, List.nil_append] at hr
  refine ⟨r, ?_⟩
  have e1 : (pre ++ (a ++ post)).Perm (a ++ (pre ++ post)) := by
    rw [← List.append_assoc, ← List.append_assoc]
    exact List.Perm.append_right _ List.perm_append_comm
  rw [List.append_assoc]
  exact e1.trans (List.Perm.append_left _ hr)
instance subPm_cons {p : Nat × (Array Value × TypeId)} {t l : Blks} {f : Blks → Blks} [h1 : Seg l [p] f] [h2 : SubPm t (f [])] : SubPm (p :: t) l := SubPm.step (a := [p]) h1 h2
instance subPm_app {a t l : Blks} {f : Blks → Blks} [h1 : Seg l a f] [h2 : SubPm t (f [])] : SubPm (a ++ t) l := SubPm.step h1 h2
instance (priority := 500) subPm_all {a l : Blks} {f : Blks → Blks} [h1 : Seg l a f] : SubPm a l := by
  have := SubPm.step h1 (subPm_nil (l := f []))
  rwa [List.append_nil] at this
theorem Mem.subP {X : Cx} {l l' : Blks} {w : World} (h : Mem X l w) (hs : SubPm l' l) : Mem X l' w := by
  obtain ⟨r, hr⟩ := hs.out
  refine (h.perm hr.symm).sub' ?_ fun p hp => List.mem_append_left _ hp
  have := (h.perm hr.symm).nd
  rw [keys_app] at this
  exact (List.nodup_append.1 this).1
theorem wc_subP {X : Cx} {Q : Post} {s s' : Slots} {l l' : Blks} {c : Code} (hs : SubS s' s) (hl : SubPm l' l) (h : Wc X c Q s' l') : Wc X c Q s l := fun a w hst => h a w ⟨hst.env.sub hs, hst.mem.subP hl⟩
/-- Is there something steady to take? (Asked ahead: 'rfl' is slow where it falls.) -/
theorem wh_if {X : Cx} {Q : Post} {fuel : Nat} {b : Blks} {l : List Nat} {s : Slots} {r : List Oper} {lp : Blks} {late : List Nat} (h0 : (pickS steadyB r idx l).isSome = true) (h : Wh X ⟨r.toArray, lp, late⟩ Q fuel l s b) : Wh X ⟨r.toArray, lp, late⟩ Q fuel l s b := h
end Go.Proofs.YtkbgkobbadjpnaaDoor
namespace Go.Proofs.YtkbgkobbadjpnaaDoor
open Go.RowKit
set_option linter.unusedVariables false
set_option linter.unusedSimpArgs false
section
variable {X : Cx} {s : Slots} {l : Blks} {o : Oper} {v : Value}
/-- A function's value with what it has caught. -/
theorem rd_mkfun {f : Nat} {cs : Array Operand} {us : List Value} (ho : o.op = .makeFunc (.func f) #[] cs) (hu : vals s cs.toList = some us) : RdV X s l o (.func (.func f) #[] us.toArray) := rd_val fun a w he hm => by
  have h := he.vals hu
  have h2 : cs.map a.eval = us.toArray := by rw [← h]; simp [← Array.toList_map]
  have h3 : Array.map a.eval (#[] : Array Operand) = #[] := by simp
  simp only [execOp, ho, Instr.makeFunc, h2, h3, Sem.run_bind, Sem.run_pure, Result.andThen_ok]
/-- A call of such a value. -/
theorem rd_callc {c : Call} {f : Nat} {y : Operand} {us vs : List Value} (ho : o.op = .call c) (hc : c.callee = .value y) (hy : val s y = some (.func (.func f) #[] us.toArray)) (ha : vals s c.args.toList = some vs)
    (h : ∀ w, Mem X l w → Calls X.P f (vs ++ us).toArray w (Ret v w)) (hk : callOk X.P f = true := by kernel_rfl) : Rd X s l o v := fun a w he hm => by
  have h1 := he.vals ha
  have h2 : c.args.map a.eval = vs.toArray := by rw [← h1]; simp [← Array.toList_map]
  have e : (execOp a.eval o).run X.P w = (callFunc f (vs ++ us).toArray).run X.P w := by
    simp only [execOp, ho, resolve, hc, h2, he.eval hy, Deferred.ofValue]
    simp [invoke]
  rw [e, run_enter hk]
  exact ⟨rfl, h w hm⟩
end
section
variable {X : Cx} {Q : Post} {s : Slots} {l : Blks} {ops : Array Oper} {r : List Oper} {d : Option Tmp} {ty : TypeId} {p : String} {af : Array Edge} {g : Option (Nat × Bool)}
theorem sel_makeFunc {f : Fn} {a b : Array Operand} (h : Wl X ops Q (⟨d, .makeFunc f a b, ty, p, af, g⟩ :: r) s l) : Wl X ops Q (⟨d, .makeFunc f a b, ty, p, af, g⟩ :: r) s l := h
end
end Go.Proofs.YtkbgkobbadjpnaaDoor
namespace Go.Proofs.YtkbgkobbadjpnaaDoor
set_option linter.unusedVariables false
section
variable {n : Nat} [NeZero n]
theorem ltm_front (K : Fl n) (l : List (Fin n × Fin n)) (a y z x : Fin n) {i : Nat} (hi : i < l.length) : ltm K (l ++ [(a, y)]) x i = ltm K (l ++ [(a, z)]) x i := by
  unfold ltm
  rw [List.getElem?_append_left hi, List.getElem?_append_left hi]
  simp only [List.map_append, List.map_cons, List.map_nil]
theorem lsm_front (K : Fl n) (l : List (Fin n × Fin n)) (a y z x : Fin n) : ∀ k, k ≤ l.length → lsm K (l ++ [(a, y)]) x k = lsm K (l ++ [(a, z)]) x k
  | 0, _ => rfl
  | k + 1, h => by
    show lsm K _ x k + ltm K _ x k = lsm K _ x k + ltm K _ x k
    rw [lsm_front K l a y z x k (by omega), ltm_front K l a y z x (by omega)]
theorem lag_last (K : Fl n) (l : List (Fin n × Fin n)) (a y x : Fin n) : lag K (l ++ [(a, y)]) x = lsm K (l ++ [(a, 0)]) x l.length + y * (prd (l.map (·.1)) x * K.inv (prd (l.map (·.1)) a)) := by
  unfold lag
  rw [List.length_append, List.length_singleton]
  show lsm K _ x l.length + ltm K _ x l.length = _
  rw [lsm_front K l a y 0 x l.length (Nat.le_refl _)]
  congr 1
  unfold ltm
  have e : (l ++ [(a, y)])[l.length]? = some (a, y) := by simp
  have e2 : ((l ++ [(a, y)]).map (·.1)).eraseIdx l.length = l.map (·.1) := by
    rw [List.map_append, List.eraseIdx_append_of_length_le (by rw [List.length_map]; exact Nat.le_refl _), List.length_map, Nat.sub_self]
    simp
  rw [e]
  dsimp only
  rw [e2]
theorem few_zero {P I Q : Fin n} (h : P * I = 0) (hq : Q * I = 1) : P = 0 := by grind
theorem few_slope (B C : Fin n) : B + 1 * C + (0 - (B + 0 * C)) = C := by grind
theorem few_back {B C I s : Fin n} (h : C * I = 1) : B + ((s + (0 - (B + 0 * C))) * I) * C = s := by grind
end
theorem few_sF (l : List (Nat × Nat)) (a y : Nat) : sF (l ++ [(a, y)]) = sF l ++ [(toS a, toS y)] := by simp [sF]
def fewC (l : List (Nat × Nat)) (a : Nat) : FS := prd ((sF l).map (·.1)) (toS 0) * Ks.inv (prd ((sF l).map (·.1)) (toS a))
theorem few_at (l : List (Nat × Nat)) (a y : Nat) : toS (shAt (l ++ [(a, y)]) 0) = lsm Ks (sF l ++ [(toS a, 0)]) (toS 0) (sF l).length + toS y * fewC l a := by
  rw [toS_shAt, few_sF, lag_last]; rfl
theorem few_ne {l : List (Nat × Nat)} {a y : Nat} (h : ShOk (l ++ [(a, y)])) (hz : ∀ q ∈ l, 1 ≤ q.1) : fewC l a ≠ 0 := by
  have hx0 : toS 0 ∉ (sF l).map (·.1) := fun hm => by
    rw [sF_fst, List.mem_map] at hm
    obtain ⟨b, hb, he⟩ := hm
    obtain ⟨q, hq, rfl⟩ := List.mem_map.1 hb
    have := toS_inj (h.small q (List.mem_append_left _ hq)).1 SL_pos he
    have := hz q hq
    omega
  have hxa : toS a ∉ (sF l).map (·.1) := fun hm => by
    rw [sF_fst, List.mem_map] at hm
    obtain ⟨b, hb, he⟩ := hm
    obtain ⟨q, hq, rfl⟩ := List.mem_map.1 hb
    have h1 := toS_inj (h.small q (List.mem_append_left _ hq)).1 (h.small (a, y) (by simp)).1 he
    have nd := h.nd
    rw [List.map_append, List.nodup_append] at nd
    exact nd.2.2 q.1 (List.mem_map.2 ⟨q, hq, rfl⟩) a (by simp) h1
  have h0 := prd_ne Ks (1 : FS) Ks.one_ne hx0
  have ha := prd_ne Ks (1 : FS) Ks.one_ne hxa
  intro hc
  exact h0 (few_zero hc (Ks.mul_inv _ ha))
/-- What the third asks for. -/
def fewY (l : List (Nat × Nat)) (a s : Nat) : Nat := smul (sadd s (sneg (shAt (l ++ [(a, 0)]) 0))) (sinv (sadd (shAt (l ++ [(a, 1)]) 0) (sneg (shAt (l ++ [(a, 0)]) 0))))
theorem few_toS {l : List (Nat × Nat)} {a : Nat} : toS (sadd (shAt (l ++ [(a, 1)]) 0) (sneg (shAt (l ++ [(a, 0)]) 0))) = fewC l a := by
  rw [toS_add, toS_neg, few_at, few_at, toS_one]
  exact few_slope _ _
theorem few_slope_ne {l : List (Nat × Nat)} {a y : Nat} (h : ShOk (l ++ [(a, y)])) (hz : ∀ q ∈ l, 1 ≤ q.1) : sadd (shAt (l ++ [(a, 1)]) 0) (sneg (shAt (l ++ [(a, 0)]) 0)) ≠ 0 := fun e => by
  have := few_toS (l := l) (a := a)
  rw [e] at this
  exact few_ne h hz this.symm
theorem few_law {l : List (Nat × Nat)} {a y s : Nat} (h : ShOk (l ++ [(a, y)])) (hz : ∀ q ∈ l, 1 ≤ q.1) (hs : s < SLn) : shAt (l ++ [(a, fewY l a s)]) 0 = s := by
  refine toS_inj (shAt_L _ _) hs ?_
  rw [few_at]
  unfold fewY
  rw [toS_mul, toS_add, toS_neg, toS_inv, few_toS, few_at]
  exact few_back (Ks.mul_inv _ (few_ne h hz))
end Go.Proofs.YtkbgkobbadjpnaaDoor
namespace Go.Proofs.YtkbgkobbadjpnaaDoor
open Go.RowKit
set_option linter.unusedVariables false
set_option linter.unusedSimpArgs false
set_option maxRecDepth 100000
instance (priority := 90) cells_shF {z : Int} {y : Nat} : Cells (rwA (sgSh z y)) 5 := ⟨rw_size (g := sgSh z y) inferInstance, rw_one (g := sgSh z y) inferInstance⟩
set_option maxHeartbeats 16000000 in
theorem with_c (w : World) {v : Value} {m : Nat} {l : List (Int × Nat)} (h : Cs w v m (recs shE l)) (hl : l.length = m) (hm : m ≤ 5) (x : Int) (y : Nat) (hy : y < T256) {g k : Nat} (hg : w.heap[g]? = some (.cells #[v] 60)) (hk : w.heap[k]? = some (.cells #[.int .i64 x] 3))
    {r : Nat} {e : Int} (hA : ∀ {u : Value} w', Cs w' u (m + 1) (recs shE (l ++ [(x, y)])) → Calls Tryd.prog 29 [u, .int .i64 0].toArray w' (Ret (.tuple #[nu r, .int .i64 e]) w')) :
    Calls Tryd.prog 31 [nu y, ptr g, ptr k].toArray w (Ret (.tuple #[nu r, .int .i64 e]) w) := by
  have hc1 : w.cell? ⟨g, 0, none⟩ = some v := by simp [World.cell?, hg]
  have hc2 : w.cell? ⟨k, 0, none⟩ = some (.int .i64 x) := by simp [World.cell?, hk]
  have i1 := h.old
  have CL : ∀ w', Cs w' v m (recs shE l) → Calls Tryd.prog 32 [v].toArray w' (RetO (fun u => u) (fun u oa => OwnL 64 5 u m (recs shE l) oa) w') := fun w' h' => clone_h w' h' hl (by omega)
  have ec : recs shE l ++ (rwA (sgSh x y)).toList = recs shE (l ++ [(x, y)]) := by
    have := recs_snoc shE l (x, y)
    rw [← this]; rfl
  have s1 := rwL_one (g := sgSh x y) inferInstance
  have s2 : ∀ z ∈ (rwA (sgSh x y)).toList, z.oneCell' = true := List.all_eq_true.1 s1
  have s3 : (rwA (sgSh x y)).toList.length = 1 * 5 := sgSh_len _ _
  clear h hg hk hl
  generalize recs shE (l ++ [(x, y)]) = cv at *
  generalize recs shE l = cs at *
  refine fn_ret (N := _) Tryd.func31 rfl Tryd.ntmps31 Tryd.results31 (by simp) ?_
  simp only [initS, Nat.reduceAdd, Nat.zero_add]
  repeat' (first | (refine wlS ?_) | (refine wlG ?_) | (refine wlB ?_) | (refine wlO ?_) | ((with_reducible refine sel_call ?_); refine wl_rd rfl rfl (rd_call rfl rfl rfl (fun w hm => by with_reducible exact hA w (Vw.out w hm))) ?_) | (refine wlE ?_) | (refine efSvao ?_; intro v oa ho) | (refine efG ?_) | (refine efGnn ?_; intro n hn) | (refine efZCnn ?_; intro n hn) | ((with_reducible refine sel_bslice ?_); first | (refine wl_bslice1 rfl rfl rfl rfl ?_; intro vv oa ho)) | ((with_reducible refine sel_call ?_); first | (refine wl_newO rfl rfl rfl rfl rfl (fun w hm => by with_reducible exact CL w (Vw.out w hm)) ?_; intro x oa hx)) | (refine efBnn ?_; intro n hn) | (refine efB ?_) | (refine efBS ?_) | (refine wl_skip rfl rfl ?_) | ((with_reducible refine wc_seq ?_); intro K hK) | (refine auC ?_) | (refine wc_cond rfl (fun hc => ?_) (fun hc => ?_)) | ((with_reducible refine wc_drawT (by kernel_rfl) ?_); (try simp only [List.append_eq, List.cons_append, List.nil_append, List.length_cons, List.length_nil, Nat.reduceAdd])) | ((with_reducible refine sel_wh ?_); first | (refine wh_take (lq := []) rfl rfl rfl rfl (by first | exact rvS | exact rvG | exact rvB | exact rvO | exact rvE) (Or.inl rfl) ?_) | (refine wh_takeL rfl rfl rfl rfl (by first | exact rvS | exact rvG | exact rvB | exact rvO | exact rvE) (by decide +kernel) ?_)) | (refine whS ?_; intro v hv hp) | ((with_reducible refine sel_wh ?_); first | (refine wh_pass rfl rfl rfl rfl ?_) | (refine wh_done rfl ?_) | (refine wh_all rfl ?_)) | ((with_reducible refine sel_rest ?_); first | exact rest_nil rfl | refine rest_cons rfl rfl ?_ ?_) | ((with_reducible refine sel_nx ?_); first | refine next_of ?_ | refine next_late (by decide +kernel) ?_) | (refine auP ?_) | ((refine auR ?_); clear hK K) | (refine auR ?_) | ((with_reducible refine hK _ _ ?_); clear hK K) | fail)
  all_goals (first | refine end_ret (ResP.cell rfl ld_whole (ResP.tmp rfl ResP.nil)) ?_ | refine end_normal (ResP.cell rfl ld_whole (ResP.tmp rfl ResP.nil)) ?_)
  all_goals (first | rfl | (show _ = _; rfl) | (simp only [tupV, *]; done))
theorem few_err (l : List (Int × Nat)) (x : Int) {y z : Nat} (hy : y < SLn) (hz : z < SLn) : shErr (l ++ [(x, y)]) 0 = shErr (l ++ [(x, z)]) 0 := by
  have e : ShG (l ++ [(x, y)]) ↔ ShG (l ++ [(x, z)]) := by
    unfold ShG
    simp only [List.forall_mem_append, List.forall_mem_singleton, List.map_append, List.map_cons, List.map_nil, hy, hz]
  have e1 : (l ++ [(x, y)]).length = (l ++ [(x, z)]).length := by simp
  unfold shErr
  rw [e1]
  by_cases hh : ShG (l ++ [(x, y)])
  · have hh' := e.1 hh; simp only [hh, hh']
  · have hh' : ¬ ShG (l ++ [(x, z)]) := fun q => hh (e.2 q)
    rw [eq_false hh, eq_false hh']
end Go.Proofs.YtkbgkobbadjpnaaDoor
namespace Go.Proofs.YtkbgkobbadjpnaaDoor
open Go.RowKit
set_option linter.unusedVariables false
set_option linter.unusedSimpArgs false
set_option maxRecDepth 8000
theorem eqf2 {P : Program} (d : Nat) (A B : Array Value) (f0 f1 : Field) (x0 x1 y0 y1 : Value) (a b p0 p1 : Nat) (r0 r1 : Bool) (w : World) (n0' : f0.name ≠ "_") (n1' : f1.name ≠ "_") (t0 : f0.type = a) (t1 : f1.type = b) (o0 : f0.offset = p0) (o1 : f1.offset = p1)
    (a0 : (part a A p0).run P w = .ok x0 w) (a1 : (part a B p0).run P w = .ok x1 w) (c0 : (part b A p1).run P w = .ok y0 w) (c1 : (part b B p1).run P w = .ok y1 w)
    (e0 : (Op.equalIn d a x0 x1).run P w = .ok r0 w) (e1 : (Op.equalIn d b y0 y1).run P w = .ok r1 w) : (Op.eqFields d A B [f0, f1]).run P w = .ok (r0 && r1) w := by
  cases r0 <;> cases r1 <;> simp only [Op.eqFields, n0', n1', t0, t1, o0, o1, not_false_eq_true, ne_eq, if_true, if_false, Sem.run_bind, a0, a1, c0, c1, Result.andThen_ok, e0, e1, Bool.not_true, Bool.not_false, Bool.false_eq_true, Sem.run_pure, Bool.and_true, Bool.and_false, Bool.false_and, Bool.true_and]
theorem eql_numS (d a b : Nat) (ha : a < T256) (hb : b < T256) (w : World) : (Op.equalIn (d + 2) 29 (nu a) (nu b)).run Tryd.prog w = .ok (decide (a = b)) w := by
  rw [← nu_num, ← nu_num]
  have h := eql_ints (P := Tryd.prog) (t := 29) (e := 27) (k := .u64) (k' := .u64) w d 4 [limb a 0, limb a 1, limb a 2, limb a 3] [limb b 0, limb b 1, limb b 2, limb b 3] (by kernel_rfl) (by kernel_rfl) (by kernel_rfl) (by kernel_rfl) (by kernel_rfl) rfl rfl
  have e : (([limb a 0, limb a 1, limb a 2, limb a 3] : List Int) == [limb b 0, limb b 1, limb b 2, limb b 3]) = decide (a = b) := by
    by_cases hab : a = b
    · subst hab; simp
    · rw [decide_eq_false hab, Bool.eq_false_iff]
      intro hc
      have hc := eq_of_beq hc
      simp only [List.cons.injEq, and_true] at hc
      exact hab (num_inj ha hb hc.1 hc.2.1 hc.2.2.1 hc.2.2.2)
  rw [e] at h
  exact h
theorem sh_fields : ∃ f0 f1 : Field, (Tryd.prog.fieldsOf 64).toList = [f0, f1] ∧ decide (f0.name ≠ "_") = true ∧ decide (f1.name ≠ "_") = true ∧ f0.type = 3 ∧ f1.type = 29 ∧ f0.offset = 0 ∧ f1.offset = 1 :=
  ⟨(Tryd.prog.fieldsOf 64)[0]!, (Tryd.prog.fieldsOf 64)[1]!, by kernel_rfl, by decide +kernel, by decide +kernel, by kernel_rfl, by kernel_rfl, by kernel_rfl, by kernel_rfl⟩
theorem sh_list (a : Int) (y : Nat) : (rwA (sgSh a y)).toList = .int .i64 a :: (numC y).toList := by simp [rwA, rwL]
theorem sh_p0 (a : Int) (y : Nat) (w : World) : (part 3 (rwA (sgSh a y)) 0).run Tryd.prog w = .ok (.int .i64 a) w :=
  run_part_plain (P := Tryd.prog) w (by kernel_rfl) (by rw [← Array.getElem?_toList, sh_list]; rfl)
theorem sh_p1 (a : Int) (y : Nat) (w : World) : (part 29 (rwA (sgSh a y)) 1).run Tryd.prog w = .ok (nu y) w := by
  have := part_row (P := Tryd.prog) (t := 29) (off := 1) (k := 4) (cs := rwA (sgSh a y)) (cs' := (numC y).toList) (by rw [sh_list, List.drop_succ_cons, List.drop_zero, List.take_of_length_le (by rw [numC_len]; exact Nat.le_refl _)]) w
  simpa using this
theorem eq_sh (q r : Int × Nat) (hq : q.2 < T256) (hr : r.2 < T256) (w : World) : (Op.equalIn 10000 64 (.agg (rwA (sgSh q.1 q.2))) (.agg (rwA (sgSh r.1 r.2)))).run Tryd.prog w = .ok (decide (q = r)) w := by
  obtain ⟨f0, f1, hf, n0, n1, t0, t1, o0, o1⟩ := sh_fields
  rw [show (10000 : Nat) = 9999 + 1 from rfl, run_equalIn_struct w 9999 _ _ _ (by kernel_rfl) (by kernel_rfl), hf]
  rw [eqf2 9999 _ _ f0 f1 _ _ _ _ _ _ _ _ _ _ w (of_decide_eq_true n0) (of_decide_eq_true n1) t0 t1 o0 o1 (sh_p0 q.1 q.2 w) (sh_p0 r.1 r.2 w) (sh_p1 q.1 q.2 w) (sh_p1 r.1 r.2 w) (run_equalIn_int (P := Tryd.prog) w 9998 3 .i64 .i64 q.1 r.1 (by kernel_rfl)) (eql_numS 9997 q.2 r.2 hq hr w)]
  congr 1
  obtain ⟨a, y⟩ := q
  obtain ⟨b, z⟩ := r
  by_cases h1 : a = b <;> by_cases h2 : y = z <;> simp [h1, h2]
/-- Where it stands first. -/
def ixS (l : List (Int × Nat)) (q : Int × Nat) : Int := match l.findIdx? (fun x => decide (q = x)) with
  | some i => i
  | none => -1
theorem ixS_mem (l : List (Int × Nat)) (q : Int × Nat) : decide (ixS l q ≥ 0) = decide (q ∈ l) := by
  unfold ixS
  cases h : l.findIdx? (fun x => decide (q = x)) with
  | none =>
    have : q ∉ l := fun hm => by
      rw [List.findIdx?_eq_none_iff] at h
      have := h q hm
      simp at this
    simp [this]
  | some i =>
    have : q ∈ l := by
      rw [List.findIdx?_eq_some_iff_getElem] at h
      obtain ⟨hi, he, _⟩ := h
      rw [of_decide_eq_true he]; exact List.getElem_mem hi
    simp only [this, decide_true]
    exact decide_eq_true (by omega)
set_option maxHeartbeats 4000000 in
theorem ixsh_c (w : World) {v : Value} {l : List (Int × Nat)} (h : Shs w v l) (hl : ∀ q ∈ l, q.2 < T256) (q : Int × Nat) (hq : q.2 < T256) :
    Calls Tryd.prog 83 [v, .agg (rwA (sgSh q.1 q.2))].toArray w (Ret (.int .i64 (ixS l q)) w) := by
  obtain ⟨m, hm⟩ : ∃ m, m = l.length := ⟨_, rfl⟩
  unfold Shs at h
  rw [← hm] at h
  have i1 := h.old
  have hl63 : m ≤ 9223372036854775807 := by obtain ⟨_, _, _, h1, h2, _⟩ := h.ln.out; simp only [maxLen] at h2; omega
  clear h
  refine fn_ret (N := _) Tryd.func83 rfl Tryd.ntmps83 Tryd.results83 (by simp) ?_
  simp only [initS, Nat.reduceAdd, Nat.zero_add]
  repeat' (first | (refine wlS ?_) | (refine wlB ?_) | (refine wlE ?_) | (refine efSvao ?_; intro v oa ho) | (refine efBnn ?_; intro n hn) | (refine wl_skip rfl rfl ?_) | (refine wdS ?_) | (refine wdG ?_) | (refine wdV ?_) | (refine wdB ?_) | (refine wd_skip rfl rfl ?_) | ((with_reducible refine seld_nil ?_); refine wd_nil hm0 ?_; clear hm0 hw0) | ((with_reducible refine wc_seq ?_); intro K hK) | (refine auC ?_) | (refine wc_cond rfl (fun hc => ?_) (fun hc => ?_)) | (refine wc_draw (by kernel_rfl) (by kernel_rfl) (by decide +kernel) ?_; intro w0 hw0 hm0; (try simp only [List.append_eq, List.cons_append, List.nil_append])) | (refine auP ?_) | ((refine auR ?_); clear hK K) | (refine auR ?_) | ((with_reducible refine hK _ _ ?_); clear hK K) | fail)
  obtain ⟨g, rfl⟩ : ∃ g, g = n := ⟨n, rfl⟩
  refine wc_loop (σ := Nat) (fun i => [(0, v), (3, ptr g), (7, .int .i64 (m : Int)), (8, .int .i64 (i : Int))]) (fun _ => [(g, (rwA (sgSh q.1 q.2), 64))])
    (fun i => i ≤ m ∧ ∀ j x, j < i → l[j]? = some x → q ≠ x) (fun i => m - i) 0 ⟨Nat.zero_le _, fun j x hj => absurd hj (by omega)⟩ (Fits.of ⟨rfl, rfl, rfl, rfl, trivial⟩ (SubL.refl _) rfl) ?_
  rintro i ⟨hi, hno⟩
  by_cases hlt : i < m
  · obtain ⟨x, hx⟩ : ∃ x, l[i]? = some x := ⟨l[i]'(by omega), List.getElem?_eq_getElem _⟩
    have t1 : decide ((i : Int) < (m : Int)) = true := decide_eq_true (by omega)
    have t2 : IntKind.i64.wrap ((i : Int) + 1) = ((i + 1 : Nat) : Int) := by rw [wrap_i64 _ (by omega) (by omega)]; omega
    have j1 : (i : Int) < (m : Int) := by omega
    have hget : ((recs shE l).drop (i * 5)).take 5 = rwL (sgSh x.1 x.2) := recs_get shE hx
    have hlen := sgSh_len x.1 x.2
    have hne' := sgSh_ne x.1 x.2
    have E : ∀ w', (Op.equalIn 10000 64 (.agg (rwA (sgSh q.1 q.2))) (.agg (rwL (sgSh x.1 x.2)).toArray)).run Tryd.prog w' = .ok (decide (q = x)) w' := eq_sh q x hq (hl x (List.mem_of_getElem? hx))
    by_cases he : q = x
    · have hf : ixS l q = (i : Int) := by
        have : l.findIdx? (fun x => decide (q = x)) = some i := by
          rw [List.findIdx?_eq_some_iff_getElem]
          refine ⟨by omega, ?_, fun j hj => ?_⟩
          · rw [(List.getElem?_eq_some_iff.1 hx).2]; exact decide_eq_true he
          · have := hno j _ hj (List.getElem?_eq_getElem (by omega))
            simpa using this
        rw [ixS, this]
      rw [hf]
      rw [decide_eq_true he] at E
      clear hno hl he hf hx
      repeat' (first | (refine wlS ?_) | (refine wlB ?_) | (refine wlE ?_) | (refine efSvao ?_; intro v oa ho) | (refine efBnn ?_; intro n hn) | (refine wl_skip rfl rfl ?_) | (refine wdS ?_) | (refine wdG ?_) | (refine wdV ?_) | (refine wdB ?_) | ((with_reducible refine seld_b_eql ?_); refine wdv hm0 rfl rfl rfl rfl (rd_eqlV rfl rfl rfl (by with_reducible exact E)) ?_) | (refine wd_skip rfl rfl ?_) | ((with_reducible refine seld_nil ?_); refine wd_nil hm0 ?_; clear hm0 hw0) | ((with_reducible refine wc_seq ?_); intro K hK) | (refine auC ?_) | (refine wc_cond rfl (fun hc => ?_) (fun hc => ?_)) | (refine wc_draw (by kernel_rfl) (by kernel_rfl) (by decide +kernel) ?_; intro w0 hw0 hm0; (try simp only [List.append_eq, List.cons_append, List.nil_append])) | (refine auP ?_) | ((refine auR ?_); clear hK K) | (refine auR ?_) | ((with_reducible refine hK _ _ ?_); clear hK K) | fail)
      first | refine end_ret (ResP.tmp rfl ResP.nil) ?_ | refine end_normal (ResP.tmp rfl ResP.nil) ?_
      first | rfl | (show _ = _; rfl) | (simp only [tupV, *]; done)
    · rw [decide_eq_false he] at E
      have hno' : ∀ j y, j < i + 1 → l[j]? = some y → q ≠ y := fun j y hj hjy => by
        rcases Nat.lt_or_ge j i with h1 | h1
        · exact hno j y h1 hjy
        · obtain rfl : j = i := by omega
          rw [hx] at hjy
          cases hjy
          exact he
      clear hno hl he hx
      repeat' (first | (refine wlS ?_) | (refine wlB ?_) | (refine wlE ?_) | (refine efSvao ?_; intro v oa ho) | (refine efBnn ?_; intro n hn) | (refine wl_skip rfl rfl ?_) | (refine wdS ?_) | (refine wdG ?_) | (refine wdV ?_) | (refine wdB ?_) | ((with_reducible refine seld_b_eql ?_); refine wdv hm0 rfl rfl rfl rfl (rd_eqlV rfl rfl rfl (by with_reducible exact E)) ?_) | (refine wd_skip rfl rfl ?_) | ((with_reducible refine seld_nil ?_); refine wd_nil hm0 ?_; clear hm0 hw0) | ((with_reducible refine wc_seq ?_); intro K hK) | (refine auC ?_) | (refine wc_cond rfl (fun hc => ?_) (fun hc => ?_)) | (refine wc_draw (by kernel_rfl) (by kernel_rfl) (by decide +kernel) ?_; intro w0 hw0 hm0; (try simp only [List.append_eq, List.cons_append, List.nil_append])) | (refine auP ?_) | ((refine auR ?_); clear hK K) | (refine auR ?_) | ((with_reducible refine hK _ _ ?_); clear hK K) | fail)
      exact ⟨i + 1, ⟨hlt, hno'⟩, by omega, Fits.of ⟨rfl, rfl, rfl, rfl, trivial⟩ (SubL.refl _) rfl⟩
  · obtain rfl : i = m := by omega
    have t1 : decide ((i : Int) < (i : Int)) = false := decide_eq_false (by omega)
    have hf : ixS l q = -1 := by
      have : l.findIdx? (fun x => decide (q = x)) = none := by
        rw [List.findIdx?_eq_none_iff]
        intro x hx
        obtain ⟨j, hj, rfl⟩ := List.getElem_of_mem hx
        have := hno j _ (by omega) (List.getElem?_eq_getElem hj)
        simpa using this
      rw [ixS, this]
    rw [hf]
    clear hno hl
    repeat' (first | (refine wlS ?_) | (refine wlB ?_) | (refine wlE ?_) | (refine efSvao ?_; intro v oa ho) | (refine efBnn ?_; intro n hn) | (refine wl_skip rfl rfl ?_) | (refine wdS ?_) | (refine wdV ?_) | (refine wdB ?_) | (refine wd_skip rfl rfl ?_) | ((with_reducible refine seld_nil ?_); refine wd_nil hm0 ?_; clear hm0 hw0) | ((with_reducible refine wc_seq ?_); intro K hK) | (refine auC ?_) | (refine wc_cond rfl (fun hc => ?_) (fun hc => ?_)) | (refine wc_draw (by kernel_rfl) (by kernel_rfl) (by decide +kernel) ?_; intro w0 hw0 hm0; (try simp only [List.append_eq, List.cons_append, List.nil_append])) | (refine auP ?_) | ((refine auR ?_); clear hK K) | (refine auR ?_) | ((with_reducible refine hK _ _ ?_); clear hK K) | fail)
    first | refine end_ret (ResP.tmp rfl ResP.nil) ?_ | refine end_normal (ResP.tmp rfl ResP.nil) ?_
    first | rfl | (show _ = _; rfl) | (simp only [tupV, *]; done)
theorem cont_c (w : World) {v : Value} {l : List (Int × Nat)} (h : Shs w v l) (hl : ∀ q ∈ l, q.2 < T256) (q : Int × Nat) (hq : q.2 < T256) :
    Calls Tryd.prog 59 [v, .agg (rwA (sgSh q.1 q.2))].toArray w (Ret (.bool (decide (q ∈ l))) w) := by
  have IX : ∀ w', Cs w' v l.length (recs shE l) → Calls Tryd.prog 83 [v, .agg (rwA (sgSh q.1 q.2))].toArray w' (Ret (.int .i64 (ixS l q)) w') := fun w' h' => ixsh_c w' h' hl q hq
  unfold Shs at h
  have i1 := h.old
  have t1 := ixS_mem l q
  clear h hl
  refine fn_ret (N := _) Tryd.func59 rfl Tryd.ntmps59 Tryd.results59 (by simp) ?_
  simp only [initS, Nat.reduceAdd, Nat.zero_add]
  repeat' (first | (refine wlS ?_) | (refine wlG ?_) | (refine wlB ?_) | ((with_reducible refine sel_call ?_); refine wl_rd rfl rfl (rd_call rfl rfl rfl (fun w hm => by with_reducible exact IX w (Vw.out w hm))) ?_) | (refine wlE ?_) | (refine efSvao ?_; intro v oa ho) | (refine efBnn ?_; intro n hn) | (refine wl_skip rfl rfl ?_) | ((with_reducible refine wc_seq ?_); intro K hK) | (refine auC ?_) | (refine wc_cond rfl (fun hc => ?_) (fun hc => ?_)) | (refine wc_draw (by kernel_rfl) (by kernel_rfl) (by decide +kernel) ?_; intro w0 hw0 hm0; (try simp only [List.append_eq, List.cons_append, List.nil_append])) | (refine auP ?_) | ((refine auR ?_); clear hK K) | (refine auR ?_) | ((with_reducible refine hK _ _ ?_); clear hK K) | fail)
  first | refine end_ret (ResP.tmp rfl ResP.nil) ?_ | refine end_normal (ResP.tmp rfl ResP.nil) ?_
  first | rfl | (show _ = _; rfl) | (simp only [tupV, *]; done)
end Go.Proofs.YtkbgkobbadjpnaaDoor
namespace Go.Proofs.YtkbgkobbadjpnaaDoor
open Go.RowKit
set_option linter.unusedVariables false
set_option linter.unusedSimpArgs false
set_option maxRecDepth 100000
set_option maxHeartbeats 16000000 in
theorem chosen_c (w : World) {v : Value} {l : List (Int × Nat)} (h : Shs w v l) (hy : ∀ q ∈ l, q.2 < T256) (hn : l.length ≤ 20) {u : Value} {zs : List Int} (hz : Cs w u zs.length (zs.map (Value.int .i64))) (kk : Nat) (hk : kk ≤ 20) :
    Calls Tryd.prog 36 [v, u, .int .i64 (kk : Int)].toArray w (RetO (fun x => x) (fun x oa => ∃ c : List (Int × Nat), OwnL 64 5 x c.length (recs shE c) oa ∧ c.Nodup ∧ (∀ q ∈ c, q ∈ l) ∧ c.length ≤ kk) w) := by
  obtain ⟨n', hn'⟩ : ∃ n', n' = l.length := ⟨_, rfl⟩
  obtain ⟨m, hm⟩ : ∃ m, m = zs.length := ⟨_, rfl⟩
  unfold Shs at h
  rw [← hn'] at h hn
  rw [← hm] at hz
  have i1 := h.old
  have i2 := hz.old
  have hl63 : m ≤ 9223372036854775807 := by obtain ⟨_, _, _, h1, h2, _⟩ := hz.ln.out; simp only [maxLen] at h2; omega
  clear h hz
  refine fn_own (N := _) Tryd.func36 rfl Tryd.ntmps36 Tryd.results36 (by simp) ?_
  simp only [initS, Nat.reduceAdd, Nat.zero_add]
  repeat' (first | (refine wlS ?_) | (refine wlB ?_) | (refine wlE ?_) | (refine efSvao ?_; intro v oa ho) | (refine wl_skip rfl rfl ?_) | ((with_reducible refine wc_seq ?_); intro K hK) | (refine auC ?_) | (refine wc_cond rfl (fun hc => ?_) (fun hc => ?_)) | (refine wc_draw (by kernel_rfl) (by kernel_rfl) (by decide +kernel) ?_; intro w0 hw0 hm0; (try simp only [List.append_eq, List.cons_append, List.nil_append])) | (refine auP ?_) | ((refine auR ?_); clear hK K) | (refine auR ?_) | ((with_reducible refine hK _ _ ?_); clear hK K) | fail)
  refine wc_loop (σ := List (Int × Nat) × Nat × Value × Blks) (fun x => [(0, v), (2, .int .i64 (kk : Int)), (7, x.2.2.1), (10, u), (11, .int .i64 (m : Int)), (12, .int .i64 (x.2.1 : Int))]) (fun x => x.2.2.2)
    (fun x => x.2.1 ≤ m ∧ OwnL 64 5 x.2.2.1 x.1.length (recs shE x.1) x.2.2.2 ∧ x.1.Nodup ∧ (∀ q ∈ x.1, q ∈ l) ∧ x.1.length ≤ kk) (fun x => m - x.2.1) ([], 0, .slice none 0 0, []) ⟨Nat.zero_le _, OwnL.nil _ _, List.nodup_nil, (fun q hq => by cases hq), Nat.zero_le _⟩ (Fits.of ⟨rfl, rfl, rfl, rfl, rfl, rfl, trivial⟩ (SubL.refl _) rfl) ?_
  rintro ⟨c, i, x, oa⟩ ⟨hi, hown, hnd, hsub, hck⟩
  dsimp only at hi hown hnd hsub hck ⊢
  haveI := hown
  have ilx : Ln x c.length := hown.ln
  by_cases hlt : i < m
  · obtain ⟨z, hzi⟩ : ∃ z, zs[i]? = some z := ⟨zs[i]'(by omega), List.getElem?_eq_getElem _⟩
    have t1 : decide ((i : Int) < (m : Int)) = true := decide_eq_true (by omega)
    have t2 : IntKind.i64.wrap ((i : Int) + 1) = ((i + 1 : Nat) : Int) := by rw [wrap_i64 _ (by omega) (by omega)]; omega
    have j1 : (i : Int) < (m : Int) := by omega
    have hld : (zs.map (Value.int .i64))[i]? = some (.int .i64 z) := by simp [hzi]
    by_cases h0 : z < 0
    · have t3 : decide (z ≥ 0) = false := decide_eq_false (by omega)
      repeat' (first | (refine wlS ?_) | (refine wlB ?_) | (refine wlE ?_) | (refine efSvao ?_; intro v oa ho) | (refine wl_skip rfl rfl ?_) | ((with_reducible refine wc_seq ?_); intro K hK) | (refine auC ?_) | (refine wc_cond rfl (fun hc => ?_) (fun hc => ?_)) | (refine wc_draw (by kernel_rfl) (by kernel_rfl) (by decide +kernel) ?_; intro w0 hw0 hm0; (try simp only [List.append_eq, List.cons_append, List.nil_append])) | (refine auP ?_) | ((refine auR ?_); clear hK K) | (refine auR ?_) | ((with_reducible refine hK _ _ ?_); clear hK K) | fail)
      exact ⟨(c, i + 1, x, oa), ⟨hlt, hown, hnd, hsub, hck⟩, by dsimp only; omega, Fits.of ⟨rfl, rfl, rfl, rfl, rfl, rfl, trivial⟩ (SubL.refl _) rfl⟩
    have t3 : decide (z ≥ 0) = true := decide_eq_true (by omega)
    obtain ⟨j, rfl⟩ := Int.eq_ofNat_of_zero_le (show 0 ≤ z by omega)
    by_cases h1 : ¬ j < n'
    · have t4 : decide ((j : Int) < (n' : Int)) = false := decide_eq_false (by omega)
      repeat' (first | (refine wlS ?_) | (refine wlB ?_) | (refine wlE ?_) | (refine efSvao ?_; intro v oa ho) | (refine wl_skip rfl rfl ?_) | ((with_reducible refine wc_seq ?_); intro K hK) | (refine auC ?_) | (refine wc_cond rfl (fun hc => ?_) (fun hc => ?_)) | (refine wc_draw (by kernel_rfl) (by kernel_rfl) (by decide +kernel) ?_; intro w0 hw0 hm0; (try simp only [List.append_eq, List.cons_append, List.nil_append])) | (refine auP ?_) | ((refine auR ?_); clear hK K) | (refine auR ?_) | ((with_reducible refine hK _ _ ?_); clear hK K) | fail)
      exact ⟨(c, i + 1, x, oa), ⟨hlt, hown, hnd, hsub, hck⟩, by dsimp only; omega, Fits.of ⟨rfl, rfl, rfl, rfl, rfl, rfl, trivial⟩ (SubL.refl _) rfl⟩
    have h1 : j < n' := Classical.not_not.1 h1
    have t4 : decide ((j : Int) < (n' : Int)) = true := decide_eq_true (by omega)
    by_cases h2 : ¬ c.length < kk
    · have t5 : decide ((c.length : Int) < (kk : Int)) = false := decide_eq_false (by omega)
      repeat' (first | (refine wlS ?_) | (refine wlB ?_) | (refine wlE ?_) | (refine efSvao ?_; intro v oa ho) | (refine wl_skip rfl rfl ?_) | ((with_reducible refine wc_seq ?_); intro K hK) | (refine auC ?_) | (refine wc_cond rfl (fun hc => ?_) (fun hc => ?_)) | (refine wc_draw (by kernel_rfl) (by kernel_rfl) (by decide +kernel) ?_; intro w0 hw0 hm0; (try simp only [List.append_eq, List.cons_append, List.nil_append])) | (refine auP ?_) | ((refine auR ?_); clear hK K) | (refine auR ?_) | ((with_reducible refine hK _ _ ?_); clear hK K) | fail)
      exact ⟨(c, i + 1, x, oa), ⟨hlt, hown, hnd, hsub, hck⟩, by dsimp only; omega, Fits.of ⟨rfl, rfl, rfl, rfl, rfl, rfl, trivial⟩ (SubL.refl _) rfl⟩
    have h2 : c.length < kk := Classical.not_not.1 h2
    have t5 : decide ((c.length : Int) < (kk : Int)) = true := decide_eq_true (by omega)
    obtain ⟨q, hq⟩ : ∃ q, l[j]? = some q := ⟨l[j]'(by omega), List.getElem?_eq_getElem _⟩
    have hqm := List.mem_of_getElem? hq
    have j2 : (j : Int) < (n' : Int) := by omega
    have hget : ((recs shE l).drop (j * 5)).take 5 = rwL (sgSh q.1 q.2) := recs_get shE hq
    have hlen := sgSh_len q.1 q.2
    have hne' := sgSh_ne q.1 q.2
    have CT : ∀ w', Cs w' x c.length (recs shE c) → Calls Tryd.prog 59 [x, .agg (rwL (sgSh q.1 q.2)).toArray].toArray w' (Ret (.bool (decide (q ∈ c))) w') := fun w' h' => cont_c w' h' (fun r hr => hy r (hsub r hr)) q (hy q hqm)
    by_cases h3 : q ∈ c
    · rw [decide_eq_true h3] at CT
      clear hy hq hqm
      repeat' (first | (refine wlS ?_) | (refine wlB ?_) | ((with_reducible refine sel_call ?_); refine wl_rd rfl rfl (rd_call rfl rfl rfl (fun w hm => by with_reducible exact CT w (Vw.out w hm))) ?_) | (refine wlE ?_) | (refine efSvao ?_; intro v oa ho) | (refine wl_skip rfl rfl ?_) | ((with_reducible refine wc_seq ?_); intro K hK) | (refine auC ?_) | (refine wc_cond rfl (fun hc => ?_) (fun hc => ?_)) | (refine wc_draw (by kernel_rfl) (by kernel_rfl) (by decide +kernel) ?_; intro w0 hw0 hm0; (try simp only [List.append_eq, List.cons_append, List.nil_append])) | (refine auP ?_) | ((refine auR ?_); clear hK K) | (refine auR ?_) | ((with_reducible refine hK _ _ ?_); clear hK K) | fail)
      exact ⟨(c, i + 1, x, oa), ⟨hlt, hown, hnd, hsub, hck⟩, by dsimp only; omega, Fits.of ⟨rfl, rfl, rfl, rfl, rfl, rfl, trivial⟩ (SubL.refl _) rfl⟩
    · rw [decide_eq_false h3] at CT
      have hz' : recs shE c ++ (rwL (sgSh q.1 q.2)).toArray.toList = recs shE (c ++ [q]) := recs_snoc shE c q
      have s0 : (rwL (sgSh q.1 q.2)).toArray.size = 5 := hlen
      have s3 : (rwL (sgSh q.1 q.2)).toArray.toList.length = 1 * 5 := hlen
      have s2 : ∀ y ∈ (rwL (sgSh q.1 q.2)).toArray.toList, y.oneCell' = true := shE.one q
      have hl' : (c ++ [q]).length = c.length + 1 := by simp
      have hnd' : (c ++ [q]).Nodup := by
        rw [List.nodup_append]
        refine ⟨hnd, by simp, fun a ha b hb => ?_⟩
        obtain rfl := List.mem_singleton.1 hb
        intro e; subst e; exact h3 ha
      have hsub' : ∀ r ∈ c ++ [q], r ∈ l := fun r hr => by
        rcases List.mem_append.1 hr with h | h
        · exact hsub r h
        · obtain rfl := List.mem_singleton.1 h; exact hqm
      clear hy hq hqm
      obtain ⟨z1, hz1⟩ : ∃ z1, z1 = recs shE (c ++ [q]) := ⟨_, rfl⟩
      rw [← hz1] at hz'
      repeat' (first | (refine wlS ?_) | (refine wlB ?_) | ((with_reducible refine sel_call ?_); refine wl_rd rfl rfl (rd_call rfl rfl rfl (fun w hm => by with_reducible exact CT w (Vw.out w hm))) ?_) | (refine wlE ?_) | (refine efSvao ?_; intro v oa ho) | ((with_reducible refine sel_bslice ?_); first | (refine wl_bslice1 rfl rfl rfl rfl ?_; intro vv oc ho)) | (refine wl_skip rfl rfl ?_) | ((with_reducible refine wc_seq ?_); intro K hK) | (refine auC ?_) | (refine wc_cond rfl (fun hc => ?_) (fun hc => ?_)) | (refine wc_draw (by kernel_rfl) (by kernel_rfl) (by decide +kernel) ?_; intro w0 hw0 hm0; (try simp only [List.append_eq, List.cons_append, List.nil_append])) | (refine auP ?_) | ((refine auR ?_); clear hK K) | (refine auR ?_) | ((with_reducible refine hK _ _ ?_); clear hK K) | fail)
      refine ⟨(c ++ [q], i + 1, v, oa), ⟨hlt, by rw [hl', ← hz1]; assumption, hnd', hsub', by rw [hl']; exact h2⟩, by dsimp only; omega, Fits.of ⟨rfl, rfl, rfl, rfl, rfl, rfl, trivial⟩ (SubL.headA _ _) rfl⟩
  · obtain rfl : i = m := by omega
    have t1 : decide ((i : Int) < (i : Int)) = false := decide_eq_false (by omega)
    repeat' (first | (refine wlS ?_) | (refine wlB ?_) | (refine wlE ?_) | (refine efSvao ?_; intro v oa ho) | (refine wl_skip rfl rfl ?_) | ((with_reducible refine wc_seq ?_); intro K hK) | (refine auC ?_) | (refine wc_cond rfl (fun hc => ?_) (fun hc => ?_)) | (refine wc_draw (by kernel_rfl) (by kernel_rfl) (by decide +kernel) ?_; intro w0 hw0 hm0; (try simp only [List.append_eq, List.cons_append, List.nil_append])) | (refine auP ?_) | ((refine auR ?_); clear hK K) | (refine auR ?_) | ((with_reducible refine hK _ _ ?_); clear hK K) | fail)
    first | refine end_ret (ResP.tmp rfl ResP.nil) ?_ | refine end_normal (ResP.tmp rfl ResP.nil) ?_
    (try dsimp only [tupV])
    exact ⟨x, oa, rfl, ⟨c, hown, hnd, hsub, hck⟩, SubL.refl _⟩
end Go.Proofs.YtkbgkobbadjpnaaDoor
namespace Go.Proofs.YtkbgkobbadjpnaaDoor
open Go.RowKit Go.ChangeShapes Go.WideShapes
set_option linter.unusedVariables false
set_option maxRecDepth 100000 in
theorem open_ints {H : Type} {enc : TypeId × Value → H} {W : World} {r : Reach} {b0 : Nat} {v : Value} {d : DataW H} {q : List MemPlace} (hv : Value.okWide Tryd.prog W r b0 74 v) (h : DataW.Trod enc Tryd.prog W 0 (fun _ => true) true 74 v d q) :
    ∃ zs : List Int, (Cs W v zs.length (zs.map (Value.int .i64)) ∧ ∀ z ∈ zs, -9223372036854775808 ≤ z ∧ z < 9223372036854775808) ∧ zs.length + 1 ≤ Rows.uptoBulk d := open_ints' (t := 74) (e := 3) (by kernel_rfl) (by kernel_rfl) (by kernel_rfl) hv h
end Go.Proofs.YtkbgkobbadjpnaaDoor
