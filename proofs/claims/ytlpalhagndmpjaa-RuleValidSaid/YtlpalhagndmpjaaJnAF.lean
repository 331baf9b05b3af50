/- []Turning that came in; the laws' rules. A turning, told in one: what it may be, and what reads it. Numbers of 256 bits as rows of four words: plain facts, no program in sight. What an argument is that came in: arrays of integers, numbers of 256 and 512 bits. Closed facts of the translation that hang on its long word of the order of beginnings: read once, by the signs of the word. -/
import Derived.Test.YtlpalhagndmpjaaJnAE
import Derived.Test.YtlpalhagndmpjaaMakeA
import Derived.WalkKit
import Derived.Test.YtlpalhagndmpjaaCom
import Derived.ProofKit
import Derived.OpenShut
import Derived.Test.YtlpalhagndmpjaaProg
import Derived.JoinedOf
namespace Go.Proofs.Ytlpalhagndmpjaa
open Go.RowKit Go.ChangeShapes Go.WideShapes
set_option linter.unusedVariables false
set_option linter.unusedSimpArgs false
set_option maxRecDepth 100000
section
variable {W : World}
theorem cells_tun : Try.prog.cellsOf 47 = 2 := by kernel_rfl
theorem cells_boolT : Try.prog.cellsOf 4 = 1 := by kernel_rfl
theorem cells_atsT : Try.prog.cellsOf 22 = 1 := by kernel_rfl
theorem rdg_boolT : Rdg Try.prog W 4 fun cs b => ∃ z, cs = [.bool z] := fun H enc fuel cs x hx => by
  obtain ⟨b, h1, _⟩ := DataW.trod_bool (by kernel_rfl) hx
  exact ⟨b, h1⟩
theorem rdg_atsT : Rdg Try.prog W 22 fun cs b => ∃ v, ∃ l : List Att, cs = [v] ∧ Ats W v l ∧ 1 ≤ b := fun H enc fuel cs x hx => by
  obtain ⟨v, n, cc, h1, h2, h3, h4, h5⟩ := rdg_slice (e := 29) (by kernel_rfl) cells_att (by decide) rdg_att H enc fuel cs x hx
  have key : ∀ l : List (List Value × Nat), (∀ c ∈ l, (∃ x : Att, c.1 = atC x ∧ Cb W x.2.1 x.2.2.length x.2.2 ∧ x.2.2.length + 2 ≤ c.2) ∧ c.1.length = 2) → ∃ its : List Att, (l.map (·.1)).flatten = atsC its ∧ its.length = l.length ∧ (∀ x ∈ its, Cb W x.2.1 x.2.2.length x.2.2) := by
    intro l
    induction l with
    | nil => intro _; exact ⟨[], rfl, rfl, by simp⟩
    | cons c r ih =>
      intro h
      obtain ⟨its, e1, e2, e3⟩ := ih fun d hd => h d (by simp [hd])
      obtain ⟨⟨x, f1, f2, f4⟩, _⟩ := h c (by simp)
      refine ⟨x :: its, ?_, by simp [e2], fun y hy => ?_⟩
      · rw [List.map_cons, List.flatten_cons, e1, f1]; simp [atsC]
      · rcases List.mem_cons.1 hy with rfl | hy
        · exact f2
        · exact e3 y hy
  obtain ⟨its, e1, e2, e3⟩ := key cc h3
  rw [e1] at h4
  exact ⟨v, its, h1, ⟨by rw [e2, h2]; exact h4, e3⟩, by omega⟩
theorem rdg_tun : Rdg Try.prog W 47 fun cs b => ∃ x : Tun, cs = tunC x ∧ Ats W x.2.1 x.2.2 ∧ 1 ≤ b :=
  (rdg_struct2 Try.underlying47 rdg_boolT rdg_atsT).mono fun cs b ⟨b0, b1, hl, h0, h1, hb⟩ => by
    rw [cells_tun] at hl
    obtain ⟨c0, c1, rfl⟩ : ∃ c0 c1, cs = [c0, c1] := by
      match cs, hl with | [c0, c1], _ => exact ⟨c0, c1, rfl⟩
    dsimp only at h0 h1
    rw [cells_boolT] at h0
    rw [cells_atsT] at h1
    obtain ⟨z, hz⟩ := h0
    obtain ⟨v, l, hv, ha, hn⟩ := h1
    simp at hz hv
    subst hz; subst hv
    exact ⟨(z, c1, l), rfl, ha, by omega⟩
theorem open_tuns {r : Reach} {b0 : Nat} {v : Value} {H : Type} {enc : TypeId × Value → H} {d : DataW H} {q : List MemPlace} (hv : Value.okWide Try.prog W r b0 45 v) (h : DataW.Trod enc Try.prog W 0 (fun _ => true) true 45 v d q) :
    ∃ l : List Tun, Tuns W v l ∧ l.length + 1 ≤ Rows.uptoBulk d := by
  obtain ⟨a, len, cap, rfl⟩ := okWide_slice (e := 47) (by kernel_rfl) hv
  obtain ⟨v', n, cc, h1, h2, h3, h4, h5⟩ := open_cell (r := r) (b0 := b0) (rdg_slice (e := 47) (by kernel_rfl) cells_tun (by decide) rdg_tun) rfl h
  cases h1
  have key : ∀ l : List (List Value × Nat), (∀ c ∈ l, (∃ x : Tun, c.1 = tunC x ∧ Ats W x.2.1 x.2.2 ∧ 1 ≤ c.2) ∧ c.1.length = 2) → ∃ its : List Tun, (l.map (·.1)).flatten = tunsC its ∧ its.length = l.length ∧ (∀ x ∈ its, Ats W x.2.1 x.2.2) ∧ l.length ≤ (l.map (·.2)).sum := by
    intro l
    induction l with
    | nil => intro _; exact ⟨[], rfl, rfl, by simp, by simp⟩
    | cons c r ih =>
      intro h
      obtain ⟨its, e1, e2, e3, e4⟩ := ih fun d hd => h d (by simp [hd])
      obtain ⟨⟨x, f1, f2, f4⟩, _⟩ := h c (by simp)
      refine ⟨x :: its, ?_, by simp [e2], fun y hy => ?_, by simp only [List.map_cons, List.sum_cons, List.length_cons]; omega⟩
      · rw [List.map_cons, List.flatten_cons, e1, f1]; simp [tunsC]
      · rcases List.mem_cons.1 hy with rfl | hy
        · exact f2
        · exact e3 y hy
  obtain ⟨its, e1, e2, e3, e4⟩ := key cc h3
  rw [e1] at h4
  refine ⟨its, ⟨?_, e3⟩, by omega⟩
  rw [e2, h2]; exact h4
end
set_option maxHeartbeats 4000000 in
theorem rules_c (w : World) : Calls Try.prog 22 [].toArray w (Ret (.bool true) w) := by
  have hE : makeE [((1 : Int), [1]), (4, [])] false = 0 := by decide +kernel
  have hLn : (makeL [((1 : Int), [1]), (4, [])] false).length = 7 := by decide +kernel
  have t1 : ((0 : Int) == 0) = true := rfl
  have t2 : (((7 : Nat) : Int) == 7) = true := rfl
  refine fn_ret (N := _) Try.func22 rfl Try.ntmps22 Try.results22 (by simp) ?_
  simp only [initS, Nat.reduceAdd, Nat.zero_add]
  repeat' (first | (refine wlS ?_) | (refine wlB ?_) | (refine wlE ?_) | (refine efSvao ?_; intro v oa ho) | (refine wl_skip rfl rfl ?_) | ((with_reducible refine wc_seq ?_); intro K hK) | (refine auC ?_) | (refine wc_cond rfl (fun hc => ?_) (fun hc => ?_)) | (refine wc_draw (by kernel_rfl) (by kernel_rfl) (by decide +kernel) ?_; intro w0 hw0 hm0; (try simp only [List.append_eq, List.cons_append, List.nil_append])) | (refine auP ?_) | ((refine auR ?_); clear hK K) | (refine auR ?_) | ((with_reducible refine hK _ _ ?_); clear hK K) | fail)
  rename_i vb ob hb
  have hbF : BodF (Hd ob) [((1 : Int), vb, [1]), (4, .slice none 0 0, [])] := fun x hx => by
    simp only [List.mem_cons, List.not_mem_nil, or_false] at hx
    rcases hx with rfl | rfl
    · exact (BodF.one (k := 1) hb) _ (by simp)
    · exact ⟨⟨BL.nil, (CsB.nil.cs.ln : Ln (.slice none 0 0) 0)⟩, fun w hw => (CsB.nil.cs.out w (fun p hp => by cases hp))⟩
  haveI hA : AtF _ v [((1 : Int), vb, [1]), (4, .slice none 0 0, [])] := AtF.mk' (OwnL.cs (h := ho)) hbF
  have MK := fun w' (h : Ats w' v [((1 : Int), vb, [1]), (4, .slice none 0 0, [])]) => make_good w' (loc := false) h hE
  repeat' (first | (refine wlS ?_) | (refine wlB ?_) | (refine wlE ?_) | (refine efSvao ?_; intro v oa ho) | ((with_reducible refine sel_call ?_); first | (refine wl_newO rfl rfl rfl rfl rfl (fun w hm => by with_reducible exact MK w (VwT.out w hm)) ?_; intro x oa hx)) | (refine wl_skip rfl rfl ?_) | ((with_reducible refine wc_seq ?_); intro K hK) | (refine auC ?_) | (refine wc_cond rfl (fun hc => ?_) (fun hc => ?_)) | (refine wc_draw (by kernel_rfl) (by kernel_rfl) (by decide +kernel) ?_; intro w0 hw0 hm0; (try simp only [List.append_eq, List.cons_append, List.nil_append])) | (refine auP ?_) | ((refine auR ?_); clear hK K) | (refine auR ?_) | ((with_reducible refine hK _ _ ?_); clear hK K) | fail)
  obtain ⟨its, hot, hab⟩ := hx
  have hl7 : its.length = 7 := by
    have := congrArg List.length hab
    rw [abs_len] at this
    exact this.trans hLn
  haveI := hot.ln
  rw [hl7] at this
  repeat' (first | (refine wlS ?_) | (refine wlB ?_) | (refine wlE ?_) | (refine efSvao ?_; intro v oa ho) | (refine wl_skip rfl rfl ?_) | ((with_reducible refine wc_seq ?_); intro K hK) | (refine auC ?_) | (refine wc_cond rfl (fun hc => ?_) (fun hc => ?_)) | (refine wc_draw (by kernel_rfl) (by kernel_rfl) (by decide +kernel) ?_; intro w0 hw0 hm0; (try simp only [List.append_eq, List.cons_append, List.nil_append])) | (refine auP ?_) | ((refine auR ?_); clear hK K) | (refine auR ?_) | ((with_reducible refine hK _ _ ?_); clear hK K) | fail)
  first | refine end_ret (ResP.tmp rfl ResP.nil) ?_ | refine end_normal (ResP.tmp rfl ResP.nil) ?_
  first | rfl | (show _ = _; rfl) | (simp only [tupV, *]; done)
end Go.Proofs.Ytlpalhagndmpjaa
namespace Go.Proofs.Ytlpalhagndmpjaa
open Go.RowKit
set_option linter.unusedVariables false
set_option linter.unusedSimpArgs false
set_option maxRecDepth 100000
def StepT (l t : List Ab) (c : Bool) (m : List Ab) : Prop := m = l ∨ Turn l t c m
theorem AtF.mono {Φ Ψ : World → Prop} {v : Value} {l : List Att} (h : AtF Φ v l) (hs : ∀ w, Ψ w → Φ w) : AtF Ψ v l := ⟨⟨h.cs.ln, fun w hw => h.cs.out w (hs w hw)⟩, fun w hw => h.out w (hs w hw)⟩
theorem StepT.obj {l t m : List Ab} {c : Bool} (hl : Obj l) (h : StepT l t c m) : Obj m := by
  rcases h with rfl | h
  · exact hl
  · exact h.obj hl
theorem AtF.len {Φ : World → Prop} {v : Value} {l : List Att} (h : AtF Φ v l) : Ln v l.length := h.cs.ln
theorem turned_c (w : World) {u v : Value} {l t : List Att} {c : Bool} {ob : Blks} (hF : AtF (Hd ob) u l) (hob : Obj (abs l)) (hl : Ats w u l) (ht : Ats w v t) :
    Calls Try.prog 26 [u, .agg #[.bool c, v]].toArray w (RetO (fun y => y) (fun y oa => ∃ its, AtF (Hd (ob ++ oa)) y its ∧ StepT (abs l) (abs t) c (abs its)) w) := by
  by_cases he : turnE (abs l) (abs t) c = 0
  · exact (turned_new w hl ht hob he).mono fun e w2 ⟨y, oa, h1, ⟨its, h2, h3⟩, hu⟩ => ⟨y, oa, h1, ⟨its, h2.atf.mono fun w hw => hw.right, .inr h3⟩, hu⟩
  · exact (turned_same w hl ht hob he).mono fun e w2 ⟨h1, h2⟩ => ⟨u, [], h1, ⟨l, by rw [List.append_nil]; exact hF, .inl rfl⟩, Upd.of_below h2 (by simp [keys]) (fun n hn => by simp [keys] at hn) (fun p hp => by cases hp)⟩
/-- The loop's state. -/
structure TnS where
  i : Nat
  v : Value
  its : List Att
  ob : Blks
structure TnS.Ok (l0 : List Ab) (m : Nat) (x : TnS) : Prop where
  le : x.i ≤ m
  at' : AtF (Hd x.ob) x.v x.its
  obj : Obj (abs x.its)
  fix : ∀ k, k = 1 ∨ k = 4 ∨ k = 10 ∨ k = 11 ∨ k = 12 → getA (abs x.its) k = getA l0 k
theorem TnS.Ok.next {l0 : List Ab} {m : Nat} {x : TnS} (h : x.Ok l0 m) (hi : x.i < m) {y : Value} {its : List Att} {oa : Blks} {t : List Ab} {c : Bool} (hy : AtF (Hd (x.ob ++ oa)) y its) (hs : StepT (abs x.its) t c (abs its)) : TnS.Ok l0 m ⟨x.i + 1, y, its, x.ob ++ oa⟩ :=
  ⟨hi, hy, hs.obj h.obj, fun k hk => by
    rcases hs with hs | hs
    · rw [hs]; exact h.fix k hk
    · rw [hs.fixed h.obj hk]; exact h.fix k hk⟩
end Go.Proofs.Ytlpalhagndmpjaa
namespace Go.Proofs.Ytlpalhagndmpjaa
open Go.RowKit

/-- A word of 64 bits. -/
def U (x : Int) : Prop := 0 ≤ x ∧ x < 18446744073709551616
def limb (n i : Nat) : Int := ((n / 2 ^ (64 * i) % 18446744073709551616 : Nat) : Int)
abbrev num (n : Nat) : Value := .agg #[.int .u64 (limb n 0), .int .u64 (limb n 1), .int .u64 (limb n 2), .int .u64 (limb n 3)]
abbrev wide (n : Nat) : Value := .agg #[.int .u64 (limb n 0), .int .u64 (limb n 1), .int .u64 (limb n 2), .int .u64 (limb n 3), .int .u64 (limb n 4), .int .u64 (limb n 5), .int .u64 (limb n 6), .int .u64 (limb n 7)]
def T256 : Nat := 115792089237316195423570985008687907853269984665640564039457584007913129639936
/-- Less than 2^256, by what it is. -/
class SmT (a : Nat) : Prop where
  out : a < T256
def T512 : Nat := T256 * T256
theorem T256_eq : T256 = 2 ^ 256 := by decide +kernel
theorem T512_eq : T512 = 2 ^ 512 := by decide +kernel

theorem limb_U (n i : Nat) : U (limb n i) := by
  unfold limb U
  have := Nat.mod_lt (n / 2 ^ (64 * i)) (show 0 < 18446744073709551616 by omega)
  omega
theorem limb_nonneg (n i : Nat) : 0 ≤ limb n i := (limb_U n i).1

def sumLo (x y c : Int) : Int := (x + y + c) % 18446744073709551616
def sumHi (x y c : Int) : Int := (x + y + c) / 18446744073709551616
def subLo (x y c : Int) : Int := (x - y - c) % 18446744073709551616
def subHi (x y c : Int) : Int := if x < y + c then 1 else 0
theorem sumHi_bd {x y c : Int} (hx : U x) (hy : U y) (h0 : 0 ≤ c) (h1 : c ≤ 1) : 0 ≤ sumHi x y c ∧ sumHi x y c ≤ 1 := by
  unfold sumHi U at *; omega
theorem subHi_bd (x y c : Int) : 0 ≤ subHi x y c ∧ subHi x y c ≤ 1 := by
  unfold subHi; split <;> omega

/-- A number below 2^256 out of its four words. -/
def four (a0 a1 a2 a3 : Nat) : Nat := a0 + 18446744073709551616 * a1 + 340282366920938463463374607431768211456 * a2 + 6277101735386680763835789423207666416102355444464034512896 * a3
theorem limb0 (n : Nat) : limb n 0 = ((n % 18446744073709551616 : Nat) : Int) := by unfold limb; simp
theorem limb1 (n : Nat) : limb n 1 = ((n / 18446744073709551616 % 18446744073709551616 : Nat) : Int) := by unfold limb; simp
theorem limb2 (n : Nat) : limb n 2 = ((n / 340282366920938463463374607431768211456 % 18446744073709551616 : Nat) : Int) := by unfold limb; simp
theorem limb3 (n : Nat) : limb n 3 = ((n / 6277101735386680763835789423207666416102355444464034512896 % 18446744073709551616 : Nat) : Int) := by unfold limb; simp
theorem limb4 (n : Nat) : limb n 4 = ((n / T256 % 18446744073709551616 : Nat) : Int) := by unfold limb T256; simp
theorem limb_shift4 (n i : Nat) : limb n (i + 4) = limb (n / T256) i := by
  unfold limb
  rw [Nat.div_div_eq_div_mul, T256_eq, ← Nat.pow_add, show 64 * (i + 4) = 256 + 64 * i by omega]
theorem limb_four (a0 a1 a2 a3 : Nat) (h0 : a0 < 18446744073709551616) (h1 : a1 < 18446744073709551616) (h2 : a2 < 18446744073709551616) (h3 : a3 < 18446744073709551616) :
    limb (four a0 a1 a2 a3) 0 = a0 ∧ limb (four a0 a1 a2 a3) 1 = a1 ∧ limb (four a0 a1 a2 a3) 2 = a2 ∧ limb (four a0 a1 a2 a3) 3 = a3 := by
  rw [limb0, limb1, limb2, limb3]; unfold four
  refine ⟨?_, ?_, ?_, ?_⟩ <;> (congr 1; omega)
theorem four_lt (a0 a1 a2 a3 : Nat) (h0 : a0 < 18446744073709551616) (h1 : a1 < 18446744073709551616) (h2 : a2 < 18446744073709551616) (h3 : a3 < 18446744073709551616) : four a0 a1 a2 a3 < T256 := by
  unfold four T256; omega
/-- Every number below 2^256 is four words. -/
theorem four_of (n : Nat) (h : n < T256) : ∃ a0 a1 a2 a3, a0 < 18446744073709551616 ∧ a1 < 18446744073709551616 ∧ a2 < 18446744073709551616 ∧ a3 < 18446744073709551616 ∧ n = four a0 a1 a2 a3 := by
  refine ⟨n % 18446744073709551616, n / 18446744073709551616 % 18446744073709551616, n / 340282366920938463463374607431768211456 % 18446744073709551616, n / 6277101735386680763835789423207666416102355444464034512896 % 18446744073709551616, ?_, ?_, ?_, ?_, ?_⟩
  all_goals unfold T256 at h
  all_goals first | omega | (unfold four; omega)
theorem num_of (x0 x1 x2 x3 : Int) (h0 : U x0) (h1 : U x1) (h2 : U x2) (h3 : U x3) : ∃ n, n < T256 ∧ x0 = limb n 0 ∧ x1 = limb n 1 ∧ x2 = limb n 2 ∧ x3 = limb n 3 := by
  obtain ⟨a0, rfl⟩ := Int.eq_ofNat_of_zero_le h0.1
  obtain ⟨a1, rfl⟩ := Int.eq_ofNat_of_zero_le h1.1
  obtain ⟨a2, rfl⟩ := Int.eq_ofNat_of_zero_le h2.1
  obtain ⟨a3, rfl⟩ := Int.eq_ofNat_of_zero_le h3.1
  unfold U at *
  have k := limb_four a0 a1 a2 a3 (by omega) (by omega) (by omega) (by omega)
  exact ⟨four a0 a1 a2 a3, four_lt _ _ _ _ (by omega) (by omega) (by omega) (by omega), k.1.symm, k.2.1.symm, k.2.2.1.symm, k.2.2.2.symm⟩
/-- Two numbers with the same words are one. -/
theorem num_inj {a b : Nat} (ha : a < T256) (hb : b < T256) (h0 : limb a 0 = limb b 0) (h1 : limb a 1 = limb b 1) (h2 : limb a 2 = limb b 2) (h3 : limb a 3 = limb b 3) : a = b := by
  obtain ⟨a0, a1, a2, a3, k0, k1, k2, k3, rfl⟩ := four_of a ha
  obtain ⟨b0, b1, b2, b3, l0, l1, l2, l3, rfl⟩ := four_of b hb
  have k := limb_four a0 a1 a2 a3 k0 k1 k2 k3
  have l := limb_four b0 b1 b2 b3 l0 l1 l2 l3
  rw [k.1, l.1] at h0; rw [k.2.1, l.2.1] at h1; rw [k.2.2.1, l.2.2.1] at h2; rw [k.2.2.2, l.2.2.2] at h3
  obtain rfl := Int.ofNat.inj h0; obtain rfl := Int.ofNat.inj h1; obtain rfl := Int.ofNat.inj h2; obtain rfl := Int.ofNat.inj h3
  rfl

/-- Two halves make a wide one. -/
theorem limb_lo (n m i : Nat) (hi : i < 4) : limb (n % T256 + T256 * m) i = limb n i := by
  unfold limb
  congr 1
  rw [T256_eq]
  have e : 2 ^ 256 = 2 ^ (64 * i) * (18446744073709551616 * 2 ^ (192 - 64 * i)) := by
    rw [show (18446744073709551616 : Nat) = 2 ^ 64 by decide, ← Nat.pow_add, ← Nat.pow_add]; congr 1; omega
  have h1 : (n % 2 ^ 256 + 2 ^ 256 * m) / 2 ^ (64 * i) = n % 2 ^ 256 / 2 ^ (64 * i) + 18446744073709551616 * (2 ^ (192 - 64 * i) * m) := by
    rw [show 2 ^ 256 * m = 2 ^ (64 * i) * (18446744073709551616 * (2 ^ (192 - 64 * i) * m)) by conv => lhs; rw [e]; simp only [Nat.mul_assoc], Nat.add_mul_div_left _ _ (Nat.two_pow_pos _)]
  rw [h1, Nat.add_mul_mod_self_left]
  conv => lhs; rw [e, Nat.mod_mul_right_div_self]
  rw [Nat.mod_mul_right_mod]
theorem limb_hi (n m i : Nat) (hn : n < T256) : limb (n + T256 * m) (i + 4) = limb m i := by
  rw [limb_shift4, Nat.add_mul_div_left _ _ (by unfold T256; omega), Nat.div_eq_of_lt hn, Nat.zero_add]
theorem limb_two (n m : Nat) (hn : n < T256) : limb (n + T256 * m) 0 = limb n 0 ∧ limb (n + T256 * m) 1 = limb n 1 ∧ limb (n + T256 * m) 2 = limb n 2 ∧ limb (n + T256 * m) 3 = limb n 3 ∧
    limb (n + T256 * m) 4 = limb m 0 ∧ limb (n + T256 * m) 5 = limb m 1 ∧ limb (n + T256 * m) 6 = limb m 2 ∧ limb (n + T256 * m) 7 = limb m 3 := by
  have a := limb_lo n m 0 (by omega)
  have b := limb_lo n m 1 (by omega)
  have c := limb_lo n m 2 (by omega)
  have d := limb_lo n m 3 (by omega)
  rw [Nat.mod_eq_of_lt hn] at a b c d
  exact ⟨a, b, c, d, limb_hi n m 0 hn, limb_hi n m 1 hn, limb_hi n m 2 hn, limb_hi n m 3 hn⟩
theorem two_lt (n m : Nat) (hn : n < T256) (hm : m < T256) : n + T256 * m < T512 := by
  have : T256 * (m + 1) ≤ T256 * T256 := Nat.mul_le_mul_left _ hm
  unfold T512
  rw [Nat.mul_add] at this
  omega
/-- What was added is taken off, and the other way round. -/
theorem add_sub_back {T a b s c d t : Nat} (ha : a < T) (hb : b < T) (h1 : Hid (s = (a + b) % T ∧ c = (a + b) / T)) (h2 : Hid (d = (s + T - b) % T ∧ t = if s < b then 1 else 0)) : d = a ∧ t = c := by
  have ⟨e1, e2⟩ := h1.out
  have ⟨e3, e4⟩ := h2.out
  clear h1 h2
  have z : 0 < T := by omega
  by_cases h : a + b < T
  · rw [Nat.mod_eq_of_lt h] at e1; rw [Nat.div_eq_of_lt h] at e2
    subst e1 e2
    rw [if_neg (by omega)] at e4
    rw [show a + b + T - b = a + T by omega, Nat.add_mod_right, Nat.mod_eq_of_lt ha] at e3
    exact ⟨e3, e4⟩
  · have k : (a + b) = (a + b - T) + T * 1 := by omega
    rw [k, Nat.add_mul_mod_self_left, Nat.mod_eq_of_lt (by omega)] at e1
    rw [k, Nat.add_mul_div_left _ _ z, Nat.div_eq_of_lt (by omega)] at e2
    subst e1 e2
    rw [if_pos (by omega)] at e4
    rw [show a + b - T + T - b = a by omega, Nat.mod_eq_of_lt ha] at e3
    exact ⟨e3, by omega⟩
theorem sub_add_back {T a b s c d t : Nat} (ha : a < T) (hb : b < T) (h1 : Hid (s = (a + T - b) % T ∧ c = if a < b then 1 else 0)) (h2 : Hid (d = (s + b) % T ∧ t = (s + b) / T)) : d = a ∧ t = c := by
  have ⟨e1, e2⟩ := h1.out
  have ⟨e3, e4⟩ := h2.out
  clear h1 h2
  have z : 0 < T := by omega
  by_cases h : a < b
  · rw [Nat.mod_eq_of_lt (by omega)] at e1; rw [if_pos h] at e2
    subst e1 e2
    rw [show a + T - b + b = a + T * 1 by omega] at e3 e4
    rw [Nat.add_mul_mod_self_left, Nat.mod_eq_of_lt ha] at e3
    rw [Nat.add_mul_div_left _ _ z, Nat.div_eq_of_lt ha] at e4
    exact ⟨e3, by omega⟩
  · rw [show a + T - b = a - b + T by omega, Nat.add_mod_right, Nat.mod_eq_of_lt (by omega)] at e1; rw [if_neg h] at e2
    subst e1 e2
    rw [show a - b + b = a by omega] at e3 e4
    rw [Nat.mod_eq_of_lt ha] at e3
    rw [Nat.div_eq_of_lt ha] at e4
    exact ⟨e3, e4⟩

/-- ADD: the four steps make the sum. -/
theorem add_law (a b : Nat) (ha : a < T256) (hb : b < T256) (c0 c1 c2 : Int) (e0 : c0 = sumHi (limb a 0) (limb b 0) 0) (e1 : c1 = sumHi (limb a 1) (limb b 1) c0) (e2 : c2 = sumHi (limb a 2) (limb b 2) c1) :
    limb ((a + b) % T256) 0 = sumLo (limb a 0) (limb b 0) 0 ∧ limb ((a + b) % T256) 1 = sumLo (limb a 1) (limb b 1) c0 ∧ limb ((a + b) % T256) 2 = sumLo (limb a 2) (limb b 2) c1 ∧
    limb ((a + b) % T256) 3 = sumLo (limb a 3) (limb b 3) c2 ∧ (((a + b) / T256 : Nat) : Int) = sumHi (limb a 3) (limb b 3) c2 := by
  obtain ⟨a0, a1, a2, a3, k0, k1, k2, k3, rfl⟩ := four_of a ha
  obtain ⟨b0, b1, b2, b3, l0, l1, l2, l3, rfl⟩ := four_of b hb
  have k := limb_four a0 a1 a2 a3 k0 k1 k2 k3
  have l := limb_four b0 b1 b2 b3 l0 l1 l2 l3
  rw [k.1, l.1] at e0; rw [k.2.1, l.2.1] at e1; rw [k.2.2.1, l.2.2.1] at e2; rw [k.1, l.1, k.2.1, l.2.1, k.2.2.1, l.2.2.1, k.2.2.2, l.2.2.2]
  clear k l
  obtain ⟨s0, t0, hs0, hs0', ht0⟩ : ∃ s t : Nat, a0 + b0 = s + 18446744073709551616 * t ∧ s < 18446744073709551616 ∧ t ≤ 1 := ⟨(a0 + b0) % 18446744073709551616, (a0 + b0) / 18446744073709551616, by omega, by omega, by omega⟩
  obtain ⟨s1, t1, hs1, hs1', ht1⟩ : ∃ s t : Nat, a1 + b1 + t0 = s + 18446744073709551616 * t ∧ s < 18446744073709551616 ∧ t ≤ 1 := ⟨(a1 + b1 + t0) % 18446744073709551616, (a1 + b1 + t0) / 18446744073709551616, by omega, by omega, by omega⟩
  obtain ⟨s2, t2, hs2, hs2', ht2⟩ : ∃ s t : Nat, a2 + b2 + t1 = s + 18446744073709551616 * t ∧ s < 18446744073709551616 ∧ t ≤ 1 := ⟨(a2 + b2 + t1) % 18446744073709551616, (a2 + b2 + t1) / 18446744073709551616, by omega, by omega, by omega⟩
  obtain ⟨s3, t3, hs3, hs3', ht3⟩ : ∃ s t : Nat, a3 + b3 + t2 = s + 18446744073709551616 * t ∧ s < 18446744073709551616 ∧ t ≤ 1 := ⟨(a3 + b3 + t2) % 18446744073709551616, (a3 + b3 + t2) / 18446744073709551616, by omega, by omega, by omega⟩
  have hsum : four a0 a1 a2 a3 + four b0 b1 b2 b3 = four s0 s1 s2 s3 + T256 * t3 := by unfold four T256; omega
  have hlt := four_lt s0 s1 s2 s3 hs0' hs1' hs2' hs3'
  have hm : (four a0 a1 a2 a3 + four b0 b1 b2 b3) % T256 = four s0 s1 s2 s3 := by rw [hsum, Nat.add_mul_mod_self_left, Nat.mod_eq_of_lt hlt]
  have hd : (four a0 a1 a2 a3 + four b0 b1 b2 b3) / T256 = t3 := by
    rw [hsum, Nat.add_mul_div_left _ _ (by unfold T256; omega), Nat.div_eq_of_lt hlt]; omega
  rw [hm, hd]
  have m := limb_four s0 s1 s2 s3 hs0' hs1' hs2' hs3'
  rw [m.1, m.2.1, m.2.2.1, m.2.2.2]
  unfold sumHi at e0; obtain rfl : c0 = (t0 : Int) := by omega
  unfold sumHi at e1; obtain rfl : c1 = (t1 : Int) := by omega
  unfold sumHi at e2; obtain rfl : c2 = (t2 : Int) := by omega
  unfold sumLo sumHi
  omega

/-- SUB: the four steps make the difference. -/
theorem sub_law (a b : Nat) (ha : a < T256) (hb : b < T256) (c0 c1 c2 : Int) (e0 : c0 = subHi (limb a 0) (limb b 0) 0) (e1 : c1 = subHi (limb a 1) (limb b 1) c0) (e2 : c2 = subHi (limb a 2) (limb b 2) c1) :
    limb ((a + T256 - b) % T256) 0 = subLo (limb a 0) (limb b 0) 0 ∧ limb ((a + T256 - b) % T256) 1 = subLo (limb a 1) (limb b 1) c0 ∧ limb ((a + T256 - b) % T256) 2 = subLo (limb a 2) (limb b 2) c1 ∧
    limb ((a + T256 - b) % T256) 3 = subLo (limb a 3) (limb b 3) c2 ∧ (if a < b then 1 else 0 : Int) = subHi (limb a 3) (limb b 3) c2 := by
  obtain ⟨a0, a1, a2, a3, k0, k1, k2, k3, rfl⟩ := four_of a ha
  obtain ⟨b0, b1, b2, b3, l0, l1, l2, l3, rfl⟩ := four_of b hb
  have k := limb_four a0 a1 a2 a3 k0 k1 k2 k3
  have l := limb_four b0 b1 b2 b3 l0 l1 l2 l3
  rw [k.1, l.1] at e0; rw [k.2.1, l.2.1] at e1; rw [k.2.2.1, l.2.2.1] at e2; rw [k.1, l.1, k.2.1, l.2.1, k.2.2.1, l.2.2.1, k.2.2.2, l.2.2.2]
  clear k l
  have step : ∀ x y c : Nat, x < 18446744073709551616 → y < 18446744073709551616 → c ≤ 1 → ∃ s t : Nat, x + 18446744073709551616 * t = s + y + c ∧ s < 18446744073709551616 ∧ t ≤ 1 ∧ subLo x y c = s ∧ subHi x y c = t := by
    intro x y c hx hy hc
    unfold subLo subHi
    by_cases h : x < y + c
    · exact ⟨x + 18446744073709551616 - y - c, 1, by omega, by omega, by omega, by omega, by rw [if_pos (by omega)]; rfl⟩
    · exact ⟨x - y - c, 0, by omega, by omega, by omega, by omega, by rw [if_neg (by omega)]; rfl⟩
  obtain ⟨s0, t0, hs0, hs0', ht0, m0, n0⟩ := step a0 b0 0 k0 l0 (by omega)
  obtain ⟨s1, t1, hs1, hs1', ht1, m1, n1⟩ := step a1 b1 t0 k1 l1 ht0
  obtain ⟨s2, t2, hs2, hs2', ht2, m2, n2⟩ := step a2 b2 t1 k2 l2 ht1
  obtain ⟨s3, t3, hs3, hs3', ht3, m3, n3⟩ := step a3 b3 t2 k3 l3 ht2
  clear step
  have e0' : c0 = (t0 : Int) := e0.trans n0
  subst e0'
  have e1' : c1 = (t1 : Int) := e1.trans n1
  subst e1'
  have e2' : c2 = (t2 : Int) := e2.trans n2
  subst e2'
  clear e0 e1 e2 n0 n1 n2
  have z : ((0 : Nat) : Int) = 0 := rfl
  rw [z] at m0
  rw [m0, m1, m2, m3, n3]
  have hsum : four a0 a1 a2 a3 + T256 * t3 = four s0 s1 s2 s3 + four b0 b1 b2 b3 := by unfold four T256; omega
  have hlt := four_lt s0 s1 s2 s3 hs0' hs1' hs2' hs3'
  have hm : (four a0 a1 a2 a3 + T256 - four b0 b1 b2 b3) % T256 = four s0 s1 s2 s3 := by
    have : t3 = 0 ∨ t3 = 1 := by omega
    rcases this with rfl | rfl
    · rw [show four a0 a1 a2 a3 + T256 - four b0 b1 b2 b3 = four s0 s1 s2 s3 + T256 * 1 by omega, Nat.add_mul_mod_self_left, Nat.mod_eq_of_lt hlt]
    · rw [show four a0 a1 a2 a3 + T256 - four b0 b1 b2 b3 = four s0 s1 s2 s3 by omega, Nat.mod_eq_of_lt hlt]
  rw [hm]
  have m := limb_four s0 s1 s2 s3 hs0' hs1' hs2' hs3'
  rw [m.1, m.2.1, m.2.2.1, m.2.2.2]
  refine ⟨rfl, rfl, rfl, rfl, ?_⟩
  have : t3 = 0 ∨ t3 = 1 := by omega
  rcases this with rfl | rfl
  · rw [if_neg (by omega)]; rfl
  · rw [if_pos (by omega)]; rfl
end Go.Proofs.Ytlpalhagndmpjaa
namespace Go.Proofs.Ytlpalhagndmpjaa
open Go.RowKit Go.ChangeShapes Go.WideShapes Go.ChangeAt
section
variable {H : Type} {enc : TypeId × Value → H} {P : Program} {w : World} {base : Nat} {spare : Nat → Bool} {held : Bool}
theorem okWide_array {t e : TypeId} {n : Nat} {r : Reach} {b0 : Nat} {v : Value} (ht : P.underlying t = some (.array n e)) (h : Value.okWide P w r b0 t v) : ∃ cs, v = .agg cs ∧ cs.size = P.cellsOf t := by
  simp only [Value.okWide, ht] at h
  obtain ⟨cs, h1, h2, _⟩ := h
  exact ⟨cs, h1, h2⟩
def intAt (cs : List Value) (i : Nat) : Int := match cs[i]? with | some (.int _ z) => z | _ => 0
/-- The cells of an array of integers. -/
theorem cells_ints {t e : TypeId} {n : Nat} {k : IntKind} {cs : List Value} {fuel : Nat} {x : DataW H × List MemPlace} (ht : P.underlying t = some (.array n e)) (he : P.underlying e = some (.int k)) (hce : P.cellsOf e = 1) (hct : P.cellsOf t = n)
    (h : DataW.trod enc P w base spare held fuel t cs = some x) : ∃ zs : List Int, zs.length = n ∧ cs = zs.map (Value.int k) ∧ ∀ z ∈ zs, (Lit.int k z).wf = true := by
  obtain ⟨xs, m, _, _, hl, hx, hf⟩ := DataW.trod_array ht h
  rw [hct] at hl
  have key : ∀ i, i < n → ∃ z, cs[i]? = some (.int k z) ∧ (Lit.int k z).wf = true := by
    intro i hi
    have := hf i hi
    rw [hce, Nat.mul_one, List.getElem?_eq_getElem (by omega)] at this
    obtain ⟨z, hc, _, hz⟩ := DataW.trod_int he this
    refine ⟨z, ?_, hz⟩
    have := congrArg (·[0]?) hc
    simpa [List.getElem?_take, List.getElem?_drop] using this
  refine ⟨(List.range n).map (intAt cs), by simp, ?_, ?_⟩
  · apply List.ext_getElem?
    intro i
    by_cases hi : i < n
    · obtain ⟨z, hz, _⟩ := key i hi
      simp [hi, intAt, hz]
    · simp only [List.map_map, List.getElem?_map]
      rw [List.getElem?_eq_none (by omega), List.getElem?_eq_none (by simp; omega)]
      rfl
  · intro z hz
    obtain ⟨i, hi, rfl⟩ := List.mem_map.1 hz
    obtain ⟨z, hz, hw⟩ := key i (List.mem_range.1 hi)
    simpa [intAt, hz] using hw
theorem open_array {t e : TypeId} {n : Nat} {k : IntKind} {r : Reach} {b0 : Nat} {v : Value} {d : DataW H} {p : List MemPlace} (ht : P.underlying t = some (.array n e)) (he : P.underlying e = some (.int k)) (hce : P.cellsOf e = 1) (hct : P.cellsOf t = n)
    (hv : Value.okWide P w r b0 t v) (h : DataW.Trod enc P w base spare held t v d p) : ∃ zs : List Int, zs.length = n ∧ v = .agg (zs.map (Value.int k)).toArray ∧ ∀ z ∈ zs, (Lit.int k z).wf = true := by
  obtain ⟨cs, rfl, _⟩ := okWide_array ht hv
  obtain ⟨fuel, hf⟩ := h
  obtain ⟨zs, h1, h2, h3⟩ := cells_ints ht he hce hct (cs := cs.toList) (by simpa [Value.cells] using hf)
  refine ⟨zs, h1, ?_, h3⟩
  rw [← h2]
theorem wf_U {z : Int} (h : (Lit.int .u64 z).wf = true) : U z := by
  simp [Lit.wf, IntKind.min, IntKind.max, IntKind.signed, IntKind.bits] at h
  exact ⟨h.1, by omega⟩
theorem len4 {α : Type} {l : List α} (h : l.length = 4) : ∃ a b c d, l = [a, b, c, d] := by
  match l, h with | [a, b, c, d], _ => exact ⟨a, b, c, d, rfl⟩
theorem len8 {α : Type} {l : List α} (h : l.length = 8) : ∃ a b c d e f g i, l = [a, b, c, d, e, f, g, i] := by
  match l, h with | [a, b, c, d, e, f, g, i], _ => exact ⟨a, b, c, d, e, f, g, i, rfl⟩
theorem num_list {zs : List Int} (hl : zs.length = 4) (hz : ∀ z ∈ zs, (Lit.int .u64 z).wf = true) : ∃ n, n < T256 ∧ Value.agg (zs.map (Value.int .u64)).toArray = num n := by
  obtain ⟨a, b, c, d, rfl⟩ := len4 hl
  obtain ⟨n, hn, h0, h1, h2, h3⟩ := num_of a b c d (wf_U (hz a (by simp))) (wf_U (hz b (by simp))) (wf_U (hz c (by simp))) (wf_U (hz d (by simp)))
  refine ⟨n, hn, ?_⟩
  rw [h0, h1, h2, h3]
  rfl
theorem wide_list {zs : List Int} (hl : zs.length = 8) (hz : ∀ z ∈ zs, (Lit.int .u64 z).wf = true) : ∃ n, n < T512 ∧ Value.agg (zs.map (Value.int .u64)).toArray = wide n := by
  obtain ⟨a, b, c, d, e, f, g, i, rfl⟩ := len8 hl
  obtain ⟨n, hn, h0, h1, h2, h3⟩ := num_of a b c d (wf_U (hz a (by simp))) (wf_U (hz b (by simp))) (wf_U (hz c (by simp))) (wf_U (hz d (by simp)))
  obtain ⟨m, hm, k0, k1, k2, k3⟩ := num_of e f g i (wf_U (hz e (by simp))) (wf_U (hz f (by simp))) (wf_U (hz g (by simp))) (wf_U (hz i (by simp)))
  have s := limb_two n m hn
  refine ⟨n + T256 * m, two_lt n m hn hm, ?_⟩
  rw [h0, h1, h2, h3, k0, k1, k2, k3]
  simp only [wide, s.1, s.2.1, s.2.2.1, s.2.2.2.1, s.2.2.2.2.1, s.2.2.2.2.2.1, s.2.2.2.2.2.2.1, s.2.2.2.2.2.2.2]
  rfl
theorem open_num {t e : TypeId} {r : Reach} {b0 : Nat} {v : Value} {d : DataW H} {p : List MemPlace} (ht : P.underlying t = some (.array 4 e)) (he : P.underlying e = some (.int .u64)) (hce : P.cellsOf e = 1) (hct : P.cellsOf t = 4)
    (hv : Value.okWide P w r b0 t v) (h : DataW.Trod enc P w base spare held t v d p) : ∃ n, n < T256 ∧ v = num n := by
  obtain ⟨zs, hl, rfl, hz⟩ := open_array ht he hce hct hv h
  exact num_list hl hz
theorem open_wide {t e : TypeId} {r : Reach} {b0 : Nat} {v : Value} {d : DataW H} {p : List MemPlace} (ht : P.underlying t = some (.array 8 e)) (he : P.underlying e = some (.int .u64)) (hce : P.cellsOf e = 1) (hct : P.cellsOf t = 8)
    (hv : Value.okWide P w r b0 t v) (h : DataW.Trod enc P w base spare held t v d p) : ∃ n, n < T512 ∧ v = wide n := by
  obtain ⟨zs, hl, rfl, hz⟩ := open_array ht he hce hct hv h
  exact wide_list hl hz
end
end Go.Proofs.Ytlpalhagndmpjaa
namespace Go.Proofs.Ytlpalhagndmpjaa
set_option maxRecDepth 100000
theorem mayEnter_of {P : Program} {l : List Char} {rest : List (List Char)} (h0 : P.initOrder = String.ofList l) (h : behindMainWord (wordsSigns l) = "cut".toList :: rest) (hs : stripLifts liftWords ("cut".toList :: rest) = ([], "cut".toList :: rest)) (h1 : P.laysLater = false) (h2 : P.bearsReflect = false) (h3 : P.doorFits [] = true) : P.mayEnter = true := by
  unfold Program.mayEnter
  rw [h0, String.toList_ofList, h]
  generalize "cut".toList = c at *
  simp only [hs, h1, h2, h3]
  simp
theorem headLifts_of {P : Program} {l : List Char} {rest : List (List Char)} (h0 : P.initOrder = String.ofList l) (h : behindMainWord (wordsSigns l) = "cut".toList :: rest) (hs : stripLifts liftWords ("cut".toList :: rest) = ([], "cut".toList :: rest)) : P.headLifts = [] := by
  unfold Program.headLifts
  rw [h0, String.toList_ofList, h, hs]
  simp
theorem liftsFinal_of {P : Program} {l : List Char} {rest : List (List Char)} (h0 : P.initOrder = String.ofList l) (h : behindMainWord (wordsSigns l) = "cut".toList :: rest) (hs : stripLifts liftWords ("cut".toList :: rest) = ([], "cut".toList :: rest)) : P.liftsFinal = false := by
  unfold Program.liftsFinal
  rw [headLifts_of h0 h hs, h0, String.toList_ofList, h]
  simp
theorem make_of {P : Program} {l : List Char} {rest : List (List Char)} (h0 : P.initOrder = String.ofList l) (h : behindMainWord (wordsSigns l) = "cut".toList :: rest) : P.make = some .cut := by
  unfold Program.make
  rw [h0, String.toList_ofList, h]
  have e1 : ("cut".toList == "gc".toList || "cut".toList == "spec".toList) = false := by decide +kernel
  simp only [e1]
  simp
theorem word0 : ∃ (l : List Char), Try.prog.initOrder = String.ofList l ∧ behindMainWord (wordsSigns l) = "cut".toList :: (behindMainWord (wordsSigns l)).tail ∧ stripLifts liftWords ("cut".toList :: (behindMainWord (wordsSigns l)).tail) = ([], "cut".toList :: (behindMainWord (wordsSigns l)).tail) := ⟨_, rfl, by kernel_rfl, by kernel_rfl⟩
theorem word1 : ∃ (l : List Char) (rest : List (List Char)), Try.prog.initOrder = String.ofList l ∧ behindMainWord (wordsSigns l) = "cut".toList :: rest ∧ stripLifts liftWords ("cut".toList :: rest) = ([], "cut".toList :: rest) := by
  obtain ⟨l, h⟩ := word0
  exact ⟨l, _, h⟩
theorem mayEnters : Try.prog.mayEnter = true := by
  obtain ⟨l, r, h0, h, hs⟩ := word1
  exact mayEnter_of h0 h hs (by kernel_rfl) (by kernel_rfl) (by kernel_rfl)
theorem liftsNone : Try.prog.liftsFinal = false := by
  obtain ⟨l, r, h0, h, hs⟩ := word1
  exact liftsFinal_of h0 h hs
theorem makeCut : Try.prog.make = some .cut := by
  obtain ⟨l, r, h0, h, hs⟩ := word1
  exact make_of h0 h
end Go.Proofs.Ytlpalhagndmpjaa
