/- The laws of keys under a key: what they need of Unwrap. -/
import Derived.Test.YtdmmbkhnhfcmcaaWrapU
import Derived.Test.YtdmmbkhnhfcmcaaAesN
import Derived.Test.YtdmmbkhnhfcmcaaBeq
namespace Go.Proofs.Ytdmmbkhnhfcmcaa
open Go.RowKit
attribute [local irreducible] rwA bys
set_option linter.unusedVariables false
set_option linter.unusedSimpArgs false
section
variable {W p : List Nat} {R c : Nat} {E D : List Nat → List Nat} {u : Value}
theorem unwrap_yes (w' : World) [hkk : AKey W] (hed : EDok E D) (DE : ∀ b, B16 b → ∀ w, Calls Try.prog 20 [kv W R, .agg (bys b)].toArray w (Ret (.agg (bys (D b))) w)) (hc2 : 2 ≤ c) (hc8 : c ≤ 8) (h : Cb w' u (8 * (c + 1)) p)
    {q : List Nat} (hok : uN D c (6 * c) p (6 * c) = frontW ++ q) : Calls Try.prog 22 [kv W R, u].toArray w' (RetO (fun v : Value => .tuple #[v, .int .i64 0]) (fun v oa => OwnB 5 v (8 * c) q oa) w') :=
  (unwrap_c w' hed DE hc2 hc8 h).mono fun e w2 ⟨x, oa, he, hx, hu⟩ => by
    have h8 : frontW.length = 8 := by simp [frontW]
    rw [hok, List.take_left' h8, List.drop_left' h8] at hx
    rcases hx with ⟨_, h2, h3⟩ | ⟨h1, _⟩
    · exact ⟨x.1, oa, by rw [he]; dsimp only; rw [h2], h3, hu⟩
    · exact absurd rfl h1
theorem unwrap_no (w' : World) [hkk : AKey W] (hed : EDok E D) (DE : ∀ b, B16 b → ∀ w, Calls Try.prog 20 [kv W R, .agg (bys b)].toArray w (Ret (.agg (bys (D b))) w)) (hc2 : 2 ≤ c) (hc8 : c ≤ 8) (h : Cb w' u (8 * (c + 1)) p)
    (hok : (uN D c (6 * c) p (6 * c)).take 8 ≠ frontW) : Calls Try.prog 22 [kv W R, u].toArray w' (Ret (.tuple #[.slice none 0 0, .int .i64 5]) w') :=
  (unwrap_c w' hed DE hc2 hc8 h).mono fun e w2 ⟨x, oa, he, hx, hu⟩ => by
    rcases hx with ⟨h1, _⟩ | ⟨_, h2, h3⟩
    · exact absurd h1 hok
    · subst h3; subst h2
      exact ⟨he, hu.below⟩
end
/-- Two are wrapped to two. -/
theorem wrap_apart {E D : List Nat → List Nat} (h : EDok E D) {c d : Nat} {q r : List Nat} (hq : q.length = 8 * c) (hqb : ∀ x ∈ q, x < 256) (hr : r.length = 8 * d) (hrb : ∀ x ∈ r, x < 256) (hc : 0 < c) (hd : 0 < d) :
    (wN E c (frontW ++ q) (6 * c) == wN E d (frontW ++ r) (6 * d)) = (q == r) := by
  rw [Bool.eq_iff_iff, beq_iff_eq, beq_iff_eq]
  have wq := wo_front hq hqb
  have wr := wo_front hr hrb
  constructor
  · intro he
    have l1 := (wN_ok h hc wq (6 * c)).len
    have l2 := (wN_ok h hd wr (6 * d)).len
    rw [he, l2] at l1
    obtain rfl : c = d := by omega
    have e := congrArg (fun o => uN D c (6 * c) o (6 * c)) he
    simp only [uN_wN h hc wq, uN_wN h hc wr] at e
    exact List.append_cancel_left e
  · intro he
    subst he
    obtain rfl : c = d := by omega
    rfl
end Go.Proofs.Ytdmmbkhnhfcmcaa
