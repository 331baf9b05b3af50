/- Four bytes: as a value, as a variable. -/
import Derived.Test.YthgfglkncmekmabZc
import Derived.Test.YthgfglkncmekmabTy
namespace Go.Proofs.Ythgfglkncmekmab
open Go.RowKit
set_option linter.unusedVariables false
set_option linter.unusedSimpArgs false
def b4 (f : Nat → Nat) : Array Value := #[.int .u8 ((f 0 : Nat) : Int), .int .u8 ((f 1 : Nat) : Int), .int .u8 ((f 2 : Nat) : Int), .int .u8 ((f 3 : Nat) : Int)]
instance b4_cells (f : Nat → Nat) : Cells (b4 f) 4 := ⟨rfl, by simp [b4, Value.oneCell']⟩
theorem b4_get (f : Nat → Nat) (k : Nat) (h : k < 4) : (b4 f)[k]? = some (.int .u8 ((f k : Nat) : Int)) := by
  rcases (by omega : k = 0 ∨ k = 1 ∨ k = 2 ∨ k = 3) with rfl | rfl | rfl | rfl <;> rfl
theorem b4_congr {f g : Nat → Nat} (h : ∀ j, j < 4 → f j = g j) : b4 f = b4 g := by
  unfold b4; rw [h 0 (by omega), h 1 (by omega), h 2 (by omega), h 3 (by omega)]
theorem b4_put (f g : Nat → Nat) (k x : Nat) (h : k < 4) (hx : g k = x) (ho : ∀ j, j < 4 → j ≠ k → g j = f j) : putC (b4 f) k (.int .u8 ((x : Nat) : Int)) = b4 g := by
  subst hx
  rcases (by omega : k = 0 ∨ k = 1 ∨ k = 2 ∨ k = 3) with rfl | rfl | rfl | rfl
  · unfold b4; rw [ho 1 (by omega) (by omega), ho 2 (by omega) (by omega), ho 3 (by omega) (by omega)]; rfl
  · unfold b4; rw [ho 0 (by omega) (by omega), ho 2 (by omega) (by omega), ho 3 (by omega) (by omega)]; rfl
  · unfold b4; rw [ho 0 (by omega) (by omega), ho 1 (by omega) (by omega), ho 3 (by omega) (by omega)]; rfl
  · unfold b4; rw [ho 0 (by omega) (by omega), ho 1 (by omega) (by omega), ho 2 (by omega) (by omega)]; rfl
instance zc_b4 : ZC Try.prog 22 (b4 fun _ => 0) := ⟨by kernel_rfl⟩
theorem eql_b4 (f g : Nat → Nat) (r : Bool) (hr : r = true ↔ ∀ j, j < 4 → f j = g j) (w : World) : (Op.equalIn 10000 22 (.agg (b4 f)) (.agg (b4 g))).run Try.prog w = .ok r w := by
  have h := eql_ints (P := Try.prog) (t := 22) (e := 5) (k := .u8) (k' := .u8) w 9998 4 [((f 0 : Nat) : Int), ((f 1 : Nat) : Int), ((f 2 : Nat) : Int), ((f 3 : Nat) : Int)] [((g 0 : Nat) : Int), ((g 1 : Nat) : Int), ((g 2 : Nat) : Int), ((g 3 : Nat) : Int)] (by kernel_rfl) (by kernel_rfl) (by kernel_rfl) (by kernel_rfl) (by kernel_rfl) rfl rfl
  have e : ([((f 0 : Nat) : Int), ((f 1 : Nat) : Int), ((f 2 : Nat) : Int), ((f 3 : Nat) : Int)] == [((g 0 : Nat) : Int), ((g 1 : Nat) : Int), ((g 2 : Nat) : Int), ((g 3 : Nat) : Int)]) = r := by
    rw [Bool.eq_iff_iff, hr]
    simp only [beq_iff_eq, List.cons.injEq, Int.natCast_inj, and_true]
    constructor
    · rintro ⟨h0, h1, h2, h3⟩ j hj
      rcases (by omega : j = 0 ∨ j = 1 ∨ j = 2 ∨ j = 3) with rfl | rfl | rfl | rfl <;> assumption
    · exact fun h => ⟨h 0 (by omega), h 1 (by omega), h 2 (by omega), h 3 (by omega)⟩
  rw [e] at h
  exact h
theorem b4_build (f : Nat → Nat) (a b c d : Int) (h0 : a = f 0) (h1 : b = f 1) (h2 : c = f 2) (h3 : d = f 3) : Value.agg [.int .u8 a, .int .u8 b, .int .u8 c, .int .u8 d].toArray = .agg (b4 f) := by
  subst h0 h1 h2 h3; rfl
/-- Four bytes that came in. -/
theorem b4_in (zs : List Int) (hl : zs.length = 4) (hz : ∀ z ∈ zs, (Lit.int .u8 z).wf = true) : ∃ f : Nat → Nat, (∀ j, f j < 256) ∧ Value.agg (zs.map (Value.int .u8)).toArray = .agg (b4 f) := by
  have hr : ∀ z ∈ zs, 0 ≤ z ∧ z < 256 := fun z h => by
    have := hz z h
    simp [Lit.wf, IntKind.min, IntKind.max, IntKind.signed, IntKind.bits] at this
    omega
  match zs, hl with
  | [a, b, c, d], _ =>
    have ra := hr a (by simp)
    have rb := hr b (by simp)
    have rc := hr c (by simp)
    have rd := hr d (by simp)
    refine ⟨fun j => match j with | 0 => a.toNat | 1 => b.toNat | 2 => c.toNat | 3 => d.toNat | _ => 0, fun j => ?_, ?_⟩
    · match j with
      | 0 => show a.toNat < 256; omega
      | 1 => show b.toNat < 256; omega
      | 2 => show c.toNat < 256; omega
      | 3 => show d.toNat < 256; omega
      | _ + 4 => exact (by decide : 0 < 256)
    · unfold b4
      simp only [List.map_cons, List.map_nil, Int.toNat_of_nonneg ra.1, Int.toNat_of_nonneg rb.1, Int.toNat_of_nonneg rc.1, Int.toNat_of_nonneg rd.1]
attribute [irreducible] b4
end Go.Proofs.Ythgfglkncmekmab
