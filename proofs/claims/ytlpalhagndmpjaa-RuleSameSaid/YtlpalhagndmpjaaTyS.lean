/- What the elements of slices are. Printed by a program. -/
import Derived.Test.YtlpalhagndmpjaaTy
import Derived.Test.YtlpalhagndmpjaaOwnB
namespace Go.Proofs.Ytlpalhagndmpjaa
theorem EI.of {P : Program} {e size bytes : Nat} {z : Array Value} (h : (match P.info? e with | some i => i.size == size && i.bytes == bytes && z.size == size && (match i.zero with | some _ => true | none => false) | none => false) = true) (h' : ((P.info? e).bind (·.zero)).map (·.cells) = some z) : EI P e size bytes z := by
  cases hi : P.info? e with
  | none => simp [hi] at h
  | some i =>
    cases hz : i.zero with
    | none => simp [hi, hz] at h
    | some zv =>
      simp [hi, hz] at h h'
      exact ⟨i, zv, hi, h.1.1, h.1.2, hz, h', h.2⟩
instance : EI Try.prog 3 1 8 #[Go.Value.int Go.IntKind.i64 0] := EI.of (by kernel_rfl) (by kernel_rfl)
instance : OwnL 3 1 (.slice none 0 0) 0 [] [] := OwnL.nil 3 1
instance : EI Try.prog 5 1 1 #[Go.Value.int Go.IntKind.u8 0] := EI.of (by kernel_rfl) (by kernel_rfl)
instance : OwnL 5 1 (.slice none 0 0) 0 (bl []) [] := OwnL.nil 5 1
instance : OwnB 5 (.slice none 0 0) 0 [] [] := ⟨OwnL.nil 5 1, BL.nil⟩
instance : EI Try.prog 29 2 32 (#[Go.Value.int Go.IntKind.i64 0, Go.Value.slice Option.none 0 0]) := EI.of (by kernel_rfl) (by kernel_rfl)
instance : OwnL 29 2 (.slice none 0 0) 0 [] [] := OwnL.nil 29 2
instance : EI Try.prog 47 2 32 (#[Go.Value.bool Bool.false, Go.Value.slice Option.none 0 0]) := EI.of (by kernel_rfl) (by kernel_rfl)
instance : OwnL 47 2 (.slice none 0 0) 0 [] [] := OwnL.nil 47 2
instance : EI Try.prog 64 2 32 (#[Go.Value.int Go.IntKind.u8 0, Go.Value.slice Option.none 0 0]) := EI.of (by kernel_rfl) (by kernel_rfl)
instance : OwnL 64 2 (.slice none 0 0) 0 [] [] := OwnL.nil 64 2
end Go.Proofs.Ytlpalhagndmpjaa
