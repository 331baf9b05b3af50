/- What the elements of slices are. Printed by a program. -/
import Derived.Test.YtkendlnjaopbeaaGreatDoorTy
import Derived.Test.YtkendlnjaopbeaaGreatDoorOwnB
namespace Go.Proofs.YtkendlnjaopbeaaGreatDoor
theorem EI.of {P : Program} {e size bytes : Nat} {z : Array Value} (h : (match P.info? e with | some i => i.size == size && i.bytes == bytes && z.size == size && (match i.zero with | some _ => true | none => false) | none => false) = true) (h' : ((P.info? e).bind (·.zero)).map (·.cells) = some z) (hb : Nat.blt e BIG = true := by rfl) : EI P e size bytes z := by
  cases hi : P.info? e with
  | none => simp [hi] at h
  | some i =>
    cases hz : i.zero with
    | none => simp [hi, hz] at h
    | some zv =>
      simp [hi, hz] at h h'
      exact ⟨⟨i, zv, hi, h.1.1, h.1.2, hz, h', h.2⟩, hb⟩
instance : EI Tryz.prog 3 1 8 #[Go.Value.int Go.IntKind.i64 0] := EI.of (by kernel_rfl) (by kernel_rfl)
instance : OwnL 3 1 (.slice none 0 0) 0 [] [] := OwnL.nil 3 1
instance : EI Tryz.prog 5 1 1 #[Go.Value.int Go.IntKind.u8 0] := EI.of (by kernel_rfl) (by kernel_rfl)
instance : OwnL 5 1 (.slice none 0 0) 0 (bl []) [] := OwnL.nil 5 1
instance : OwnB 5 (.slice none 0 0) 0 [] [] := ⟨OwnL.nil 5 1, BL.nil⟩
instance : EI Tryz.prog 22 1 24 #[Go.Value.slice Option.none 0 0] := EI.of (by kernel_rfl) (by kernel_rfl)
instance : OwnL 22 1 (.slice none 0 0) 0 [] [] := OwnL.nil 22 1
instance : EI Tryz.prog 44 1 8 #[Go.Value.int Go.IntKind.u64 0] := EI.of (by kernel_rfl) (by kernel_rfl)
instance : OwnL 44 1 (.slice none 0 0) 0 [] [] := OwnL.nil 44 1
instance : EI Tryz.prog 50 4 64 (#[Go.Value.int Go.IntKind.i64 0, Go.Value.int Go.IntKind.i64 0, Go.Value.slice Option.none 0 0, Go.Value.slice Option.none 0 0]) := EI.of (by kernel_rfl) (by kernel_rfl)
instance : OwnL 50 4 (.slice none 0 0) 0 [] [] := OwnL.nil 50 4
instance : EI Tryz.prog 74 4 4 (#[Go.Value.int Go.IntKind.u8 0, Go.Value.int Go.IntKind.u8 0, Go.Value.int Go.IntKind.u8 0, Go.Value.int Go.IntKind.u8 0]) := EI.of (by kernel_rfl) (by kernel_rfl)
instance : OwnL 74 4 (.slice none 0 0) 0 [] [] := OwnL.nil 74 4
end Go.Proofs.YtkendlnjaopbeaaGreatDoor
