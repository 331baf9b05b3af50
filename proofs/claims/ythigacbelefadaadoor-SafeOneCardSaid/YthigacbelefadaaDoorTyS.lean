/- What the elements of slices are. Printed by a program. -/
import Derived.Test.YthigacbelefadaaDoorTy
import Derived.Test.YthigacbelefadaaDoorOwnB
namespace Go.Proofs.YthigacbelefadaaDoor
theorem EI.of {P:Program}{e size bytes:Nat}{z:Array Value}(h:(match P.info? e with|some i=>i.size == size && i.bytes == bytes && z.size == size && (match i.zero with|some _=>true|none=>false)|none=>false)=true)(h':((P.info? e).bind (·.zero)).map (·.cells)=some z)(hb:Nat.blt e BIG=true:=by rfl):EI P e size bytes z:=by
 cases hi:P.info? e with
 | none=>simp [hi] at h
 | some i=>
  cases hz:i.zero with
  | none=>simp [hi,hz] at h
  | some zv=>
   simp [hi,hz] at h h'
   exact ⟨⟨i,zv,hi,h.1.1,h.1.2,hz,h',h.2⟩,hb⟩
instance:EI Tryd.prog 3 1 8 #[Go.Value.int Go.IntKind.i64 0]:=EI.of (by kernel_rfl) (by kernel_rfl)
instance:OwnL 3 1 (.slice none 0 0) 0 [] []:=OwnL.nil 3 1
instance:EI Tryd.prog 5 1 1 #[Go.Value.int Go.IntKind.u8 0]:=EI.of (by kernel_rfl) (by kernel_rfl)
instance:OwnL 5 1 (.slice none 0 0) 0 (bl []) []:=OwnL.nil 5 1
instance:OwnB 5 (.slice none 0 0) 0 [] []:=⟨OwnL.nil 5 1,BL.nil⟩
instance:EI Tryd.prog 44 2 32 (#[Go.Value.int Go.IntKind.u8 0,Go.Value.slice Option.none 0 0]):=EI.of (by kernel_rfl) (by kernel_rfl)
instance:OwnL 44 2 (.slice none 0 0) 0 [] []:=OwnL.nil 44 2
instance:EI Tryd.prog 49 3 40 (#[Go.Value.int Go.IntKind.i64 0,Go.Value.int Go.IntKind.i64 0,Go.Value.slice Option.none 0 0]):=EI.of (by kernel_rfl) (by kernel_rfl)
instance:OwnL 49 3 (.slice none 0 0) 0 [] []:=OwnL.nil 49 3
instance:EI Tryd.prog 86 2 32 (#[Go.Value.int Go.IntKind.i64 0,Go.Value.slice Option.none 0 0]):=EI.of (by kernel_rfl) (by kernel_rfl)
instance:OwnL 86 2 (.slice none 0 0) 0 [] []:=OwnL.nil 86 2
end Go.Proofs.YthigacbelefadaaDoor
