/- The package hash, walked: Sum of bytes; equality of 32 bytes. -/
import Derived.Test.YtdmmbkhnhfcmcaaShaAll
import Derived.Test.YtdmmbkhnhfcmcaaOpenAll
namespace Go.Proofs.Ytdmmbkhnhfcmcaa
open Go.RowKit
set_option linter.unusedVariables false
set_option linter.unusedSimpArgs false
instance {p : List Nat} : NBy (dig p) 32 := ⟨dig_len p⟩
instance : HSo newH := ⟨newH_ok⟩
theorem bys_Z (p : List Nat) : bys p = ((p.map fun k : Nat => (k : Int)).map (Value.int .u8)).toArray := by simp [bys, bl]
theorem cb_nil (w : World) : Cb w (.slice none 0 0) 0 [] := (CsB.nil).cs.out w (by intro p hp; cases hp) |> fun h => ⟨h, BL.nil⟩
theorem dig_nil0 : (dig []).getD 0 0 = 227 := by decide +kernel
theorem dig_nil31 : (dig []).getD 31 0 = 85 := by decide +kernel
end Go.Proofs.Ytdmmbkhnhfcmcaa
