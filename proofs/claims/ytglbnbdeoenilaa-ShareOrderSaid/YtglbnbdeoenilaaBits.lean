/- The walks of limb.Bit, Pick, Len and math/bits.Len64 (the last turned from the shelf's). -/
import Derived.Test.YtglbnbdeoenilaaEqNum
import Derived.Lib.Strings
import Derived.Lib.Slices
import Derived.Lib.Small
import Derived.Lib.Walk
import Derived.Lib.BitFns
import Derived.Laws.Bits64
import Derived.Laws.Bits64b
namespace Go.Proofs.Ytglbnbdeoenilaa
open Go.RowKit
set_option linter.unusedVariables false
set_option maxHeartbeats 400000 in
set_option maxRecDepth 100000 in
theorem len64_0 (x : Int) (h0 : 0 ≤ x) (h1 : x < 256) (w : World) : Calls Try.prog 76 #[.int .u64 x] w (Ret (.int .i64 (Lib.bitLen x.toNat)) w) := by
  have y1 : x ≤ 255 := by omega
  have hl := Lib.len8_of (x) (by omega) (by omega)
  have l := Lib.bitLen_le8' (x) (by omega) (by omega)
  have hr : Lib.bitLen x.toNat ≤ 64 := by omega
  have fin : (Lib.bitLen x.toNat : Int) = Lib.len8 x := by omega
  have b0 : 0 ≤ Lib.len8 (x) := by omega
  have b1 : Lib.len8 (x) ≤ 8 := by omega
  rw [fin]
  clear fin hl l hr
  go_enter Try.func76, Try.ntmps76
  go_wp2
  go_ret
  refine ⟨?_, Below.refl _ _⟩
  first | rfl | (refine congrArg Ending.returned (congrArg (Value.int IntKind.i64) ?_); omega)
set_option maxHeartbeats 400000 in
set_option maxRecDepth 100000 in
theorem len64_1 (x : Int) (h0 : 256 ≤ x) (h1 : x < 65536) (w : World) : Calls Try.prog 76 #[.int .u64 x] w (Ret (.int .i64 (Lib.bitLen x.toNat)) w) := by
  have y0 : 0 ≤ x / 256 := by omega
  have y1 : x / 256 ≤ 255 := by omega
  have hl := Lib.len8_of (x / 256) (by omega) (by omega)
  have l := Lib.bitLen_le8' (x / 256) (by omega) (by omega)
  have s := Lib.bitLen_shift8 x.toNat (by omega) (by omega)
  have e : (x / 256).toNat = x.toNat / 256 := by omega
  rw [e] at hl l
  have hr : Lib.bitLen x.toNat ≤ 64 := by omega
  have fin : (Lib.bitLen x.toNat : Int) = 8 + Lib.len8 (x / 256) := by omega
  have b0 : 0 ≤ Lib.len8 (x / 256) := by omega
  have b1 : Lib.len8 (x / 256) ≤ 8 := by omega
  rw [fin]
  clear fin hl l hr s e
  go_enter Try.func76, Try.ntmps76
  go_wp2
  go_ret
  refine ⟨?_, Below.refl _ _⟩
  first | rfl | (refine congrArg Ending.returned (congrArg (Value.int IntKind.i64) ?_); omega)
set_option maxHeartbeats 400000 in
set_option maxRecDepth 100000 in
theorem len64_2 (x : Int) (h0 : 65536 ≤ x) (h1 : x < 16777216) (w : World) : Calls Try.prog 76 #[.int .u64 x] w (Ret (.int .i64 (Lib.bitLen x.toNat)) w) := by
  have y0 : 0 ≤ x / 65536 := by omega
  have y1 : x / 65536 ≤ 255 := by omega
  have hl := Lib.len8_of (x / 65536) (by omega) (by omega)
  have l := Lib.bitLen_le8' (x / 65536) (by omega) (by omega)
  have s := Lib.bitLen_shift16 x.toNat (by omega) (by omega)
  have e : (x / 65536).toNat = x.toNat / 65536 := by omega
  rw [e] at hl l
  have hr : Lib.bitLen x.toNat ≤ 64 := by omega
  have fin : (Lib.bitLen x.toNat : Int) = 16 + Lib.len8 (x / 65536) := by omega
  have b0 : 0 ≤ Lib.len8 (x / 65536) := by omega
  have b1 : Lib.len8 (x / 65536) ≤ 8 := by omega
  rw [fin]
  clear fin hl l hr s e
  go_enter Try.func76, Try.ntmps76
  go_wp2
  go_ret
  refine ⟨?_, Below.refl _ _⟩
  first | rfl | (refine congrArg Ending.returned (congrArg (Value.int IntKind.i64) ?_); omega)
set_option maxHeartbeats 400000 in
set_option maxRecDepth 100000 in
theorem len64_3 (x : Int) (h0 : 16777216 ≤ x) (h1 : x < 4294967296) (w : World) : Calls Try.prog 76 #[.int .u64 x] w (Ret (.int .i64 (Lib.bitLen x.toNat)) w) := by
  have y0 : 0 ≤ x / 65536 / 256 := by omega
  have y1 : x / 65536 / 256 ≤ 255 := by omega
  have hl := Lib.len8_of (x / 65536 / 256) (by omega) (by omega)
  have l := Lib.bitLen_le8' (x / 65536 / 256) (by omega) (by omega)
  have s := Lib.bitLen_shift24 x.toNat (by omega) (by omega)
  have e : (x / 65536 / 256).toNat = x.toNat / 16777216 := by omega
  rw [e] at hl l
  have hr : Lib.bitLen x.toNat ≤ 64 := by omega
  have fin : (Lib.bitLen x.toNat : Int) = 24 + Lib.len8 (x / 65536 / 256) := by omega
  have b0 : 0 ≤ Lib.len8 (x / 65536 / 256) := by omega
  have b1 : Lib.len8 (x / 65536 / 256) ≤ 8 := by omega
  rw [fin]
  clear fin hl l hr s e
  go_enter Try.func76, Try.ntmps76
  go_wp2
  go_ret
  refine ⟨?_, Below.refl _ _⟩
  first | rfl | (refine congrArg Ending.returned (congrArg (Value.int IntKind.i64) ?_); omega)
set_option maxHeartbeats 400000 in
set_option maxRecDepth 100000 in
theorem len64_4 (x : Int) (h0 : 4294967296 ≤ x) (h1 : x < 1099511627776) (w : World) : Calls Try.prog 76 #[.int .u64 x] w (Ret (.int .i64 (Lib.bitLen x.toNat)) w) := by
  have y0 : 0 ≤ x / 4294967296 := by omega
  have y1 : x / 4294967296 ≤ 255 := by omega
  have hl := Lib.len8_of (x / 4294967296) (by omega) (by omega)
  have l := Lib.bitLen_le8' (x / 4294967296) (by omega) (by omega)
  have s := Lib.bitLen_shift32 x.toNat (by omega) (by omega)
  have e : (x / 4294967296).toNat = x.toNat / 4294967296 := by omega
  rw [e] at hl l
  have hr : Lib.bitLen x.toNat ≤ 64 := by omega
  have fin : (Lib.bitLen x.toNat : Int) = 32 + Lib.len8 (x / 4294967296) := by omega
  have b0 : 0 ≤ Lib.len8 (x / 4294967296) := by omega
  have b1 : Lib.len8 (x / 4294967296) ≤ 8 := by omega
  rw [fin]
  clear fin hl l hr s e
  go_enter Try.func76, Try.ntmps76
  go_wp2
  go_ret
  refine ⟨?_, Below.refl _ _⟩
  first | rfl | (refine congrArg Ending.returned (congrArg (Value.int IntKind.i64) ?_); omega)
set_option maxHeartbeats 400000 in
set_option maxRecDepth 100000 in
theorem len64_5 (x : Int) (h0 : 1099511627776 ≤ x) (h1 : x < 281474976710656) (w : World) : Calls Try.prog 76 #[.int .u64 x] w (Ret (.int .i64 (Lib.bitLen x.toNat)) w) := by
  have y0 : 0 ≤ x / 4294967296 / 256 := by omega
  have y1 : x / 4294967296 / 256 ≤ 255 := by omega
  have hl := Lib.len8_of (x / 4294967296 / 256) (by omega) (by omega)
  have l := Lib.bitLen_le8' (x / 4294967296 / 256) (by omega) (by omega)
  have s := Lib.bitLen_shift40 x.toNat (by omega) (by omega)
  have e : (x / 4294967296 / 256).toNat = x.toNat / 1099511627776 := by omega
  rw [e] at hl l
  have hr : Lib.bitLen x.toNat ≤ 64 := by omega
  have fin : (Lib.bitLen x.toNat : Int) = 40 + Lib.len8 (x / 4294967296 / 256) := by omega
  have b0 : 0 ≤ Lib.len8 (x / 4294967296 / 256) := by omega
  have b1 : Lib.len8 (x / 4294967296 / 256) ≤ 8 := by omega
  rw [fin]
  clear fin hl l hr s e
  go_enter Try.func76, Try.ntmps76
  go_wp2
  go_ret
  refine ⟨?_, Below.refl _ _⟩
  first | rfl | (refine congrArg Ending.returned (congrArg (Value.int IntKind.i64) ?_); omega)
set_option maxHeartbeats 400000 in
set_option maxRecDepth 100000 in
theorem len64_6 (x : Int) (h0 : 281474976710656 ≤ x) (h1 : x < 72057594037927936) (w : World) : Calls Try.prog 76 #[.int .u64 x] w (Ret (.int .i64 (Lib.bitLen x.toNat)) w) := by
  have y0 : 0 ≤ x / 4294967296 / 65536 := by omega
  have y1 : x / 4294967296 / 65536 ≤ 255 := by omega
  have hl := Lib.len8_of (x / 4294967296 / 65536) (by omega) (by omega)
  have l := Lib.bitLen_le8' (x / 4294967296 / 65536) (by omega) (by omega)
  have s := Lib.bitLen_shift48 x.toNat (by omega) (by omega)
  have e : (x / 4294967296 / 65536).toNat = x.toNat / 281474976710656 := by omega
  rw [e] at hl l
  have hr : Lib.bitLen x.toNat ≤ 64 := by omega
  have fin : (Lib.bitLen x.toNat : Int) = 48 + Lib.len8 (x / 4294967296 / 65536) := by omega
  have b0 : 0 ≤ Lib.len8 (x / 4294967296 / 65536) := by omega
  have b1 : Lib.len8 (x / 4294967296 / 65536) ≤ 8 := by omega
  rw [fin]
  clear fin hl l hr s e
  go_enter Try.func76, Try.ntmps76
  go_wp2
  go_ret
  refine ⟨?_, Below.refl _ _⟩
  first | rfl | (refine congrArg Ending.returned (congrArg (Value.int IntKind.i64) ?_); omega)
set_option maxHeartbeats 400000 in
set_option maxRecDepth 100000 in
theorem len64_7 (x : Int) (h0 : 72057594037927936 ≤ x) (h1 : x < 18446744073709551616) (w : World) : Calls Try.prog 76 #[.int .u64 x] w (Ret (.int .i64 (Lib.bitLen x.toNat)) w) := by
  have y0 : 0 ≤ x / 4294967296 / 65536 / 256 := by omega
  have y1 : x / 4294967296 / 65536 / 256 ≤ 255 := by omega
  have hl := Lib.len8_of (x / 4294967296 / 65536 / 256) (by omega) (by omega)
  have l := Lib.bitLen_le8' (x / 4294967296 / 65536 / 256) (by omega) (by omega)
  have s := Lib.bitLen_shift56 x.toNat (by omega) (by omega)
  have e : (x / 4294967296 / 65536 / 256).toNat = x.toNat / 72057594037927936 := by omega
  rw [e] at hl l
  have hr : Lib.bitLen x.toNat ≤ 64 := by omega
  have fin : (Lib.bitLen x.toNat : Int) = 56 + Lib.len8 (x / 4294967296 / 65536 / 256) := by omega
  have b0 : 0 ≤ Lib.len8 (x / 4294967296 / 65536 / 256) := by omega
  have b1 : Lib.len8 (x / 4294967296 / 65536 / 256) ≤ 8 := by omega
  rw [fin]
  clear fin hl l hr s e
  go_enter Try.func76, Try.ntmps76
  go_wp2
  go_ret
  refine ⟨?_, Below.refl _ _⟩
  first | rfl | (refine congrArg Ending.returned (congrArg (Value.int IntKind.i64) ?_); omega)
theorem len64 (x : Int) (h0 : 0 ≤ x) (h1 : x ≤ 18446744073709551615) (w : World) : Calls Try.prog 76 #[.int .u64 x] w (Ret (.int .i64 (Lib.bitLen x.toNat)) w) := by
  by_cases c0 : x < 256
  · exact len64_0 x (by omega) c0 w
  by_cases c1 : x < 65536
  · exact len64_1 x (by omega) c1 w
  by_cases c2 : x < 16777216
  · exact len64_2 x (by omega) c2 w
  by_cases c3 : x < 4294967296
  · exact len64_3 x (by omega) c3 w
  by_cases c4 : x < 1099511627776
  · exact len64_4 x (by omega) c4 w
  by_cases c5 : x < 281474976710656
  · exact len64_5 x (by omega) c5 w
  by_cases c6 : x < 72057594037927936
  · exact len64_6 x (by omega) c6 w
  exact len64_7 x (by omega) (by omega) w
end Go.Proofs.Ytglbnbdeoenilaa
