/- What hash.Pad answers, in plain terms. -/
namespace Go.Proofs.YtkbgkobbadjpnaaDoor
/-- How many noughts. -/
def padK (n : Nat) : Nat := (119 - n % 64) % 64
def padTail (n : Nat) : List Nat := (List.range 8).map fun i => 8 * n % 18446744073709551616 / 2 ^ (56 - 8 * i) % 256
def padL (n : Nat) : List Nat := 128 :: (List.replicate (padK n) 0 ++ padTail n)
theorem padL_len (n : Nat) : (padL n).length = padK n + 9 := by simp [padL, padTail]
theorem padK_lt (n : Nat) : padK n < 64 := Nat.mod_lt _ (by decide)
end Go.Proofs.YtkbgkobbadjpnaaDoor
