/- Marks by a key, in plain terms. -/
import Derived.Test.YtdhoboilpngnaaaDoorShaLaw
namespace Go.Proofs.YtdhoboilpngnaaaDoor
/-- A key of 64 bytes. -/
def keyL (key : List Nat) : List Nat := (if key.length > 64 then dig key else key) ++ List.replicate (64 - (if key.length > 64 then dig key else key).length) 0
def xorL (k : List Nat) (c : Nat) : List Nat := k.map fun b => Nat.xor b c
structure MS where
  inner : HS
  outer : HS
def newM (key : List Nat) : MS := ⟨newH.write (xorL (keyL key) 54), newH.write (xorL (keyL key) 92)⟩
def MS.write (s : MS) (p : List Nat) : MS := ⟨s.inner.write p, s.outer⟩
def MS.sum (s : MS) : List Nat := (s.outer.write s.inner.sum).sum
/-- The mark. -/
def mark (key p : List Nat) : List Nat := ((newM key).write p).sum
theorem keyL_len (key : List Nat) : (keyL key).length = 64 := by
  unfold keyL
  have := dig_len key
  split <;> simp <;> omega
theorem keyL_byte (key : List Nat) (h : ∀ x ∈ key, x < 256) : ∀ x ∈ keyL key, x < 256 := fun x hx => by
  unfold keyL at hx
  rcases List.mem_append.1 hx with hx | hx
  · split at hx
    · rw [dig, HS.sum] at hx
      exact sumB_byte _ x hx
    · exact h x hx
  · rw [(List.mem_replicate.1 hx).2]; decide
theorem xorL_len (k : List Nat) (c : Nat) : (xorL k c).length = k.length := by simp [xorL]
theorem xorL_byte (k : List Nat) {c : Nat} (hc : c < 256) (h : ∀ x ∈ k, x < 256) : ∀ x ∈ xorL k c, x < 256 := fun x hx => by
  obtain ⟨b, hb, rfl⟩ := List.mem_map.1 hx
  exact Nat.xor_lt_two_pow (n := 8) (h b hb) hc
theorem MS.write_app (s : MS) (p q : List Nat) : s.write (p ++ q) = (s.write p).write q := by simp [MS.write, HS.write_app]
/-- Noughts behind a short key are nothing. -/
theorem keyL_pad (key : List Nat) (n : Nat) (h : key.length + n ≤ 64) : keyL (key ++ List.replicate n 0) = keyL key := by
  unfold keyL
  rw [if_neg (by rw [List.length_append, List.length_replicate]; omega), if_neg (by omega), List.length_append, List.length_replicate, List.append_assoc, List.replicate_append_replicate]
  congr 2
  omega
/-- A long key is its digest. -/
theorem keyL_long (key : List Nat) (h : key.length > 64) : keyL (dig key) = keyL key := by
  have := dig_len key
  unfold keyL
  rw [if_neg (by omega), if_pos h]
end Go.Proofs.YtdhoboilpngnaaaDoor
