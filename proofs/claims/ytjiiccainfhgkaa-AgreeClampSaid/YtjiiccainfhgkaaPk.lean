/- Pack and Unpack joined to their laws. -/
import Derived.Test.YtjiiccainfhgkaaUnpack
import Derived.Test.YtjiiccainfhgkaaLawAll
import Derived.Test.YtjiiccainfhgkaaBvAll
import Derived.Test.YtjiiccainfhgkaaPt
namespace Go.Proofs.Ytjiiccainfhgkaa
open Go.RowKit
set_option linter.unusedVariables false
theorem unpack_yes {k : Nat} (hk : k < T256) (h : upOk k) (w : World) : Calls Try.prog 45 [bv k].toArray w (Ret (.tuple #[pv (upPt k), .int .i64 0]) w) := by
  have := unpack_c k hk w
  unfold upOk at h
  rwa [if_pos h, if_pos h] at this
theorem unpack_no {k : Nat} (hk : k < T256) (h : ¬ upOk k) (w : World) : Calls Try.prog 45 [bv k].toArray w (Ret (.tuple #[pv ⟨0, 0⟩, .int .i64 4]) w) := by
  have := unpack_c k hk w
  unfold upOk at h
  rwa [if_neg h, if_neg h] at this
theorem pack_on {p : Pt} (h : p.on) (w : World) : Calls Try.prog 46 [pv p].toArray w (Ret (.tuple #[bv p.pack, .int .i64 0]) w) := pack_yes h.red.lt h (Nat.lt_trans h.red.2 PP_255) w
theorem pack_lt {p : Pt} (h : p.red) : p.pack < T256 := by
  have h1 : p.y < 2 ^ 255 := Nat.lt_trans h.2 PP_255
  unfold Pt.pack
  rw [T256_eq, show (2 : Nat) ^ 256 = 2 ^ 255 * 2 from rfl]
  rcases Nat.mod_two_eq_zero_or_one p.x with h2 | h2 <;> rw [h2] <;> omega
theorem pack_inj {p q : Pt} (hp : p.on) (hq : q.on) (h : p.pack = q.pack) : p = q := by
  have a := (unpack_pack hp).2
  have b := (unpack_pack hq).2
  rw [h] at a
  exact a.symm.trans b
end Go.Proofs.Ytjiiccainfhgkaa
