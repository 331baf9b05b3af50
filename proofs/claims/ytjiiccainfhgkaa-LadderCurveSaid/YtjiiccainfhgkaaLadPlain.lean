/- The ladder on pairs of numbers: definitions. A pair is told as a Pt. -/
import Derived.Test.YtjiiccainfhgkaaCurvePlain
namespace Go.Proofs.Ytjiiccainfhgkaa
def Pt.twice (p : Pt) : Pt :=
  let s := fmul (fadd p.x p.y) (fadd p.x p.y)
  let t := fmul (fsub p.x p.y) (fsub p.x p.y)
  let e := fsub s t
  ⟨fmul s t, fmul e (fadd s (fmul 121665 e))⟩
def Pt.joined (p q : Pt) (u : Nat) : Pt :=
  let a := fmul (fadd q.x q.y) (fsub p.x p.y)
  let b := fmul (fsub q.x q.y) (fadd p.x p.y)
  ⟨fmul (fadd a b) (fadd a b), fmul u (fmul (fsub a b) (fsub a b))⟩
def lstep (u b : Nat) (s : Pt × Pt) : Pt × Pt := if b = 1 then (s.2.joined s.1 u, s.2.twice) else (s.1.twice, s.1.joined s.2 u)
def LS (k u : Nat) : Nat → Pt × Pt
  | 0 => (⟨1, 0⟩, ⟨u, 1⟩)
  | d + 1 => lstep u (k / 2 ^ (255 - d) % 2) (LS k u d)
def lad (k u : Nat) : Nat := fmul (LS k u 256).1.x (finv (LS k u 256).1.y)
def place (p : Pt) : Nat := fmul (fadd 1 p.y) (finv (fsub 1 p.y))
theorem Pt.twice_lt (p : Pt) : p.twice.lt := ⟨fmul_lt _ _, fmul_lt _ _⟩
theorem Pt.joined_lt (p q : Pt) (u : Nat) : (p.joined q u).lt := ⟨fmul_lt _ _, fmul_lt _ _⟩
theorem LS_lt (k : Nat) {u : Nat} (hu : u < T256) : ∀ d, (LS k u d).1.lt ∧ (LS k u d).2.lt
  | 0 => ⟨⟨by show 1 < T256; decide, by show 0 < T256; decide⟩, ⟨hu, by show 1 < T256; decide⟩⟩
  | d + 1 => by
    show (lstep _ _ _).1.lt ∧ (lstep _ _ _).2.lt
    unfold lstep
    split
    · exact ⟨Pt.joined_lt _ _ _, Pt.twice_lt _⟩
    · exact ⟨Pt.twice_lt _, Pt.joined_lt _ _ _⟩
theorem lad_lt (k u : Nat) : lad k u < T256 := fmul_lt _ _
theorem place_lt (p : Pt) : place p < T256 := fmul_lt _ _
end Go.Proofs.Ytjiiccainfhgkaa
