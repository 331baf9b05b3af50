/- Points of the curve as pairs of numbers; what the program makes of them: definitions, no program in sight. -/
import Derived.Test.YtpcockfnljdilaaFpowPlain
namespace Go.Proofs.Ytpcockfnljdilaa
def DD : Nat := 37095705934669439343138083508754565189542113879843219016388785533085940283555
def BX : Nat := 15112221349535400772501151409588531511454012693041857206046113283949847762202
def BY : Nat := 46316835694926478169428394003475163141307993866256225615783033603165251855960
structure Qd where
  x : Nat
  y : Nat
  z : Nat
  t : Nat
structure Pt where
  x : Nat
  y : Nat
deriving DecidableEq
def Qd.lt (q : Qd) : Prop := q.x < T256 ∧ q.y < T256 ∧ q.z < T256 ∧ q.t < T256
def Pt.lt (p : Pt) : Prop := p.x < T256 ∧ p.y < T256
def Qd.plus (q r : Qd) : Qd :=
  let a := fmul (fsub q.y q.x) (fsub r.y r.x)
  let b := fmul (fadd q.y q.x) (fadd r.y r.x)
  let c0 := fmul (fmul q.t r.t) DD
  let c := fadd c0 c0
  let z0 := fmul q.z r.z
  let z := fadd z0 z0
  let e := fsub b a
  let f := fsub z c
  let g := fadd z c
  let h := fadd b a
  ⟨fmul e f, fmul g h, fmul f g, fmul e h⟩
def Pt.quad (p : Pt) : Qd := ⟨p.x, p.y, 1, fmul p.x p.y⟩
def Qd.point (q : Qd) : Pt := ⟨fmul q.x (finv q.z), fmul q.y (finv q.z)⟩
def Pt.zero : Pt := ⟨0, 1⟩
def Pt.base : Pt := ⟨BX, BY⟩
def Pt.eqn (p : Pt) : Prop := fsub (fmul p.y p.y) (fmul p.x p.x) = fadd 1 (fmul DD (fmul (fmul p.x p.x) (fmul p.y p.y)))
instance (p : Pt) : Decidable p.eqn := by unfold Pt.eqn; infer_instance
def Pt.on (p : Pt) : Prop := p.x = flow p.x ∧ p.y = flow p.y ∧ p.eqn
instance (p : Pt) : Decidable p.on := by unfold Pt.on; infer_instance
def Pt.neg (p : Pt) : Pt := ⟨fsub 0 p.x, p.y⟩
def Pt.add (p q : Pt) : Pt := (p.quad.plus q.quad).point
/-- As often as the bits from bit k on say. -/
def Qd.rep (q : Qd) (n : Nat) : Nat → Qd
  | 0 => Pt.zero.quad
  | k + 1 => let o := (q.rep n k).plus (q.rep n k); if n / 2 ^ (blen n - (k + 1)) % 2 = 1 then o.plus q else o
def Pt.times (n : Nat) (p : Pt) : Pt := (p.quad.rep n (blen n)).point
theorem Qd.plus_lt (q r : Qd) : (q.plus r).lt := ⟨fmul_lt _ _, fmul_lt _ _, fmul_lt _ _, fmul_lt _ _⟩
theorem Pt.quad_lt {p : Pt} (h : p.lt) : p.quad.lt := ⟨h.1, h.2, by show 1 < T256; decide, fmul_lt _ _⟩
theorem Qd.point_lt (q : Qd) : q.point.lt := ⟨fmul_lt _ _, fmul_lt _ _⟩
theorem Pt.zero_lt : Pt.zero.lt := ⟨by decide, by decide⟩
theorem Pt.base_lt : Pt.base.lt := ⟨by decide, by decide⟩
theorem Pt.add_lt (p q : Pt) : (p.add q).lt := Qd.point_lt _
theorem Pt.times_lt (n : Nat) (p : Pt) : (p.times n).lt := Qd.point_lt _
theorem Pt.neg_lt {p : Pt} (h : p.lt) : p.neg.lt := ⟨fsub_lt _ _, h.2⟩
theorem Qd.rep_lt {q : Qd} (n k : Nat) : (q.rep n k).lt := by
  cases k with
  | zero => exact Pt.quad_lt Pt.zero_lt
  | succ k => unfold Qd.rep; dsimp only; split <;> exact Qd.plus_lt _ _
theorem DD_lt : DD < T256 := by decide
end Go.Proofs.Ytpcockfnljdilaa
