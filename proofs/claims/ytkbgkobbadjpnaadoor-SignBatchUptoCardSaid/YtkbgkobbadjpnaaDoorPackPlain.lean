/- Packs of points: definitions. -/
import Derived.Test.YtkbgkobbadjpnaaDoorPlainA
namespace Go.Proofs.YtkbgkobbadjpnaaDoor
def Pt.pack (p : Pt) : Nat := p.y + 2 ^ 255 * (p.x % 2)
/-- What a pack tells: Y, the oddness of X; the square that X would have. -/
def upY (k : Nat) : Nat := k % 2 ^ 255
def upO (k : Nat) : Nat := k / 2 ^ 255
def upV (k : Nat) : Nat := fmul (fsub (fmul (upY k) (upY k)) 1) (finv (fadd (fmul DD (fmul (upY k) (upY k))) 1))
def upOk (k : Nat) : Prop := isSq (upV k) = true ∧ upY k = flow (upY k) ∧ ¬ (upO k = 1 ∧ froot (upV k) = 0)
def upPt (k : Nat) : Pt := ⟨if upO k = 1 then fsub 0 (froot (upV k)) else froot (upV k), upY k⟩
end Go.Proofs.YtkbgkobbadjpnaaDoor
