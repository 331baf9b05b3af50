/- The beginning of a slice of the walk's own is again one. -/
import Derived.Test.YtglbnbdeoenilaaDgs
import Derived.Test.YtglbnbdeoenilaaUpd
namespace Go.Proofs.Ytglbnbdeoenilaa
open Go.RowKit
set_option linter.unusedVariables false
set_option maxRecDepth 100000
set_option linter.unusedSimpArgs false
instance {p : Nat × (Array Value × TypeId)} {oa r : Blks} : Seg (p :: (oa ++ r)) (p :: oa) (fun o => o ++ r) := ⟨[], r, rfl, fun _ => rfl⟩
theorem OwnL.cut {e k : Nat} {n hi cap : Nat} {p : Option Addr} {xs : List Value} {oa : Blks} (h : OwnL e k (.slice p n cap) n xs oa) (h2 : hi ≤ n) : OwnL e k (sliced p 0 hi cap k) hi (xs.take (hi * k)) oa := by
  have hl := h.len
  refine ⟨?_, ?_⟩
  · rw [List.length_take, hl, Nat.min_eq_left (Nat.mul_le_mul_right _ h2)]
  · rcases h.out with ⟨hv, h0, ho⟩ | ⟨g, c, cur, hv, hnc, hcm, hcs, htake, ho⟩
    · injection hv with e1 e2 e3
      subst e1; subst e2; subst e3
      obtain rfl : hi = 0 := by omega
      exact .inl ⟨by simp [sliced], rfl, ho⟩
    · injection hv with e1 e2 e3
      subst e1; subst e3
      refine .inr ⟨g, cap, cur, ?_, by omega, hcm, hcs, ?_, ho⟩
      · unfold sliced
        by_cases hc : cap = 0
        · simp [hc]
        · simp [hc, Addr.add_mid]
      · rw [← htake, List.take_take, Nat.min_eq_left (Nat.mul_le_mul_right _ h2)]
section
variable {X : Cx} {s : Slots} {l : Blks} {o : Oper} {v : Value} {Q : Post} {ops : Array Oper} {r : List Oper}
theorem cut_ex {t e k n hi : Nat} {x : Operand} {ol oh : Option Operand} {xs : List Value} {oa : Blks} (ho : o.op = .slice t x ol oh none) (hx : val s x = some v)
    (ht : UT X.P t (.slice e)) (hs : SZ X.P e k) {la ha : Int} (hv : OwnL e k v n xs oa) (hl : loV s ol = some la) (hh : hiV s n oh = some ha) (hnl : la = 0) (hnh : ha = (hi : Int))
    (h2 : hi ≤ n) : ∃ v', RdV X s [] o v' ∧ OwnL e k v' hi (xs.take (hi * k)) oa := by
  subst hnl
  rw [hnh] at hh
  obtain ⟨p, cap, rfl, h3, h4, h5⟩ := hv.ln.out
  refine ⟨sliced p 0 hi cap k, fun ac w he hm => ?_, hv.cut h2⟩
  have hr := run_sub (P := X.P) (w := w) he (p := p) (lo := 0) ht.out hs hl hh (Nat.zero_le _) h2 h3
  simp only [execOp, ho, he.eval hx, Sem.run_bind, Option.map_none]
  rw [show (Instr.sliceAt t (Value.slice p n cap) (Option.map ac.eval ol) (Option.map ac.eval oh) none).run X.P w = _ from hr]
  simp
end
section
variable {X : Cx} {G : Hg} {s : Slots} {b : Blks} {v : Value} {Q : Post} {l : List Nat} {fuel : Nat}
end
end Go.Proofs.Ytglbnbdeoenilaa
