/- The walk of LimbBack: what was added and is taken off again is as if nothing had been. -/
import Derived.Test.YtodhoeijbcclgaaAddSub
import Derived.Test.YtodhoeijbcclgaaEqNum
namespace Go.Proofs.Ytodhoeijbcclgaa.LimbBackWalk
open Go.RowKit
set_option maxHeartbeats 1000000 in
theorem walk (a : Nat) (ha : a < T256) (b : Nat) (hb : b < T256) (w : World) :
    Calls Try.prog 3 #[num a, num b] w (Ret (.bool true) w) := by
  go_enter Try.func3, Try.ntmps3
  go_wp2_with fail
  refine (add_ex a b ha hb _).mono ?_
  rintro e w1 ⟨s, c, h1, hs, hc, rfl, b1⟩
  obtain ⟨g1, z1, k1⟩ := carry (w := w) (by go_grown) b1
  have hA := k1 (ho nw)
  have hB := k1 nw1
  obtain ⟨cA, fA, lA⟩ := rules hA
  obtain ⟨cB, fB, lB⟩ := rules hB
  clear b1 k1 z1
  go_wp2_with fail
  refine (sub_ex s b hs hb _).mono ?_
  rintro e w2 ⟨d, t, h2, hd, ht, rfl, b2⟩
  obtain ⟨rfl, rfl⟩ := add_sub_back ha hb h1 h2
  obtain ⟨g2, z2, k2⟩ := carry (w := w) (by go_grown) b2
  clear cA fA lA cB fB lB
  have hA := k2 (ho hA)
  have hB := k2 (ho hB)
  obtain ⟨cA, fA, lA⟩ := rules hA
  obtain ⟨cB, fB, lB⟩ := rules hB
  clear b2 k2 z2 h1 h2
  go_wp2_with fail
  refine (sub_ex _ b ha hb _).mono ?_
  rintro e w3 ⟨e, u, h1, he, hu, rfl, b3⟩
  obtain ⟨g3, z3, k3⟩ := carry (w := w) (by go_grown) b3
  clear cA fA lA cB fB lB
  have hA := k3 (ho hA)
  have hB := k3 (ho hB)
  have hC := k3 nw
  obtain ⟨cA, fA, lA⟩ := rules hA
  obtain ⟨cB, fB, lB⟩ := rules hB
  obtain ⟨cC, fC, lC⟩ := rules hC
  clear b3 k3 z3
  go_wp2_with fail
  refine (add_ex _ b he hb _).mono ?_
  rintro e w4 ⟨f, v, h2, hf, hv, rfl, b4⟩
  obtain ⟨rfl, rfl⟩ := sub_add_back ha hb h1 h2
  obtain ⟨g4, z4, k4⟩ := carry (w := w) (by go_grown) b4
  clear cA fA lA cB fB lB cC fC lC h1 h2
  have hA := k4 (ho hA)
  have hC := k4 (ho hC)
  obtain ⟨cA, fA, lA⟩ := rules hA
  obtain ⟨cC, fC, lC⟩ := rules hC
  clear b4 k4 z4
  have q := eql_num f f ha ha
  simp only [decide_true] at q
  have hv' : (v : Int) ≤ 1 := by omega
  have ht' : (t : Int) ≤ 1 := by omega
  go_wp2_with fail
  go_returns
  refine ⟨rfl, ?_⟩
  go_grown
end Go.Proofs.Ytodhoeijbcclgaa.LimbBackWalk
