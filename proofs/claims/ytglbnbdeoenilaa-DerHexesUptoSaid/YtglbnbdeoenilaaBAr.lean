/- Bytes as strings. -/
import Derived.Test.YtglbnbdeoenilaaLwH
namespace Go.Proofs.Ytglbnbdeoenilaa
open Go.RowKit
set_option linter.unusedVariables false
set_option linter.unusedSimpArgs false
def bAr (p : List Nat) : ByteArray := ⟨(p.map fun k => k.toUInt8).toArray⟩
theorem bAr_size (p : List Nat) : (bAr p).size = p.length := by simp [bAr, ByteArray.size]
theorem bAr_get {p : List Nat} {i : Nat} (h : i < p.length) : (bAr p)[i]! = (p.getD i 0).toUInt8 := by
  have hi : i < (bAr p).size := by rw [bAr_size]; exact h
  rw [getElem!_pos (bAr p) i hi]
  show (p.map fun k => k.toUInt8).toArray[i]'(by simpa using h) = _
  simp [List.getD, h]
/-- A string. -/
abbrev str (p : List Nat) : Value := .string (bAr p)
theorem str_of (s : ByteArray) : ∃ p : List Nat, s = bAr p ∧ ∀ x ∈ p, x < 256 := by
  refine ⟨s.data.toList.map UInt8.toNat, ?_, fun x hx => ?_⟩
  · apply ByteArray.ext
    simp [bAr, Function.comp_def]
  · obtain ⟨y, _, rfl⟩ := List.mem_map.1 hx
    exact y.toNat_lt
theorem bAr_inj {p q : List Nat} (hp : ∀ x ∈ p, x < 256) (hq : ∀ x ∈ q, x < 256) (h : bAr p = bAr q) : p = q := by
  have h1 := congrArg (fun b => b.data.toList.map UInt8.toNat) h
  simp only [bAr, List.map_map] at h1
  have e : ∀ l : List Nat, (∀ x ∈ l, x < 256) → l.map (UInt8.toNat ∘ fun k => k.toUInt8) = l := fun l hl => by
    conv => rhs; rw [← List.map_id l]
    refine List.map_congr_left fun x hx => ?_
    have := hl x hx
    simp [Nat.toUInt8, UInt8.toNat_ofNat']
    omega
  rw [e p hp, e q hq] at h1
  exact h1
theorem bAr_list (p : List Nat) : (bAr p).toList = p.map fun k => k.toUInt8 := by
  rw [ByteArray.toList_eq]; rfl
theorem str_beq {p q : List Nat} (hp : ∀ x ∈ p, x < 256) (hq : ∀ x ∈ q, x < 256) : ((bAr p).toList == (bAr q).toList) = (p == q) := by
  rw [Bool.eq_iff_iff, beq_iff_eq, beq_iff_eq]
  constructor
  · intro h
    refine bAr_inj hp hq ?_
    rw [ByteArray.toList_eq, ByteArray.toList_eq] at h
    apply ByteArray.ext
    exact Array.ext' h
  · intro h; rw [h]
section
variable {X : Cx} {s : Slots} {l : Blks} {o : Oper}
theorem rd_lenT {c : Call} {x : Operand} {p : List Nat} {n t : Nat} (ho : o.op = .call c) (hc : c.callee = .builtin .len) (ha : c.args = #[x]) (ht : c.argTypes = #[t]) (hx : val s x = some (str p)) [hu : UT X.P t .string]
    (hn : p.length = n := by first | (with_reducible assumption) | rfl) : RdV X s l o (.int .i64 (n : Int)) := rd_val fun a w he hm => by
  have hr : (Builtin.len_ #[t] o.type #[str p]).run X.P w = .ok (goInt (bAr p).size) w := run_len_string w t o.type (bAr p) hu.out
  have e : (goInt (bAr p).size : Value) = .int .i64 (n : Int) := by rw [bAr_size, hn]; rfl
  rw [e] at hr
  simp only [execOp, ho, hc, ha, ht, resolve, invoke, builtin, Sem.run_bind, Sem.run_pure, Result.andThen_ok, List.map_toArray, List.map_cons, List.map_nil, he.eval hx, hr]
/-- One byte of a string. -/
theorem rd_ixT {x ix : Operand} {t c : Nat} {p : List Nat} {ki : IntKind} {i : Int} {b : ByteArray} (ho : o.op = .index t x ix) (hx : val s x = some (.string b)) (hi : val s ix = some (.int ki i)) [hu : UT X.P t .string]
    (hb : b = bAr p := by first | (with_reducible assumption) | exact rfl) (h0 : 0 ≤ i := by first | (with_reducible assumption) | omega) (hc : p[i.toNat]? = some c := by first | (with_reducible assumption)) (h8 : c < 256 := by first | (with_reducible assumption) | omega) : RdV X s l o (.int .u8 (c : Int)) := rd_val fun a w he hm => by
  subst hb
  have hlt := (List.getElem?_eq_some_iff.1 hc).1
  have hsz := bAr_size p
  have hg := bAr_get hlt
  have hd : p.getD i.toNat 0 = c := by simp [List.getD, hc]
  rw [hd] at hg
  have hr := run_index_string (P := X.P) w t (bAr p) ki i hu.out
  rw [dif_pos ⟨h0, by omega⟩] at hr
  have e : ((bAr p)[i.toNat]'(by omega)).toNat = c := by
    rw [getElem!_pos (bAr p) i.toNat (by omega)] at hg
    rw [hg]
    simp [Nat.toUInt8, UInt8.toNat_ofNat']
    omega
  rw [e] at hr
  simp only [execOp, ho, he.eval hx, he.eval hi, Sem.run_bind, hr, Result.andThen_ok, Sem.run_pure]
/-- Two strings alike? -/
theorem rd_eqT {t yt : Nat} {x y : Operand} {p q : List Nat} {r : Bool} (ho : o.op = .binOp .eql t x y yt) (hx : val s x = some (str p)) (hy : val s y = some (str q)) (hr : ((bAr p).toList == (bAr q).toList) = r := by with_reducible assumption) : RdV X s l o (.bool r) := rd_val fun a w he hm => by
  simp only [execOp, ho, he.eval hx, he.eval hy, eqGuard]
  have := binOp_string_eql t (bAr p) (bAr q)
  rw [hr] at this
  simp [this]
end
end Go.Proofs.Ytglbnbdeoenilaa
