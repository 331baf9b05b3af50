/- NEWTON: an inverse modulo 2^64 in five rounds. Plain laws. -/
namespace Go.Proofs.Ytnjjnlhaibpfnaa
set_option linter.unusedVariables false
def QQ : Nat := 18446744073709551616
def nxA (m0 x : Nat) : Nat := m0 * x % QQ
def nxB (m0 x : Nat) : Nat := (2 + QQ - nxA m0 x) % QQ
def nx (m0 x : Nat) : Nat := x * nxB m0 x % QQ
def nwt (m0 : Nat) : Nat → Nat
  | 0 => m0
  | j + 1 => nx m0 (nwt m0 j)
/-- -1/m modulo 2^64. -/
def ni (m0 : Nat) : Nat := (QQ - nwt m0 5) % QQ
theorem QQ_pos : 0 < QQ := by decide
theorem nx_lt (m0 x : Nat) : nx m0 x < QQ := Nat.mod_lt _ QQ_pos
theorem nwt_lt {m0 : Nat} (h : m0 < QQ) : ∀ j, nwt m0 j < QQ
  | 0 => h
  | j + 1 => nx_lt _ _
theorem nx_int (m0 x : Nat) : ∃ k : Int, (nx m0 x : Int) = x * (2 - m0 * x) + (QQ : Int) * k := by
  have h1 := Nat.div_add_mod (m0 * x) QQ
  have ha : m0 * x % QQ < QQ := Nat.mod_lt _ QQ_pos
  have h2 := Nat.div_add_mod (2 + QQ - nxA m0 x) QQ
  have h3 := Nat.div_add_mod (x * nxB m0 x) QQ
  have e1 : ((nxA m0 x : Nat) : Int) = m0 * x - (QQ : Int) * ((m0 * x / QQ : Nat) : Int) := by
    unfold nxA
    have : ((m0 * x : Nat) : Int) = QQ * ((m0 * x / QQ : Nat) : Int) + ((m0 * x % QQ : Nat) : Int) := by exact_mod_cast h1.symm
    rw [Int.natCast_mul] at this
    omega
  have e2 : ((nxB m0 x : Nat) : Int) = 2 + QQ - ((nxA m0 x : Nat) : Int) - (QQ : Int) * (((2 + QQ - nxA m0 x) / QQ : Nat) : Int) := by
    have hle : nxA m0 x ≤ 2 + QQ := by unfold nxA; omega
    have : ((2 + QQ - nxA m0 x : Nat) : Int) = QQ * (((2 + QQ - nxA m0 x) / QQ : Nat) : Int) + (((2 + QQ - nxA m0 x) % QQ : Nat) : Int) := by exact_mod_cast h2.symm
    rw [Int.natCast_sub hle] at this
    unfold nxB
    omega
  have e3 : ((nx m0 x : Nat) : Int) = x * ((nxB m0 x : Nat) : Int) - (QQ : Int) * ((x * nxB m0 x / QQ : Nat) : Int) := by
    have : ((x * nxB m0 x : Nat) : Int) = QQ * ((x * nxB m0 x / QQ : Nat) : Int) + ((x * nxB m0 x % QQ : Nat) : Int) := by exact_mod_cast h3.symm
    rw [Int.natCast_mul] at this
    unfold nx
    omega
  generalize ((m0 * x / QQ : Nat) : Int) = u at *
  generalize (((2 + QQ - nxA m0 x) / QQ : Nat) : Int) = v at *
  generalize ((x * nxB m0 x / QQ : Nat) : Int) = y at *
  generalize (QQ : Int) = q at *
  refine ⟨x * (1 + u - v) - y, ?_⟩
  rw [e3, e2, e1]
  grind
theorem nx_step {m0 x D D' : Nat} (hD : D' ∣ D * D) (hQ : D' ∣ QQ) (h : (D : Int) ∣ 1 - (m0 : Int) * x) : (D' : Int) ∣ 1 - (m0 : Int) * (nx m0 x : Nat) := by
  obtain ⟨k, hk⟩ := nx_int m0 x
  obtain ⟨e, he⟩ := h
  have h1 : (D' : Int) ∣ (D : Int) * D := by exact_mod_cast hD
  have h2 : (D' : Int) ∣ (QQ : Int) := by exact_mod_cast hQ
  have e1 : 1 - (m0 : Int) * (nx m0 x : Nat) = (D : Int) * D * (e * e) - (QQ : Int) * (m0 * k) := by
    rw [hk]
    have : 1 - (m0 : Int) * (x * (2 - m0 * x) + QQ * k) = (1 - m0 * x) * (1 - m0 * x) - QQ * (m0 * k) := by grind
    rw [this, he]
    grind
  rw [e1]
  exact Int.dvd_sub (Int.dvd_trans h1 (Int.dvd_mul_right _ _)) (Int.dvd_trans h2 (Int.dvd_mul_right _ _))
theorem nwt_base {m0 : Nat} (h : m0 % 2 = 1) : ((8 : Nat) : Int) ∣ 1 - (m0 : Int) * m0 := by
  have e : m0 * m0 % 8 = 1 := by
    rw [Nat.mul_mod]
    have : m0 % 8 = 1 ∨ m0 % 8 = 3 ∨ m0 % 8 = 5 ∨ m0 % 8 = 7 := by omega
    rcases this with h | h | h | h <;> rw [h]
  have : ((m0 * m0 : Nat) : Int) = (m0 : Int) * m0 := Int.natCast_mul _ _
  rw [← this]
  generalize m0 * m0 = y at *
  omega
theorem nwt_inv {m0 : Nat} (h : m0 % 2 = 1) : m0 * nwt m0 5 % QQ = 1 := by
  have h0 := nwt_base h
  have h1 := nx_step (D' := 64) (by decide) (by decide) h0
  have h2 := nx_step (D' := 4096) (by decide) (by decide) h1
  have h3 := nx_step (D' := 16777216) (by decide) (by decide) h2
  have h4 := nx_step (D' := 281474976710656) (by decide) (by decide) h3
  have h5 := nx_step (D' := QQ) (by decide +kernel) (by decide +kernel) h4
  have h5 : (QQ : Int) ∣ 1 - (m0 : Int) * (nwt m0 5 : Nat) := h5
  have : ((m0 * nwt m0 5 : Nat) : Int) = (m0 : Int) * (nwt m0 5 : Nat) := Int.natCast_mul _ _
  rw [← this] at h5
  generalize m0 * nwt m0 5 = y at *
  unfold QQ at *
  omega
theorem ni_lt (m0 : Nat) : ni m0 < QQ := Nat.mod_lt _ QQ_pos
theorem ni_spec {m0 : Nat} (h : m0 % 2 = 1) (hl : m0 < QQ) : (m0 * ni m0 + 1) % QQ = 0 := by
  have h1 := nwt_inv h
  have h2 := nwt_lt hl 5
  have h3 : nwt m0 5 ≠ 0 := fun h0 => by rw [h0, Nat.mul_zero, Nat.zero_mod] at h1; cases h1
  have e : ni m0 = QQ - nwt m0 5 := Nat.mod_eq_of_lt (by omega)
  rw [e, Nat.mul_sub]
  have hle : m0 * nwt m0 5 ≤ m0 * QQ := Nat.mul_le_mul_left _ (by omega)
  have hd := Nat.div_add_mod (m0 * nwt m0 5) QQ
  rw [h1] at hd
  have e2 : m0 * QQ - m0 * nwt m0 5 + 1 = QQ * (m0 - m0 * nwt m0 5 / QQ) := by
    rw [Nat.mul_sub, Nat.mul_comm QQ m0]
    omega
  rw [e2, Nat.mul_mod_right]
end Go.Proofs.Ytnjjnlhaibpfnaa
