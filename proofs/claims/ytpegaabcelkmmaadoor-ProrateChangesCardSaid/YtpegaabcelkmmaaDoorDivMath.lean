/- Plain facts about the division of a number of two words by one (whole numbers alone, no program in sight). No conditions. -/
namespace Dv

/-- The guess of a quotient's digit: what holds of it at each round. P, Z: the divisor's halves; A: what is divided, u: its next digit. -/
def Inv (P Z A u q r : Int) : Prop := q * P + r = A ∧ (A * 4294967296 + u) / (P * 4294967296 + Z) ≤ q ∧ 0 ≤ r ∧ r ≤ 4294967295 ∧ 0 ≤ q ∧ q ≤ 4294967297
/-- What the guess must meet. -/
structure Ok (P Z A u : Int) : Prop where
  p1 : 2147483648 ≤ P
  p2 : P ≤ 4294967295
  z1 : 0 ≤ Z
  z2 : Z ≤ 4294967295
  a1 : 0 ≤ A
  a2 : A < P * 4294967296 + Z
  u1 : 0 ≤ u
  u2 : u ≤ 4294967295
theorem dig_bd {P Z A u : Int} (h : Ok P Z A u) : 0 ≤ (A * 4294967296 + u) / (P * 4294967296 + Z) ∧ (A * 4294967296 + u) / (P * 4294967296 + Z) ≤ 4294967295 := by
  obtain ⟨p1, p2, z1, z2, a1, a2, u1, u2⟩ := h
  refine ⟨Int.ediv_nonneg (by omega) (by omega), ?_⟩
  have : (A * 4294967296 + u) / (P * 4294967296 + Z) < 4294967296 := Int.ediv_lt_of_lt_mul (by omega) (by omega)
  omega
theorem le_dig {P Z A u q : Int} (h : Ok P Z A u) (hq : q * (P * 4294967296 + Z) ≤ A * 4294967296 + u) : q ≤ (A * 4294967296 + u) / (P * 4294967296 + Z) :=
  Int.le_ediv_of_mul_le (by have := h.p1; have := h.z1; omega) hq
theorem dig_lt {P Z A u q : Int} (h : Ok P Z A u) (hq : A * 4294967296 + u < q * (P * 4294967296 + Z)) : (A * 4294967296 + u) / (P * 4294967296 + Z) < q :=
  Int.ediv_lt_of_lt_mul (by have := h.p1; have := h.z1; omega) hq
theorem start {P Z A u : Int} (h : Ok P Z A u) : Inv P Z A u (A / P) (A % P) := by
  obtain ⟨p1, p2, z1, z2, a1, a2, u1, u2⟩ := id h
  have e := Int.mul_ediv_add_emod A P
  have r0 := Int.emod_nonneg A (show P ≠ 0 by omega)
  have r1 := Int.emod_lt_of_pos A (show 0 < P by omega)
  have q0 := Int.ediv_nonneg a1 (show 0 ≤ P by omega)
  have c : A / P * P = P * (A / P) := Int.mul_comm _ _
  generalize A / P = q at *
  generalize A % P = r at *
  have qb : q ≤ 4294967297 := by
    by_cases g : q ≤ 4294967297
    · exact g
    · exfalso
      have : P * 4294967298 ≤ P * q := Int.mul_le_mul_of_nonneg_left (by omega) (by omega)
      omega
  refine ⟨by omega, ?_, r0, by omega, q0, qb⟩
  have : (A * 4294967296 + u) / (P * 4294967296 + Z) < q + 1 := by
    refine dig_lt h ?_
    have e1 : (q + 1) * (P * 4294967296 + Z) = (P * q + P) * 4294967296 + (q * Z + Z) := by
      rw [Int.add_mul, Int.mul_add, Int.one_mul, ← Int.mul_assoc, Int.mul_comm q P]; omega
    have : 0 ≤ q * Z := Int.mul_nonneg q0 z1
    omega
  omega
theorem mulZ {P Z A u q r : Int} (h : Ok P Z A u) (i : Inv P Z A u q r) (hq : q < 4294967296) : 0 ≤ q * Z ∧ q * Z ≤ 18446744065119617025 := by
  obtain ⟨_, _, _, _, q0, _⟩ := i
  have := h.z1
  have := h.z2
  refine ⟨Int.mul_nonneg q0 h.z1, ?_⟩
  have a : q * Z ≤ 4294967295 * Z := Int.mul_le_mul_of_nonneg_right (by omega) h.z1
  omega
/-- The guess was too great. -/
theorem down {P Z A u q r : Int} (h : Ok P Z A u) (i : Inv P Z A u q r) (c : 4294967296 ≤ q ∨ 4294967296 * r + u < q * Z) :
    1 ≤ q ∧ (A * 4294967296 + u) / (P * 4294967296 + Z) ≤ q - 1 ∧ (q - 1) * P + (r + P) = A ∧ q - 1 ≤ 4294967296 := by
  obtain ⟨i1, i2, i3, i4, i5, i6⟩ := i
  have hd := dig_bd h
  have hlt : (A * 4294967296 + u) / (P * 4294967296 + Z) < q := by
    rcases c with c | c
    · omega
    · refine dig_lt h ?_
      have e : q * (P * 4294967296 + Z) = q * P * 4294967296 + q * Z := by rw [Int.mul_add, Int.mul_assoc]
      omega
  refine ⟨by omega, by omega, by rw [Int.sub_mul]; omega, by omega⟩
theorem down_inv {P Z A u q r : Int} (h : Ok P Z A u) (i : Inv P Z A u q r) (c : 4294967296 ≤ q ∨ 4294967296 * r + u < q * Z) (g : r + P < 4294967296) : Inv P Z A u (q - 1) (r + P) := by
  obtain ⟨a, b, d, e⟩ := down h i c
  have := h.p1
  exact ⟨d, b, by have := i.2.2.1; omega, by omega, by omega, by omega⟩
theorem down_end {P Z A u q r : Int} (h : Ok P Z A u) (i : Inv P Z A u q r) (c : 4294967296 ≤ q ∨ 4294967296 * r + u < q * Z) (g : 4294967296 ≤ r + P) : q - 1 = (A * 4294967296 + u) / (P * 4294967296 + Z) := by
  obtain ⟨a, b, d, e⟩ := down h i c
  have := h.u1
  have z1 := h.z1
  have z2 := h.z2
  have : q - 1 ≤ (A * 4294967296 + u) / (P * 4294967296 + Z) := by
    refine le_dig h ?_
    have e1 : (q - 1) * (P * 4294967296 + Z) = (q - 1) * P * 4294967296 + (q - 1) * Z := by rw [Int.mul_add, Int.mul_assoc]
    have e2 : (q - 1) * Z ≤ 4294967296 * Z := Int.mul_le_mul_of_nonneg_right (by omega) z1
    omega
  omega
theorem stop {P Z A u q r : Int} (h : Ok P Z A u) (i : Inv P Z A u q r) (c : q * Z ≤ 4294967296 * r + u) : q = (A * 4294967296 + u) / (P * 4294967296 + Z) := by
  obtain ⟨i1, i2, i3, i4, i5, i6⟩ := i
  have : q ≤ (A * 4294967296 + u) / (P * 4294967296 + Z) := by
    refine le_dig h ?_
    have e1 : q * (P * 4294967296 + Z) = q * P * 4294967296 + q * Z := by rw [Int.mul_add, Int.mul_assoc]
    omega
  omega
/-- What is left is reckoned among numbers of 64 bits. -/
theorem rest {A u V q : Int} (hV : 0 < V) (hV2 : V ≤ 18446744073709551615) (hq : q = (A * 4294967296 + u) / V) :
    (((A * 4294967296) % 18446744073709551616 + u) % 18446744073709551616 - (q * V) % 18446744073709551616) % 18446744073709551616 = (A * 4294967296 + u) % V := by
  have e := Int.mul_ediv_add_emod (A * 4294967296 + u) V
  have r0 := Int.emod_nonneg (A * 4294967296 + u) (show V ≠ 0 by omega)
  have r1 := Int.emod_lt_of_pos (A * 4294967296 + u) hV
  rw [← hq] at e
  have c : q * V = V * q := Int.mul_comm _ _
  omega
/-- Both digits together: the quotient and the rest of the whole. -/
theorem both {A t V q1 q0 : Int} (hV : 0 < V) (hq1 : q1 = (A * 4294967296 + t / 4294967296) / V) (hq0 : q0 = ((A * 4294967296 + t / 4294967296) % V * 4294967296 + t % 4294967296) / V) :
    q1 * 4294967296 + q0 = (A * 18446744073709551616 + t) / V ∧ ((A * 4294967296 + t / 4294967296) % V * 4294967296 + t % 4294967296) % V = (A * 18446744073709551616 + t) % V := by
  have e1 := Int.mul_ediv_add_emod (A * 4294967296 + t / 4294967296) V
  have e0 := Int.mul_ediv_add_emod ((A * 4294967296 + t / 4294967296) % V * 4294967296 + t % 4294967296) V
  have r0 := Int.emod_nonneg ((A * 4294967296 + t / 4294967296) % V * 4294967296 + t % 4294967296) (show V ≠ 0 by omega)
  have r1 := Int.emod_lt_of_pos ((A * 4294967296 + t / 4294967296) % V * 4294967296 + t % 4294967296) hV
  rw [← hq1] at e1
  rw [← hq0] at e0
  generalize (A * 4294967296 + t / 4294967296) % V = R at *
  generalize (R * 4294967296 + t % 4294967296) % V = S at *
  have h := (Int.ediv_emod_unique (a := A * 18446744073709551616 + t) (b := V) (r := S) (q := q1 * 4294967296 + q0) hV).2 ⟨by
    rw [Int.mul_add, ← Int.mul_assoc]; omega, r0, r1⟩
  exact ⟨h.1.symm, h.2.symm⟩
/-- Both sides shifted: the quotient stays, the rest is shifted. -/
theorem shifted {N y S : Int} (hS : 0 < S) : (N * S) / (y * S) = N / y ∧ (N * S) % (y * S) = N % y * S := by
  refine ⟨Int.mul_ediv_mul_of_pos_left _ _ hS, ?_⟩
  rw [Int.mul_comm N S, Int.mul_comm y S, Int.mul_emod_mul_of_pos _ _ hS, Int.mul_comm]
end Dv
