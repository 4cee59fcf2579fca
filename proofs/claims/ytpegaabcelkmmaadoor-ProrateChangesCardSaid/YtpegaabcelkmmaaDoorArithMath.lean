/- Plain facts about integers as bits, and about sums, products and quotients that fit 64 bits (whole numbers alone, no program in sight). No conditions. -/
namespace Ar

theorem p2_pos (i : Nat) : (0 : Int) < 2 ^ i := Int.pow_pos (by decide)
theorem p2_succ (i : Nat) : (2 : Int) ^ (i + 1) = 2 * 2 ^ i := by rw [Int.pow_succ]; omega
/-- The bit of an integer at a place, two's complement. -/
def bit (i : Nat) (x : Int) : Int := (x / 2 ^ i) % 2
theorem bit_01 (i : Nat) (x : Int) : bit i x = 0 ∨ bit i x = 1 := by unfold bit; omega
theorem bit_bd (i : Nat) (x : Int) : 0 ≤ bit i x ∧ bit i x ≤ 1 := by unfold bit; omega
theorem div_succ (i : Nat) (x : Int) : x / 2 ^ (i + 1) = x / 2 ^ i / 2 := by
  rw [Int.pow_succ, Int.ediv_ediv_of_nonneg (Int.le_of_lt (p2_pos i))]
theorem mod_succ (i : Nat) (x : Int) : x % 2 ^ (i + 1) = 2 ^ i * bit i x + x % 2 ^ i := by
  have h1 := Int.mul_ediv_add_emod x (2 ^ i)
  have h2 := Int.mul_ediv_add_emod x (2 ^ (i + 1))
  have h3 := div_succ i x
  have h4 : x / 2 ^ i = 2 * (x / 2 ^ i / 2) + bit i x := by unfold bit; omega
  rw [h3] at h2
  rw [Int.pow_succ] at h2 ⊢
  generalize (2 : Int) ^ i = P at *
  generalize x / P / 2 = Q at *
  have h5 : P * (x / P) = P * (2 * Q) + P * bit i x := by rw [h4]; exact Int.mul_add _ _ _
  have h6 : P * (2 * Q) = P * 2 * Q := by rw [Int.mul_assoc]
  omega
/-- The carry into a place. -/
def car (i : Nat) (x y c : Int) : Int := (x % 2 ^ i + y % 2 ^ i + c) / 2 ^ i
theorem mod_bd (i : Nat) (x : Int) : 0 ≤ x % 2 ^ i ∧ x % 2 ^ i < 2 ^ i :=
  ⟨Int.emod_nonneg _ (Int.ne_of_gt (p2_pos i)), Int.emod_lt_of_pos _ (p2_pos i)⟩
theorem car_zero (x y c : Int) : car 0 x y c = c := by unfold car; simp [Int.emod_one]
theorem car_bd (i : Nat) (x y c : Int) (h0 : 0 ≤ c) (h1 : c ≤ 1) : 0 ≤ car i x y c ∧ car i x y c ≤ 1 := by
  have a := mod_bd i x
  have b := mod_bd i y
  have p := p2_pos i
  unfold car
  constructor
  · exact Int.ediv_nonneg (by omega) (by omega)
  · have : (x % 2 ^ i + y % 2 ^ i + c) / 2 ^ i < 2 := Int.ediv_lt_of_lt_mul p (by omega)
    omega
/-- The adder's step. -/
theorem car_succ (i : Nat) (x y c : Int) : car (i + 1) x y c = (bit i x + bit i y + car i x y c) / 2 := by
  unfold car
  rw [mod_succ, mod_succ, div_succ]
  have e : 2 ^ i * bit i x + x % 2 ^ i + (2 ^ i * bit i y + y % 2 ^ i) + c = (x % 2 ^ i + y % 2 ^ i + c) + 2 ^ i * (bit i x + bit i y) := by
    rw [Int.mul_add]; omega
  rw [e, Int.add_mul_ediv_left _ _ (Int.ne_of_gt (p2_pos i))]
  congr 1; omega
theorem bit_add (i : Nat) (x y c : Int) : bit i (x + y + c) = (bit i x + bit i y + car i x y c) % 2 := by
  have h1 := Int.mul_ediv_add_emod x (2 ^ i)
  have h2 := Int.mul_ediv_add_emod y (2 ^ i)
  have e : x + y + c = (x % 2 ^ i + y % 2 ^ i + c) + 2 ^ i * (x / 2 ^ i + y / 2 ^ i) := by rw [Int.mul_add]; omega
  unfold bit car
  rw [e, Int.add_mul_ediv_left _ _ (Int.ne_of_gt (p2_pos i))]
  omega
theorem bit_not (i : Nat) (x : Int) : bit i (-1 - x) = 1 - bit i x := by
  have h1 := Int.mul_ediv_add_emod x (2 ^ i)
  have b := mod_bd i x
  have e : -1 - x = (2 ^ i - 1 - x % 2 ^ i) + 2 ^ i * (-1 - x / 2 ^ i) := by
    rw [Int.mul_sub]; omega
  unfold bit
  rw [e, Int.add_mul_ediv_left _ _ (Int.ne_of_gt (p2_pos i)), Int.ediv_eq_zero_of_lt (by omega) (by omega)]
  omega
theorem bit_zero (i : Nat) : bit i 0 = 0 := by unfold bit; simp

/-- The integer's bits, the lowest first. -/
def B (x : Int) : List Int := (List.range 136).map fun i => bit i x
theorem B_len (x : Int) : (B x).length = 136 := by simp [B]
theorem B_at (x : Int) (i : Nat) (h : i < 136) : (B x).getD i 0 = bit i x := by
  unfold B; rw [List.getD_eq_getElem?_getD, List.getElem?_map, List.getElem?_range h]; rfl
theorem B_ext {l : List Int} {x : Int} (h : l.length = 136) (g : ∀ i, i < 136 → l.getD i 0 = bit i x) : l = B x := by
  apply List.ext_getElem
  · rw [h, B_len]
  · intro i h1 h2
    have a := g i (by omega)
    have b := B_at x i (by omega)
    rw [List.getD_eq_getElem?_getD, List.getElem?_eq_getElem h1] at a
    rw [List.getD_eq_getElem?_getD, List.getElem?_eq_getElem h2] at b
    simp at a b; rw [a, b]

/-- Does it fit 64 bits? -/
def fits (x : Int) : Bool := decide (-9223372036854775808 ≤ x) && decide (x ≤ 9223372036854775807)
theorem fits_t {x : Int} (h : fits x = true) : -9223372036854775808 ≤ x ∧ x ≤ 9223372036854775807 := by unfold fits at h; simpa using h
theorem fits_f {x : Int} (h : fits x = false) : x < -9223372036854775808 ∨ 9223372036854775807 < x := by unfold fits at h; simp at h; omega
theorem fits_mk {x : Int} (h1 : -9223372036854775808 ≤ x) (h2 : x ≤ 9223372036854775807) : fits x = true := by unfold fits; simp; omega
theorem fits_no {x : Int} (h : x < -9223372036854775808 ∨ 9223372036854775807 < x) : fits x = false := by unfold fits; simp; omega
def fitV (x : Int) : Int := if fits x = true then x else 0

/-- The top bit is the sign's. -/
theorem bit_top (x : Int) (h1 : -(2 ^ 135) ≤ x) (h2 : x < 2 ^ 135) : bit 135 x = if x < 0 then 1 else 0 := by
  unfold bit
  generalize hP : (2 : Int) ^ 135 = P at *
  have hp : 0 < P := by rw [← hP]; decide
  by_cases h : x < 0
  · rw [if_pos h]
    have e : x = (x + P) + P * (-1) := by omega
    rw [e, Int.add_mul_ediv_left _ _ (by omega), Int.ediv_eq_zero_of_lt (by omega) (by omega)]; decide
  · rw [if_neg h, Int.ediv_eq_zero_of_lt (by omega) (by omega)]; decide
/-- Bits from 63 on are alike just where the integer fits. -/
theorem bit_fit {x : Int} (h : fits x = true) (i : Nat) (hi : 63 ≤ i) : bit i x = bit 63 x := by
  obtain ⟨a, b⟩ := fits_t h
  have key : ∀ j : Nat, 63 ≤ j → bit j x = if x < 0 then 1 else 0 := by
    intro j hj
    have hp : (9223372036854775808 : Int) ≤ 2 ^ j := by
      have : (2 : Int) ^ 63 ≤ 2 ^ j := by
        obtain ⟨k, rfl⟩ : ∃ k, j = 63 + k := ⟨j - 63, by omega⟩
        rw [Int.pow_add]
        have := p2_pos k
        have h63 : (0 : Int) ≤ 2 ^ 63 := by decide
        calc (2 : Int) ^ 63 = 2 ^ 63 * 1 := by rw [Int.mul_one]
          _ ≤ 2 ^ 63 * 2 ^ k := Int.mul_le_mul_of_nonneg_left (by omega) h63
      exact Int.le_trans (by decide) this
    unfold bit
    generalize (2 : Int) ^ j = P at *
    by_cases h : x < 0
    · rw [if_pos h]
      have e : x = (x + P) + P * (-1) := by omega
      rw [e, Int.add_mul_ediv_left _ _ (by omega), Int.ediv_eq_zero_of_lt (by omega) (by omega)]; decide
    · rw [if_neg h, Int.ediv_eq_zero_of_lt (by omega) (by omega)]; decide
  rw [key i hi, key 63 (by omega)]
/-- All bits from a place on as that one: then the rest is that sign. -/
theorem bits_same (x : Int) (b : Int) : ∀ n : Nat, (∀ i, 63 ≤ i → i < 63 + n → bit i x = b) → x / 2 ^ 63 = (x / 2 ^ (63 + n)) * 2 ^ n + b * (2 ^ n - 1) := by
  intro n
  induction n with
  | zero => intro _; simp
  | succ k ih =>
    intro h
    have a := ih (fun i h1 h2 => h i h1 (by omega))
    have c := h (63 + k) (by omega) (by omega)
    have d : x / 2 ^ (63 + k) = 2 * (x / 2 ^ (63 + (k + 1))) + b := by
      rw [show 63 + (k + 1) = 63 + k + 1 from rfl, div_succ]; unfold bit at c; omega
    rw [a, d, p2_succ]
    generalize x / 2 ^ (63 + (k + 1)) = Q
    generalize (2 : Int) ^ k = P
    rw [Int.add_mul, Int.mul_sub, Int.mul_sub]
    have e1 : 2 * Q * P = Q * (2 * P) := by rw [Int.mul_comm 2 Q, Int.mul_assoc]
    have e2 : b * (2 * P) = 2 * (b * P) := by rw [Int.mul_left_comm]
    omega
theorem fit_of_bits {x : Int} (h1 : -(2 ^ 135) ≤ x) (h2 : x < 2 ^ 135) (h : ∀ i, 63 ≤ i → i < 136 → bit i x = bit 63 x) : fits x = true := by
  have a := bits_same x (bit 63 x) 73 (fun i p q => h i p (by omega))
  have t := bit_top x h1 h2
  have t' := h 135 (by omega) (by omega)
  have b := Int.mul_ediv_add_emod x (2 ^ 63)
  have c := mod_bd 63 x
  have d : x / 2 ^ (63 + 73) = if x < 0 then -1 else 0 := by
    have hq : (2 : Int) ^ (63 + 73) = 2 * 2 ^ 135 := by decide
    rw [hq]
    generalize (2 : Int) ^ 135 = P at *
    by_cases h : x < 0
    · rw [if_pos h]
      have e : x = (x + 2 * P) + 2 * P * (-1) := by omega
      rw [e, Int.add_mul_ediv_left _ _ (by omega), Int.ediv_eq_zero_of_lt (by omega) (by omega)]; rfl
    · rw [if_neg h, Int.ediv_eq_zero_of_lt (by omega) (by omega)]
  rw [← t', t] at a
  rw [d] at a
  have e63 : (2 : Int) ^ 63 = 9223372036854775808 := by decide
  rw [e63] at *
  generalize (2 : Int) ^ 73 = P at *
  by_cases hx : x < 0
  · rw [if_pos hx, if_pos hx] at a; exact fits_mk (by omega) (by omega)
  · rw [if_neg hx, if_neg hx] at a; exact fits_mk (by omega) (by omega)
end Ar
namespace Ar
/-- The number as an unsigned one, after so many halvings. -/
def hv (n : Int) (k : Nat) : Int := (n % 2 ^ 64) / 2 ^ k
theorem hv_bd (n : Int) (k : Nat) : 0 ≤ hv n k ∧ hv n k ≤ 18446744073709551615 := by
  have a := mod_bd 64 n
  have e : (2 : Int) ^ 64 = 18446744073709551616 := by decide
  have p := p2_pos k
  unfold hv
  refine ⟨Int.ediv_nonneg (by omega) (by omega), ?_⟩
  have : n % 2 ^ 64 / 2 ^ k ≤ n % 2 ^ 64 := Int.ediv_le_self _ (by omega)
  omega
theorem hv_succ (n : Int) (k : Nat) : hv n (k + 1) = hv n k / 2 := div_succ k _
theorem hv_bit (n : Int) (k : Nat) (h : k < 64) : hv n k % 2 = bit k n := by
  have e := Int.mul_ediv_add_emod n (2 ^ 64)
  have h64 : (2 : Int) ^ 64 = 2 ^ k * (2 * 2 ^ (63 - k)) := by
    rw [← p2_succ, ← Int.pow_add]; congr 1; omega
  have e2 : n = n % 2 ^ 64 + 2 ^ k * (2 * (2 ^ (63 - k) * (n / 2 ^ 64))) := by
    have : (2 : Int) ^ 64 * (n / 2 ^ 64) = 2 ^ k * (2 * (2 ^ (63 - k) * (n / 2 ^ 64))) := by
      rw [h64]; simp only [Int.mul_assoc]
    omega
  unfold hv
  show _ = bit k n
  have : bit k n = bit k (n % 2 ^ 64 + 2 ^ k * (2 * (2 ^ (63 - k) * (n / 2 ^ 64)))) := by rw [← e2]
  rw [this]
  unfold bit
  rw [Int.add_mul_ediv_left _ _ (Int.ne_of_gt (p2_pos k))]
  omega
theorem hv_zero (n : Int) : hv n 0 = n % 18446744073709551616 := by unfold hv; simp
theorem bit_high {n : Int} (h : fits n = true) (k : Nat) (hk : 63 ≤ k) : bit k n = if n < 0 then 1 else 0 := by
  obtain ⟨a, b⟩ := fits_t h
  have e1 := bit_fit h k hk
  have e2 := bit_fit h 135 (by omega)
  have p : (9223372036854775808 : Int) ≤ 2 ^ 135 := by decide
  rw [e1, ← e2]
  exact bit_top n (by omega) (by omega)
end Ar
namespace Ar
theorem hv_prev (n : Int) (k : Nat) (h : k < 64) : 2 * hv n (k + 1) + bit k n = hv n k := by
  have a := hv_succ n k
  have b := hv_bit n k h
  omega
theorem hv_top (n : Int) : hv n 64 = 0 := by
  have a := mod_bd 64 n
  unfold hv; exact Int.ediv_eq_zero_of_lt (by omega) (by omega)
theorem mul_next (x n : Int) (k : Nat) : x * (n % 2 ^ (k + 1)) = x * (n % 2 ^ k) + (if bit k n = 1 then x * 2 ^ k else 0) := by
  rw [mod_succ, Int.mul_add]
  rcases bit_01 k n with h | h
  · rw [h, if_neg (by decide)]; simp
  · rw [h, if_pos rfl]; simp; omega
theorem mul_full (x n : Int) (h : fits n = true) : x * n = x * (n % 2 ^ 64) + (if n < 0 then -(x * 2 ^ 64) else 0) := by
  obtain ⟨a, b⟩ := fits_t h
  have e : (2 : Int) ^ 64 = 18446744073709551616 := by decide
  rw [e]
  by_cases g : n < 0
  · have : n % 18446744073709551616 = n + 18446744073709551616 := by omega
    rw [if_pos g, this, Int.mul_add]; omega
  · have : n % 18446744073709551616 = n := by omega
    rw [if_neg g, this]; omega
theorem prod_bd {a b : Int} (ha : fits a = true) (hb : fits b = true) : -(2 ^ 126) ≤ a * b ∧ a * b ≤ 2 ^ 126 := by
  obtain ⟨a1, a2⟩ := fits_t ha
  obtain ⟨b1, b2⟩ := fits_t hb
  have e : (2 : Int) ^ 126 = 9223372036854775808 * 9223372036854775808 := by decide
  have h : (a * b).natAbs ≤ 9223372036854775808 * 9223372036854775808 := by
    rw [Int.natAbs_mul]; exact Nat.mul_le_mul (by omega) (by omega)
  rw [e]; omega
/-- One place of a long division. -/
theorem div_next {A A' Q R b c : Int} (hc : 0 < c) (hQ : Q = A / c) (hR : R = A % c) (hA : A' = 2 * A + b) (b0 : 0 ≤ b) (b1 : b ≤ 1) :
    (2 * R + b - c < 0 → A' / c = 2 * Q ∧ A' % c = 2 * R + b) ∧ (¬ 2 * R + b - c < 0 → A' / c = 2 * Q + 1 ∧ A' % c = 2 * R + b - c) := by
  have e := Int.mul_ediv_add_emod A c
  have r0 := Int.emod_nonneg A (Int.ne_of_gt hc)
  have r1 := Int.emod_lt_of_pos A hc
  rw [← hQ, ← hR] at e
  rw [← hR] at r0 r1
  have e2 : c * (2 * Q) = 2 * (c * Q) := by rw [Int.mul_left_comm]
  constructor
  · intro h
    have := (Int.ediv_emod_unique (a := A') (b := c) (r := 2 * R + b) (q := 2 * Q) hc).2 ⟨by omega, by omega, by omega⟩
    exact this
  · intro h
    have := (Int.ediv_emod_unique (a := A') (b := c) (r := 2 * R + b - c) (q := 2 * Q + 1) hc).2 ⟨by rw [Int.mul_add]; omega, by omega, by omega⟩
    exact this
theorem half (X : Int) (k : Nat) : X / 2 ^ k = 2 * (X / 2 ^ (k + 1)) + bit k X := by
  rw [div_succ]; unfold bit; omega
end Ar
namespace Ar
theorem mod_zero_of_bits (x : Int) : ∀ n : Nat, (∀ i, i < n → bit i x = 0) → x % 2 ^ n = 0
  | 0, _ => by simp [Int.emod_one]
  | n + 1, h => by rw [mod_succ, h n (by omega), mod_zero_of_bits x n (fun i hi => h i (by omega))]; simp
theorem zero_of_bits {x : Int} (h1 : 0 ≤ x) (h2 : x < 2 ^ 135) (h : ∀ i, i < 136 → bit i x = 0) : x = 0 := by
  have a := mod_zero_of_bits x 135 (fun i hi => h i (by omega))
  rw [Int.emod_eq_of_lt h1 h2] at a
  exact a
end Ar
namespace Ar
theorem top_div {x : Int} (h1 : 0 ≤ x) (h2 : x < 2 ^ 135) : x / 2 ^ 136 = 0 := by
  have := p2_succ 135
  exact Int.ediv_eq_zero_of_lt h1 (by rw [this]; generalize (2 : Int) ^ 135 = P at *; omega)
end Ar
namespace Ar
theorem neg_div {x c : Int} (hc : 0 < c) : ((-x) % c = 0 → x / c = -((-x) / c) ∧ x % c = (-x) % c) ∧ (¬ (-x) % c = 0 → x / c = -((-x) / c + 1) ∧ x % c = c + -((-x) % c)) := by
  have e := Int.mul_ediv_add_emod (-x) c
  have r0 := Int.emod_nonneg (-x) (Int.ne_of_gt hc)
  have r1 := Int.emod_lt_of_pos (-x) hc
  generalize (-x) / c = Q at *
  generalize (-x) % c = R at *
  constructor
  · intro h
    exact (Int.ediv_emod_unique (a := x) (b := c) (r := R) (q := -Q) hc).2 ⟨by rw [Int.mul_neg]; omega, by omega, by omega⟩
  · intro h
    exact (Int.ediv_emod_unique (a := x) (b := c) (r := c + -R) (q := -(Q + 1)) hc).2 ⟨by rw [Int.mul_neg, Int.mul_add]; omega, by omega, by omega⟩
/-- What MulDiv and Near answer. -/
def mdQ (a b c : Int) : Int := if 0 < c then fitV (a * b / c) else 0
def mdR (a b c : Int) : Int := if 0 < c ∧ fits (a * b / c) = true then a * b % c else 0
def mdI (a b c : Int) : Bool := decide (0 < c) && fits (a * b / c)
def near (a b c : Int) : Int := if 2 * (a * b % c) - c < 0 then a * b / c else a * b / c + 1
def neV (a b c : Int) : Int := if 0 < c then fitV (near a b c) else 0
def neI (a b c : Int) : Bool := decide (0 < c) && fits (near a b c)
end Ar
