/- Plain facts about integers as bits, and about sums, products and quotients that fit 64 bits (whole numbers alone, no program in sight). No conditions. What the functions of package quittanceref07 answer (walks): integers as bits. No conditions but that numbers are of 64 bits. What the functions of package quittanceref07 answer (walks, second part): products, numbers, quotients. No conditions but that numbers are of 64 bits. What the functions of package quittanceref07 answer (walks, third part): quotients, and the whole functions. No conditions but that numbers are of 64 bits. What the functions of package quittanceref07 answer (walks, fourth part): sums, differences, products, quotients. No conditions but that numbers are of 64 bits. What MulDiv, Near and Sum of package quittanceref07 answer (walks). No conditions but that numbers are of 64 bits; of sums: at most 4096 numbers. The contracts of math/bits.Len64, LeadingZeros64 and Mul64 (laid by the kit's shelf, in plain words) and of Add64. No conditions but that numbers are of 64 bits. What the functions of package arith answer (walks): sizes, signs, sums, differences. No conditions but that numbers are of 64 bits. Plain facts about the division of a number of two words by one (whole numbers alone, no program in sight). No conditions. math/bits.Div64, walked: the quotient and the rest of a number of two words. Conditions: 0 < y < 2^63, hi < y. What the functions of package arith answer (walks, second part): products and quotients by closures. No conditions but that numbers are of 64 bits. What the functions of package arith answer (walks, third part): the closures, and the whole functions. No conditions but that numbers are of 64 bits. What Near of package arith answers (walks). No conditions but that numbers are of 64 bits. -/
import Derived.Test.YtgceecnlgjmghaaDoorBase
import Derived.Deep.RegionHeld3
import Derived.Laws.Externs
import Derived.Shelf.Small.Bits
import Derived.Shelf.Strconv.Itoa0
import Derived.Shelf.Bits.Mul64
import Derived.Test.YtgceecnlgjmghaaDoorProg
import Derived.Laws.Bits64b
import Derived.Deep.DeepCutAuto
import Derived.Deep.CutBlock
import Derived.RegionTactic
import Derived.ChangeAlike
namespace Ar

theorem p2_pos (i : Nat) : (0 : Int) < 2 ^ i := Int.pow_pos (by decide)
theorem p2_succ (i : Nat) : (2 : Int) ^ (i + 1) = 2 * 2 ^ i := by rw [Int.pow_succ]; omega
/-- The bit of an integer at a place, two's complement. -/
def bit (i : Nat) (x : Int) : Int := (x / 2 ^ i) % 2
theorem bit_01 (i : Nat) (x : Int) : bit i x = 0 ∨ bit i x = 1 := by unfold bit; omega
theorem bit_bd (i : Nat) (x : Int) : 0 ≤ bit i x ∧ bit i x ≤ 1 := by unfold bit; omega
theorem div_succ (i : Nat) (x : Int) : x / 2 ^ (i + 1) = x / 2 ^ i / 2 := by
 rw [Int.pow_succ, Int.ediv_ediv_of_nonneg (Int.le_of_lt (p2_pos i))]
theorem mod_succ (i : Nat) (x : Int) : x % 2 ^ (i + 1) = 2 ^ i * bit i x + x % 2 ^ i := by
 have h1 := Int.mul_ediv_add_emod x (2 ^ i)
 have h2 := Int.mul_ediv_add_emod x (2 ^ (i + 1))
 have h3 := div_succ i x
 have h4 : x / 2 ^ i = 2 * (x / 2 ^ i / 2) + bit i x := by unfold bit; omega
 rw [h3] at h2
 rw [Int.pow_succ] at h2 ⊢
 generalize (2 : Int) ^ i = P at *
 generalize x / P / 2 = Q at *
 have h5 : P * (x / P) = P * (2 * Q) + P * bit i x := by rw [h4]; exact Int.mul_add _ _ _
 have h6 : P * (2 * Q) = P * 2 * Q := by rw [Int.mul_assoc]
 omega
/-- The carry into a place. -/
def car (i : Nat) (x y c : Int) : Int := (x % 2 ^ i + y % 2 ^ i + c) / 2 ^ i
theorem mod_bd (i : Nat) (x : Int) : 0 ≤ x % 2 ^ i ∧ x % 2 ^ i < 2 ^ i :=
 ⟨Int.emod_nonneg _ (Int.ne_of_gt (p2_pos i)), Int.emod_lt_of_pos _ (p2_pos i)⟩
theorem car_zero (x y c : Int) : car 0 x y c = c := by unfold car; simp [Int.emod_one]
theorem car_bd (i : Nat) (x y c : Int) (h0 : 0 ≤ c) (h1 : c ≤ 1) : 0 ≤ car i x y c ∧ car i x y c ≤ 1 := by
 have a := mod_bd i x
 have b := mod_bd i y
 have p := p2_pos i
 unfold car
 constructor
 ·exact Int.ediv_nonneg (by omega) (by omega)
 ·have : (x % 2 ^ i + y % 2 ^ i + c) / 2 ^ i < 2 := Int.ediv_lt_of_lt_mul p (by omega)
  omega
/-- The adder's step. -/
theorem car_succ (i : Nat) (x y c : Int) : car (i + 1) x y c = (bit i x + bit i y + car i x y c) / 2 := by
 unfold car
 rw [mod_succ, mod_succ, div_succ]
 have e : 2 ^ i * bit i x + x % 2 ^ i + (2 ^ i * bit i y + y % 2 ^ i) + c = (x % 2 ^ i + y % 2 ^ i + c) + 2 ^ i * (bit i x + bit i y) := by
  rw [Int.mul_add]; omega
 rw [e, Int.add_mul_ediv_left _ _ (Int.ne_of_gt (p2_pos i))]
 congr 1; omega
theorem bit_add (i : Nat) (x y c : Int) : bit i (x + y + c) = (bit i x + bit i y + car i x y c) % 2 := by
 have h1 := Int.mul_ediv_add_emod x (2 ^ i)
 have h2 := Int.mul_ediv_add_emod y (2 ^ i)
 have e : x + y + c = (x % 2 ^ i + y % 2 ^ i + c) + 2 ^ i * (x / 2 ^ i + y / 2 ^ i) := by rw [Int.mul_add]; omega
 unfold bit car
 rw [e, Int.add_mul_ediv_left _ _ (Int.ne_of_gt (p2_pos i))]
 omega
theorem bit_not (i : Nat) (x : Int) : bit i (-1 - x) = 1 - bit i x := by
 have h1 := Int.mul_ediv_add_emod x (2 ^ i)
 have b := mod_bd i x
 have e : -1 - x = (2 ^ i - 1 - x % 2 ^ i) + 2 ^ i * (-1 - x / 2 ^ i) := by
  rw [Int.mul_sub]; omega
 unfold bit
 rw [e, Int.add_mul_ediv_left _ _ (Int.ne_of_gt (p2_pos i)), Int.ediv_eq_zero_of_lt (by omega) (by omega)]
 omega
theorem bit_zero (i : Nat) : bit i 0 = 0 := by unfold bit; simp

/-- The integer's bits, the lowest first. -/
def B (x : Int) : List Int := (List.range 136).map fun i => bit i x
/-- Does it fit 64 bits? -/
def fits (x : Int) : Bool := decide (-9223372036854775808 ≤ x) && decide (x ≤ 9223372036854775807)
theorem fits_t {x : Int} (h : fits x = true) : -9223372036854775808 ≤ x ∧ x ≤ 9223372036854775807 := by unfold fits at h; simpa using h
theorem fits_f {x : Int} (h : fits x = false) : x < -9223372036854775808 ∨ 9223372036854775807 < x := by unfold fits at h; simp at h; omega
theorem fits_mk {x : Int} (h1 : -9223372036854775808 ≤ x) (h2 : x ≤ 9223372036854775807) : fits x = true := by unfold fits; simp; omega
theorem fits_no {x : Int} (h : x < -9223372036854775808 ∨ 9223372036854775807 < x) : fits x = false := by unfold fits; simp; omega
def fitV (x : Int) : Int := if fits x = true then x else 0

/-- The top bit is the sign's. -/
theorem bit_top (x : Int) (h1 : -(2 ^ 135) ≤ x) (h2 : x < 2 ^ 135) : bit 135 x = if x < 0 then 1 else 0 := by
 unfold bit
 generalize hP : (2 : Int) ^ 135 = P at *
 have hp : 0 < P := by rw [← hP]; decide
 by_cases h : x < 0
 ·rw [if_pos h]
  have e : x = (x + P) + P * (-1) := by omega
  rw [e, Int.add_mul_ediv_left _ _ (by omega), Int.ediv_eq_zero_of_lt (by omega) (by omega)]; decide
 ·rw [if_neg h, Int.ediv_eq_zero_of_lt (by omega) (by omega)]; decide
/-- Bits from 63 on are alike just where the integer fits. -/
theorem bit_fit {x : Int} (h : fits x = true) (i : Nat) (hi : 63 ≤ i) : bit i x = bit 63 x := by
 obtain ⟨a, b⟩ := fits_t h
 have key : ∀ j : Nat, 63 ≤ j → bit j x = if x < 0 then 1 else 0 := by
  intro j hj
  have hp : (9223372036854775808 : Int) ≤ 2 ^ j := by
   have : (2 : Int) ^ 63 ≤ 2 ^ j := by
    obtain ⟨k, rfl⟩ : ∃ k, j = 63 + k := ⟨j - 63, by omega⟩
    rw [Int.pow_add]
    have := p2_pos k
    have h63 : (0 : Int) ≤ 2 ^ 63 := by decide
    calc (2 : Int) ^ 63 = 2 ^ 63 * 1 := by rw [Int.mul_one]
     _ ≤ 2 ^ 63 * 2 ^ k := Int.mul_le_mul_of_nonneg_left (by omega) h63
   exact Int.le_trans (by decide) this
  unfold bit
  generalize (2 : Int) ^ j = P at *
  by_cases h : x < 0
  ·rw [if_pos h]
   have e : x = (x + P) + P * (-1) := by omega
   rw [e, Int.add_mul_ediv_left _ _ (by omega), Int.ediv_eq_zero_of_lt (by omega) (by omega)]; decide
  ·rw [if_neg h, Int.ediv_eq_zero_of_lt (by omega) (by omega)]; decide
 rw [key i hi, key 63 (by omega)]
/-- All bits from a place on as that one: then the rest is that sign. -/
theorem bits_same (x : Int) (b : Int) : ∀ n : Nat, (∀ i, 63 ≤ i → i < 63 + n → bit i x = b) → x / 2 ^ 63 = (x / 2 ^ (63 + n)) * 2 ^ n + b * (2 ^ n - 1) := by
 intro n
 induction n with
 | zero => intro _; simp
 | succ k ih =>
  intro h
  have a := ih (fun i h1 h2 => h i h1 (by omega))
  have c := h (63 + k) (by omega) (by omega)
  have d : x / 2 ^ (63 + k) = 2 * (x / 2 ^ (63 + (k + 1))) + b := by
   rw [show 63 + (k + 1) = 63 + k + 1 from rfl, div_succ]; unfold bit at c; omega
  rw [a, d, p2_succ]
  generalize x / 2 ^ (63 + (k + 1)) = Q
  generalize (2 : Int) ^ k = P
  rw [Int.add_mul, Int.mul_sub, Int.mul_sub]
  have e1 : 2 * Q * P = Q * (2 * P) := by rw [Int.mul_comm 2 Q, Int.mul_assoc]
  have e2 : b * (2 * P) = 2 * (b * P) := by rw [Int.mul_left_comm]
  omega
theorem fit_of_bits {x : Int} (h1 : -(2 ^ 135) ≤ x) (h2 : x < 2 ^ 135) (h : ∀ i, 63 ≤ i → i < 136 → bit i x = bit 63 x) : fits x = true := by
 have a := bits_same x (bit 63 x) 73 (fun i p q => h i p (by omega))
 have t := bit_top x h1 h2
 have t' := h 135 (by omega) (by omega)
 have b := Int.mul_ediv_add_emod x (2 ^ 63)
 have c := mod_bd 63 x
 have d : x / 2 ^ (63 + 73) = if x < 0 then -1 else 0 := by
  have hq : (2 : Int) ^ (63 + 73) = 2 * 2 ^ 135 := by decide
  rw [hq]
  generalize (2 : Int) ^ 135 = P at *
  by_cases h : x < 0
  ·rw [if_pos h]
   have e : x = (x + 2 * P) + 2 * P * (-1) := by omega
   rw [e, Int.add_mul_ediv_left _ _ (by omega), Int.ediv_eq_zero_of_lt (by omega) (by omega)]; rfl
  ·rw [if_neg h, Int.ediv_eq_zero_of_lt (by omega) (by omega)]
 rw [← t', t] at a
 rw [d] at a
 have e63 : (2 : Int) ^ 63 = 9223372036854775808 := by decide
 rw [e63] at *
 generalize (2 : Int) ^ 73 = P at *
 by_cases hx : x < 0
 ·rw [if_pos hx, if_pos hx] at a; exact fits_mk (by omega) (by omega)
 ·rw [if_neg hx, if_neg hx] at a; exact fits_mk (by omega) (by omega)
end Ar
namespace Ar
/-- The number as an unsigned one, after so many halvings. -/
def hv (n : Int) (k : Nat) : Int := (n % 2 ^ 64) / 2 ^ k
theorem hv_bd (n : Int) (k : Nat) : 0 ≤ hv n k ∧ hv n k ≤ 18446744073709551615 := by
 have a := mod_bd 64 n
 have e : (2 : Int) ^ 64 = 18446744073709551616 := by decide
 have p := p2_pos k
 unfold hv
 refine ⟨Int.ediv_nonneg (by omega) (by omega), ?_⟩
 have : n % 2 ^ 64 / 2 ^ k ≤ n % 2 ^ 64 := Int.ediv_le_self _ (by omega)
 omega
theorem hv_succ (n : Int) (k : Nat) : hv n (k + 1) = hv n k / 2 := div_succ k _
theorem hv_bit (n : Int) (k : Nat) (h : k < 64) : hv n k % 2 = bit k n := by
 have e := Int.mul_ediv_add_emod n (2 ^ 64)
 have h64 : (2 : Int) ^ 64 = 2 ^ k * (2 * 2 ^ (63 - k)) := by
  rw [← p2_succ, ← Int.pow_add]; congr 1; omega
 have e2 : n = n % 2 ^ 64 + 2 ^ k * (2 * (2 ^ (63 - k) * (n / 2 ^ 64))) := by
  have : (2 : Int) ^ 64 * (n / 2 ^ 64) = 2 ^ k * (2 * (2 ^ (63 - k) * (n / 2 ^ 64))) := by
   rw [h64]; simp only [Int.mul_assoc]
  omega
 unfold hv
 show _ = bit k n
 have : bit k n = bit k (n % 2 ^ 64 + 2 ^ k * (2 * (2 ^ (63 - k) * (n / 2 ^ 64)))) := by rw [← e2]
 rw [this]
 unfold bit
 rw [Int.add_mul_ediv_left _ _ (Int.ne_of_gt (p2_pos k))]
 omega
theorem hv_zero (n : Int) : hv n 0 = n % 18446744073709551616 := by unfold hv; simp
theorem bit_high {n : Int} (h : fits n = true) (k : Nat) (hk : 63 ≤ k) : bit k n = if n < 0 then 1 else 0 := by
 obtain ⟨a, b⟩ := fits_t h
 have e1 := bit_fit h k hk
 have e2 := bit_fit h 135 (by omega)
 have p : (9223372036854775808 : Int) ≤ 2 ^ 135 := by decide
 rw [e1, ← e2]
 exact bit_top n (by omega) (by omega)
end Ar
namespace Ar
theorem hv_prev (n : Int) (k : Nat) (h : k < 64) : 2 * hv n (k + 1) + bit k n = hv n k := by
 have a := hv_succ n k
 have b := hv_bit n k h
 omega
theorem hv_top (n : Int) : hv n 64 = 0 := by
 have a := mod_bd 64 n
 unfold hv; exact Int.ediv_eq_zero_of_lt (by omega) (by omega)
theorem mul_next (x n : Int) (k : Nat) : x * (n % 2 ^ (k + 1)) = x * (n % 2 ^ k) + (if bit k n = 1 then x * 2 ^ k else 0) := by
 rw [mod_succ, Int.mul_add]
 rcases bit_01 k n with h | h
 ·rw [h, if_neg (by decide)]; simp
 ·rw [h, if_pos rfl]; simp; omega
theorem mul_full (x n : Int) (h : fits n = true) : x * n = x * (n % 2 ^ 64) + (if n < 0 then -(x * 2 ^ 64) else 0) := by
 obtain ⟨a, b⟩ := fits_t h
 have e : (2 : Int) ^ 64 = 18446744073709551616 := by decide
 rw [e]
 by_cases g : n < 0
 ·have : n % 18446744073709551616 = n + 18446744073709551616 := by omega
  rw [if_pos g, this, Int.mul_add]; omega
 ·have : n % 18446744073709551616 = n := by omega
  rw [if_neg g, this]; omega
theorem prod_bd {a b : Int} (ha : fits a = true) (hb : fits b = true) : -(2 ^ 126) ≤ a * b ∧ a * b ≤ 2 ^ 126 := by
 obtain ⟨a1, a2⟩ := fits_t ha
 obtain ⟨b1, b2⟩ := fits_t hb
 have e : (2 : Int) ^ 126 = 9223372036854775808 * 9223372036854775808 := by decide
 have h : (a * b).natAbs ≤ 9223372036854775808 * 9223372036854775808 := by
  rw [Int.natAbs_mul]; exact Nat.mul_le_mul (by omega) (by omega)
 rw [e]; omega
/-- One place of a long division. -/
theorem div_next {A A' Q R b c : Int} (hc : 0 < c) (hQ : Q = A / c) (hR : R = A % c) (hA : A' = 2 * A + b) (b0 : 0 ≤ b) (b1 : b ≤ 1) :
  (2 * R + b - c < 0 → A' / c = 2 * Q ∧ A' % c = 2 * R + b) ∧ (¬ 2 * R + b - c < 0 → A' / c = 2 * Q + 1 ∧ A' % c = 2 * R + b - c) := by
 have e := Int.mul_ediv_add_emod A c
 have r0 := Int.emod_nonneg A (Int.ne_of_gt hc)
 have r1 := Int.emod_lt_of_pos A hc
 rw [← hQ, ← hR] at e
 rw [← hR] at r0 r1
 have e2 : c * (2 * Q) = 2 * (c * Q) := by rw [Int.mul_left_comm]
 constructor
 ·intro h
  have := (Int.ediv_emod_unique (a := A') (b := c) (r := 2 * R + b) (q := 2 * Q) hc).2 ⟨by omega, by omega, by omega⟩
  exact this
 ·intro h
  have := (Int.ediv_emod_unique (a := A') (b := c) (r := 2 * R + b - c) (q := 2 * Q + 1) hc).2 ⟨by rw [Int.mul_add]; omega, by omega, by omega⟩
  exact this
theorem half (X : Int) (k : Nat) : X / 2 ^ k = 2 * (X / 2 ^ (k + 1)) + bit k X := by
 rw [div_succ]; unfold bit; omega
end Ar
namespace Ar
theorem mod_zero_of_bits (x : Int) : ∀ n : Nat, (∀ i, i < n → bit i x = 0) → x % 2 ^ n = 0
 | 0, _ => by simp [Int.emod_one]
 | n + 1, h => by rw [mod_succ, h n (by omega), mod_zero_of_bits x n (fun i hi => h i (by omega))]; simp
theorem zero_of_bits {x : Int} (h1 : 0 ≤ x) (h2 : x < 2 ^ 135) (h : ∀ i, i < 136 → bit i x = 0) : x = 0 := by
 have a := mod_zero_of_bits x 135 (fun i hi => h i (by omega))
 rw [Int.emod_eq_of_lt h1 h2] at a
 exact a
end Ar
namespace Ar
theorem top_div {x : Int} (h1 : 0 ≤ x) (h2 : x < 2 ^ 135) : x / 2 ^ 136 = 0 := by
 have := p2_succ 135
 exact Int.ediv_eq_zero_of_lt h1 (by rw [this]; generalize (2 : Int) ^ 135 = P at *; omega)
end Ar
namespace Ar
theorem neg_div {x c : Int} (hc : 0 < c) : ((-x) % c = 0 → x / c = -((-x) / c) ∧ x % c = (-x) % c) ∧ (¬ (-x) % c = 0 → x / c = -((-x) / c + 1) ∧ x % c = c + -((-x) % c)) := by
 have e := Int.mul_ediv_add_emod (-x) c
 have r0 := Int.emod_nonneg (-x) (Int.ne_of_gt hc)
 have r1 := Int.emod_lt_of_pos (-x) hc
 generalize (-x) / c = Q at *
 generalize (-x) % c = R at *
 constructor
 ·intro h
  exact (Int.ediv_emod_unique (a := x) (b := c) (r := R) (q := -Q) hc).2 ⟨by rw [Int.mul_neg]; omega, by omega, by omega⟩
 ·intro h
  exact (Int.ediv_emod_unique (a := x) (b := c) (r := c + -R) (q := -(Q + 1)) hc).2 ⟨by rw [Int.mul_neg, Int.mul_add]; omega, by omega, by omega⟩
/-- What MulDiv and Near answer. -/
def mdQ (a b c : Int) : Int := if 0 < c then fitV (a * b / c) else 0
def mdR (a b c : Int) : Int := if 0 < c ∧ fits (a * b / c) = true then a * b % c else 0
def mdI (a b c : Int) : Bool := decide (0 < c) && fits (a * b / c)
end Ar

namespace Go.Proofs.YtgceecnlgjmghaaDoor.ref07
open Go.RowKit Go.Proofs.YtgceecnlgjmghaaDoor.base

theorem infoInt : (Tryd.prog.info? 3).map (fun i => (i.zero, i.size, i.bytes)) = some (some (.int .i64 0), 1, 8) := by kernel_rfl
theorem make136 (w : World) : (Instr.makeSlice 99 (.int .i64 136) (.int .i64 136)).run Tryd.prog w = .ok (.slice (some ⟨w.heap.size, 0, none⟩) 136 136) (w.alloc (.cells (madeCells #[.int .i64 0] 136) 3)) := by
 obtain ⟨i0, hi, hz0, hz1, hz2⟩ := info_parts infoInt
 have h := run_make (P := Tryd.prog) w 99 3 i0 (.int .i64 0) Tryd.underlying99 hi hz0 .i64 .i64 136 136 (by omega) (by omega) (by rw [hz2]; decide) (by omega)
 rw [hz1] at h
 exact h
/-- Block b holds the bits of x. -/
def IsB (w : World) (b : Nat) (x : Int) : Prop := Row w b 136 (fun j => .int .i64 (Ar.bit j x))
theorem IsB.cell {w : World} {b : Nat} {x : Int} (h : IsB w b x) (j : Nat) (hj : j < 136) : w.cell? ⟨b, j, none⟩ = some (.int .i64 (Ar.bit j x)) := (h j hj).1
theorem IsB.lt {w : World} {b : Nat} {x : Int} (h : IsB w b x) : b < w.heap.size := Row.lt h (by decide)

set_option maxRecDepth 100000 in
set_option maxHeartbeats 400000 in
theorem bits_any (n : Int) (w : World) (hn : Ar.fits n = true) : Calls Tryd.prog 101 #[.int .i64 n] w fun e w' => ∃ b, e = .returned (.slice (some ⟨b, 0, none⟩) 136 136) ∧ w.heap.size ≤ b ∧ IsB w' b n ∧ Below w.heap.size w w' := by
 obtain ⟨n1, n2⟩ := Ar.fits_t hn
 have HN := Lib.hid hn
 clear hn
 obtain ⟨Z, hZ⟩ : ∃ Z, Z = madeCells #[.int .i64 0] 136 := ⟨_, rfl⟩
 have hmk : (Instr.makeSlice 99 (.int .i64 136) (.int .i64 136)).run Tryd.prog w = .ok (.slice (some ⟨w.heap.size, 0, none⟩) 136 136) (w.alloc (.cells Z 3)) := by rw [hZ]; exact make136 w
 have RZ := Lib.hid (show Row (w.alloc (.cells Z 3)) w.heap.size 136 (fun _ => .int .i64 0) by rw [hZ]; exact Row.made w _ _ _)
 clear hZ
 have N := Lib.hid (And.intro n1 n2)
 clear n1 n2
 go_enter Tryd.func101, Tryd.ntmps101
 go_wp2
 go_loopw [4, 5] (fun u i wr => ∃ (k : Nat) (U : Int), k ≤ 136 ∧ i = .int .i64 k ∧ u = .int .u64 U ∧ U = Ar.hv n (min k 64) ∧ Row wr w.heap.size 136 (fun j => .int .i64 (if j < k then Ar.bit j n else 0)) ∧ Below w.heap.size w wr) (fun _ i _ => 136 - (intOf i).toNat)
 case atStart => exact ⟨0, _, by omega, rfl, rfl, (Ar.hv_zero n).symm, RZ.out.congr (fun j _ => by simp), (Below.refl _ _).alloc (Nat.le_refl _) _⟩
 case round =>
  obtain ⟨k, U, hk, rfl, rfl, hU, hR, hB⟩ := hrel
  have hUb := Ar.hv_bd n (min k 64)
  rw [← hU] at hUb
  obtain ⟨u1, u2⟩ := hUb
  by_cases hlt : k < 136
  ·have hc := (hR k hlt).1
   have hf := (hR k hlt).2
   have HR := Lib.hid hR
   have HU := Lib.hid hU
   clear hR hU
   by_cases h64 : k < 64
   ·have NB := Lib.hid (Ar.hv_bit n k h64)
    go_wp2
    go_roundw
    case rel =>
     refine ⟨k + 1, U / 2, by omega, by go_num, by rfl, ?_, ?_, hB.setCell (by simp) _⟩
     ·rw [HU.out, Nat.min_eq_left (by omega), Nat.min_eq_left (by omega), Ar.hv_succ]
     ·refine (HR.out.set _ hlt).congr (fun j _ => ?_)
      by_cases e : j = k
      ·subst e; rw [if_pos rfl, if_pos (by omega), HU.out, Nat.min_eq_left (by omega), NB.out]
      ·rw [if_neg e]; by_cases q : j < k
       ·rw [if_pos q, if_pos (by omega)]
       ·rw [if_neg q, if_neg (by omega)]
    case measure => simp [intOf]; omega
   ·have NB := Lib.hid (Ar.bit_high HN.out k (by omega))
    by_cases hneg : n < 0
    ·go_wp2
     go_roundw
     case rel =>
      refine ⟨k + 1, U, by omega, by go_num, rfl, ?_, ?_, hB.setCell (by simp) _⟩
      ·rw [HU.out, Nat.min_eq_right (by omega), Nat.min_eq_right (by omega)]
      ·refine (HR.out.set _ hlt).congr (fun j _ => ?_)
       by_cases e : j = k
       ·subst e; rw [if_pos rfl, if_pos (by omega), NB.out, if_pos hneg]
       ·rw [if_neg e]; by_cases q : j < k
        ·rw [if_pos q, if_pos (by omega)]
        ·rw [if_neg q, if_neg (by omega)]
     case measure => simp [intOf]; omega
    ·go_wp2
     go_roundw
     case rel =>
      refine ⟨k + 1, U, by omega, by go_num, rfl, ?_, ?_, hB⟩
      ·rw [HU.out, Nat.min_eq_right (by omega), Nat.min_eq_right (by omega)]
      ·refine HR.out.congr (fun j _ => ?_)
       by_cases e : j = k
       ·subst e; rw [if_neg (by omega), if_pos (by omega), NB.out, if_neg hneg]
       ·by_cases q : j < k
        ·rw [if_pos q, if_pos (by omega)]
        ·rw [if_neg q, if_neg (by omega)]
     case measure => simp [intOf]; omega
  ·go_wp2
   go_ret
   exact ⟨_, rfl, Nat.le_refl _, hR.congr (fun j hj => by rw [if_pos (by omega)]), hB⟩

/-- One place of the sum is laid. -/
theorem laid_next {wr : World} {B k : Nat} {G : Nat → Int} {v : Int} (hR : Row wr B 136 (fun j => .int .i64 (if j < k then G j else 0))) (hk : k < 136) (hv : v = G k) :
  Row (wr.setCell ⟨B, k, none⟩ (.int .i64 v)) B 136 (fun j => .int .i64 (if j < k + 1 then G j else 0)) := by
 refine (hR.set _ hk).congr (fun j _ => ?_)
 by_cases e : j = k
 ·subst e; rw [if_pos rfl, if_pos (by omega), hv]
 ·rw [if_neg e]; by_cases q : j < k
  ·rw [if_pos q, if_pos (by omega)]
  ·rw [if_neg q, if_neg (by omega)]

set_option maxRecDepth 100000 in
set_option maxHeartbeats 400000 in
theorem plus_any (x y : Int) (p q : Nat) (w : World) (hx : IsB w p x) (hy : IsB w q y) : Calls Tryd.prog 122 #[.slice (some ⟨p, 0, none⟩) 136 136, .slice (some ⟨q, 0, none⟩) 136 136] w fun e w' => ∃ b, e = .returned (.slice (some ⟨b, 0, none⟩) 136 136) ∧ w.heap.size ≤ b ∧ IsB w' b (x + y) ∧ Below w.heap.size w w' := by
 have hp := hx.lt
 have hq := hy.lt
 obtain ⟨Z, hZ⟩ : ∃ Z, Z = madeCells #[.int .i64 0] 136 := ⟨_, rfl⟩
 have hmk : (Instr.makeSlice 99 (.int .i64 136) (.int .i64 136)).run Tryd.prog w = .ok (.slice (some ⟨w.heap.size, 0, none⟩) 136 136) (w.alloc (.cells Z 3)) := by rw [hZ]; exact make136 w
 have RZ := Lib.hid (show Row (w.alloc (.cells Z 3)) w.heap.size 136 (fun _ => .int .i64 0) by rw [hZ]; exact Row.made w _ _ _)
 have HX := Lib.hid hx
 have HY := Lib.hid hy
 clear hZ hx hy
 go_enter Tryd.func122, Tryd.ntmps122
 go_wp2
 go_loopw [6, 7] (fun u i wr => ∃ (k : Nat) (c : Int), k ≤ 136 ∧ i = .int .i64 k ∧ u = .int .i64 c ∧ c = Ar.car k x y 0 ∧ Row wr w.heap.size 136 (fun j => .int .i64 (if j < k then Ar.bit j (x + y) else 0)) ∧ Below w.heap.size w wr) (fun _ i _ => 136 - (intOf i).toNat)
 case atStart => exact ⟨0, 0, by omega, rfl, rfl, (Ar.car_zero x y 0).symm, RZ.out.congr (fun j _ => by simp), (Below.refl _ _).alloc (Nat.le_refl _) _⟩
 case round =>
  obtain ⟨k, c, hk, rfl, rfl, hU, hR, hB⟩ := hrel
  obtain ⟨u1, u2⟩ := Ar.car_bd k x y 0 (by omega) (by omega)
  rw [← hU] at u1 u2
  by_cases hlt : k < 136
  ·have c1 : wr.cell? ⟨p, k, none⟩ = some (.int .i64 (Ar.bit k x)) := (hB.cell (p := ⟨p, k, none⟩) hp).trans (HX.out.cell k hlt)
   have c2 : wr.cell? ⟨q, k, none⟩ = some (.int .i64 (Ar.bit k y)) := (hB.cell (p := ⟨q, k, none⟩) hq).trans (HY.out.cell k hlt)
   have hc := (hR k hlt).1
   have hf := (hR k hlt).2
   obtain ⟨a1, a2⟩ := Ar.bit_bd k x
   obtain ⟨b1, b2⟩ := Ar.bit_bd k y
   have HR := Lib.hid hR
   have HU := Lib.hid hU
   have i1 : (0 : Int) ≤ k := by omega
   have i2 : (k : Int) < 136 := by omega
   clear hR hU
   go_wp2
   go_quiet (fail)
   go_wp2
   go_roundw
   case rel =>
    refine ⟨k + 1, (Ar.bit k x + Ar.bit k y + c) / 2, by omega, by go_num, rfl, ?_, ?_, (below_drewN hB _).setCell (by simp) _⟩
    ·rw [Ar.car_succ, ← HU.out]
    ·exact laid_next (HR.out.drewN _) hlt (by have := Ar.bit_add k x y 0; rw [Int.add_zero] at this; rw [this, ← HU.out])
   case measure => simp [intOf]; omega
  ·go_wp2
   go_ret
   exact ⟨_, rfl, Nat.le_refl _, hR.congr (fun j hj => by rw [if_pos (by omega)]), hB⟩

set_option maxRecDepth 100000 in
set_option maxHeartbeats 400000 in
theorem minus_any (x : Int) (p : Nat) (w : World) (hx : IsB w p x) : Calls Tryd.prog 120 #[.slice (some ⟨p, 0, none⟩) 136 136] w fun e w' => ∃ b, e = .returned (.slice (some ⟨b, 0, none⟩) 136 136) ∧ w.heap.size ≤ b ∧ IsB w' b (-x) ∧ Below w.heap.size w w' := by
 have hp := hx.lt
 obtain ⟨Z, hZ⟩ : ∃ Z, Z = madeCells #[.int .i64 0] 136 := ⟨_, rfl⟩
 have hmk : (Instr.makeSlice 99 (.int .i64 136) (.int .i64 136)).run Tryd.prog w = .ok (.slice (some ⟨w.heap.size, 0, none⟩) 136 136) (w.alloc (.cells Z 3)) := by rw [hZ]; exact make136 w
 have RZ := Lib.hid (show Row (w.alloc (.cells Z 3)) w.heap.size 136 (fun _ => .int .i64 0) by rw [hZ]; exact Row.made w _ _ _)
 have HX := Lib.hid hx
 clear hZ hx
 go_enter Tryd.func120, Tryd.ntmps120
 go_wp2
 go_loopw [4, 5] (fun u i wr => ∃ (k : Nat) (c : Int), k ≤ 136 ∧ i = .int .i64 k ∧ u = .int .i64 c ∧ c = Ar.car k (-1 - x) 0 1 ∧ Row wr w.heap.size 136 (fun j => .int .i64 (if j < k then Ar.bit j (-x) else 0)) ∧ Below w.heap.size w wr) (fun _ i _ => 136 - (intOf i).toNat)
 case atStart => exact ⟨0, 1, by omega, rfl, rfl, (Ar.car_zero _ 0 1).symm, RZ.out.congr (fun j _ => by simp), (Below.refl _ _).alloc (Nat.le_refl _) _⟩
 case round =>
  obtain ⟨k, c, hk, rfl, rfl, hU, hR, hB⟩ := hrel
  obtain ⟨u1, u2⟩ := Ar.car_bd k (-1 - x) 0 1 (by omega) (by omega)
  rw [← hU] at u1 u2
  by_cases hlt : k < 136
  ·have c1 : wr.cell? ⟨p, k, none⟩ = some (.int .i64 (Ar.bit k x)) := (hB.cell (p := ⟨p, k, none⟩) hp).trans (HX.out.cell k hlt)
   have hc := (hR k hlt).1
   have hf := (hR k hlt).2
   obtain ⟨a1, a2⟩ := Ar.bit_bd k x
   have HR := Lib.hid hR
   have HU := Lib.hid hU
   clear hR hU
   go_wp2
   go_roundw
   case rel =>
    refine ⟨k + 1, (1 - Ar.bit k x + c) / 2, by omega, by go_num, rfl, ?_, ?_, hB.setCell (by simp) _⟩
    ·rw [Ar.car_succ, ← HU.out, Ar.bit_not, Ar.bit_zero, Int.add_zero]
    ·refine laid_next HR.out hlt ?_
     have h := Ar.bit_add k (-1 - x) 0 1
     rw [show (-1 - x + 0 + 1 : Int) = -x by omega] at h
     rw [h, ← HU.out, Ar.bit_not, Ar.bit_zero, Int.add_zero]
   case measure => simp [intOf]; omega
  ·go_wp2
   go_ret
   exact ⟨_, rfl, Nat.le_refl _, hR.congr (fun j hj => by rw [if_pos (by omega)]), hB⟩
end Go.Proofs.YtgceecnlgjmghaaDoor.ref07

namespace Go.Proofs.YtgceecnlgjmghaaDoor.ref07
open Go.RowKit Go.Proofs.YtgceecnlgjmghaaDoor.base

theorem IsB.after {w w' : World} {b : Nat} {x : Int} (h : IsB w b x) (hb : Below w.heap.size w w') : IsB w' b x := Row.after h (by decide) hb
theorem IsB.of {w : World} {b : Nat} {x y : Int} (h : IsB w b x) (e : x = y) : IsB w b y := e ▸ h

theorem twice_any (x : Int) (p : Nat) (w : World) (hx : IsB w p x) : Calls Tryd.prog 123 #[.slice (some ⟨p, 0, none⟩) 136 136] w fun e w' => ∃ b, e = .returned (.slice (some ⟨b, 0, none⟩) 136 136) ∧ w.heap.size ≤ b ∧ IsB w' b (2 * x) ∧ Below w.heap.size w w' := by
 have HX := Lib.hid hx
 clear hx
 go_enter Tryd.func123, Tryd.ntmps123
 go_wp2_with (go_at_call 122; refine (plus_any x x p p _ HX.out HX.out).mono ?_; rintro e w1 ⟨b, rfl, hb, h1, B1⟩)
 go_ret
 exact ⟨_, rfl, hb, h1.of (by omega), B1⟩

theorem below_t (x : Int) (p : Nat) (w : World) (hx : IsB w p x) (h1 : -(2 ^ 135) ≤ x) (h2 : x < 2 ^ 135) (h : x < 0) : Calls Tryd.prog 118 #[.slice (some ⟨p, 0, none⟩) 136 136] w fun e w' => e = .returned (.bool true) ∧ w = w' := by
 have hc : w.cell? ⟨p, 135, none⟩ = some (.int .i64 1) := by rw [hx.cell 135 (by omega), Ar.bit_top x h1 h2, if_pos h]
 clear hx h1 h2
 go_enter Tryd.func118, Tryd.ntmps118
 go_wp2
 go_ret
 exact ⟨rfl, rfl⟩
theorem below_f (x : Int) (p : Nat) (w : World) (hx : IsB w p x) (h1 : -(2 ^ 135) ≤ x) (h2 : x < 2 ^ 135) (h : ¬ x < 0) : Calls Tryd.prog 118 #[.slice (some ⟨p, 0, none⟩) 136 136] w fun e w' => e = .returned (.bool false) ∧ w = w' := by
 have hc : w.cell? ⟨p, 135, none⟩ = some (.int .i64 0) := by rw [hx.cell 135 (by omega), Ar.bit_top x h1 h2, if_neg h]
 clear hx h1 h2
 go_enter Tryd.func118, Tryd.ntmps118
 go_wp2
 go_ret
 exact ⟨rfl, rfl⟩

set_option maxRecDepth 100000 in
set_option maxHeartbeats 800000 in
theorem times_any (x n : Int) (p : Nat) (w : World) (hx : IsB w p x) (hn : Ar.fits n = true) : Calls Tryd.prog 100 #[.slice (some ⟨p, 0, none⟩) 136 136, .int .i64 n] w fun e w' => ∃ b, e = .returned (.slice (some ⟨b, 0, none⟩) 136 136) ∧ w.heap.size ≤ b ∧ IsB w' b (x * n) ∧ Below w.heap.size w w' := by
 have HX := Lib.hid hx
 have HN := Lib.hid hn
 clear hx hn
 go_enter Tryd.func100, Tryd.ntmps100
 go_wp2_with fail
 refine (bits_any n _ HN.out).mono ?_
 rintro e w1 ⟨pb, rfl, gb, h1, B1⟩
 go_wp2_with fail
 refine (bits_any 0 _ (by decide)).mono ?_
 rintro e w2 ⟨ps, rfl, gs, h2, B2⟩
 have hpb := (h1.after B2)
 have hpa := (HX.out.after B1).after B2
 have hB := B1.trans (B2.mono B1.size)
 have gs' : w.heap.size ≤ ps := Nat.le_trans B1.size gs
 clear B1 B2 h1
 go_wp2
 go_loopw [0, 6, 7] (fun a s i wr => ∃ (k pa pq : Nat), k ≤ 64 ∧ i = .int .i64 k ∧ a = .slice (some ⟨pa, 0, none⟩) 136 136 ∧ s = .slice (some ⟨pq, 0, none⟩) 136 136 ∧ w.heap.size ≤ pq ∧ IsB wr pa (x * 2 ^ k) ∧ IsB wr pq (x * (n % 2 ^ k)) ∧ IsB wr pb n ∧ Below w.heap.size w wr) (fun _ _ i _ => 64 - (intOf i).toNat)
 case atStart => exact ⟨0, p, ps, by omega, rfl, rfl, rfl, gs', hpa.of (by simp), h2.of (by simp [Int.emod_one]), hpb, hB⟩
 case round =>
  obtain ⟨k, pa, pq, hk, rfl, rfl, rfl, gq, ha, hq, hb, hB'⟩ := hrel
  have M := Lib.hid (Ar.mul_next x n k)
  have e2 := Lib.hid (show 2 * (x * 2 ^ k) = x * 2 ^ (k + 1) by rw [Ar.p2_succ, Int.mul_left_comm])
  by_cases hlt : k < 64
  ·have A := Lib.hid ha
   have Q := Lib.hid hq
   have Bb := Lib.hid hb
   have HB := Lib.hid hB'
   rcases Ar.bit_01 k n with h0 | h0
   ·have hc : wr.cell? ⟨pb, k, none⟩ = some (.int .i64 0) := by rw [hb.cell k (by omega), h0]
    have H0 := Lib.hid h0
    clear ha hq hb hB' h0 hpa hpb h2
    go_wp2_with (go_at_call 123; refine (twice_any _ pa _ A.out).mono ?_; rintro e w3 ⟨b3, rfl, g3, h3, B3⟩)
    go_roundw
    case rel =>
     exact ⟨k + 1, b3, pq, by omega, by go_num, rfl, rfl, gq, h3.of e2.out, (Q.out.after B3).of (by rw [M.out, H0.out, if_neg (by decide)]; omega), Bb.out.after B3, HB.out.trans (B3.mono HB.out.size)⟩
    case measure => simp [intOf]; omega
   ·have hc : wr.cell? ⟨pb, k, none⟩ = some (.int .i64 1) := by rw [hb.cell k (by omega), h0]
    have H0 := Lib.hid h0
    clear ha hq hb hB' h0 hpa hpb h2
    go_wp2_with fail
    refine (plus_any _ _ pq pa _ Q.out A.out).mono ?_
    rintro e w3 ⟨b3, rfl, g3, h3, B3⟩
    have A3 := Lib.hid (A.out.after B3)
    go_wp2_with (go_at_call 123; refine (twice_any _ pa _ A3.out).mono ?_; rintro e w4 ⟨b4, rfl, g4, h4, B4⟩)
    go_roundw
    case rel =>
     have BB := HB.out.trans (B3.mono HB.out.size)
     exact ⟨k + 1, b4, b3, by omega, by go_num, rfl, rfl, Nat.le_trans HB.out.size g3, h4.of e2.out, (h3.after B4).of (by rw [M.out, H0.out, if_pos rfl]), (Bb.out.after B3).after B4, BB.trans (B4.mono BB.size)⟩
    case measure => simp [intOf]; omega
  ·obtain rfl : k = 64 := by omega
   have MF := Lib.hid (Ar.mul_full x n HN.out)
   have A := Lib.hid ha
   have Q := Lib.hid hq
   have HB := Lib.hid hB'
   have GQ := Lib.hid gq
   clear ha hq hb hB' hpa hpb h2 gq
   by_cases hneg : n < 0
   ·go_wp2_with fail
    refine (minus_any _ pa _ A.out).mono ?_
    rintro e w3 ⟨b3, rfl, g3, h3, B3⟩
    have Q3 := Lib.hid (Q.out.after B3)
    go_wp2_with fail
    refine (plus_any _ _ pq b3 _ Q3.out h3).mono ?_
    rintro e w4 ⟨b4, rfl, g4, h4, B4⟩
    go_wp2
    go_ret
    have BB := HB.out.trans (B3.mono HB.out.size)
    exact ⟨_, rfl, Nat.le_trans BB.size g4, h4.of (by rw [MF.out, if_pos hneg]), BB.trans (B4.mono BB.size)⟩
   ·go_wp2
    go_ret
    exact ⟨_, rfl, GQ.out, Q.out.of (by rw [MF.out, if_neg (by omega)]; omega), HB.out⟩

set_option maxRecDepth 100000 in
set_option maxHeartbeats 800000 in
theorem number_any (x : Int) (p : Nat) (w : World) (hx : IsB w p x) (x1 : -(2 ^ 135) ≤ x) (x2 : x < 2 ^ 135) : Calls Tryd.prog 102 #[.slice (some ⟨p, 0, none⟩) 136 136] w fun e w' => e = .returned (.tuple #[.int .i64 (Ar.fitV x), .bool (Ar.fits x)]) ∧ Below w.heap.size w w' := by
 have HX := Lib.hid hx
 have X12 := Lib.hid (And.intro x1 x2)
 clear hx x1 x2
 go_enter Tryd.func102, Tryd.ntmps102
 go_wp2
 go_loop [4, 5] (fun u i => ∃ k : Nat, k ≤ 64 ∧ i = .int .i64 ((k : Int) - 1) ∧ u = .int .u64 (Ar.hv x k)) (fun _ i => (intOf i + 1).toNat)
 case atStart => exact ⟨64, by omega, rfl, by rw [Ar.hv_top]⟩
 case round =>
  obtain ⟨k, hk, rfl, rfl⟩ := hrel
  by_cases hpos : 0 < k
  ·obtain ⟨k, rfl⟩ : ∃ j, k = j + 1 := ⟨k - 1, by omega⟩
   have hc : w.cell? ⟨p, k, none⟩ = some (.int .i64 (Ar.bit k x)) := HX.out.cell k (by omega)
   have hp := Ar.hv_prev x k (by omega)
   obtain ⟨v1, v2⟩ := Ar.hv_bd x k
   obtain ⟨v3, v4⟩ := Ar.hv_bd x (k + 1)
   obtain ⟨v5, v6⟩ := Ar.bit_bd k x
   have v7 : 2 * Ar.hv x (k + 1) + Ar.bit k x ≤ 18446744073709551615 := by omega
   have e0 : ((k + 1 : Nat) : Int) - 1 = k := by omega
   rw [e0]
   have i1 : (0 : Int) ≤ k := by omega
   have i2 : (k : Int) < 136 := by omega
   have HP := Lib.hid hp
   clear hp v2 v4 e0
   go_wp2
   go_round
   case rel => exact ⟨k, by omega, rfl, by rw [← HP.out]⟩
   case measure => simp [intOf]
  ·obtain rfl : k = 0 := by omega
   have U0 := Lib.hid (Ar.hv_zero x)
   obtain ⟨v1, v2⟩ := Ar.hv_bd x 0
   cases hf : Ar.fits x
   ·have F := Lib.hid hf
    clear hf
    go_wp2
    go_loopw [6] (fun i wr => ∃ k : Nat, 63 ≤ k ∧ k ≤ 136 ∧ i = .int .i64 k ∧ (∀ j, 63 ≤ j → j < k → Ar.bit j x = Ar.bit 63 x) ∧ Below w.heap.size w wr) (fun i _ => (136 - intOf i).toNat)
    case atStart => exact ⟨63, by omega, by omega, rfl, fun j h1 h2 => by omega, Below.refl _ _⟩
    case round =>
     obtain ⟨k, k1, k2, rfl, hall, hB⟩ := hrel
     by_cases hlt : k < 136
     ·have c1 : wr.cell? ⟨p, k, none⟩ = some (.int .i64 (Ar.bit k x)) := (hB.cell (p := ⟨p, k, none⟩) HX.out.lt).trans (HX.out.cell k hlt)
      have c2 : wr.cell? ⟨p, 63, none⟩ = some (.int .i64 (Ar.bit 63 x)) := (hB.cell (p := ⟨p, 63, none⟩) HX.out.lt).trans (HX.out.cell 63 (by omega))
      have HA := Lib.hid hall
      have i1 : (0 : Int) ≤ k := by omega
      have i2 : (k : Int) < 136 := by omega
      clear hall
      by_cases e : Ar.bit k x = Ar.bit 63 x
      ·have eb : (Ar.bit k x != Ar.bit 63 x) = false := by simpa using e
       have E := Lib.hid e
       clear e
       go_wp2
       go_quiet (fail)
       go_wp2
       go_roundw
       case rel =>
        refine ⟨k + 1, by omega, by omega, by go_num, fun j h1 h2 => ?_, below_drewN hB _⟩
        by_cases q : j = k
        ·rw [q]; exact E.out
        ·exact HA.out j h1 (by omega)
       case measure => simp [intOf]; omega
      ·have eb : (Ar.bit k x != Ar.bit 63 x) = true := by simpa using e
       clear e
       go_wp2
       go_quiet (fail)
       go_wp2
       go_ret2
       exact ⟨ret_ib (by simp [Ar.fitV, F.out]) F.out.symm, below_drewN hB _⟩
     ·exfalso
      have := Ar.fit_of_bits X12.out.1 X12.out.2 (fun i h1 h2 => hall i h1 (by omega))
      rw [F.out] at this; cases this
   ·have F := Lib.hid hf
    have W := Lib.hid (show wrap64 (Ar.hv x 0) = x by
     rw [U0.out]; have := Ar.fits_t hf; unfold wrap64; omega)
    clear hf
    go_wp2
    go_loopw [6] (fun i wr => ∃ k : Nat, 63 ≤ k ∧ k ≤ 136 ∧ i = .int .i64 k ∧ Below w.heap.size w wr) (fun i _ => (136 - intOf i).toNat)
    case atStart => exact ⟨63, by omega, by omega, rfl, Below.refl _ _⟩
    case round =>
     obtain ⟨k, k1, k2, rfl, hB⟩ := hrel
     by_cases hlt : k < 136
     ·have c1 : wr.cell? ⟨p, k, none⟩ = some (.int .i64 (Ar.bit 63 x)) := by
       rw [← Ar.bit_fit F.out k k1]; exact (hB.cell (p := ⟨p, k, none⟩) HX.out.lt).trans (HX.out.cell k hlt)
      have c2 : wr.cell? ⟨p, 63, none⟩ = some (.int .i64 (Ar.bit 63 x)) := (hB.cell (p := ⟨p, 63, none⟩) HX.out.lt).trans (HX.out.cell 63 (by omega))
      have i1 : (0 : Int) ≤ k := by omega
      have i2 : (k : Int) < 136 := by omega
      go_wp2
      go_quiet (fail)
      go_wp2
      go_roundw
      case rel => exact ⟨k + 1, by omega, by omega, by go_num, below_drewN hB _⟩
      case measure => simp [intOf]; omega
     ·go_wp2
      go_ret2
      exact ⟨ret_ib (by rw [W.out]; simp [Ar.fitV, F.out]) F.out.symm, hB⟩
end Go.Proofs.YtgceecnlgjmghaaDoor.ref07

namespace Go.Proofs.YtgceecnlgjmghaaDoor.ref07
open Go.RowKit Go.Proofs.YtgceecnlgjmghaaDoor.base

theorem pow_top : (2 : Int) ^ 135 = 43556142965880123323311949751266331066368 := by decide

set_option maxRecDepth 100000 in
theorem same_zero (x : Int) (p q : Nat) (w : World) (hx : IsB w p x) (hq : IsB w q 0) (x0 : 0 ≤ x) (x1 : x < 2 ^ 135) : Calls Tryd.prog 121 #[.slice (some ⟨p, 0, none⟩) 136 136, .slice (some ⟨q, 0, none⟩) 136 136] w fun e w' => e = .returned (.bool (decide (x = 0))) ∧ Below w.heap.size w w' := by
 have HX := Lib.hid hx
 have HQ := Lib.hid hq
 have X12 := Lib.hid (And.intro x0 x1)
 clear hx hq x0 x1
 by_cases hz : x = 0
 ·have ez := Lib.hid hz
  clear hz
  go_enter Tryd.func121, Tryd.ntmps121
  go_wp2
  go_loopw [5] (fun i wr => ∃ k : Nat, k ≤ 136 ∧ i = .int .i64 k ∧ Below w.heap.size w wr) (fun i _ => (136 - intOf i).toNat)
  case atStart => exact ⟨0, by omega, rfl, Below.refl _ _⟩
  case round =>
   obtain ⟨k, k2, rfl, hB⟩ := hrel
   by_cases hlt : k < 136
   ·have c1 : wr.cell? ⟨p, k, none⟩ = some (.int .i64 0) := by
     have := (hB.cell (p := ⟨p, k, none⟩) HX.out.lt).trans (HX.out.cell k hlt)
     rw [this, ez.out, Ar.bit_zero]
    have c2 : wr.cell? ⟨q, k, none⟩ = some (.int .i64 0) := by
     have := (hB.cell (p := ⟨q, k, none⟩) HQ.out.lt).trans (HQ.out.cell k hlt)
     rw [this, Ar.bit_zero]
    have i1 : (0 : Int) ≤ k := by omega
    have i2 : (k : Int) < 136 := by omega
    go_wp2
    go_quiet (fail)
    go_wp2
    go_roundw
    case rel => exact ⟨k + 1, by omega, by go_num, below_drewN hB _⟩
    case measure => simp [intOf]; omega
   ·go_wp2
    go_ret
    exact ⟨ret_bool (by simp [ez.out]), hB⟩
 ·have nz := Lib.hid hz
  clear hz
  go_enter Tryd.func121, Tryd.ntmps121
  go_wp2
  go_loopw [5] (fun i wr => ∃ k : Nat, k ≤ 136 ∧ i = .int .i64 k ∧ (∀ j, j < k → Ar.bit j x = 0) ∧ Below w.heap.size w wr) (fun i _ => (136 - intOf i).toNat)
  case atStart => exact ⟨0, by omega, rfl, fun j h => by omega, Below.refl _ _⟩
  case round =>
   obtain ⟨k, k2, rfl, hall, hB⟩ := hrel
   have HA := Lib.hid hall
   clear hall
   by_cases hlt : k < 136
   ·have c2 : wr.cell? ⟨q, k, none⟩ = some (.int .i64 0) := by
     have := (hB.cell (p := ⟨q, k, none⟩) HQ.out.lt).trans (HQ.out.cell k hlt)
     rw [this, Ar.bit_zero]
    have c1 := (hB.cell (p := ⟨p, k, none⟩) HX.out.lt).trans (HX.out.cell k hlt)
    have i1 : (0 : Int) ≤ k := by omega
    have i2 : (k : Int) < 136 := by omega
    rcases Ar.bit_01 k x with h0 | h0
    ·have E := Lib.hid h0
     rw [h0] at c1
     clear h0
     go_wp2
     go_quiet (fail)
     go_wp2
     go_roundw
     case rel =>
      refine ⟨k + 1, by omega, by go_num, fun j h2 => ?_, below_drewN hB _⟩
      by_cases q : j = k
      ·rw [q]; exact E.out
      ·exact HA.out j (by omega)
     case measure => simp [intOf]; omega
    ·rw [h0] at c1
     clear h0
     go_wp2
     go_quiet (fail)
     go_wp2
     go_ret
     exact ⟨ret_bool (by simp [nz.out]), below_drewN hB _⟩
   ·exfalso
    obtain rfl : k = 136 := by omega
    exact nz.out (Ar.zero_of_bits X12.out.1 X12.out.2 (fun i h => HA.out i (by omega)))
theorem keep0 {a : Addr} {v : Value} {w : World} (h : w.cell? a = some v) : w.drew.cell? a = some v ∧ Below w.heap.size w w.drew := ⟨h, (Below.refl _ _).drew⟩
theorem keepS {a : Addr} {v : Value} {w x y : World} (h : x.cell? a = some v) (hx : Below w.heap.size w x) (hy : Below x.heap.size x y) : y.cell? a = some v ∧ Below w.heap.size w y :=
 ⟨(hy.cell (lt_of_cell h)).trans h, hx.trans (hy.mono hx.size)⟩
/-- The pair of slices that a division answers. -/
def Pair (w w' : World) (e : Ending) (x y : Int) : Prop := ∃ b c : Nat, e = .returned (.tuple #[.slice (some ⟨b, 0, none⟩) 136 136, .slice (some ⟨c, 0, none⟩) 136 136]) ∧ IsB w' b x ∧ IsB w' c y ∧ Below w.heap.size w w'

set_option maxRecDepth 100000 in
set_option maxHeartbeats 1000000 in
theorem upon_any (x c : Int) (p : Nat) (w : World) (hx : IsB w p x) (x1 : 0 ≤ x) (x2 : x < 2 ^ 135) (c1 : 1 ≤ c) (hc : Ar.fits c = true) : Calls Tryd.prog 119 #[.slice (some ⟨p, 0, none⟩) 136 136, .int .i64 c] w fun e w' => Pair w w' e (x / c) (x % c) := by
 have HX := Lib.hid hx
 have X12 := Lib.hid (And.intro x1 x2)
 have HC := Lib.hid hc
 clear hx x1 x2 hc
 go_enter Tryd.func119, Tryd.ntmps119
 go_wp2_with fail
 refine (bits_any 0 _ (by decide)).mono ?_
 rintro e w1 ⟨pq, rfl, gq, h1, B1⟩
 go_wp2_with fail
 refine (bits_any 0 _ (by decide)).mono ?_
 rintro e w2 ⟨pr, rfl, gr, h2, B2⟩
 have hq := h1.after B2
 have hB := B1.trans (B2.mono B1.size)
 clear h1 B1 B2
 go_wp2
 go_loopw [6, 7, 8] (fun q r i wr => ∃ (k pq pr : Nat), k ≤ 136 ∧ i = .int .i64 ((k : Int) - 1) ∧ q = .slice (some ⟨pq, 0, none⟩) 136 136 ∧ r = .slice (some ⟨pr, 0, none⟩) 136 136 ∧ IsB wr pq (x / 2 ^ k / c) ∧ IsB wr pr (x / 2 ^ k % c) ∧ Below w.heap.size w wr) (fun _ _ i _ => (intOf i + 1).toNat)
 case atStart =>
  have e : x / 2 ^ 136 = 0 := Ar.top_div X12.out.1 X12.out.2
  exact ⟨136, pq, pr, by omega, rfl, rfl, rfl, hq.of (by rw [e]; simp), h2.of (by rw [e]; simp), hB⟩
 case round =>
  obtain ⟨k, pq, pr, hk, rfl, rfl, rfl, ha, hb, hB'⟩ := hrel
  by_cases hpos : 0 < k
  ·obtain ⟨k, rfl⟩ : ∃ j, k = j + 1 := ⟨k - 1, by omega⟩
   have e0 : ((k + 1 : Nat) : Int) - 1 = k := by omega
   rw [e0]
   clear e0
   have D := Lib.hid (Ar.div_next (A := x / 2 ^ (k + 1)) (A' := x / 2 ^ k) (b := Ar.bit k x) (c := c) (by omega) rfl rfl (Ar.half x k) (Ar.bit_bd k x).1 (Ar.bit_bd k x).2)
   have r0 := Int.emod_nonneg (x / 2 ^ (k + 1)) (show c ≠ 0 by omega)
   have r1 := Int.emod_lt_of_pos (x / 2 ^ (k + 1)) (show 0 < c by omega)
   generalize x / 2 ^ (k + 1) / c = Q at *
   generalize x / 2 ^ (k + 1) % c = R at *
   obtain ⟨v5, v6⟩ := Ar.bit_bd k x
   have hf : Ar.fits (Ar.bit k x) = true := Ar.fits_mk (by omega) (by omega)
   have HF := Lib.hid hf
   have cb := Ar.fits_t HC.out
   have A := Lib.hid ha
   have Bq := Lib.hid hb
   have HB := Lib.hid hB'
   have i1 : (0 : Int) ≤ k := by omega
   have i2 : (k : Int) < 136 := by omega
   have RB := Lib.hid (And.intro r0 (And.intro r1 cb))
   clear ha hb hB' hq h2 hB hf r0 r1 cb
   go_wp2_with fail
   refine (twice_any _ pq _ A.out).mono ?_
   rintro e w3 ⟨b3, rfl, g3, h3, B3⟩
   have Br := Bq.out.after B3
   have HB3 := HB.out.trans (B3.mono HB.out.size)
   have hc3 : w3.cell? ⟨p, k, none⟩ = some (.int .i64 (Ar.bit k x)) := (HB3.cell (p := ⟨p, k, none⟩) HX.out.lt).trans (HX.out.cell k (by omega))
   go_wp2
   go_region_held3 (fun w' => w'.cell? ⟨p, k, none⟩ = some (.int .i64 (Ar.bit k x)) ∧ Below w3.heap.size w3 w')
    (first
     | exact keep0 hc3
     | (go_split_ands; exact keepS (by assumption) (by assumption) B4)
     | (go_split_ands; exact keepS (by assumption) (by assumption) B5)
     | (go_split_ands; exact keepS (by assumption) (by assumption) B6))
    (first
     | (go_at_call 123; refine (twice_any R pr _ (Br.after (by go_split_ands; assumption))).mono ?_; rintro e w4 ⟨b4, rfl, g4, h4, B4⟩)
     | (go_at_call 101; refine (bits_any (Ar.bit k x) _ HF.out).mono ?_; rintro e w5 ⟨b5, rfl, g5, h5, B5⟩)
     | (go_at_call 122; refine (plus_any _ _ _ _ _ (h4.after B5) h5).mono ?_; rintro e w6 ⟨b6, rfl, g6, h6, B6⟩))
   have hS : w6.cell? ⟨p, k, none⟩ = some (.int .i64 (Ar.bit k x)) ∧ Below w3.heap.size w3 w6 := by assumption
   have HB6 := HB3.trans (hS.2.mono HB3.size)
   have hq6 := Lib.hid (h3.after hS.2)
   have hr6 := Lib.hid h6
   clear B4 B5 B6 h4 h5 h6 hc3 hS h3 HB3
   go_wp2_with fail
   refine (bits_any c _ HC.out).mono ?_
   rintro e w7 ⟨b7, rfl, g7, h7, B7⟩
   go_wp2_with fail
   refine (minus_any _ _ _ h7).mono ?_
   rintro e w8 ⟨b8, rfl, g8, h8, B8⟩
   go_wp2_with fail
   refine (plus_any _ _ _ _ _ ((hr6.out.after B7).after B8) h8).mono ?_
   rintro e w9 ⟨b9, rfl, g9, h9, B9⟩
   have hl := h9.of (show 2 * R + Ar.bit k x + -c = 2 * R + Ar.bit k x - c by omega)
   have hr9 := Lib.hid (((hr6.out.after B7).after B8).after B9)
   have hq9 := Lib.hid (((hq6.out.after B7).after B8).after B9)
   have HB7 := HB6.trans (B7.mono HB6.size)
   have HB8 := HB7.trans (B8.mono HB7.size)
   have HB9 := Lib.hid (HB8.trans (B9.mono HB8.size))
   have rng : -(2 ^ 135) ≤ 2 * R + Ar.bit k x - c ∧ 2 * R + Ar.bit k x - c < 2 ^ 135 := by
    obtain ⟨r0, r1, c0, c1⟩ := RB.out
    rw [pow_top]; omega
   have RN := Lib.hid rng
   have HL := Lib.hid hl
   clear B7 B8 B9 h7 h8 h9 HB6 HB7 HB8 hl rng
   by_cases hs : 2 * R + Ar.bit k x - c < 0
   ·have E := Lib.hid (D.out.1 hs)
    have HS := Lib.hid hs
    clear hs
    go_wp2_with fail
    refine (below_t _ _ _ HL.out RN.out.1 RN.out.2 HS.out).mono ?_
    rintro e w' ⟨rfl, rfl⟩
    go_wp2
    go_roundw
    case rel => exact ⟨k, b3, b6, by omega, rfl, rfl, rfl, hq9.out.of E.out.1.symm, hr9.out.of E.out.2.symm, HB9.out⟩
    case measure => simp [intOf]
   ·have E := Lib.hid (D.out.2 (by omega))
    have HS := Lib.hid hs
    clear hs
    go_wp2_with fail
    refine (below_f _ _ _ HL.out RN.out.1 RN.out.2 (by have := HS.out; omega)).mono ?_
    rintro e w' ⟨rfl, rfl⟩
    go_wp2_with fail
    refine (bits_any 1 _ (by decide)).mono ?_
    rintro e w10 ⟨b10, rfl, g10, h10, B10⟩
    go_wp2_with fail
    refine (plus_any _ _ _ _ _ (hq9.out.after B10) h10).mono ?_
    rintro e w11 ⟨b11, rfl, g11, h11, B11⟩
    have HL11 := Lib.hid ((HL.out.after B10).after B11)
    have H11 := Lib.hid h11
    have HB10 := HB9.out.trans (B10.mono HB9.out.size)
    have HB11 := Lib.hid (HB10.trans (B11.mono HB10.size))
    clear B10 B11 h10 h11 HB10
    go_wp2
    go_roundw
    case rel => exact ⟨k, b11, b9, by omega, rfl, rfl, rfl, H11.out.of E.out.1.symm, HL11.out.of E.out.2.symm, HB11.out⟩
    case measure => simp [intOf]
  ·obtain rfl : k = 0 := by omega
   have A := Lib.hid ha
   have Bq := Lib.hid hb
   have HB := Lib.hid hB'
   clear ha hb hB'
   go_wp2
   go_ret2
   exact ⟨pq, pr, rfl, A.out.of (by simp), Bq.out.of (by simp), HB.out⟩
end Go.Proofs.YtgceecnlgjmghaaDoor.ref07

namespace Go.Proofs.YtgceecnlgjmghaaDoor.ref07
open Go.RowKit Go.Proofs.YtgceecnlgjmghaaDoor.base

theorem pow_126 : (2 : Int) ^ 126 = 85070591730234615865843651857942052864 := by decide

set_option maxHeartbeats 400000 in
theorem floor_any (x c : Int) (p : Nat) (w : World) (hx : IsB w p x) (x1 : -(2 ^ 135) < x) (x2 : x < 2 ^ 135) (c1 : 1 ≤ c) (hc : Ar.fits c = true) : Calls Tryd.prog 99 #[.slice (some ⟨p, 0, none⟩) 136 136, .int .i64 c] w fun e w' => Pair w w' e (x / c) (x % c) := by
 have HX := Lib.hid hx
 have X12 := Lib.hid (And.intro x1 x2)
 have HC := Lib.hid hc
 clear hx x1 x2 hc
 by_cases hs : x < 0
 ·have HS := Lib.hid hs
  clear hs
  have D := Lib.hid (Ar.neg_div (x := x) (c := c) (by omega))
  have Y1 := Lib.hid (show 0 ≤ -x ∧ -x < 2 ^ 135 by have := X12.out; have := HS.out; omega)
  have r0 := Int.emod_nonneg (-x) (show c ≠ 0 by omega)
  have r1 := Int.emod_lt_of_pos (-x) (show 0 < c by omega)
  have cb := Ar.fits_t HC.out
  have RB := Lib.hid (show 0 ≤ (-x) % c ∧ (-x) % c < 2 ^ 135 by rw [pow_top]; omega)
  clear r0 r1 cb
  go_enter Tryd.func99, Tryd.ntmps99
  go_wp2_with fail
  refine (below_t _ _ _ HX.out (Int.le_of_lt X12.out.1) X12.out.2 HS.out).mono ?_
  rintro e w' ⟨rfl, rfl⟩
  go_wp2_with fail
  refine (minus_any _ _ _ HX.out).mono ?_
  rintro e w1 ⟨b1, rfl, g1, h1, B1⟩
  go_wp2_with fail
  refine (upon_any _ _ _ _ h1 Y1.out.1 Y1.out.2 c1 HC.out).mono ?_
  rintro e w2 ⟨b2, b3, rfl, h2, h3, B2⟩
  have HB2 := B1.trans (B2.mono B1.size)
  clear h1 B1 B2
  go_wp2_with fail
  refine (bits_any 0 _ (by decide)).mono ?_
  rintro e w3 ⟨b4, rfl, g4, h4, B3⟩
  go_wp2_with fail
  refine (same_zero _ _ _ _ (h3.after B3) h4 RB.out.1 RB.out.2).mono ?_
  rintro e w4 ⟨rfl, B4⟩
  have HB3 := HB2.trans (B3.mono HB2.size)
  have HB4 := HB3.trans (B4.mono HB3.size)
  have k2 := Lib.hid ((h2.after B3).after B4)
  have k3 := Lib.hid ((h3.after B3).after B4)
  have K4 := Lib.hid HB4
  clear HB2 HB3 HB4 B3 B4 h2 h3 h4
  by_cases hz : (-x) % c = 0
  ·have E := Lib.hid (D.out.1 hz)
   clear D
   go_wp2_with fail
   refine (minus_any _ _ _ k2.out).mono ?_
   rintro e w5 ⟨b5, rfl, g5, h5, B5⟩
   go_wp2
   go_ret2
   exact ⟨_, _, rfl, h5.of E.out.1.symm, (k3.out.after B5).of E.out.2.symm, K4.out.trans (B5.mono K4.out.size)⟩
  ·have E := Lib.hid (D.out.2 hz)
   clear D
   go_wp2_with fail
   refine (bits_any 1 _ (by decide)).mono ?_
   rintro e w5 ⟨b5, rfl, g5, h5, B5⟩
   go_wp2_with fail
   refine (plus_any _ _ _ _ _ (k2.out.after B5) h5).mono ?_
   rintro e w6 ⟨b6, rfl, g6, h6, B6⟩
   go_wp2_with fail
   refine (minus_any _ _ _ h6).mono ?_
   rintro e w7 ⟨b7, rfl, g7, h7, B7⟩
   go_wp2_with fail
   refine (bits_any c _ HC.out).mono ?_
   rintro e w8 ⟨b8, rfl, g8, h8, B8⟩
   go_wp2_with fail
   refine (minus_any _ _ _ ((((k3.out.after B5).after B6).after B7).after B8)).mono ?_
   rintro e w9 ⟨b9, rfl, g9, h9, B9⟩
   go_wp2_with fail
   refine (plus_any _ _ _ _ _ (h8.after B9) h9).mono ?_
   rintro e w10 ⟨b10, rfl, g10, h10, B10⟩
   go_wp2
   go_ret2
   have K5 := K4.out.trans (B5.mono K4.out.size)
   have K6 := K5.trans (B6.mono K5.size)
   have K7 := K6.trans (B7.mono K6.size)
   have K8 := K7.trans (B8.mono K7.size)
   have K9 := K8.trans (B9.mono K8.size)
   exact ⟨_, _, rfl, (((h7.after B8).after B9).after B10).of E.out.1.symm, h10.of E.out.2.symm, K9.trans (B10.mono K9.size)⟩
 ·have HS := Lib.hid hs
  clear hs
  go_enter Tryd.func99, Tryd.ntmps99
  go_wp2_with fail
  refine (below_f _ _ _ HX.out (Int.le_of_lt X12.out.1) X12.out.2 (by have := HS.out; omega)).mono ?_
  rintro e w' ⟨rfl, rfl⟩
  go_wp2_with fail
  refine (upon_any _ _ _ _ HX.out (by have := HS.out; omega) X12.out.2 c1 HC.out).mono ?_
  rintro e w2 ⟨b2, b3, rfl, h2, h3, B2⟩
  go_wp2
  go_ret2
  exact ⟨_, _, rfl, h2, h3, B2⟩

theorem rng_prod {a b : Int} (ha : Ar.fits a = true) (hb : Ar.fits b = true) : -(2 ^ 135) < a * b ∧ a * b < 2 ^ 135 := by
 have := Ar.prod_bd ha hb; rw [pow_top]; rw [pow_126] at this; omega
/-- The quotient's and the rest's sizes. -/
theorem quot_rng {x c : Int} (x1 : -(2 ^ 126) ≤ x) (x2 : x ≤ 2 ^ 126) (c1 : 1 ≤ c) (hc : Ar.fits c = true) :
  (-(2 ^ 127) ≤ x / c ∧ x / c ≤ 2 ^ 127) ∧ 0 ≤ x % c ∧ x % c < c ∧ Ar.fits (x % c) = true := by
 have e := Int.mul_ediv_add_emod x c
 have r0 := Int.emod_nonneg x (show c ≠ 0 by omega)
 have r1 := Int.emod_lt_of_pos x (show 0 < c by omega)
 have cb := Ar.fits_t hc
 have e127 : (2 : Int) ^ 127 = 170141183460469231731687303715884105728 := by decide
 rw [pow_126] at x1 x2
 rw [e127]
 have q1 : x / c ≤ x.natAbs := by
  by_cases h : 0 ≤ x
  ·have := Int.ediv_le_self c h; omega
  ·have : x / c < 0 := Int.ediv_neg_of_neg_of_pos (by omega) (by omega); omega
 have q2 : -(x.natAbs : Int) ≤ x / c := by
  by_cases h : 0 ≤ x
  ·have := Int.ediv_nonneg h (show 0 ≤ c by omega); omega
  ·have : x ≤ x / c := by
    have h1 : c * (x / c) ≤ 1 * (x / c) := Int.mul_le_mul_of_nonpos_right (by omega) (Int.le_of_lt (Int.ediv_neg_of_neg_of_pos (by omega) (by omega)))
    have := Int.ediv_neg_of_neg_of_pos (show x < 0 by omega) (show 0 < c by omega)
    have h3 : x / c * c + x % c = x := by rw [Int.mul_comm]; exact e
    have h4 : x ≤ x / c ∨ x / c < x := by omega
    rcases h4 with h4 | h4
    ·exact h4
    ·exfalso
     have h5 := Int.mul_ediv_self_le (x := x) (k := c) (by omega)
     have h6 : c * (x / c) ≤ c * (x - 1) := Int.mul_le_mul_of_nonneg_left (by omega) (by omega)
     have h7 : c * (x - 1) = c * x - c := by rw [Int.mul_sub, Int.mul_one]
     have h8 : c * x ≤ 1 * x := Int.mul_le_mul_of_nonpos_right (by omega) (by omega)
     omega
   omega
 exact ⟨⟨by omega, by omega⟩, r0, r1, Ar.fits_mk (by omega) (by omega)⟩
end Go.Proofs.YtgceecnlgjmghaaDoor.ref07

namespace Go.Proofs.YtgceecnlgjmghaaDoor.ref07
open Go.RowKit Go.Proofs.YtgceecnlgjmghaaDoor.base

theorem rng_127 {x : Int} (h : -(2 ^ 127) ≤ x ∧ x ≤ 2 ^ 127) : -(2 ^ 135) ≤ x ∧ x < 2 ^ 135 := by
 have e127 : (2 : Int) ^ 127 = 170141183460469231731687303715884105728 := by decide
 rw [pow_top]; rw [e127] at h; omega

set_option maxHeartbeats 400000 in
theorem mulDiv_any (a b c : Int) (w : World) (ha : Ar.fits a = true) (hb : Ar.fits b = true) (hc : Ar.fits c = true) : Calls Tryd.prog 89 #[.int .i64 a, .int .i64 b, .int .i64 c] w fun e w' => e = .returned (.tuple #[.int .i64 (Ar.mdQ a b c), .int .i64 (Ar.mdR a b c), .bool (Ar.mdI a b c)]) ∧ Below w.heap.size w w' := by
 by_cases h0 : 0 < c
 ·have P := Ar.prod_bd ha hb
  have R := Lib.hid (rng_prod ha hb)
  have Q := quot_rng P.1 P.2 (show 1 ≤ c by omega) hc
  have RQ := Lib.hid (rng_127 Q.1)
  have RR := Lib.hid (show -(2 ^ 135) ≤ a * b % c ∧ a * b % c < 2 ^ 135 by have := Ar.fits_t Q.2.2.2; rw [pow_top]; omega)
  have FR := Lib.hid Q.2.2.2
  have HA := Lib.hid ha
  have HB := Lib.hid hb
  have HC := Lib.hid hc
  clear ha hb hc P Q
  go_enter Tryd.func89, Tryd.ntmps89
  go_wp2_with fail
  refine (bits_any a _ HA.out).mono ?_
  rintro e w1 ⟨b1, rfl, g1, h1, B1⟩
  go_wp2_with fail
  refine (times_any _ b _ _ h1 HB.out).mono ?_
  rintro e w2 ⟨b2, rfl, g2, h2, B2⟩
  go_wp2_with fail
  refine (floor_any _ c _ _ h2 R.out.1 R.out.2 (by omega) HC.out).mono ?_
  rintro e w3 ⟨b3, b4, rfl, h3, h4, B3⟩
  have K2 := B1.trans (B2.mono B1.size)
  have K3 := K2.trans (B3.mono K2.size)
  clear B1 B2 K2 h1 h2 B3
  go_wp2_with fail
  refine (number_any _ _ _ h3 RQ.out.1 RQ.out.2).mono ?_
  rintro e w4 ⟨rfl, B4⟩
  have K4 := Lib.hid (K3.trans (B4.mono K3.size))
  have H4 := Lib.hid (h4.after B4)
  clear h3 h4 B4 K3
  cases hf : Ar.fits (a * b / c)
  ·have F := Lib.hid hf
   clear hf
   go_wp2
   go_ret3
   exact ⟨ret_iib (by simp [Ar.mdQ, Ar.fitV, F.out]) (by simp [Ar.mdR, F.out]) (by simp [Ar.mdI, F.out]), K4.out⟩
  ·have F := Lib.hid hf
   clear hf
   go_wp2_with fail
   refine (number_any _ _ _ H4.out RR.out.1 RR.out.2).mono ?_
   rintro e w5 ⟨rfl, B5⟩
   have K5 := Lib.hid (K4.out.trans (B5.mono K4.out.size))
   clear B5
   go_wp2
   go_ret3
   exact ⟨ret_iib (by simp [Ar.mdQ, h0]) (by simp [Ar.mdR, h0, F.out, Ar.fitV, FR.out]) (by simp [Ar.mdI, F.out, h0]), K5.out⟩
 ·clear ha hb hc
  have e1 : Ar.mdQ a b c = 0 := by simp [Ar.mdQ, h0]
  have e2 : Ar.mdR a b c = 0 := by simp [Ar.mdR, h0]
  have e3 : Ar.mdI a b c = false := by simp [Ar.mdI, h0]
  rw [e1, e2, e3]
  clear e1 e2 e3
  go_enter Tryd.func89, Tryd.ntmps89
  go_wp2
  go_ret3
  exact ⟨rfl, Below.refl _ _⟩

end Go.Proofs.YtgceecnlgjmghaaDoor.ref07

namespace Go.Proofs.YtgceecnlgjmghaaDoor.shelf
open Go.Shelf
def s_lays134_ren : Go.Shelf.Ren := ⟨fun | 134 => 97 | 129 => 113 | n => n, fun | 53 => 22 | 3 => 3 | 4 => 4 | 46 => 111 | 5 => 5 | 9 => 9 | n => n, fun | n => n⟩
theorem s_lays134 : Go.Proofs.Lays.n134 Tryd.prog s_lays134_ren := {
 mixed := by kernel_rfl
 f129 := Tryd.func113.trans (congrArg some (by kernel_rfl))
 f134 := Tryd.func97.trans (congrArg some (by kernel_rfl))
 t3 := Tryd.underlying3
 a3 := Tryd.isAgg3
 z3 := Tryd.sizeOf3
 v3 := Tryd.zeroValue3
 t4 := Tryd.underlying4
 a4 := Tryd.isAgg4
 z4 := Tryd.sizeOf4
 v4 := Tryd.zeroValue4
 t5 := Tryd.underlying5
 a5 := Tryd.isAgg5
 z5 := Tryd.sizeOf5
 v5 := Tryd.zeroValue5
 t9 := Tryd.underlying9
 a9 := Tryd.isAgg9
 z9 := Tryd.sizeOf9
 v9 := Tryd.zeroValue9
 t46 := Tryd.underlying111
 a46 := Tryd.isAgg111
 z46 := Tryd.sizeOf111
 v46 := Tryd.zeroValue111
 t53 := Tryd.underlying22
 a53 := Tryd.isAgg22
 z53 := Tryd.sizeOf22
 v53 := Tryd.zeroValue22 }
theorem s_bits_LeadingZeros64 (x : Int) (w : World) (h0 : 0 ≤ x) (h1 : x ≤ 18446744073709551615) :
  Calls Tryd.prog 97 #[.int .u64 x] w fun e w' => e = .returned (.int .i64 (64 - (Lib.bitLen x.toNat : Int))) ∧ w' = w := Any.bits_LeadingZeros64 s_lays134 x w h0 h1
def s_lays264_ren : Go.Shelf.Ren := ⟨fun | 264 => 115 | n => n, fun | 53 => 22 | 46 => 111 | n => n, fun | n => n⟩
theorem s_lays264 : Go.Proofs.Lays.n264 Tryd.prog s_lays264_ren := {
 mixed := by kernel_rfl
 f264 := Tryd.func115.trans (congrArg some (by kernel_rfl))
 t46 := Tryd.underlying111
 a46 := Tryd.isAgg111
 z46 := Tryd.sizeOf111
 v46 := Tryd.zeroValue111
 t53 := Tryd.underlying22
 a53 := Tryd.isAgg22
 z53 := Tryd.sizeOf22
 v53 := Tryd.zeroValue22 }
open Go.RowKit Go.Lib in
theorem s_bits_Mul64 (x y : Nat) (hx : x < 18446744073709551616) (hy : y < 18446744073709551616) (w : World) :
  Calls Tryd.prog 115 #[.int .u64 x, .int .u64 y] w fun e w' => e = .returned (.tuple #[.int .u64 ((x * y / 18446744073709551616 : Nat) : Int), .int .u64 ((x * y % 18446744073709551616 : Nat) : Int)]) ∧ w' = w := Any.bits_Mul64 s_lays264 x y hx hy w
/-- The carry that comes in is 0. -/
theorem add64 (x y : Int) (hx : 0 ≤ x) (hy : 0 ≤ y) (w : World) : (callFunc 56 #[.int .u64 x, .int .u64 y, .int .u64 0]).run Tryd.prog w =
  .ok (.value (.tuple #[.int .u64 ((x + y) % 18446744073709551616), .int .u64 ((x + y) / 18446744073709551616)])) w := by
 rw [run_callFunc_extern Tryd.func56 (by kernel_rfl) (by kernel_rfl) (by kernel_rfl) (e := add64Entry) (by kernel_rfl), run_add64 x y 0 hx hy (by omega) (by omega)]
 simp only [Result.andThen, Int.add_zero]
end Go.Proofs.YtgceecnlgjmghaaDoor.shelf

namespace Go.Proofs.YtgceecnlgjmghaaDoor.arith
open Go.RowKit Go.Proofs.YtgceecnlgjmghaaDoor.base

theorem wrapU (x : Int) : IntKind.u64.wrap x = x % 18446744073709551616 := by
 simp [IntKind.wrap, IntKind.signed, IntKind.bits]
theorem of_neg (a : Int) (w : World) (ha : Ar.fits a = true) (h : a < 0) : Calls Tryd.prog 95 #[.int .i64 a] w fun e w' => e = .returned (.tuple #[.int .u64 (-a), .bool true]) ∧ w = w' := by
 have f := Ar.fits_t ha
 have W := Lib.hid (show IntKind.u64.wrap (-(IntKind.u64.wrap a)) = -a by rw [wrapU, wrapU]; omega)
 clear ha f
 go_enter Tryd.func95, Tryd.ntmps95
 go_wp2
 go_ret2
 exact ⟨ret_ib W.out rfl, rfl⟩
theorem of_pos (a : Int) (w : World) (ha : Ar.fits a = true) (h : ¬ a < 0) : Calls Tryd.prog 95 #[.int .i64 a] w fun e w' => e = .returned (.tuple #[.int .u64 a, .bool false]) ∧ w = w' := by
 have f := Ar.fits_t ha
 clear ha
 go_enter Tryd.func95, Tryd.ntmps95
 go_wp2
 go_ret2
 exact ⟨rfl, rfl⟩
/-- The number of a size and a sign: what 'signed' answers. -/
def sg (n : Int) (neg : Bool) : Int := if neg = true then -n else n
theorem signed_any (n : Int) (neg : Bool) (w : World) (h0 : 0 ≤ n) (h1 : n ≤ 18446744073709551615) : Calls Tryd.prog 85 #[.int .u64 n, .bool neg] w fun e w' => e = .returned (.tuple #[.int .i64 (Ar.fitV (sg n neg)), .bool (Ar.fits (sg n neg))]) ∧ w = w' := by
 cases neg
 ·by_cases h : n < 9223372036854775808
  ·have e := Ar.fits_mk (x := n) (by omega) (by omega)
   have e1 := Lib.hid (show Ar.fitV (sg n false) = n by simp [sg, Ar.fitV, e])
   have e2 := Lib.hid (show Ar.fits (sg n false) = true by simp [sg, e])
   clear e
   go_enter Tryd.func85, Tryd.ntmps85
   go_wp2
   go_ret2
   exact ⟨ret_ib e1.out.symm e2.out.symm, rfl⟩
  ·have e := Ar.fits_no (x := n) (by omega)
   have e1 := Lib.hid (show Ar.fitV (sg n false) = 0 by simp [sg, Ar.fitV, e])
   have e2 := Lib.hid (show Ar.fits (sg n false) = false by simp [sg, e])
   clear e
   go_enter Tryd.func85, Tryd.ntmps85
   go_wp2
   go_ret2
   exact ⟨ret_ib e1.out.symm e2.out.symm, rfl⟩
 ·by_cases h : n ≤ 9223372036854775808
  ·have e := Ar.fits_mk (x := -n) (by omega) (by omega)
   have e1 := Lib.hid (show Ar.fitV (sg n true) = wrap64 (IntKind.u64.wrap (-n)) by
    simp only [sg, Ar.fitV, e, if_true]; rw [wrapU]; unfold wrap64; omega)
   have e2 := Lib.hid (show Ar.fits (sg n true) = true by simp [sg, e])
   clear e
   go_enter Tryd.func85, Tryd.ntmps85
   go_wp2
   go_ret2
   exact ⟨ret_ib e1.out.symm e2.out.symm, rfl⟩
  ·have e := Ar.fits_no (x := -n) (by omega)
   have e1 := Lib.hid (show Ar.fitV (sg n true) = 0 by simp [sg, Ar.fitV, e])
   have e2 := Lib.hid (show Ar.fits (sg n true) = false by simp [sg, e])
   clear e
   go_enter Tryd.func85, Tryd.ntmps85
   go_wp2
   go_ret2
   exact ⟨ret_ib e1.out.symm e2.out.symm, rfl⟩
theorem mul64 (x y : Int) (w : World) (hx : 0 ≤ x) (hx' : x < 18446744073709551616) (hy : 0 ≤ y) (hy' : y < 18446744073709551616) :
  Calls Tryd.prog 115 #[.int .u64 x, .int .u64 y] w fun e w' => e = .returned (.tuple #[.int .u64 (x * y / 18446744073709551616), .int .u64 (x * y % 18446744073709551616)]) ∧ w = w' := by
 obtain ⟨x, rfl⟩ := Int.eq_ofNat_of_zero_le hx
 obtain ⟨y, rfl⟩ := Int.eq_ofNat_of_zero_le hy
 refine (shelf.s_bits_Mul64 x y (by omega) (by omega) w).mono fun _ _ ⟨a, b⟩ => ⟨a.trans ?_, b.symm⟩
 simp only [Int.natCast_ediv, Int.natCast_emod, Int.natCast_mul]
 rfl
/-- A number's two words. -/
def hi (N : Int) : Int := N / 18446744073709551616
def lo (N : Int) : Int := N % 18446744073709551616
theorem product_any (x y : Int) (w : World) (hx : 0 ≤ x) (hx' : x < 18446744073709551616) (hy : 0 ≤ y) (hy' : y < 18446744073709551616) :
  Calls Tryd.prog 96 #[.int .u64 x, .int .u64 y] w fun e w' => e = .returned (.agg #[.int .u64 (hi (x * y)), .int .u64 (lo (x * y))]) ∧ Below w.heap.size w w' := by
 have M := Lib.hid (fun w => mul64 x y w hx hx' hy hy')
 clear hx hx' hy hy'
 go_enter Tryd.func96, Tryd.ntmps96
 go_wp2_with (go_at_call 115; refine (M.out _).mono ?_; rintro e w' ⟨rfl, rfl⟩)
 exact bodyPost_ret (v := .agg #[.int .u64 (hi (x * y)), .int .u64 (lo (x * y))]) (by simp [results, Tryd.results96, go_sem, hi, lo]) rfl ⟨rfl, (Below.refl _ _).alloc (Nat.le_refl _) _⟩

/-- The sum of the first k numbers. -/
def sumK (zs : List Int) (k : Nat) : Int := (zs.take k).sum
theorem sumK_succ (zs : List Int) (k : Nat) (h : k < zs.length) : sumK zs (k + 1) = sumK zs k + zs.getD k 0 := by
 unfold sumK
 rw [List.take_succ_eq_append_getElem h, List.sum_append, List.getD_eq_getElem?_getD, List.getElem?_eq_getElem h]
 simp
theorem sumK_zero (zs : List Int) : sumK zs 0 = 0 := by simp [sumK]
/-- The step of a sum of two words. -/
theorem sum_step {S a H L : Int} (ha : Ar.fits a = true) (hH : H = S / 18446744073709551616 % 18446744073709551616) (hL : L = S % 18446744073709551616) :
  (L + IntKind.u64.wrap a) % 18446744073709551616 = (S + a) % 18446744073709551616 ∧
  IntKind.u64.wrap (IntKind.u64.wrap (H + IntKind.u64.wrap (a / 9223372036854775808)) + (L + IntKind.u64.wrap a) / 18446744073709551616) = (S + a) / 18446744073709551616 % 18446744073709551616 := by
 have := Ar.fits_t ha
 rw [wrapU, wrapU, wrapU, wrapU]
 by_cases h : a < 0
 ·have e1 : a / 9223372036854775808 = -1 := by omega
  have e2 : a % 18446744073709551616 = a + 18446744073709551616 := by omega
  rw [e1, e2]; omega
 ·have e1 : a / 9223372036854775808 = 0 := by omega
  have e2 : a % 18446744073709551616 = a := by omega
  rw [e1, e2]; omega
theorem sum_end {S H L : Int} (h1 : -170141183460469231731687303715884105728 ≤ S) (h2 : S < 170141183460469231731687303715884105728) (hH : H = S / 18446744073709551616 % 18446744073709551616) (hL : L = S % 18446744073709551616) :
  (IntKind.u64.wrap (wrap64 L / 9223372036854775808) == H) = Ar.fits S ∧ (Ar.fits S = true → wrap64 L = S) := by
 obtain ⟨M, hM⟩ : ∃ M, M = S / 18446744073709551616 := ⟨_, rfl⟩
 rw [← hM] at hH
 have e0 : S = M * 18446744073709551616 + L := by omega
 have m1 : -9223372036854775808 ≤ M := by omega
 have m2 : M < 9223372036854775808 := by omega
 have l1 : 0 ≤ L := by omega
 have l2 : L < 18446744073709551616 := by omega
 clear hM hL
 by_cases hs : L < 9223372036854775808
 ·have e1 : wrap64 L = L := by unfold wrap64; omega
  have e2 : L / 9223372036854775808 = 0 := by omega
  have e3 : IntKind.u64.wrap 0 = 0 := by rw [wrapU]; rfl
  rw [e1, e2, e3]
  cases h : Ar.fits S
  ·have := Ar.fits_f h
   refine ⟨?_, fun h => by cases h⟩
   simp
   omega
  ·have := Ar.fits_t h
   refine ⟨?_, fun _ => by omega⟩
   simp
   omega
 ·have e1 : wrap64 L = L - 18446744073709551616 := by unfold wrap64; omega
  have e2 : (L - 18446744073709551616) / 9223372036854775808 = -1 := by omega
  have e3 : IntKind.u64.wrap (-1) = 18446744073709551615 := by rw [wrapU]; rfl
  rw [e1, e2, e3]
  cases h : Ar.fits S
  ·have := Ar.fits_f h
   refine ⟨?_, fun h => by cases h⟩
   simp
   omega
  ·have := Ar.fits_t h
   refine ⟨?_, fun _ => by omega⟩
   simp
   omega
theorem sum_any (zs : List Int) (b off c : Nat) (w : World) (hz : zs.length ≤ 1000000) (hc : ∀ j, j < zs.length → w.cell? ⟨b, off + j, none⟩ = some (.int .i64 (zs.getD j 0))) (hf : ∀ j, j < zs.length → Ar.fits (zs.getD j 0) = true) :
  Calls Tryd.prog 28 #[.slice (some ⟨b, off, none⟩) zs.length c] w fun e w' => e = .returned (.tuple #[.int .i64 (Ar.fitV (sumK zs zs.length)), .bool (Ar.fits (sumK zs zs.length))]) ∧ Below w.heap.size w w' := by
 have HC := Lib.hid hc
 have HF := Lib.hid hf
 clear hc hf
 go_enter Tryd.func28, Tryd.ntmps28
 go_wp2
 go_loopw [13] (fun i wr => ∃ (k : Nat) (H L : Int), k ≤ zs.length ∧ i = .int .i64 k ∧ H = sumK zs k / 18446744073709551616 % 18446744073709551616 ∧ L = sumK zs k % 18446744073709551616 ∧ -(9223372036854775808 * k) ≤ sumK zs k ∧ sumK zs k ≤ 9223372036854775808 * k ∧ wr = w.alloc (.cells #[.int .u64 H, .int .u64 L] 108) ) (fun i _ => (zs.length - intOf i).toNat)
 case atStart => exact ⟨0, 0, 0, by omega, rfl, by rw [sumK_zero]; rfl, by rw [sumK_zero]; rfl, by rw [sumK_zero]; decide, by rw [sumK_zero]; decide, rfl⟩
 case round =>
  obtain ⟨k, H, L, hk, rfl, hH, hL, s1, s2, rfl⟩ := hrel
  have H0 : 0 ≤ H := by omega
  have L0 : 0 ≤ L := by omega
  have H1 : H ≤ 18446744073709551615 := by omega
  have L1 : L ≤ 18446744073709551615 := by omega
  by_cases hlt : k < zs.length
  ·have c0 := HC.out k hlt
   have hb : b < w.heap.size := lt_of_cell c0
   have SS := Lib.hid (sumK_succ zs k hlt)
   have af := Ar.fits_t (HF.out k hlt)
   have ST := Lib.hid (sum_step (HF.out k hlt) hH hL)
   have hw : 0 ≤ IntKind.u64.wrap (zs.getD k 0) := by rw [wrapU]; omega
   have S12 := Lib.hid (And.intro s1 s2)
   generalize zs.getD k 0 = a at *
   have AF := Lib.hid af
   clear af hH hL s1 s2
   go_wp2_with (simp only [shelf.add64 L (IntKind.u64.wrap a) L0 hw])
   go_roundw
   case rel =>
    have := S12.out
    have := AF.out
    exact ⟨k + 1, _, _, by omega, by go_num, by rw [SS.out]; exact ST.out.2, by rw [SS.out]; exact ST.out.1, by rw [SS.out]; omega, by rw [SS.out]; omega, rfl⟩
   case measure => simp [intOf]; omega
  ·obtain rfl : k = zs.length := by omega
   have SE := Lib.hid (sum_end (by omega) (by omega) hH hL)
   have e := SE.out.1
   cases hfit : Ar.fits (sumK zs zs.length)
   ·rw [hfit] at e
    have F := Lib.hid hfit
    clear hfit hH hL s1 s2
    go_wp2
    go_ret2
    exact ⟨ret_ib (by simp [Ar.fitV, F.out]) F.out.symm, (Below.refl _ _).alloc (Nat.le_refl _) _⟩
   ·rw [hfit] at e
    have F := Lib.hid hfit
    clear hfit hH hL s1 s2
    go_wp2
    go_ret2
    exact ⟨ret_ib (by rw [SE.out.2 F.out]; simp [Ar.fitV, F.out]) F.out.symm, (Below.refl _ _).alloc (Nat.le_refl _) _⟩
end Go.Proofs.YtgceecnlgjmghaaDoor.arith

namespace Dv

/-- The guess of a quotient's digit: what holds of it at each round. P, Z: the divisor's halves; A: what is divided, u: its next digit. -/
def Inv (P Z A u q r : Int) : Prop := q * P + r = A ∧ (A * 4294967296 + u) / (P * 4294967296 + Z) ≤ q ∧ 0 ≤ r ∧ r ≤ 4294967295 ∧ 0 ≤ q ∧ q ≤ 4294967297
/-- What the guess must meet. -/
structure Ok (P Z A u : Int) : Prop where
 p1 : 2147483648 ≤ P
 p2 : P ≤ 4294967295
 z1 : 0 ≤ Z
 z2 : Z ≤ 4294967295
 a1 : 0 ≤ A
 a2 : A < P * 4294967296 + Z
 u1 : 0 ≤ u
 u2 : u ≤ 4294967295
theorem dig_bd {P Z A u : Int} (h : Ok P Z A u) : 0 ≤ (A * 4294967296 + u) / (P * 4294967296 + Z) ∧ (A * 4294967296 + u) / (P * 4294967296 + Z) ≤ 4294967295 := by
 obtain ⟨p1, p2, z1, z2, a1, a2, u1, u2⟩ := h
 refine ⟨Int.ediv_nonneg (by omega) (by omega), ?_⟩
 have : (A * 4294967296 + u) / (P * 4294967296 + Z) < 4294967296 := Int.ediv_lt_of_lt_mul (by omega) (by omega)
 omega
theorem le_dig {P Z A u q : Int} (h : Ok P Z A u) (hq : q * (P * 4294967296 + Z) ≤ A * 4294967296 + u) : q ≤ (A * 4294967296 + u) / (P * 4294967296 + Z) :=
 Int.le_ediv_of_mul_le (by have := h.p1; have := h.z1; omega) hq
theorem dig_lt {P Z A u q : Int} (h : Ok P Z A u) (hq : A * 4294967296 + u < q * (P * 4294967296 + Z)) : (A * 4294967296 + u) / (P * 4294967296 + Z) < q :=
 Int.ediv_lt_of_lt_mul (by have := h.p1; have := h.z1; omega) hq
theorem start {P Z A u : Int} (h : Ok P Z A u) : Inv P Z A u (A / P) (A % P) := by
 obtain ⟨p1, p2, z1, z2, a1, a2, u1, u2⟩ := id h
 have e := Int.mul_ediv_add_emod A P
 have r0 := Int.emod_nonneg A (show P ≠ 0 by omega)
 have r1 := Int.emod_lt_of_pos A (show 0 < P by omega)
 have q0 := Int.ediv_nonneg a1 (show 0 ≤ P by omega)
 have c : A / P * P = P * (A / P) := Int.mul_comm _ _
 generalize A / P = q at *
 generalize A % P = r at *
 have qb : q ≤ 4294967297 := by
  by_cases g : q ≤ 4294967297
  ·exact g
  ·exfalso
   have : P * 4294967298 ≤ P * q := Int.mul_le_mul_of_nonneg_left (by omega) (by omega)
   omega
 refine ⟨by omega, ?_, r0, by omega, q0, qb⟩
 have : (A * 4294967296 + u) / (P * 4294967296 + Z) < q + 1 := by
  refine dig_lt h ?_
  have e1 : (q + 1) * (P * 4294967296 + Z) = (P * q + P) * 4294967296 + (q * Z + Z) := by
   rw [Int.add_mul, Int.mul_add, Int.one_mul, ← Int.mul_assoc, Int.mul_comm q P]; omega
  have : 0 ≤ q * Z := Int.mul_nonneg q0 z1
  omega
 omega
theorem mulZ {P Z A u q r : Int} (h : Ok P Z A u) (i : Inv P Z A u q r) (hq : q < 4294967296) : 0 ≤ q * Z ∧ q * Z ≤ 18446744065119617025 := by
 obtain ⟨_, _, _, _, q0, _⟩ := i
 have := h.z1
 have := h.z2
 refine ⟨Int.mul_nonneg q0 h.z1, ?_⟩
 have a : q * Z ≤ 4294967295 * Z := Int.mul_le_mul_of_nonneg_right (by omega) h.z1
 omega
/-- The guess was too great. -/
theorem down {P Z A u q r : Int} (h : Ok P Z A u) (i : Inv P Z A u q r) (c : 4294967296 ≤ q ∨ 4294967296 * r + u < q * Z) :
  1 ≤ q ∧ (A * 4294967296 + u) / (P * 4294967296 + Z) ≤ q - 1 ∧ (q - 1) * P + (r + P) = A ∧ q - 1 ≤ 4294967296 := by
 obtain ⟨i1, i2, i3, i4, i5, i6⟩ := i
 have hd := dig_bd h
 have hlt : (A * 4294967296 + u) / (P * 4294967296 + Z) < q := by
  rcases c with c | c
  ·omega
  ·refine dig_lt h ?_
   have e : q * (P * 4294967296 + Z) = q * P * 4294967296 + q * Z := by rw [Int.mul_add, Int.mul_assoc]
   omega
 refine ⟨by omega, by omega, by rw [Int.sub_mul]; omega, by omega⟩
theorem down_inv {P Z A u q r : Int} (h : Ok P Z A u) (i : Inv P Z A u q r) (c : 4294967296 ≤ q ∨ 4294967296 * r + u < q * Z) (g : r + P < 4294967296) : Inv P Z A u (q - 1) (r + P) := by
 obtain ⟨a, b, d, e⟩ := down h i c
 have := h.p1
 exact ⟨d, b, by have := i.2.2.1; omega, by omega, by omega, by omega⟩
theorem down_end {P Z A u q r : Int} (h : Ok P Z A u) (i : Inv P Z A u q r) (c : 4294967296 ≤ q ∨ 4294967296 * r + u < q * Z) (g : 4294967296 ≤ r + P) : q - 1 = (A * 4294967296 + u) / (P * 4294967296 + Z) := by
 obtain ⟨a, b, d, e⟩ := down h i c
 have := h.u1
 have z1 := h.z1
 have z2 := h.z2
 have : q - 1 ≤ (A * 4294967296 + u) / (P * 4294967296 + Z) := by
  refine le_dig h ?_
  have e1 : (q - 1) * (P * 4294967296 + Z) = (q - 1) * P * 4294967296 + (q - 1) * Z := by rw [Int.mul_add, Int.mul_assoc]
  have e2 : (q - 1) * Z ≤ 4294967296 * Z := Int.mul_le_mul_of_nonneg_right (by omega) z1
  omega
 omega
theorem stop {P Z A u q r : Int} (h : Ok P Z A u) (i : Inv P Z A u q r) (c : q * Z ≤ 4294967296 * r + u) : q = (A * 4294967296 + u) / (P * 4294967296 + Z) := by
 obtain ⟨i1, i2, i3, i4, i5, i6⟩ := i
 have : q ≤ (A * 4294967296 + u) / (P * 4294967296 + Z) := by
  refine le_dig h ?_
  have e1 : q * (P * 4294967296 + Z) = q * P * 4294967296 + q * Z := by rw [Int.mul_add, Int.mul_assoc]
  omega
 omega
/-- What is left is reckoned among numbers of 64 bits. -/
theorem rest {A u V q : Int} (hV : 0 < V) (hV2 : V ≤ 18446744073709551615) (hq : q = (A * 4294967296 + u) / V) :
  (((A * 4294967296) % 18446744073709551616 + u) % 18446744073709551616 - (q * V) % 18446744073709551616) % 18446744073709551616 = (A * 4294967296 + u) % V := by
 have e := Int.mul_ediv_add_emod (A * 4294967296 + u) V
 have r0 := Int.emod_nonneg (A * 4294967296 + u) (show V ≠ 0 by omega)
 have r1 := Int.emod_lt_of_pos (A * 4294967296 + u) hV
 rw [← hq] at e
 have c : q * V = V * q := Int.mul_comm _ _
 omega
/-- Both digits together: the quotient and the rest of the whole. -/
theorem both {A t V q1 q0 : Int} (hV : 0 < V) (hq1 : q1 = (A * 4294967296 + t / 4294967296) / V) (hq0 : q0 = ((A * 4294967296 + t / 4294967296) % V * 4294967296 + t % 4294967296) / V) :
  q1 * 4294967296 + q0 = (A * 18446744073709551616 + t) / V ∧ ((A * 4294967296 + t / 4294967296) % V * 4294967296 + t % 4294967296) % V = (A * 18446744073709551616 + t) % V := by
 have e1 := Int.mul_ediv_add_emod (A * 4294967296 + t / 4294967296) V
 have e0 := Int.mul_ediv_add_emod ((A * 4294967296 + t / 4294967296) % V * 4294967296 + t % 4294967296) V
 have r0 := Int.emod_nonneg ((A * 4294967296 + t / 4294967296) % V * 4294967296 + t % 4294967296) (show V ≠ 0 by omega)
 have r1 := Int.emod_lt_of_pos ((A * 4294967296 + t / 4294967296) % V * 4294967296 + t % 4294967296) hV
 rw [← hq1] at e1
 rw [← hq0] at e0
 generalize (A * 4294967296 + t / 4294967296) % V = R at *
 generalize (R * 4294967296 + t % 4294967296) % V = S at *
 have h := (Int.ediv_emod_unique (a := A * 18446744073709551616 + t) (b := V) (r := S) (q := q1 * 4294967296 + q0) hV).2 ⟨by
  rw [Int.mul_add, ← Int.mul_assoc]; omega, r0, r1⟩
 exact ⟨h.1.symm, h.2.symm⟩
/-- Both sides shifted: the quotient stays, the rest is shifted. -/
theorem shifted {N y S : Int} (hS : 0 < S) : (N * S) / (y * S) = N / y ∧ (N * S) % (y * S) = N % y * S := by
 refine ⟨Int.mul_ediv_mul_of_pos_left _ _ hS, ?_⟩
 rw [Int.mul_comm N S, Int.mul_comm y S, Int.mul_emod_mul_of_pos _ _ hS, Int.mul_comm]
end Dv

namespace Go.Proofs.YtgceecnlgjmghaaDoor.arith
open Go.RowKit Go.Proofs.YtgceecnlgjmghaaDoor.base

theorem div_small (l y : Int) (w : World) (l0 : 0 ≤ l) (l1 : l ≤ 18446744073709551615) (y0 : 1 ≤ y) (y1 : y ≤ 9223372036854775807) : Calls Tryd.prog 84 #[.int .u64 0, .int .u64 l, .int .u64 y] w fun e w' => e = .returned (.tuple #[.int .u64 (l / y), .int .u64 (l % y)]) ∧ ∃ n, w' = w.drewN n := by
 have hy : (y == 0) = false := by simp; omega
 have h2 : ¬ y ≤ 0 := by omega
 have q0 := Int.ediv_nonneg l0 (show 0 ≤ y by omega)
 have q1 : l / y ≤ 18446744073709551615 := by have := Int.ediv_le_self y l0; omega
 have r0 := Int.emod_nonneg l (show y ≠ 0 by omega)
 have r1 := Int.emod_lt_of_pos l (show 0 < y by omega)
 have t1 : l.tdiv y = l / y := Int.tdiv_eq_ediv_of_nonneg l0
 have t2 : l.tmod y = l % y := Int.tmod_eq_emod_of_nonneg l0
 have w1 : IntKind.u64.wrap (l / y) = l / y := by rw [wrapU]; omega
 have w2 : IntKind.u64.wrap (l % y) = l % y := by rw [wrapU]; omega
 go_enter Tryd.func84, Tryd.ntmps84
 go_wp2
 go_quiet (fail)
 go_wp2
 go_ret2
 exact ⟨rfl, _, rfl⟩
/-- A digit of the quotient, guessed and corrected: the loop's two ways out meet. -/
def Digit (P Z A u : Int) : Int := (A * 4294967296 + u) / (P * 4294967296 + Z)
set_option maxRecDepth 100000 in
set_option maxHeartbeats 1000000 in
theorem div_core (h l y V A T P Z U1 U0 : Int) (s : Nat) (w : World) (h0 : 1 ≤ h) (h1 : h < y) (_l0 : 0 ≤ l) (_l1 : l ≤ 18446744073709551615) (y0 : 1 ≤ y) (y1 : y ≤ 9223372036854775807)
  (lz : ∀ w, Calls Tryd.prog 97 #[.int .u64 y] w fun e w' => e = .returned (.int .i64 (s : Int)) ∧ w = w') (s1 : 1 ≤ s) (s2 : s ≤ 63)
  (e1 : IntKind.u64.wrap (y * 2 ^ s) = V) (e2 : bits BinOp.or IntKind.u64 (IntKind.u64.wrap (h * 2 ^ s)) (l / 2 ^ (64 - s)) = A) (e3 : IntKind.u64.wrap (l * 2 ^ s) = T)
  (e4 : V / 4294967296 = P) (e5 : bits BinOp.and IntKind.u64 V 4294967295 = Z) (e6 : T / 4294967296 = U1) (e7 : bits BinOp.and IntKind.u64 T 4294967295 = U0) (e7' : T % 4294967296 = U0)
  (k1 : Dv.Ok P Z A U1) (k2 : P * 4294967296 + Z = V) (v2 : V ≤ 18446744073709551615) (k3 : A * 18446744073709551616 + T = (h * 18446744073709551616 + l) * 2 ^ s) (k4 : V = y * 2 ^ s) :
  Calls Tryd.prog 84 #[.int .u64 h, .int .u64 l, .int .u64 y] w fun e w' => e = .returned (.tuple #[.int .u64 ((h * 18446744073709551616 + l) / y), .int .u64 ((h * 18446744073709551616 + l) % y)]) ∧ ∃ n, w' = w.drewN n := by
 have hy : (y == 0) = false := by simp; omega
 have h2 : ¬ y ≤ h := by omega
 have hh : (h == 0) = false := by simp; omega
 have LZ := Lib.hid lz
 have K1 := Lib.hid k1
 have K2 := Lib.hid k2
 have K34 := Lib.hid (And.intro k3 k4)
 obtain ⟨p1, p2, z1, z2, a1, a2, u1, u2⟩ := k1
 clear lz k2 k3 k4
 have a3 : A ≤ 18446744073709551615 := by omega
 have I := Lib.hid (Dv.start K1.out)
 obtain ⟨i1, i2, i3, i4, i5, i6⟩ := I.out
 have t1 : A.tdiv P = A / P := Int.tdiv_eq_ediv_of_nonneg a1
 have w1 : IntKind.u64.wrap (A / P) = A / P := by rw [wrapU]; omega
 have m0 := Int.mul_nonneg i5 (show 0 ≤ P by omega)
 have w2 : IntKind.u64.wrap (A / P * P) = A / P * P := by rw [wrapU]; omega
 have w3 : A - A / P * P = A % P := by omega
 have w4 : IntKind.u64.wrap (A % P) = A % P := by rw [wrapU]; omega
 clear i1 i2 i3 i4 i5 i6 m0
 go_enter Tryd.func84, Tryd.ntmps84
 go_upto_block 0 with (go_at_call 97; refine (LZ.out _).mono ?_; rintro e w' ⟨rfl, rfl⟩)
 clear e1 e2 e3 t1 w1 w2 w3 w4
 go_cut [15] (fun a wx => a = .int .u64 (Digit P Z A U1) ∧ w = wx)
 case first =>
  go_wp2
  go_loop [15, 16] (fun a b => ∃ q r : Int, a = .int .u64 q ∧ b = .int .u64 r ∧ Dv.Inv P Z A U1 q r) (fun a _ => (intOf a).toNat)
  case atStart => exact ⟨_, _, rfl, rfl, I.out⟩
  case round =>
   obtain ⟨q, r, rfl, rfl, hi⟩ := hrel
   have HI := Lib.hid hi
   obtain ⟨_, _, i3, i4, i5, i6⟩ := hi
   by_cases c1 : 4294967296 ≤ q
   ·have D := Lib.hid (Dv.down K1.out HI.out (Or.inl c1))
    by_cases g : r + P < 4294967296
    ·have N := Lib.hid (Dv.down_inv K1.out HI.out (Or.inl c1) g)
     go_wp2
     go_round
     case rel => exact ⟨_, _, rfl, rfl, N.out⟩
     case measure => simp [intOf]; omega
    ·have N := Lib.hid (Dv.down_end K1.out HI.out (Or.inl c1) (by omega))
     go_wp2
     go_meet
     exact ⟨by rw [N.out]; rfl, rfl⟩
   ·obtain ⟨m1, m2⟩ := Dv.mulZ K1.out HI.out (by omega)
    have m3 : IntKind.u64.wrap (q * Z) = q * Z := by rw [wrapU]; omega
    have m4 : IntKind.u64.wrap (4294967296 * r) = 4294967296 * r := by rw [wrapU]; omega
    have m5 : IntKind.u64.wrap (4294967296 * r + U1) = 4294967296 * r + U1 := by rw [wrapU]; omega
    by_cases c2 : 4294967296 * r + U1 < q * Z
    ·have D := Lib.hid (Dv.down K1.out HI.out (Or.inr c2))
     have d1 : 1 ≤ q := D.out.1
     by_cases g : r + P < 4294967296
     ·have N := Lib.hid (Dv.down_inv K1.out HI.out (Or.inr c2) g)
      go_wp2
      go_round
      case rel => exact ⟨_, _, rfl, rfl, N.out⟩
      case measure => simp [intOf]; omega
     ·have N := Lib.hid (Dv.down_end K1.out HI.out (Or.inr c2) (by omega))
      go_wp2
      go_meet
      exact ⟨by rw [N.out]; rfl, rfl⟩
    ·have N := Lib.hid (Dv.stop K1.out HI.out (by omega))
     go_wp2
     go_meet
     exact ⟨by rw [N.out]; rfl, rfl⟩
 case rest =>
  obtain ⟨rfl, rfl⟩ := hcut
  obtain ⟨X, hX⟩ : ∃ X, X = (A * 4294967296 + U1) % V := ⟨_, rfl⟩
  have V0 : 0 < V := by omega
  have x0 : 0 ≤ X := by rw [hX]; exact Int.emod_nonneg _ (by omega)
  have x1 : X < V := by rw [hX]; exact Int.emod_lt_of_pos _ V0
  have hQ1 : Digit P Z A U1 = (A * 4294967296 + U1) / V := by unfold Digit; rw [K2.out]
  obtain ⟨q10, q11⟩ := Dv.dig_bd K1.out
  change 0 ≤ Digit P Z A U1 at q10
  change Digit P Z A U1 ≤ 4294967295 at q11
  have f1 : IntKind.u64.wrap (IntKind.u64.wrap (IntKind.u64.wrap (A * 4294967296) + U1) - IntKind.u64.wrap (Digit P Z A U1 * V)) = X := by
   rw [wrapU, wrapU, wrapU, wrapU, hX]; exact Dv.rest V0 v2 hQ1
  have K3 := Lib.hid (show Dv.Ok P Z X U0 from ⟨p1, p2, z1, z2, x0, by have := K2.out; omega, by rw [← e7']; omega, by rw [← e7']; omega⟩)
  obtain ⟨_, _, _, _, _, _, u3, u4⟩ := K3.out
  have J := Lib.hid (Dv.start K3.out)
  obtain ⟨i1, i2, i3, i4, i5, i6⟩ := J.out
  have t1 : X.tdiv P = X / P := Int.tdiv_eq_ediv_of_nonneg x0
  have w1 : IntKind.u64.wrap (X / P) = X / P := by rw [wrapU]; omega
  have m0 := Int.mul_nonneg i5 (show 0 ≤ P by omega)
  have w2 : IntKind.u64.wrap (X / P * P) = X / P * P := by rw [wrapU]; omega
  have w3 : X - X / P * P = X % P := by omega
  have w4 : IntKind.u64.wrap (X % P) = X % P := by rw [wrapU]; omega
  have HX := Lib.hid hX
  have HQ1 := Lib.hid hQ1
  have E6 := Lib.hid (And.intro e6 e7')
  clear i1 i2 i3 i4 i5 i6 m0 hX hQ1 e4 e5 e6 e7 e7'
  generalize Digit P Z A U1 = Q1 at *
  go_upto_block 2 with (fail)
  clear t1 w1 w2 w3 w4 f1
  go_cut [18] (fun a wx => a = .int .u64 (Digit P Z X U0) ∧ w = wx)
  case first =>
   go_wp2
   go_loop [18, 16] (fun a b => ∃ q r : Int, a = .int .u64 q ∧ b = .int .u64 r ∧ Dv.Inv P Z X U0 q r) (fun a _ => (intOf a).toNat)
   case atStart => exact ⟨_, _, rfl, rfl, J.out⟩
   case round =>
    obtain ⟨q, r, rfl, rfl, hi⟩ := hrel
    have HI := Lib.hid hi
    obtain ⟨_, _, i3, i4, i5, i6⟩ := hi
    by_cases c1 : 4294967296 ≤ q
    ·have D := Lib.hid (Dv.down K3.out HI.out (Or.inl c1))
     by_cases g : r + P < 4294967296
     ·have N := Lib.hid (Dv.down_inv K3.out HI.out (Or.inl c1) g)
      go_wp2
      go_round
      case rel => exact ⟨_, _, rfl, rfl, N.out⟩
      case measure => simp [intOf]; omega
     ·have N := Lib.hid (Dv.down_end K3.out HI.out (Or.inl c1) (by omega))
      go_wp2
      go_meet
      exact ⟨by rw [N.out]; rfl, rfl⟩
    ·obtain ⟨m1, m2⟩ := Dv.mulZ K3.out HI.out (by omega)
     have m3 : IntKind.u64.wrap (q * Z) = q * Z := by rw [wrapU]; omega
     have m4 : IntKind.u64.wrap (4294967296 * r) = 4294967296 * r := by rw [wrapU]; omega
     have m5 : IntKind.u64.wrap (4294967296 * r + U0) = 4294967296 * r + U0 := by rw [wrapU]; omega
     by_cases c2 : 4294967296 * r + U0 < q * Z
     ·have D := Lib.hid (Dv.down K3.out HI.out (Or.inr c2))
      have d1 : 1 ≤ q := D.out.1
      by_cases g : r + P < 4294967296
      ·have N := Lib.hid (Dv.down_inv K3.out HI.out (Or.inr c2) g)
       go_wp2
       go_round
       case rel => exact ⟨_, _, rfl, rfl, N.out⟩
       case measure => simp [intOf]; omega
      ·have N := Lib.hid (Dv.down_end K3.out HI.out (Or.inr c2) (by omega))
       go_wp2
       go_meet
       exact ⟨by rw [N.out]; rfl, rfl⟩
     ·have N := Lib.hid (Dv.stop K3.out HI.out (by omega))
      go_wp2
      go_meet
      exact ⟨by rw [N.out]; rfl, rfl⟩
  case rest =>
   obtain ⟨rfl, rfl⟩ := hcut
   obtain ⟨q00, q01⟩ := Dv.dig_bd K3.out
   change 0 ≤ Digit P Z X U0 at q00
   change Digit P Z X U0 ≤ 4294967295 at q01
   have hQ0 : Digit P Z X U0 = (X * 4294967296 + U0) / V := by unfold Digit; rw [K2.out]
   have hb := Dv.both (A := A) (t := T) (V := V) (q1 := Q1) (q0 := Digit P Z X U0) V0 (by rw [E6.out.1]; exact HQ1.out) (by rw [E6.out.1, E6.out.2, ← HX.out]; exact hQ0)
   rw [E6.out.1, E6.out.2, ← HX.out, K34.out.1, K34.out.2] at hb
   obtain ⟨g1, g2⟩ := Dv.shifted (N := h * 18446744073709551616 + l) (y := y) (S := 2 ^ s) (Ar.p2_pos s)
   rw [g1, g2] at hb
   have w5 : Q1 * 4294967296 + Digit P Z X U0 = (h * 18446744073709551616 + l) / y := hb.1
   have w6 : IntKind.u64.wrap (IntKind.u64.wrap (IntKind.u64.wrap (X * 4294967296) + U0) - IntKind.u64.wrap (Digit P Z X U0 * V)) / 2 ^ s = (h * 18446744073709551616 + l) % y := by
    rw [wrapU, wrapU, wrapU, wrapU, Dv.rest V0 v2 hQ0, K34.out.2, hb.2]; exact Int.mul_ediv_cancel _ (Int.ne_of_gt (Ar.p2_pos s))
   have W := Lib.hid (And.intro w5 w6)
   clear hQ0 hb g1 g2 w5 w6
   go_wp2
   go_ret2
   exact ⟨ret_two W.out.1 W.out.2, 0, rfl⟩

theorem bitLen_bd : ∀ (n x : Nat), x ≤ n → x ≠ 0 → x < 2 ^ 64 → 1 ≤ Lib.bitLen x ∧ 2 ^ (Lib.bitLen x - 1) ≤ x ∧ x < 2 ^ Lib.bitLen x := by
 intro n
 induction n with
 | zero => intro x h1 h2; omega
 | succ n ih =>
  intro x h1 h2 h3
  have e := Lib.bitLen_half x h2 h3
  by_cases h : x / 2 = 0
  ·have hx : x = 1 := by omega
   subst hx
   have : Lib.bitLen (1 / 2) = 0 := by decide
   rw [e, this]; decide
  ·obtain ⟨a, b, c⟩ := ih (x / 2) (by omega) h (by omega)
   rw [e]
   refine ⟨by omega, ?_, ?_⟩
   ·obtain ⟨m, hm⟩ : ∃ m, Lib.bitLen (x / 2) = m + 1 := ⟨Lib.bitLen (x / 2) - 1, by omega⟩
    rw [hm] at b ⊢
    have : 1 + (m + 1) - 1 = m + 1 := by omega
    rw [this, Nat.pow_succ]
    have : m + 1 - 1 = m := by omega
    rw [this] at b
    omega
   ·rw [Nat.add_comm 1, Nat.pow_succ]; omega
theorem div_any (h l y : Int) (w : World) (h0 : 0 ≤ h) (h1 : h < y) (l0 : 0 ≤ l) (l1 : l ≤ 18446744073709551615) (y1 : y ≤ 9223372036854775807) :
  Calls Tryd.prog 84 #[.int .u64 h, .int .u64 l, .int .u64 y] w fun e w' => e = .returned (.tuple #[.int .u64 ((h * 18446744073709551616 + l) / y), .int .u64 ((h * 18446744073709551616 + l) % y)]) ∧ ∃ n, w' = w.drewN n := by
 by_cases hz : h = 0
 ·subst hz
  have e : (0 : Int) * 18446744073709551616 + l = l := by omega
  rw [e]
  exact div_small l y w l0 l1 (by omega) y1
 ·obtain ⟨Y, rfl⟩ := Int.eq_ofNat_of_zero_le (show 0 ≤ y by omega)
  obtain ⟨b1, b2, b3⟩ := bitLen_bd Y Y (Nat.le_refl _) (by omega) (by omega)
  have b4 : Lib.bitLen Y ≤ 63 := by
   by_cases g : Lib.bitLen Y ≤ 63
   ·exact g
   ·exfalso
    have : (2 : Nat) ^ 63 ≤ 2 ^ (Lib.bitLen Y - 1) := Nat.pow_le_pow_right (by omega) (by omega)
    omega
  obtain ⟨s, hs⟩ : ∃ s, s = 64 - Lib.bitLen Y := ⟨_, rfl⟩
  have lz : ∀ w, Calls Tryd.prog 97 #[.int .u64 Y] w fun e w' => e = .returned (.int .i64 (s : Int)) ∧ w = w' := fun w =>
   (shelf.s_bits_LeadingZeros64 Y w (by omega) (by omega)).mono fun _ _ ⟨p, q⟩ => ⟨p.trans (ret_int (by simp; omega)), q.symm⟩
  have v1 : (2 : Nat) ^ 63 ≤ Y * 2 ^ s := by
   have : (2 : Nat) ^ 63 = 2 ^ (Lib.bitLen Y - 1) * 2 ^ s := by rw [← Nat.pow_add]; congr 1; omega
   rw [this]; exact Nat.mul_le_mul_right _ b2
  have v2 : Y * 2 ^ s < 2 ^ 64 := by
   have : (2 : Nat) ^ 64 = 2 ^ Lib.bitLen Y * 2 ^ s := by rw [← Nat.pow_add]; congr 1; omega
   rw [this]; exact Nat.mul_lt_mul_of_pos_right b3 (Nat.two_pow_pos s)
  have v1' : (9223372036854775808 : Int) ≤ Y * 2 ^ s := by
   have : ((2 ^ 63 : Nat) : Int) ≤ ((Y * 2 ^ s : Nat) : Int) := by exact_mod_cast v1
   simpa using this
  have v2' : (Y : Int) * 2 ^ s ≤ 18446744073709551615 := by
   have : ((Y * 2 ^ s : Nat) : Int) < ((2 ^ 64 : Nat) : Int) := by exact_mod_cast v2
   have e : ((Y * 2 ^ s : Nat) : Int) = (Y : Int) * 2 ^ s := by simp
   rw [e] at this
   have : (Y : Int) * 2 ^ s < 18446744073709551616 := by simpa using this
   omega
  have s1 : 1 ≤ s := by omega
  have s2 : s ≤ 63 := by omega
  clear v1 v2 b1 b2 b3 hs b4
  have p64 : (18446744073709551616 : Int) = 2 ^ (64 - s) * 2 ^ s := by
   rw [← Int.pow_add, show 64 - s + s = 64 by omega]; rfl
  have ps := Ar.p2_pos s
  have pt := Ar.p2_pos (64 - s)
  generalize hS : (2 : Int) ^ s = S at *
  generalize hR : (2 : Int) ^ (64 - s) = R at *
  have c1 : l / R < S := Int.ediv_lt_of_lt_mul pt (by rw [Int.mul_comm, ← p64]; omega)
  have c0 : 0 ≤ l / R := Int.ediv_nonneg l0 (by omega)
  have hh : h * S + S ≤ Y * S := by
   have : (h + 1) * S ≤ Y * S := Int.mul_le_mul_of_nonneg_right (by omega) (by omega)
   rw [Int.add_mul] at this; omega
  have h00 : 0 ≤ h * S := Int.mul_nonneg h0 (by omega)
  have eT : l * S / 18446744073709551616 = l / R := by rw [p64]; exact Int.mul_ediv_mul_of_pos_left _ _ ps
  have ew : IntKind.u64.wrap (h * S) = h * S := by rw [wrapU]; omega
  have W64 : ∀ n : Int, 0 ≤ n → n < 2 ^ 64 → IntKind.u64.wrap n = n := fun n a b => by
   have : n < 18446744073709551616 := b
   rw [wrapU]; omega
  refine div_core h l Y (Y * S) (h * S + l / R) (l * S % 18446744073709551616) (Y * S / 4294967296) (Y * S % 4294967296) (l * S % 18446744073709551616 / 4294967296) (l * S % 18446744073709551616 % 4294967296) s w (by omega) h1 l0 l1 (by omega) y1 lz s1 s2 ?_ ?_ ?_ rfl ?_ rfl ?_ rfl ⟨by omega, by omega, by omega, by omega, by omega, by omega, by omega, by omega⟩ (by omega) (by omega) ?_ (by rw [hS])
  ·rw [hS, wrapU]; omega
  ·rw [hS, hR, ew]
   refine bits_join .u64 64 (by decide) W64 s _ _ h00 (by rw [hS]; exact Int.mul_emod_left _ _) ?_ c0 (by rw [hS]; exact c1) ?_
   ·show _ < (18446744073709551616 : Int); omega
   ·show _ < (18446744073709551616 : Int); omega
  ·rw [hS, wrapU]
  ·exact bits_mask .u64 64 (by decide) W64 32 (by decide) _ (by omega) (by show _ < (18446744073709551616 : Int); omega)
  ·exact bits_mask .u64 64 (by decide) W64 32 (by decide) _ (by omega) (by show _ < (18446744073709551616 : Int); omega)
  ·rw [hS, Int.add_mul, Int.add_mul, Int.mul_right_comm h S]
   omega
end Go.Proofs.YtgceecnlgjmghaaDoor.arith

namespace Go.Proofs.YtgceecnlgjmghaaDoor.arith
open Go.RowKit Go.Proofs.YtgceecnlgjmghaaDoor.base

theorem of_any (a : Int) (ha : Ar.fits a = true) : ∃ (x : Int) (m : Bool), (∀ w, Calls Tryd.prog 95 #[.int .i64 a] w fun e w' => e = .returned (.tuple #[.int .u64 x, .bool m]) ∧ w = w') ∧ 0 ≤ x ∧ x ≤ 9223372036854775808 ∧ (m = true ∧ 0 < x ∧ a = -x ∨ m = false ∧ a = x) := by
 have f := Ar.fits_t ha
 by_cases h : a < 0
 ·exact ⟨-a, true, fun w => of_neg a w ha h, by omega, by omega, Or.inl ⟨rfl, by omega, by omega⟩⟩
 ·exact ⟨a, false, fun w => of_pos a w ha h, by omega, by omega, Or.inr ⟨rfl, rfl⟩⟩
theorem prod_abs {a b x y : Int} {m n : Bool} (hx : m = true ∧ 0 < x ∧ a = -x ∨ m = false ∧ a = x) (hy : n = true ∧ 0 < y ∧ b = -y ∨ n = false ∧ b = y) (x0 : 0 ≤ x) (y0 : 0 ≤ y) : ((a * b).natAbs : Int) = x * y := by
 have h := Int.mul_nonneg x0 y0
 rcases hx with ⟨_, _, rfl⟩ | ⟨_, rfl⟩ <;> rcases hy with ⟨_, _, rfl⟩ | ⟨_, rfl⟩
 ·rw [Int.neg_mul_neg]; omega
 ·rw [Int.neg_mul]; omega
 ·rw [Int.mul_neg]; omega
 ·omega

set_option maxRecDepth 100000 in
set_option maxHeartbeats 1000000 in
theorem whole_mulDiv (a b v : Int) (i : Bool) (pc pr : Addr) (w : World) (R : World → Prop) (ha : Ar.fits a = true) (hb : Ar.fits b = true)
  (HC : ∀ w1, Below w.heap.size w w1 → Calls Tryd.prog 83 #[.agg #[.int .u64 (hi (a * b).natAbs), .int .u64 (lo (a * b).natAbs)], .bool (decide (a * b < 0)), .pointer (some pc), .pointer (some pr)] w1 fun e w' => e = .returned (.tuple #[.int .i64 v, .bool i]) ∧ R w') :
  Calls Tryd.prog 82 #[.int .i64 a, .int .i64 b, .func (.func 83) #[] #[.pointer (some pc), .pointer (some pr)]] w fun e w' => e = .returned (.tuple #[.int .i64 v, .bool i]) ∧ R w' := by
 obtain ⟨x, m, ox, x0, x1, hx⟩ := of_any a ha
 obtain ⟨y, n, oy, y0, y1, hy⟩ := of_any b hb
 have OX := Lib.hid ox
 have OY := Lib.hid oy
 have HN := Lib.hid (prod_abs hx hy x0 y0)
 clear ox oy ha hb
 have pr : ∃ H L : Int, (∀ w, Calls Tryd.prog 96 #[.int .u64 x, .int .u64 y] w fun e w' => e = .returned (.agg #[.int .u64 H, .int .u64 L]) ∧ Below w.heap.size w w') ∧
   ∀ t : Bool, decide (a * b < 0) = t → ∀ w1, Below w.heap.size w w1 → Calls Tryd.prog 83 #[.agg #[.int .u64 H, .int .u64 L], .bool t, .pointer (some pc), .pointer (some pr)] w1 fun e w' => e = .returned (.tuple #[.int .i64 v, .bool i]) ∧ R w' := by
  refine ⟨hi (x * y), lo (x * y), fun w => product_any x y w (by omega) (by omega) (by omega) (by omega), ?_⟩
  intro t ht w1 h1
  have := HC w1 h1
  rw [ht, HN.out] at this
  exact this
 clear HC HN
 obtain ⟨H, L, pr, key⟩ := pr
 have PR := Lib.hid pr
 clear pr
 rcases hx with ⟨rfl, xp, rfl⟩ | ⟨rfl, rfl⟩ <;> rcases hy with ⟨rfl, yp, rfl⟩ | ⟨rfl, rfl⟩
 ·have T := Lib.hid (key false (by have := Int.mul_pos xp yp; rw [Int.neg_mul_neg]; simp; omega))
  clear key
  go_enter Tryd.func82, Tryd.ntmps82
  go_wp2_with (first | (go_at_call 95; with_reducible (refine (OX.out _).mono ?_); rintro e w' ⟨rfl, rfl⟩) | (go_at_call 95; with_reducible (refine (OY.out _).mono ?_); rintro e w' ⟨rfl, rfl⟩) | (go_at_call 96; refine (PR.out _).mono ?_; rintro e w1 ⟨rfl, B1⟩) | (go_at_call 83; refine (T.out _ B1).mono ?_; rintro e w2 ⟨rfl, hR⟩))
  go_ret2
  exact ⟨rfl, hR⟩
 ·by_cases yz : b = 0
  ·subst yz
   have T := Lib.hid (key false (by simp))
   clear key
   go_enter Tryd.func82, Tryd.ntmps82
   go_wp2_with (first | (go_at_call 95; with_reducible (refine (OX.out _).mono ?_); rintro e w' ⟨rfl, rfl⟩) | (go_at_call 95; with_reducible (refine (OY.out _).mono ?_); rintro e w' ⟨rfl, rfl⟩) | (go_at_call 96; refine (PR.out _).mono ?_; rintro e w1 ⟨rfl, B1⟩) | (go_at_call 83; refine (T.out _ B1).mono ?_; rintro e w2 ⟨rfl, hR⟩))
   go_ret2
   exact ⟨rfl, hR⟩
  ·have yp : 0 < b := by omega
   have T := Lib.hid (key true (by have := Int.mul_pos xp yp; rw [Int.neg_mul]; simp; omega))
   clear key
   go_enter Tryd.func82, Tryd.ntmps82
   go_wp2_with (first | (go_at_call 95; with_reducible (refine (OX.out _).mono ?_); rintro e w' ⟨rfl, rfl⟩) | (go_at_call 95; with_reducible (refine (OY.out _).mono ?_); rintro e w' ⟨rfl, rfl⟩) | (go_at_call 96; refine (PR.out _).mono ?_; rintro e w1 ⟨rfl, B1⟩) | (go_at_call 83; refine (T.out _ B1).mono ?_; rintro e w2 ⟨rfl, hR⟩))
   go_ret2
   exact ⟨rfl, hR⟩
 ·by_cases xz : a = 0
  ·subst xz
   have T := Lib.hid (key false (by simp))
   clear key
   go_enter Tryd.func82, Tryd.ntmps82
   go_wp2_with (first | (go_at_call 95; with_reducible (refine (OX.out _).mono ?_); rintro e w' ⟨rfl, rfl⟩) | (go_at_call 95; with_reducible (refine (OY.out _).mono ?_); rintro e w' ⟨rfl, rfl⟩) | (go_at_call 96; refine (PR.out _).mono ?_; rintro e w1 ⟨rfl, B1⟩) | (go_at_call 83; refine (T.out _ B1).mono ?_; rintro e w2 ⟨rfl, hR⟩))
   go_ret2
   exact ⟨rfl, hR⟩
  ·have xp : 0 < a := by omega
   have T := Lib.hid (key true (by have := Int.mul_pos xp yp; rw [Int.mul_neg]; simp; omega))
   clear key
   go_enter Tryd.func82, Tryd.ntmps82
   go_wp2_with (first | (go_at_call 95; with_reducible (refine (OX.out _).mono ?_); rintro e w' ⟨rfl, rfl⟩) | (go_at_call 95; with_reducible (refine (OY.out _).mono ?_); rintro e w' ⟨rfl, rfl⟩) | (go_at_call 96; refine (PR.out _).mono ?_; rintro e w1 ⟨rfl, B1⟩) | (go_at_call 83; refine (T.out _ B1).mono ?_; rintro e w2 ⟨rfl, hR⟩))
   go_ret2
   exact ⟨rfl, hR⟩
 ·have T := Lib.hid (key false (by have := Int.mul_nonneg x0 y0; simp; omega))
  clear key
  go_enter Tryd.func82, Tryd.ntmps82
  go_wp2_with (first | (go_at_call 95; with_reducible (refine (OX.out _).mono ?_); rintro e w' ⟨rfl, rfl⟩) | (go_at_call 95; with_reducible (refine (OY.out _).mono ?_); rintro e w' ⟨rfl, rfl⟩) | (go_at_call 96; refine (PR.out _).mono ?_; rintro e w1 ⟨rfl, B1⟩) | (go_at_call 83; refine (T.out _ B1).mono ?_; rintro e w2 ⟨rfl, hR⟩))
  go_ret2
  exact ⟨rfl, hR⟩

end Go.Proofs.YtgceecnlgjmghaaDoor.arith

namespace Go.Proofs.YtgceecnlgjmghaaDoor.arith
open Go.RowKit Go.Proofs.YtgceecnlgjmghaaDoor.base

theorem hilo (N : Int) : hi N * 18446744073709551616 + lo N = N := by unfold hi lo; omega
theorem hl_bd {N : Int} (h0 : 0 ≤ N) (h1 : N ≤ 85070591730234615865843651857942052864) : 0 ≤ hi N ∧ hi N ≤ 4611686018427387904 ∧ 0 ≤ lo N ∧ lo N ≤ 18446744073709551615 := by unfold hi lo; omega
theorem sg_abs (x : Int) : sg x.natAbs (decide (x < 0)) = x := by
 unfold sg
 by_cases h : x < 0
 ·simp [h]; omega
 ·simp [h]; omega
theorem abs_bd {a b : Int} (ha : Ar.fits a = true) (hb : Ar.fits b = true) : ((a * b).natAbs : Int) ≤ 85070591730234615865843651857942052864 := by
 have := Ar.prod_bd ha hb
 have e : (2 : Int) ^ 126 = 85070591730234615865843651857942052864 := by decide
 rw [e] at this; omega
/-- The quotient and the rest of a size with a sign. -/
theorem quo_pos {N c : Int} : sg N false / c = N / c ∧ sg N false % c = N % c := ⟨rfl, rfl⟩
theorem quo_neg0 {N c : Int} (hc : 0 < c) (h : N % c = 0) : sg N true / c = sg (N / c) true ∧ sg N true % c = N % c := by
 have := (Ar.neg_div (x := -N) (c := c) hc).1 (by rw [Int.neg_neg]; exact h)
 rw [Int.neg_neg] at this
 exact this
theorem quo_neg1 {N c : Int} (hc : 0 < c) (h : ¬ N % c = 0) : sg N true / c = sg (N / c + 1) true ∧ sg N true % c = c - N % c := by
 have := (Ar.neg_div (x := -N) (c := c) hc).2 (by rw [Int.neg_neg]; exact h)
 rw [Int.neg_neg] at this
 refine ⟨this.1, this.2.trans (by omega)⟩
/-- A quotient of more than 2^63 fits no more. -/
theorem quo_big {N c : Int} (neg : Bool) (hc : 0 < c) (h : 9223372036854775808 < N / c) : Ar.fits (sg N neg / c) = false := by
 apply Ar.fits_no
 cases neg
 ·show N / c < _ ∨ _ < N / c; omega
 ·by_cases g : N % c = 0
  ·rw [(quo_neg0 hc g).1]; unfold sg; simp; omega
  ·rw [(quo_neg1 hc g).1]; unfold sg; simp; omega
/-- What MulDiv's closure leaves. -/
def Left (B : Nat) (w w' : World) (pr : Addr) (X c : Int) : Prop := Below B w w' ∧ w'.frozen? pr = false ∧ ∃ r : Int, w'.cell? pr = some (.int .i64 r) ∧ (Ar.fits (X / c) = true → r = X % c)

theorem left_of {B br : Nat} {w W : World} {X c r0 r : Int} (cr : w.cell? ⟨br, 0, none⟩ = some (.int .i64 r0)) (fr : w.frozen? ⟨br, 0, none⟩ = false) (hB : B ≤ br) (hBw : B ≤ w.heap.size) (hb : Below w.heap.size w W) (hr : r = X % c) :
  Left B w (W.setCell ⟨br, 0, none⟩ (.int .i64 r)) ⟨br, 0, none⟩ X c := by
 have lr := lt_of_cell cr
 refine ⟨(hb.mono hBw).setCell hB _, ?_, r, ?_, fun _ => hr⟩
 ·rw [World.frozen?_setCell, hb.frozen (p := ⟨br, 0, none⟩) lr]; exact fr
 ·exact World.cell?_setCell_same _ _ _ ((hb.cell (p := ⟨br, 0, none⟩) lr).trans cr)
set_option maxRecDepth 100000 in
set_option maxHeartbeats 1000000 in
theorem mulDivC (N c r0 : Int) (neg : Bool) (bc br B : Nat) (w : World) (h0 : 0 ≤ N) (h1 : N ≤ 85070591730234615865843651857942052864) (c0 : 1 ≤ c) (hc : Ar.fits c = true)
  (cc : w.cell? ⟨bc, 0, none⟩ = some (.int .i64 c)) (cr : w.cell? ⟨br, 0, none⟩ = some (.int .i64 r0)) (fr : w.frozen? ⟨br, 0, none⟩ = false) (hB : B ≤ br) (hBw : B ≤ w.heap.size) :
  Calls Tryd.prog 83 #[.agg #[.int .u64 (hi N), .int .u64 (lo N)], .bool neg, .pointer (some ⟨bc, 0, none⟩), .pointer (some ⟨br, 0, none⟩)] w fun e w' => e = .returned (.tuple #[.int .i64 (Ar.fitV (sg N neg / c)), .bool (Ar.fits (sg N neg / c))]) ∧ Left B w w' ⟨br, 0, none⟩ (sg N neg) c := by
 obtain ⟨a1, a2, a3, a4⟩ := hl_bd h0 h1
 obtain ⟨c1, c2⟩ := Ar.fits_t hc
 have lc := lt_of_cell cc
 have lr := lt_of_cell cr
 have hl := hilo N
 by_cases hh : c ≤ hi N
 ·have F := Lib.hid (quo_big neg (show 0 < c by omega) (show 9223372036854775808 < N / c by
   have : c * 18446744073709551616 ≤ N := by omega
   have : 18446744073709551616 ≤ N / c := Int.le_ediv_of_mul_le (by omega) (by rw [Int.mul_comm]; exact this)
   omega))
  generalize hi N = H at *
  generalize lo N = L at *
  have H1 := Lib.hid (And.intro h1 hl)
  clear h1 hl hc
  go_enter Tryd.func83, Tryd.ntmps83
  go_wp2
  go_ret2
  refine ⟨ret_ib (by simp [Ar.fitV, F.out]) F.out.symm, (Below.refl _ _).alloc hBw _, ?_, r0, ?_, fun q => by rw [F.out] at q; cases q⟩
  ·rw [World.frozen?_alloc_past _ _ _ lr]; exact fr
  ·rw [World.cell?_alloc_past _ _ _ lr]; exact cr
 ·have DV := Lib.hid (fun w => div_any (hi N) (lo N) c w a1 (by omega) a3 a4 (by omega))
  rw [hl] at DV
  have q0 := Int.ediv_nonneg h0 (show 0 ≤ c by omega)
  have r1 := Int.emod_nonneg N (show c ≠ 0 by omega)
  have r2 := Int.emod_lt_of_pos N (show 0 < c by omega)
  by_cases hb : 9223372036854775808 < N / c
  ·have F := Lib.hid (quo_big neg (show 0 < c by omega) hb)
   generalize hi N = H at *
   generalize lo N = L at *
   have H1 := Lib.hid (And.intro h1 hl)
   clear h1 hl hc h0
   generalize N / c = Q at *
   generalize N % c = R at *
   go_enter Tryd.func83, Tryd.ntmps83
   go_wp2_with (go_at_call 84; refine (DV.out _).mono ?_; rintro e w' ⟨rfl, n, rfl⟩)
   go_ret2
   refine ⟨ret_ib (by simp [Ar.fitV, F.out]) F.out.symm, below_drewN ((Below.refl _ _).alloc hBw _) _, ?_, r0, ?_, fun q => by rw [F.out] at q; cases q⟩
   ·show (w.alloc _).frozen? _ = false; rw [World.frozen?_alloc_past _ _ _ lr]; exact fr
   ·show (w.alloc _).cell? _ = _; rw [World.cell?_alloc_past _ _ _ lr]; exact cr
  ·have hb' : N / c ≤ 9223372036854775808 := by omega
   cases neg
   ·have QP := Lib.hid (quo_pos (N := N) (c := c))
    generalize hi N = H at *
    generalize lo N = L at *
    have H1 := Lib.hid (And.intro h1 hl)
    clear h1 hl hc h0 hb
    generalize N / c = Q at *
    generalize N % c = R at *
    go_enter Tryd.func83, Tryd.ntmps83
    go_wp2_with (first | (go_at_call 84; refine (DV.out _).mono ?_; rintro e w' ⟨rfl, n, rfl⟩) | (go_at_call 85; refine (signed_any Q false _ q0 (by omega)).mono ?_; rintro e w' ⟨rfl, rfl⟩))
    go_ret2
    refine ⟨ret_ib (by rw [QP.out.1]; rfl) (by rw [QP.out.1]; rfl), ?_⟩
    exact left_of cr fr hB hBw (below_drewN ((Below.refl _ _).alloc (Nat.le_refl _) _) _) QP.out.2.symm
   ·by_cases hz : N % c = 0
    ·have QP := Lib.hid (quo_neg0 (N := N) (c := c) (by omega) hz)
     generalize hi N = H at *
     generalize lo N = L at *
     have H1 := Lib.hid (And.intro h1 hl)
     clear h1 hl hc h0 hb
     generalize N / c = Q at *
     generalize N % c = R at *
     subst hz
     go_enter Tryd.func83, Tryd.ntmps83
     go_wp2_with (first | (go_at_call 84; refine (DV.out _).mono ?_; rintro e w' ⟨rfl, n, rfl⟩) | (go_at_call 85; refine (signed_any Q true _ q0 (by omega)).mono ?_; rintro e w' ⟨rfl, rfl⟩))
     go_ret2
     exact ⟨ret_ib (by rw [QP.out.1]) (by rw [QP.out.1]), left_of cr fr hB hBw (below_drewN ((Below.refl _ _).alloc (Nat.le_refl _) _) _) QP.out.2.symm⟩
    ·have QP := Lib.hid (quo_neg1 (N := N) (c := c) (by omega) hz)
     generalize hi N = H at *
     generalize lo N = L at *
     have H1 := Lib.hid (And.intro h1 hl)
     clear h1 hl hc h0 hb
     generalize N / c = Q at *
     generalize N % c = R at *
     have rp : 0 < R := by omega
     have k1 : 0 ≤ c - R := by omega
     have k2 : c - R ≤ 9223372036854775807 := by omega
     have k3 : Q + 1 ≤ 9223372036854775809 := by omega
     have cw : ∀ o : Obj, (w.alloc o).cell? ⟨bc, 0, none⟩ = some (.int .i64 c) := fun o => by rw [World.cell?_alloc_past _ _ _ lc]; exact cc
     have CW := Lib.hid cw
     clear hz cw
     go_enter Tryd.func83, Tryd.ntmps83
     go_wp2_with (first | (go_at_call 84; refine (DV.out _).mono ?_; rintro e w' ⟨rfl, n, rfl⟩))
     go_quiet (fail)
     go_wp2_with (first | (go_at_call 85; refine (signed_any (Q + 1) true _ (by omega) (by omega)).mono ?_; rintro e w' ⟨rfl, rfl⟩))
     go_ret2
     exact ⟨ret_ib (by rw [QP.out.1]) (by rw [QP.out.1]), left_of cr fr hB hBw (below_drewN ((Below.refl _ _).alloc (Nat.le_refl _) _) _) QP.out.2.symm⟩

set_option maxRecDepth 100000 in
theorem mulDiv_any (a b c : Int) (w : World) (ha : Ar.fits a = true) (hb : Ar.fits b = true) (hc : Ar.fits c = true) : Calls Tryd.prog 66 #[.int .i64 a, .int .i64 b, .int .i64 c] w fun e w' => e = .returned (.tuple #[.int .i64 (Ar.mdQ a b c), .int .i64 (Ar.mdR a b c), .bool (Ar.mdI a b c)]) ∧ Below w.heap.size w w' := by
 by_cases h0 : 0 < c
 ·obtain ⟨c1, c2⟩ := Ar.fits_t hc
  have T := Lib.hid (fun (W : World) (bc br : Nat) (cc : W.cell? ⟨bc, 0, none⟩ = some (.int .i64 c)) (cr : W.cell? ⟨br, 0, none⟩ = some (.int .i64 0)) (fr : W.frozen? ⟨br, 0, none⟩ = false) (B : Nat) (hB : B ≤ br) (hBw : B ≤ W.heap.size) =>
   whole_mulDiv a b (Ar.fitV (a * b / c)) (Ar.fits (a * b / c)) ⟨bc, 0, none⟩ ⟨br, 0, none⟩ W (fun w' => Left B W w' ⟨br, 0, none⟩ (a * b) c) ha hb (fun w1 B1 => by
    have k1 := (B1.cell (p := ⟨bc, 0, none⟩) (lt_of_cell cc)).trans cc
    have k2 := (B1.cell (p := ⟨br, 0, none⟩) (lt_of_cell cr)).trans cr
    have k3 := (B1.frozen (p := ⟨br, 0, none⟩) (lt_of_cell cr)).trans fr
    have := mulDivC (a * b).natAbs c 0 (decide (a * b < 0)) bc br B w1 (by omega) (abs_bd ha hb) h0 hc k1 k2 k3 hB (Nat.le_trans hBw B1.size)
    rw [sg_abs] at this
    exact this.mono fun _ _ ⟨p, q, q2⟩ => ⟨p, (B1.mono hBw).trans q, q2⟩))
  have E := Lib.hid (show Ar.mdQ a b c = Ar.fitV (a * b / c) ∧ Ar.mdI a b c = Ar.fits (a * b / c) ∧ (Ar.fits (a * b / c) = true → Ar.mdR a b c = a * b % c) ∧ (Ar.fits (a * b / c) = false → Ar.mdR a b c = 0) from
   ⟨by simp [Ar.mdQ, h0], by simp [Ar.mdI, h0], fun h => by simp [Ar.mdR, h, h0], fun h => by simp [Ar.mdR, h]⟩)
  have FV := Lib.hid (fun h : Ar.fits (a * b / c) = false => show Ar.fitV (a * b / c) = 0 by simp [Ar.fitV, h])
  clear ha hb hc
  go_enter Tryd.func66, Tryd.ntmps66
  go_wp2_with fail
  refine (T.out _ w.heap.size (w.heap.size + 1) ?_ ?_ ?_ w.heap.size (by omega) (by simp; omega)).mono ?_
  ·simp [go_sem]
  ·simp [go_sem]
  ·simp [go_sem]
  rintro e w1 ⟨rfl, B1, fr1, r, cr1, hr⟩
  clear T
  cases hf : Ar.fits (a * b / c)
  ·have HF := Lib.hid hf
   have B2 := Lib.hid B1
   clear hf hr B1
   have hcs := World.cell?_setCell_same _ _ (.int .i64 0) cr1
   go_wp2
   exact bodyPost_ret (v := .tuple #[.int .i64 0, .int .i64 0, .bool false]) (by simp [results, Tryd.results66, go_sem, hcs]) rfl
    ⟨ret_iib (by rw [E.out.1, FV.out HF.out]) (E.out.2.2.2 HF.out).symm (by rw [E.out.2.1, HF.out]), ((((Below.refl _ _).alloc (Nat.le_refl _) _).alloc (by simp) _).trans B2.out).setCell (by simp) _⟩
  ·have HF := Lib.hid hf
   have B2 := Lib.hid B1
   have HR := Lib.hid (hr hf)
   clear hf hr B1
   have hcs := World.cell?_setCell_same _ _ (.int .i64 r) cr1
   go_wp2
   go_region
   all_goals go_wp2
   all_goals exact bodyPost_ret (v := .tuple #[.int .i64 (Ar.fitV (a * b / c)), .int .i64 r, .bool true]) (by simp [results, Tryd.results66, go_sem, hcs]) rfl ⟨ret_iib (by rw [E.out.1]) (by rw [E.out.2.2.1 HF.out, HR.out]) (by rw [E.out.2.1, HF.out]), (((((Below.refl _ _).alloc (Nat.le_refl _) _).alloc (by simp) _).trans B2.out).setCell (by simp) _).drew⟩
 ·have e1 := Lib.hid (show Ar.mdQ a b c = 0 by simp [Ar.mdQ, h0])
  have e2 := Lib.hid (show Ar.mdR a b c = 0 by simp [Ar.mdR, h0])
  have e3 := Lib.hid (show Ar.mdI a b c = false by simp [Ar.mdI, h0])
  clear ha hb hc
  go_enter Tryd.func66, Tryd.ntmps66
  go_wp2
  exact bodyPost_ret (v := .tuple #[.int .i64 0, .int .i64 0, .bool false]) (by simp [results, Tryd.results66, go_sem]) rfl
   ⟨ret_iib e1.out.symm e2.out.symm e3.out.symm, ((Below.refl _ _).alloc (Nat.le_refl _) _).alloc (by simp) _⟩
end Go.Proofs.YtgceecnlgjmghaaDoor.arith

namespace Go.Proofs.YtgceecnlgjmghaaDoor.arith
open Go.RowKit Go.Proofs.YtgceecnlgjmghaaDoor.base

end Go.Proofs.YtgceecnlgjmghaaDoor.arith

