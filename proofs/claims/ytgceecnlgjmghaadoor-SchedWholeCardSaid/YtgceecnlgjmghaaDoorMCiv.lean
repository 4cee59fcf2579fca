/- Plain facts about days, months and leap years (whole numbers alone, no program in sight). No conditions. What the functions of package civil answer (walks). The table of the days ahead of months holds its numbers. What civil.Of, Day and Date answer (walks). The table of the days ahead of months holds its numbers. What the functions of package quittanceref08 answer (walks): the same as package civil's. No conditions but that numbers are of 64 bits. What quittanceref08.Date and Of answer (walks): the same as package civil's. No conditions but that numbers are of 64 bits. -/
import Derived.Test.YtgceecnlgjmghaaDoorProg
import Derived.WalkKit
import Derived.OwnWalk
import Derived.IntWalk
import Derived.Lib.Hide
import Derived.LoopTactic
import Derived.Tactics
import Derived.Outline
import Derived.Deep.LoopGhost
namespace Cv

/-- Is it a leap year (of the years 1 to 9999)? -/
def lp (y : Int) : Bool := decide (1 ≤ y) && decide (y ≤ 9999) && decide (y % 4 = 0) && (!decide (y % 100 = 0) || decide (y % 400 = 0))
def lpI (y : Int) : Int := if lp y = true then 1 else 0
def ahL : List Int := [0, 31, 59, 90, 120, 151, 181, 212, 243, 273, 304, 334, 365]
def ah (k : Int) : Int := ahL.getD k.toNat 0
/-- Days ahead of a year, and of a month of a year. -/
def dby (y : Int) : Int := 365 * (y - 1) + (y - 1) / 4 - (y - 1) / 100 + (y - 1) / 400
def bef (y m : Int) : Int := dby y + ah (m - 1) + (if 2 < m ∧ lp y = true then 1 else 0)
def lng (y m : Int) : Int := if m = 2 then 28 + lpI y else if m = 4 ∨ m = 6 ∨ m = 9 ∨ m = 11 then 30 else 31
def yr (M : Int) : Int := (M - 1) / 12 + 1
def mo (M : Int) : Int := (M - 1) % 12 + 1
/-- The first day of a month by its number. -/
def fst (M : Int) : Int := bef (yr M) (mo M) + 1
def okM (M : Int) : Bool := decide (1 ≤ M) && decide (M ≤ 119988)
def okYM (y m : Int) : Bool := decide (1 ≤ y) && decide (y ≤ 9999) && decide (1 ≤ m) && decide (m ≤ 12)
def okD (d : Int) : Bool := decide (1 ≤ d) && decide (d ≤ 3652059)

theorem okM_t {M : Int} (h : okM M = true) : 1 ≤ M ∧ M ≤ 119988 := by unfold okM at h; simpa using h
theorem okM_f {M : Int} (h : okM M = false) : M < 1 ∨ 119988 < M := by
 unfold okM at h; simp at h; omega
theorem okM_mk {M : Int} (h1 : 1 ≤ M) (h2 : M ≤ 119988) : okM M = true := by unfold okM; simp; omega
theorem okYM_t {y m : Int} (h : okYM y m = true) : 1 ≤ y ∧ y ≤ 9999 ∧ 1 ≤ m ∧ m ≤ 12 := by
 unfold okYM at h; simp at h; omega
theorem okYM_f {y m : Int} (h : okYM y m = false) : ¬ (1 ≤ y ∧ y ≤ 9999 ∧ 1 ≤ m ∧ m ≤ 12) := by
 unfold okYM at h; simp at h; omega
theorem okYM_mk {y m : Int} (h1 : 1 ≤ y) (h2 : y ≤ 9999) (h3 : 1 ≤ m) (h4 : m ≤ 12) : okYM y m = true := by
 unfold okYM; simp; omega
theorem okD_t {d : Int} (h : okD d = true) : 1 ≤ d ∧ d ≤ 3652059 := by unfold okD at h; simpa using h
theorem okD_f {d : Int} (h : okD d = false) : d < 1 ∨ 3652059 < d := by unfold okD at h; simp at h; omega
theorem okD_mk {d : Int} (h1 : 1 ≤ d) (h2 : d ≤ 3652059) : okD d = true := by unfold okD; simp; omega
theorem lp_iff (y : Int) : lp y = true ↔ (1 ≤ y ∧ y ≤ 9999) ∧ y % 4 = 0 ∧ (y % 100 ≠ 0 ∨ y % 400 = 0) := by
 unfold lp; simp; omega
theorem lpI_01 (y : Int) : 0 ≤ lpI y ∧ lpI y ≤ 1 := by unfold lpI; split <;> omega
theorem lpI_t {y : Int} (h : lp y = true) : lpI y = 1 := by unfold lpI; simp [h]
theorem lpI_f {y : Int} (h : lp y = false) : lpI y = 0 := by unfold lpI; simp [h]
theorem dby_succ (y : Int) (h1 : 1 ≤ y) (h2 : y ≤ 9999) : dby (y + 1) = dby y + 365 + lpI y := by
 have e1 : y + 1 - 1 = y := by omega
 have a4 : y / 4 = (y - 1) / 4 + (if y % 4 = 0 then 1 else 0) := by split <;> omega
 have a100 : y / 100 = (y - 1) / 100 + (if y % 100 = 0 then 1 else 0) := by split <;> omega
 have a400 : y / 400 = (y - 1) / 400 + (if y % 400 = 0 then 1 else 0) := by split <;> omega
 have i1 : y % 400 = 0 → y % 100 = 0 := by omega
 have i2 : y % 100 = 0 → y % 4 = 0 := by omega
 have hl := lp_iff y
 unfold lpI dby
 rw [e1, a4, a100, a400]
 by_cases h : lp y = true
 ·rw [if_pos h]
  obtain ⟨_, b, c⟩ := hl.1 h
  rw [if_pos b]
  rcases c with c | c
  ·rw [if_neg c, if_neg (fun q => c (i1 q))]; omega
  ·rw [if_pos c, if_pos (i1 c)]; omega
 ·rw [if_neg h]
  have n := mt hl.2 h
  by_cases p4 : y % 4 = 0
  ·have p100 : y % 100 = 0 := Decidable.byContradiction fun q => n ⟨⟨h1, h2⟩, p4, Or.inl q⟩
   have p400 : ¬ y % 400 = 0 := fun q => n ⟨⟨h1, h2⟩, p4, Or.inr q⟩
   rw [if_pos p4, if_pos p100, if_neg p400]; omega
  ·rw [if_neg p4, if_neg (fun q => p4 (i2 q)), if_neg (fun q => p4 (i2 (i1 q)))]; omega
theorem ah_bd (k : Int) (h0 : 0 ≤ k) (h1 : k ≤ 12) : 0 ≤ ah k ∧ ah k ≤ 365 := by
 have : k = 0 ∨ k = 1 ∨ k = 2 ∨ k = 3 ∨ k = 4 ∨ k = 5 ∨ k = 6 ∨ k = 7 ∨ k = 8 ∨ k = 9 ∨ k = 10 ∨ k = 11 ∨ k = 12 := by omega
 rcases this with rfl | rfl | rfl | rfl | rfl | rfl | rfl | rfl | rfl | rfl | rfl | rfl | rfl <;> decide
theorem dby_bd (y : Int) (h1 : 1 ≤ y) (h2 : y ≤ 10000) : 0 ≤ dby y ∧ dby y ≤ 3652059 := by unfold dby; omega
theorem bef_bd (y m : Int) (h1 : 1 ≤ y) (h2 : y ≤ 10000) (h3 : 1 ≤ m) (h4 : m ≤ 12) : 0 ≤ bef y m ∧ bef y m ≤ 3652425 := by
 have := dby_bd y h1 h2
 have := ah_bd (m - 1) (by omega) (by omega)
 unfold bef; split <;> omega
theorem lng_bd (y m : Int) : 28 ≤ lng y m ∧ lng y m ≤ 31 := by
 have := lpI_01 y
 unfold lng; split
 ·omega
 ·split <;> omega
/-- One month on, in the year. -/
theorem bef_next (y m : Int) (h3 : 1 ≤ m) (h4 : m ≤ 11) : bef y (m + 1) = bef y m + lng y m := by
 have : m = 1 ∨ m = 2 ∨ m = 3 ∨ m = 4 ∨ m = 5 ∨ m = 6 ∨ m = 7 ∨ m = 8 ∨ m = 9 ∨ m = 10 ∨ m = 11 := by omega
 rcases this with rfl | rfl | rfl | rfl | rfl | rfl | rfl | rfl | rfl | rfl | rfl <;>
  (cases h : lp y <;> simp [bef, lng, lpI, h, ah, ahL] <;> omega)
/-- From December to the next year. -/
theorem bef_year (y : Int) (h1 : 1 ≤ y) (h2 : y ≤ 9999) : bef (y + 1) 1 = bef y 12 + 31 := by
 have h := dby_succ y h1 h2
 simp only [bef, h, lpI]
 have e0 : ah (1 - 1) = 0 := by decide
 have e1 : ah (12 - 1) = 334 := by decide
 have n1 : ¬ ((2 : Int) < 1 ∧ lp (y + 1) = true) := fun h => absurd h.1 (by decide)
 rw [e0, e1, if_neg n1]
 cases hl : lp y <;> simp <;> omega
theorem bef_one (y : Int) : bef y 1 = dby y := by
 have n1 : ¬ ((2 : Int) < 1 ∧ lp y = true) := fun h => absurd h.1 (by decide)
 have e0 : ah (1 - 1) = 0 := by decide
 unfold bef; rw [if_neg n1, e0]; omega
theorem yr_bd {M : Int} (h1 : 1 ≤ M) (h2 : M ≤ 119988) : 1 ≤ yr M ∧ yr M ≤ 9999 := by unfold yr; omega
theorem mo_bd (M : Int) : 1 ≤ mo M ∧ mo M ≤ 12 := by unfold mo; omega
theorem yr_of {y m : Int} (h3 : 1 ≤ m) (h4 : m ≤ 12) : yr (12 * (y - 1) + m) = y := by unfold yr; omega
theorem mo_of {y m : Int} (h3 : 1 ≤ m) (h4 : m ≤ 12) : mo (12 * (y - 1) + m) = m := by unfold mo; omega
theorem yrmo (M : Int) : 12 * (yr M - 1) + mo M = M := by unfold yr mo; omega
theorem fst_of {y m : Int} (h3 : 1 ≤ m) (h4 : m ≤ 12) : fst (12 * (y - 1) + m) = bef y m + 1 := by unfold fst; rw [yr_of h3 h4, mo_of h3 h4]
theorem fst_succ {M : Int} (h1 : 1 ≤ M) (h2 : M ≤ 119988) : fst (M + 1) = fst M + lng (yr M) (mo M) := by
 obtain ⟨a, b⟩ := yr_bd h1 h2
 obtain ⟨c, d⟩ := mo_bd M
 by_cases e : mo M = 12
 ·have e1 : yr (M + 1) = yr M + 1 := by unfold yr mo at *; omega
  have e2 : mo (M + 1) = 1 := by unfold mo at *; omega
  unfold fst; rw [e1, e2, bef_year _ a b, e]
  have : lng (yr M) 12 = 31 := by simp [lng]
  omega
 ·have e1 : yr (M + 1) = yr M := by unfold yr mo at *; omega
  have e2 : mo (M + 1) = mo M + 1 := by unfold mo at *; omega
  unfold fst; rw [e1, e2, bef_next _ _ c (by omega)]; omega
theorem fst_lo {M : Int} (h1 : 1 ≤ M) (h2 : M ≤ 119988) : fst M + 28 ≤ fst (M + 1) ∧ fst (M + 1) ≤ fst M + 31 := by
 have := fst_succ h1 h2
 have := lng_bd (yr M) (mo M)
 omega
theorem fst_one : fst 1 = 1 := by decide
theorem fst_top : fst 119989 = 3652060 := by decide
theorem fst_add (n : Nat) {M : Int} (h1 : 1 ≤ M) (h2 : M + n ≤ 119989) : fst M + 28 * n ≤ fst (M + n) := by
 induction n with
 | zero => simp
 | succ k ih =>
  have a := ih (by omega)
  have b := (fst_lo (M := M + k) (by omega) (by omega)).1
  have e : M + ((k + 1 : Nat) : Int) = M + k + 1 := by omega
  rw [e]; omega
theorem fst_mono {a b : Int} (h1 : 1 ≤ a) (h : a ≤ b) (h2 : b ≤ 119989) : fst a + 28 * (b - a) ≤ fst b := by
 have := fst_add (b - a).toNat h1 (by omega)
 have e : a + ((b - a).toNat : Int) = b := by omega
 rw [e] at this; omega
theorem fst_bd {M : Int} (h1 : 1 ≤ M) (h2 : M ≤ 119989) : 1 ≤ fst M ∧ fst M ≤ 3652060 := by
 have a := fst_mono (a := 1) (b := M) (by omega) (by omega) (by omega)
 have b := fst_mono (a := M) (b := 119989) (by omega) (by omega) (by omega)
 rw [fst_one] at a; rw [fst_top] at b; omega
/-- A day lies in one month alone. -/
theorem mon_uniq {a b d : Int} (ha : 1 ≤ a) (ha' : a ≤ 119988) (hb : 1 ≤ b) (hb' : b ≤ 119988) (h1 : fst a ≤ d) (h2 : d < fst (a + 1)) (h3 : fst b ≤ d) (h4 : d < fst (b + 1)) : a = b := by
 rcases Int.lt_trichotomy a b with h | h | h
 ·have := fst_mono (a := a + 1) (b := b) (by omega) (by omega) (by omega); omega
 ·exact h
 ·have := fst_mono (a := b + 1) (b := a) (by omega) (by omega) (by omega); omega
theorem mon_ex (n : Nat) : ∀ d : Int, 1 ≤ d → d < fst (1 + n) → 1 + (n : Int) ≤ 119989 → ∃ M, 1 ≤ M ∧ M ≤ 119988 ∧ fst M ≤ d ∧ d < fst (M + 1) := by
 induction n with
 | zero => intro d h1 h2; have := fst_one; simp at h2; omega
 | succ k ih =>
  intro d h1 h2 h3
  by_cases h : d < fst (1 + k)
  ·exact ih d h1 h (by omega)
  ·refine ⟨1 + k, by omega, by omega, by omega, ?_⟩
   have e : (1 : Int) + ((k + 1 : Nat) : Int) = 1 + k + 1 := by omega
   rw [e] at h2; exact h2
open Classical in
/-- The month that has a day (0 where there is none). -/
noncomputable def ofD (d : Int) : Int := if h : ∃ M, 1 ≤ M ∧ M ≤ 119988 ∧ fst M ≤ d ∧ d < fst (M + 1) then Classical.choose h else 0
theorem ofD_spec {d : Int} (h1 : 1 ≤ d) (h2 : d ≤ 3652059) : 1 ≤ ofD d ∧ ofD d ≤ 119988 ∧ fst (ofD d) ≤ d ∧ d < fst (ofD d + 1) := by
 have h : ∃ M, 1 ≤ M ∧ M ≤ 119988 ∧ fst M ≤ d ∧ d < fst (M + 1) :=
  mon_ex 119988 d h1 (by have := fst_top; have e : (1 : Int) + ((119988 : Nat) : Int) = 119989 := by omega
                         rw [e]; omega) (by omega)
 unfold ofD; rw [dif_pos h]; exact Classical.choose_spec h
theorem ofD_eq {M d : Int} (h1 : 1 ≤ M) (h2 : M ≤ 119988) (h3 : fst M ≤ d) (h4 : d < fst (M + 1)) : ofD d = M := by
 have a := fst_bd h1 (by omega)
 have b := fst_bd (M := M + 1) (by omega) (by omega)
 obtain ⟨p, q, r, s⟩ := ofD_spec (d := d) (by omega) (by omega)
 exact mon_uniq p q h1 h2 r s h3 h4

/- What the functions answer. -/
def monV (y m : Int) : Int := if okYM y m = true then 12 * (y - 1) + m else 0
def monE (y m : Int) : Int := if okYM y m = true then 0 else 2
def fstV (M : Int) : Int := if okM M = true then fst M else 0
def lstV (M : Int) : Int := if okM M = true then fst (M + 1) - 1 else 0
def mE (M : Int) : Int := if okM M = true then 0 else 2
def dayOk (y m d : Int) : Bool := okYM y m && decide (1 ≤ d) && decide (d ≤ lng y m)
def dayV (y m d : Int) : Int := if dayOk y m d = true then bef y m + d else 0
def dayE (y m d : Int) : Int := if dayOk y m d = true then 0 else 2
noncomputable def ofV (d : Int) : Int := if okD d = true then ofD d else 0
def dE (d : Int) : Int := if okD d = true then 0 else 2
noncomputable def dtY (d : Int) : Int := if okD d = true then yr (ofD d) else 0
noncomputable def dtM (d : Int) : Int := if okD d = true then mo (ofD d) else 0
noncomputable def dtD (d : Int) : Int := if okD d = true then d - fst (ofD d) + 1 else 0
theorem dayOk_t {y m d : Int} (h : dayOk y m d = true) : (1 ≤ y ∧ y ≤ 9999 ∧ 1 ≤ m ∧ m ≤ 12) ∧ 1 ≤ d ∧ d ≤ lng y m := by
 unfold dayOk at h; simp at h; exact ⟨okYM_t h.1.1, h.1.2, h.2⟩
theorem dayOk_mk {y m d : Int} (h : okYM y m = true) (h1 : 1 ≤ d) (h2 : d ≤ lng y m) : dayOk y m d = true := by
 unfold dayOk; simp [h, h1, h2]
theorem lng_fst {y m : Int} (h1 : 1 ≤ y) (h2 : y ≤ 9999) (h3 : 1 ≤ m) (h4 : m ≤ 12) : fst (12 * (y - 1) + m + 1) - fst (12 * (y - 1) + m) = lng y m := by
 have := fst_succ (M := 12 * (y - 1) + m) (by omega) (by omega)
 rw [yr_of h3 h4, mo_of h3 h4] at this; omega
end Cv
namespace Cv
theorem lp_a {y : Int} (h1 : 1 ≤ y) (h2 : y ≤ 9999) (h3 : y % 4 = 0) (h4 : y % 100 = 0) : (y % 400 == 0) = lp y := by
 simp [lp, h1, h2, h3, h4]; rfl
theorem lp_b {y : Int} (h1 : 1 ≤ y) (h2 : y ≤ 9999) (h3 : y % 4 = 0) (h4 : ¬ y % 100 = 0) : true = lp y := by
 simp [lp, h1, h2, h3, h4]
theorem lp_c {y : Int} (h3 : ¬ y % 4 = 0) : false = lp y := by
 simp [lp, h3]
theorem lp_d {y : Int} (h3 : ¬ 1 ≤ y) : false = lp y := by
 simp [lp, h3]
theorem lp_e {y : Int} (h3 : ¬ y ≤ 9999) : false = lp y := by
 simp [lp, h3]
theorem lp_f {y : Int} (h1 : 1 ≤ y) (h2 : y ≤ 9999) (h : y % 400 = 0) : true = lp y := by
 have h3 : y % 4 = 0 := by omega
 simp [lp, h1, h2, h3, h]
theorem lp_g {y : Int} (h1 : 1 ≤ y) (h2 : y ≤ 9999) (h3 : y % 4 = 0) (h : ¬ y % 400 = 0) : (y % 100 != 0) = lp y := by
 simp [lp, h1, h2, h3, h]; rfl
theorem bef_a {y m : Int} (h : 2 < m) (hl : lp y = true) : 365 * (y - 1) + (y - 1) / 4 - (y - 1) / 100 + (y - 1) / 400 + ah (m - 1) + 1 = bef y m := by
 unfold bef dby; rw [if_pos ⟨h, hl⟩]
theorem bef_b {y m : Int} (h : ¬ (2 < m ∧ lp y = true)) : 365 * (y - 1) + (y - 1) / 4 - (y - 1) / 100 + (y - 1) / 400 + ah (m - 1) = bef y m := by
 unfold bef dby; rw [if_neg h]; omega
theorem ah_at {m : Int} (h1 : 1 ≤ m) (h2 : m ≤ 13) : ahL.getD (m.toNat - 1) 0 = ah (m - 1) := by
 unfold ah; congr 1; omega
theorem dby_flat {y : Int} (h1 : 1 ≤ y) (h2 : y ≤ 10000) : 0 ≤ 365 * (y - 1) + (y - 1) / 4 - (y - 1) / 100 + (y - 1) / 400 ∧ 365 * (y - 1) + (y - 1) / 4 - (y - 1) / 100 + (y - 1) / 400 ≤ 3652059 := dby_bd y h1 h2
end Cv
namespace Cv
theorem yrI (y : Int) (h : lp y = true) : 366 = 365 + lpI y := by rw [lpI_t h]; rfl
theorem yrJ (y : Int) (h : lp y = false) : 365 = 365 + lpI y := by rw [lpI_f h]; rfl
theorem lng_a {y m : Int} (h : m = 2) (hl : lp y = true) : 29 = lng y m := by simp [lng, h, lpI_t hl]
theorem lng_b {y m : Int} (h : m = 2) (hl : lp y = false) : 28 = lng y m := by simp [lng, h, lpI_f hl]
theorem lng_c {y m : Int} (h : m = 4 ∨ m = 6 ∨ m = 9 ∨ m = 11) : 30 = lng y m := by
 unfold lng; rw [if_neg (show ¬ m = 2 by omega), if_pos h]
theorem lng_d {y m : Int} (g : ¬ m = 2) (h : ¬ (m = 4 ∨ m = 6 ∨ m = 9 ∨ m = 11)) : 31 = lng y m := by
 unfold lng; rw [if_neg g, if_neg h]
theorem dby_400 (y : Int) : dby (y - (y - 1) % 400) = (y - 1) / 400 * 146097 := by unfold dby; omega
theorem bef_top (y : Int) (h1 : 1 ≤ y) (h2 : y ≤ 9999) : bef y 12 + lng y 12 = dby (y + 1) := by
 have a := bef_year y h1 h2
 have b := bef_one (y + 1)
 have c : lng y 12 = 31 := by simp [lng]
 omega
end Cv
namespace Cv
/-- The date of a day is the one whose day it is. -/
theorem dt_of {y m r D : Int} (h1 : 1 ≤ y) (h2 : y ≤ 9999) (h3 : 1 ≤ m) (h4 : m ≤ 12) (h5 : 1 ≤ r) (h6 : r ≤ lng y m) (h : r + bef y m = D) :
  okD D = true ∧ ofD D = 12 * (y - 1) + m ∧ dtY D = y ∧ dtM D = m ∧ dtD D = r := by
 have a := lng_fst h1 h2 h3 h4
 have b := fst_of (y := y) h3 h4
 have c : ofD D = 12 * (y - 1) + m := ofD_eq (by omega) (by omega) (by omega) (by omega)
 have e := fst_bd (M := 12 * (y - 1) + m) (by omega) (by omega)
 have e' := fst_bd (M := 12 * (y - 1) + m + 1) (by omega) (by omega)
 have d : okD D = true := okD_mk (by omega) (by omega)
 refine ⟨d, c, ?_, ?_, ?_⟩
 ·simp only [dtY, d, if_true, c]; exact yr_of h3 h4
 ·simp only [dtM, d, if_true, c]; exact mo_of h3 h4
 ·simp only [dtD, d, if_true, c]; omega
theorem dby_top : dby 10000 = 3652059 := by decide
theorem dby_start (D : Int) : (D - 1) % 146097 + 1 + dby (1 + (D - 1) / 146097 * 400) = D := by unfold dby; omega
end Cv
namespace Cv
end Cv

namespace Go.Proofs.YtgceecnlgjmghaaDoor.civ
open Go.RowKit

/-- The table holds its numbers. -/
def Tab (w : World) : Prop := ∀ i, i < 13 → w.cell? ⟨2, i, none⟩ = some (.int .i64 (Cv.ahL.getD i 0))
theorem ret_int {k : IntKind} {a b : Int} (h : a = b) : Ending.returned (.int k a) = .returned (.int k b) := by rw [h]
theorem ret_bool {a b : Bool} (h : a = b) : Ending.returned (.bool a) = .returned (.bool b) := by rw [h]
theorem ret_two {k l : IntKind} {a b c d : Int} (h : a = b) (g : c = d) : Ending.returned (.tuple #[.int k a, .int l c]) = .returned (.tuple #[.int k b, .int l d]) := by rw [h, g]
theorem ret_three {k l m : IntKind} {a b c d e f : Int} (h : a = b) (g : c = d) (i : e = f) : Ending.returned (.tuple #[.int k a, .int l c, .int m e]) = .returned (.tuple #[.int k b, .int l d, .int m f]) := by rw [h, g, i]

theorem leap_any (y : Int) (w : World) : Calls Tryd.prog 114 #[.int .i64 y] w fun e w' => e = .returned (.bool (Cv.lp y)) ∧ w = w' := by
 by_cases h1 : 1 ≤ y
 ·by_cases h2 : y ≤ 9999
  ·go_enter Tryd.func114, Tryd.ntmps114
   go_wp2
   all_goals go_ret
   ·exact ⟨ret_bool (Cv.lp_a h1 h2 ‹_› ‹_›), rfl⟩
   ·exact ⟨ret_bool (Cv.lp_b h1 h2 ‹_› ‹_›), rfl⟩
   ·exact ⟨ret_bool (Cv.lp_c ‹_›), rfl⟩
  ·go_enter Tryd.func114, Tryd.ntmps114
   go_wp2
   go_ret
   exact ⟨ret_bool (Cv.lp_e (by omega)), rfl⟩
 ·go_enter Tryd.func114, Tryd.ntmps114
  go_wp2
  go_ret
  exact ⟨ret_bool (Cv.lp_d (by omega)), rfl⟩
theorem leap_t (y : Int) (w : World) (h : Cv.lp y = true) : Calls Tryd.prog 114 #[.int .i64 y] w fun e w' => e = .returned (.bool true) ∧ w = w' :=
 (leap_any y w).mono fun _ _ ⟨a, b⟩ => ⟨by rw [a, h], b⟩
theorem leap_f (y : Int) (w : World) (h : Cv.lp y = false) : Calls Tryd.prog 114 #[.int .i64 y] w fun e w' => e = .returned (.bool false) ∧ w = w' :=
 (leap_any y w).mono fun _ _ ⟨a, b⟩ => ⟨by rw [a, h], b⟩

theorem before_any (y m : Int) (w : World) (T : Tab w) (h1 : 1 ≤ y) (h2 : y ≤ 10000) (h3 : 1 ≤ m) (h4 : m ≤ 12) :
  Calls Tryd.prog 93 #[.int .i64 y, .int .i64 m] w fun e w' => e = .returned (.int .i64 (Cv.bef y m)) ∧ w = w' := by
 have hc := T (m.toNat - 1) (by omega)
 rw [Cv.ah_at h3 (by omega)] at hc
 obtain ⟨b0, b1⟩ := Cv.ah_bd (m - 1) (by omega) (by omega)
 obtain ⟨d0, d1⟩ := Cv.dby_flat h1 h2
 clear T
 by_cases h5 : 2 < m
 ·cases hl : Cv.lp y
  ·have HL := Lib.hid hl
   clear hl
   go_enter Tryd.func93, Tryd.ntmps93
   go_wp2_with (go_at_call 114; refine (leap_f _ _ HL.out).mono ?_; rintro e w' ⟨rfl, rfl⟩)
   go_ret
   exact ⟨ret_int (Cv.bef_b (by rw [HL.out]; simp)), rfl⟩
  ·have HL := Lib.hid hl
   clear hl
   go_enter Tryd.func93, Tryd.ntmps93
   go_wp2_with (go_at_call 114; refine (leap_t _ _ HL.out).mono ?_; rintro e w' ⟨rfl, rfl⟩)
   go_ret
   exact ⟨ret_int (Cv.bef_a h5 HL.out), rfl⟩
 ·go_enter Tryd.func93, Tryd.ntmps93
  go_wp2
  go_ret
  exact ⟨ret_int (Cv.bef_b (by omega)), rfl⟩

theorem parts_any (M : Int) (w : World) (h1 : 1 ≤ M) (h2 : M ≤ 119989) : Calls Tryd.prog 94 #[.int .i64 M] w fun e w' => e = .returned (.tuple #[.int .i64 (Cv.yr M), .int .i64 (Cv.mo M)]) ∧ w = w' := by
 go_enter Tryd.func94, Tryd.ntmps94
 go_wp2
 go_ret2
 exact ⟨rfl, rfl⟩
theorem days_any (M : Int) (w : World) (T : Tab w) : Calls Tryd.prog 80 #[.int .i64 M] w fun e w' => e = .returned (.tuple #[.int .i64 (Cv.fstV M), .int .i64 (Cv.lstV M), .int .i64 (Cv.mE M)]) ∧ w = w' := by
 cases h : Cv.okM M
 ·have e1 : 0 = Cv.fstV M := by simp [Cv.fstV, h]
  have e2 : 0 = Cv.lstV M := by simp [Cv.lstV, h]
  have e3 : 2 = Cv.mE M := by simp [Cv.mE, h]
  have h' := Cv.okM_f h
  have E1 := Lib.hid e1
  have E2 := Lib.hid e2
  have E3 := Lib.hid e3
  clear e1 e2 e3 h T
  rcases h' with h' | h'
  ·go_enter Tryd.func80, Tryd.ntmps80
   go_wp2
   go_ret3
   exact ⟨ret_three E1.out E2.out E3.out, rfl⟩
  ·have h1 : 1 ≤ M := by omega
   go_enter Tryd.func80, Tryd.ntmps80
   go_wp2
   go_ret3
   exact ⟨ret_three E1.out E2.out E3.out, rfl⟩
 ·have e1 : Cv.fst M = Cv.fstV M := by simp [Cv.fstV, h]
  have e2 : Cv.fst (M + 1) - 1 = Cv.lstV M := by simp [Cv.lstV, h]
  have e3 : 0 = Cv.mE M := by simp [Cv.mE, h]
  obtain ⟨h1, h2⟩ := Cv.okM_t h
  have E1 := Lib.hid e1
  have E2 := Lib.hid e2
  have E3 := Lib.hid e3
  obtain ⟨y1, y2⟩ := Cv.yr_bd h1 h2
  obtain ⟨m1, m2⟩ := Cv.mo_bd M
  obtain ⟨b1, b2⟩ := Cv.bef_bd (Cv.yr M) (Cv.mo M) y1 (by omega) m1 m2
  have TT := Lib.hid T
  clear e1 e2 e3 h T
  by_cases he : M = 119988
  ·have HE := Lib.hid he
   have hb : (M == 119988) = true := by rw [he]; rfl
   clear he
   go_enter Tryd.func80, Tryd.ntmps80
   go_wp2_with (first | (go_at_call 94; refine (parts_any _ _ h1 (by omega)).mono ?_; rintro e w' ⟨rfl, rfl⟩) | (go_at_call 93; refine (before_any _ _ _ TT.out y1 (by omega) m1 m2).mono ?_; rintro e w' ⟨rfl, rfl⟩))
   go_ret3
   exact ⟨ret_three E1.out (by rw [← E2.out, HE.out]; decide) E3.out, rfl⟩
  ·have hb : (M == 119988) = false := by simpa using he
   have h3 : M + 1 ≤ 119988 := by omega
   obtain ⟨z1, z2⟩ := Cv.yr_bd (M := M + 1) (by omega) h3
   obtain ⟨n1, n2⟩ := Cv.mo_bd (M + 1)
   obtain ⟨c1, c2⟩ := Cv.bef_bd (Cv.yr (M + 1)) (Cv.mo (M + 1)) z1 (by omega) n1 n2
   clear he
   go_enter Tryd.func80, Tryd.ntmps80
   go_wp2_with (first | (go_at_call 94; refine (parts_any _ _ (by omega) (by omega)).mono ?_; rintro e w' ⟨rfl, rfl⟩) | (go_at_call 93; refine (before_any _ _ _ TT.out (by omega) (by omega) (by omega) (by omega)).mono ?_; rintro e w' ⟨rfl, rfl⟩))
   go_ret3
   exact ⟨ret_three E1.out (by rw [← E2.out]; unfold Cv.fst; omega) E3.out, rfl⟩
end Go.Proofs.YtgceecnlgjmghaaDoor.civ

namespace Go.Proofs.YtgceecnlgjmghaaDoor.civ
open Go.RowKit

theorem of_no (d : Int) (w : World) (h : Cv.okD d = false) : Calls Tryd.prog 79 #[.int .i64 d] w fun e w' => e = .returned (.tuple #[.int .i64 0, .int .i64 2]) ∧ w = w' := by
 have h' := Cv.okD_f h
 clear h
 rcases h' with h' | h'
 ·go_enter Tryd.func79, Tryd.ntmps79
  go_wp2
  go_step3
  go_wp2
  rw [Exit.noGoto_ret]
  go_ret2
  exact ⟨rfl, rfl⟩
 ·have h1 : 1 ≤ d := by omega
  go_enter Tryd.func79, Tryd.ntmps79
  go_wp2
  go_step3
  go_wp2
  rw [Exit.noGoto_ret]
  go_ret2
  exact ⟨rfl, rfl⟩
theorem of_yes (d : Int) (w : World) (T : Tab w) (h1 : 1 ≤ d) (h2 : d ≤ 3652059) : Calls Tryd.prog 79 #[.int .i64 d] w fun e w' => e = .returned (.tuple #[.int .i64 (Cv.ofD d), .int .i64 0]) ∧ w = w' := by
 have TT := Lib.hid T
 clear T
 go_enter Tryd.func79, Tryd.ntmps79
 go_wp2
 go_step3
 go_wp2
 go_step3
 go_wp2
 go_loop [4, 5] (fun a b => ∃ lo hi : Int, a = .int .i64 lo ∧ b = .int .i64 hi ∧ 1 ≤ lo ∧ lo ≤ hi ∧ hi ≤ 119988 ∧ Cv.fst lo ≤ d ∧ d < Cv.fst (hi + 1)) (fun a b => (intOf b - intOf a).toNat)
 case atStart => exact ⟨1, 119988, rfl, rfl, by omega, by omega, by omega, by rw [Cv.fst_one]; omega, by have := Cv.fst_top; show d < Cv.fst 119989; omega⟩
 case round =>
  obtain ⟨lo, hi, rfl, rfl, l1, l2, l3, f1, f2⟩ := hrel
  by_cases he : lo = hi
  ·subst he
   have F := Lib.hid (And.intro f1 f2)
   clear f1 f2
   go_wp2
   go_ret2
   exact ⟨ret_two (Cv.ofD_eq l1 (by omega) F.out.1 F.out.2).symm rfl, rfl⟩
  ·have hb : (lo == hi) = false := by simpa using he
   have m1 : 1 ≤ (lo + hi + 1) / 2 := by omega
   have m2 : (lo + hi + 1) / 2 ≤ 119988 := by omega
   have m3 : lo < (lo + hi + 1) / 2 := by omega
   have m4 : (lo + hi + 1) / 2 ≤ hi := by omega
   have e1 : Cv.fstV ((lo + hi + 1) / 2) = Cv.fst ((lo + hi + 1) / 2) := by simp [Cv.fstV, Cv.okM_mk m1 m2]
   have F := Lib.hid (And.intro f1 f2)
   have E1 := Lib.hid e1
   clear he f1 f2 e1
   by_cases hc : Cv.fst ((lo + hi + 1) / 2) ≤ d
   ·have hc' : Cv.fstV ((lo + hi + 1) / 2) ≤ d := by rw [E1.out]; exact hc
    clear hc
    go_wp2_with (go_at_call 80; refine (days_any _ _ TT.out).mono ?_; rintro e w' ⟨rfl, rfl⟩)
    go_round
    case rel => exact ⟨_, _, rfl, rfl, by omega, by omega, by omega, by rw [← E1.out]; exact hc', F.out.2⟩
    case measure => simp [intOf]; omega
   ·have hc' : ¬ Cv.fstV ((lo + hi + 1) / 2) ≤ d := by rw [E1.out]; exact hc
    clear hc
    go_wp2_with (go_at_call 80; refine (days_any _ _ TT.out).mono ?_; rintro e w' ⟨rfl, rfl⟩)
    go_round
    case rel =>
     have e : (lo + hi + 1) / 2 - 1 + 1 = (lo + hi + 1) / 2 := by omega
     exact ⟨_, _, rfl, rfl, by omega, by omega, by omega, F.out.1, by rw [e, ← E1.out]; omega⟩
    case measure => simp [intOf]; omega
theorem of_any (d : Int) (w : World) (T : Tab w) : Calls Tryd.prog 79 #[.int .i64 d] w fun e w' => e = .returned (.tuple #[.int .i64 (Cv.ofV d), .int .i64 (Cv.dE d)]) ∧ w = w' := by
 cases h : Cv.okD d
 ·have e1 : Cv.ofV d = 0 := by simp [Cv.ofV, h]
  have e2 : Cv.dE d = 2 := by simp [Cv.dE, h]
  rw [e1, e2]; exact of_no d w h
 ·have e1 : Cv.ofV d = Cv.ofD d := by simp [Cv.ofV, h]
  have e2 : Cv.dE d = 0 := by simp [Cv.dE, h]
  rw [e1, e2]; exact of_yes d w T (Cv.okD_t h).1 (Cv.okD_t h).2

theorem ret_four {k l m n : IntKind} {a b c d e f g h : Int} (h1 : a = b) (h2 : c = d) (h3 : e = f) (h4 : g = h) : Ending.returned (.tuple #[.int k a, .int l c, .int m e, .int n g]) = .returned (.tuple #[.int k b, .int l d, .int m f, .int n h]) := by rw [h1, h2, h3, h4]
end Go.Proofs.YtgceecnlgjmghaaDoor.civ

namespace Go.Proofs.YtgceecnlgjmghaaDoor.ref08
open Go.RowKit Go.Proofs.YtgceecnlgjmghaaDoor.civ

theorem leap_any (y : Int) (w : World) : Calls Tryd.prog 88 #[.int .i64 y] w fun e w' => e = .returned (.bool (Cv.lp y)) ∧ w = w' := by
 by_cases h1 : 1 ≤ y
 ·by_cases h2 : y ≤ 9999
  ·by_cases h3 : y % 400 = 0
   ·have hb : (y % 400 == 0) = true := by simpa using h3
    have H3 := Lib.hid h3
    clear h3
    go_enter Tryd.func88, Tryd.ntmps88
    go_wp2
    go_ret
    exact ⟨ret_bool (Cv.lp_f h1 h2 H3.out), rfl⟩
   ·have hb : (y % 400 == 0) = false := by simpa using h3
    have H3 := Lib.hid h3
    clear h3
    by_cases h4 : y % 4 = 0
    ·have hc : (y % 4 == 0) = true := by simpa using h4
     have H4 := Lib.hid h4
     clear h4
     go_enter Tryd.func88, Tryd.ntmps88
     go_wp2
     go_ret
     exact ⟨ret_bool (Cv.lp_g h1 h2 H4.out H3.out), rfl⟩
    ·have hc : (y % 4 == 0) = false := by simpa using h4
     have H4 := Lib.hid h4
     clear h4
     go_enter Tryd.func88, Tryd.ntmps88
     go_wp2
     go_ret
     exact ⟨ret_bool (Cv.lp_c H4.out), rfl⟩
  ·go_enter Tryd.func88, Tryd.ntmps88
   go_wp2
   go_ret
   exact ⟨ret_bool (Cv.lp_e (by omega)), rfl⟩
 ·go_enter Tryd.func88, Tryd.ntmps88
  go_wp2
  go_ret
  exact ⟨ret_bool (Cv.lp_d (by omega)), rfl⟩
theorem leap_t (y : Int) (w : World) (h : Cv.lp y = true) : Calls Tryd.prog 88 #[.int .i64 y] w fun e w' => e = .returned (.bool true) ∧ w = w' :=
 (leap_any y w).mono fun _ _ ⟨a, b⟩ => ⟨by rw [a, h], b⟩
theorem leap_f (y : Int) (w : World) (h : Cv.lp y = false) : Calls Tryd.prog 88 #[.int .i64 y] w fun e w' => e = .returned (.bool false) ∧ w = w' :=
 (leap_any y w).mono fun _ _ ⟨a, b⟩ => ⟨by rw [a, h], b⟩
theorem year_any (y : Int) (w : World) : Calls Tryd.prog 77 #[.int .i64 y] w fun e w' => e = .returned (.int .i64 (365 + Cv.lpI y)) ∧ w = w' := by
 cases h : Cv.lp y
 ·have H := Lib.hid h
  clear h
  go_enter Tryd.func77, Tryd.ntmps77
  go_wp2_with (go_at_call 88; refine (leap_f _ _ H.out).mono ?_; rintro e w' ⟨rfl, rfl⟩)
  go_ret
  exact ⟨ret_int (Cv.yrJ y H.out), rfl⟩
 ·have H := Lib.hid h
  clear h
  go_enter Tryd.func77, Tryd.ntmps77
  go_wp2_with (go_at_call 88; refine (leap_t _ _ H.out).mono ?_; rintro e w' ⟨rfl, rfl⟩)
  go_ret
  exact ⟨ret_int (Cv.yrI y H.out), rfl⟩
theorem long_any (y m : Int) (w : World) : Calls Tryd.prog 70 #[.int .i64 y, .int .i64 m] w fun e w' => e = .returned (.int .i64 (Cv.lng y m)) ∧ w = w' := by
 by_cases h2 : m = 2
 ·have hb : (m == 2) = true := by simpa using h2
  have H2 := Lib.hid h2
  clear h2
  cases h : Cv.lp y
  ·have H := Lib.hid h
   clear h
   go_enter Tryd.func70, Tryd.ntmps70
   go_wp2_with (go_at_call 88; refine (leap_f _ _ H.out).mono ?_; rintro e w' ⟨rfl, rfl⟩)
   go_ret
   exact ⟨ret_int (Cv.lng_b H2.out H.out), rfl⟩
  ·have H := Lib.hid h
   clear h
   go_enter Tryd.func70, Tryd.ntmps70
   go_wp2_with (go_at_call 88; refine (leap_t _ _ H.out).mono ?_; rintro e w' ⟨rfl, rfl⟩)
   go_ret
   exact ⟨ret_int (Cv.lng_a H2.out H.out), rfl⟩
 ·have hb : (m == 2) = false := by simpa using h2
  have H2 := Lib.hid h2
  clear h2
  by_cases h : m = 4 ∨ m = 6 ∨ m = 9 ∨ m = 11
  ·rcases h with h | h | h | h
   all_goals
    have b4 : (m == 4) = decide (m = 4) := rfl
    have b6 : (m == 6) = decide (m = 6) := rfl
    have b9 : (m == 9) = decide (m = 9) := rfl
    have b11 : (m == 11) = decide (m = 11) := rfl
    simp [h] at b4 b6 b9 b11 hb
    subst h
    go_enter Tryd.func70, Tryd.ntmps70
    go_wp2
    go_ret
    exact ⟨ret_int (Cv.lng_c (by omega)), rfl⟩
  ·have H := Lib.hid h
   have b4 : (m == 4) = false := by simp; omega
   have b6 : (m == 6) = false := by simp; omega
   have b9 : (m == 9) = false := by simp; omega
   have b11 : (m == 11) = false := by simp; omega
   clear h
   go_enter Tryd.func70, Tryd.ntmps70
   go_wp2
   go_ret
   exact ⟨ret_int (Cv.lng_d H2.out H.out), rfl⟩
theorem month_any (y m : Int) (w : World) : Calls Tryd.prog 30 #[.int .i64 y, .int .i64 m] w fun e w' => e = .returned (.tuple #[.int .i64 (Cv.monV y m), .int .i64 (Cv.monE y m)]) ∧ w = w' := by
 cases h : Cv.okYM y m
 ·have e1 : 0 = Cv.monV y m := by simp [Cv.monV, h]
  have e2 : 2 = Cv.monE y m := by simp [Cv.monE, h]
  have h' := Cv.okYM_f h
  have E := Lib.hid (And.intro e1 e2)
  clear e1 e2 h
  by_cases h1 : 1 ≤ y <;> by_cases h2 : y ≤ 9999 <;> by_cases h3 : 1 ≤ m <;> by_cases h4 : m ≤ 12
  all_goals first | (exfalso; omega) | skip
  all_goals
   clear h'
   go_enter Tryd.func30, Tryd.ntmps30
   go_wp2
   go_ret2
   exact ⟨ret_two E.out.1 E.out.2, rfl⟩
 ·have e1 : 12 * (y - 1) + m = Cv.monV y m := by simp [Cv.monV, h]
  have e2 : 0 = Cv.monE y m := by simp [Cv.monE, h]
  obtain ⟨h1, h2, h3, h4⟩ := Cv.okYM_t h
  have E := Lib.hid (And.intro e1 e2)
  clear e1 e2 h
  go_enter Tryd.func30, Tryd.ntmps30
  go_wp2
  go_ret2
  exact ⟨ret_two E.out.1 E.out.2, rfl⟩
theorem day_no (y m d : Int) (w : World) (h : Cv.dayOk y m d = false) : Calls Tryd.prog 58 #[.int .i64 y, .int .i64 m, .int .i64 d] w fun e w' => e = .returned (.tuple #[.int .i64 0, .int .i64 2]) ∧ w = w' := by
 by_cases g : y < 1
 ·clear h
  go_enter Tryd.func58, Tryd.ntmps58
  go_wp2_with (go_at_call 70; refine (long_any _ _ _).mono ?_; rintro e w' ⟨rfl, rfl⟩)
  go_ret2
  exact ⟨rfl, rfl⟩
 have h1 : 1 ≤ y := by omega
 clear g
 by_cases g : 9999 < y
 ·clear h
  go_enter Tryd.func58, Tryd.ntmps58
  go_wp2_with (go_at_call 70; refine (long_any _ _ _).mono ?_; rintro e w' ⟨rfl, rfl⟩)
  go_ret2
  exact ⟨rfl, rfl⟩
 have h2 : y ≤ 9999 := by omega
 clear g
 by_cases g : m < 1
 ·clear h
  go_enter Tryd.func58, Tryd.ntmps58
  go_wp2_with (go_at_call 70; refine (long_any _ _ _).mono ?_; rintro e w' ⟨rfl, rfl⟩)
  go_ret2
  exact ⟨rfl, rfl⟩
 have h3 : 1 ≤ m := by omega
 clear g
 by_cases g : 12 < m
 ·clear h
  go_enter Tryd.func58, Tryd.ntmps58
  go_wp2_with (go_at_call 70; refine (long_any _ _ _).mono ?_; rintro e w' ⟨rfl, rfl⟩)
  go_ret2
  exact ⟨rfl, rfl⟩
 have h4 : m ≤ 12 := by omega
 clear g
 by_cases g : d < 1
 ·clear h
  go_enter Tryd.func58, Tryd.ntmps58
  go_wp2_with (go_at_call 70; refine (long_any _ _ _).mono ?_; rintro e w' ⟨rfl, rfl⟩)
  go_ret2
  exact ⟨rfl, rfl⟩
 have h5 : 1 ≤ d := by omega
 clear g
 have h6 : Cv.lng y m < d := by
  have : ¬ d ≤ Cv.lng y m := fun q => by rw [Cv.dayOk_mk (Cv.okYM_mk h1 h2 h3 h4) h5 q] at h; cases h
  omega
 clear h
 go_enter Tryd.func58, Tryd.ntmps58
 go_wp2_with (go_at_call 70; refine (long_any _ _ _).mono ?_; rintro e w' ⟨rfl, rfl⟩)
 go_ret2
 exact ⟨rfl, rfl⟩
theorem day_yes (y m d : Int) (w : World) (h1 : 1 ≤ y) (h2 : y ≤ 9999) (h3 : 1 ≤ m) (h4 : m ≤ 12) (h5 : 1 ≤ d) (h6 : d ≤ Cv.lng y m) : Calls Tryd.prog 58 #[.int .i64 y, .int .i64 m, .int .i64 d] w fun e w' => e = .returned (.tuple #[.int .i64 (Cv.bef y m + d), .int .i64 0]) ∧ w = w' := by
 obtain ⟨l1, l2⟩ := Cv.lng_bd y m
 have D0 := Lib.hid (Cv.dby_400 y)
 go_enter Tryd.func58, Tryd.ntmps58
 go_wp2_with (go_at_call 70; refine (long_any _ _ _).mono ?_; rintro e w' ⟨rfl, rfl⟩)
 go_loop [8, 9] (fun n i => ∃ k : Int, 1 ≤ k ∧ k ≤ y ∧ i = .int .i64 k ∧ n = .int .i64 (d + Cv.dby k)) (fun _ i => (y - intOf i).toNat)
 case atStart => exact ⟨_, by omega, by omega, rfl, by rw [D0.out]⟩
 case round =>
  obtain ⟨k, k1, k2, rfl, rfl⟩ := hrel
  obtain ⟨b1, b2⟩ := Cv.dby_bd k k1 (by omega)
  obtain ⟨p1, p2⟩ := Cv.lpI_01 k
  by_cases hk : k < y
  ·have S := Lib.hid (Cv.dby_succ k k1 (by omega))
   go_wp2_with (go_at_call 77; refine (year_any _ _).mono ?_; rintro e w' ⟨rfl, rfl⟩)
   go_round
   case rel => exact ⟨k + 1, by omega, by omega, rfl, by rw [S.out]; go_num⟩
   case measure => simp [intOf]; omega
  ·obtain rfl : k = y := by omega
   have B0 := Lib.hid (Cv.bef_one k)
   go_wp2
   go_loop [8, 10] (fun n i => ∃ j : Int, 1 ≤ j ∧ j ≤ m ∧ i = .int .i64 j ∧ n = .int .i64 (d + Cv.bef k j)) (fun _ i => (m - intOf i).toNat)
   case atStart => exact ⟨1, by omega, by omega, rfl, by rw [B0.out]⟩
   case round =>
    obtain ⟨j, j1, j2, rfl, rfl⟩ := hrel
    obtain ⟨c1, c2⟩ := Cv.bef_bd k j k1 (by omega) j1 (by omega)
    obtain ⟨q1, q2⟩ := Cv.lng_bd k j
    by_cases hj : j < m
    ·have S := Lib.hid (Cv.bef_next k j j1 (by omega))
     go_wp2_with (go_at_call 70; refine (long_any _ _ _).mono ?_; rintro e w' ⟨rfl, rfl⟩)
     go_round
     case rel => exact ⟨j + 1, by omega, by omega, rfl, by rw [S.out]; go_num⟩
     case measure => simp [intOf]; omega
    ·obtain rfl : j = m := by omega
     go_wp2
     go_ret2
     exact ⟨ret_two (by omega) rfl, rfl⟩
theorem day_any (y m d : Int) (w : World) : Calls Tryd.prog 58 #[.int .i64 y, .int .i64 m, .int .i64 d] w fun e w' => e = .returned (.tuple #[.int .i64 (Cv.dayV y m d), .int .i64 (Cv.dayE y m d)]) ∧ w = w' := by
 cases h : Cv.dayOk y m d
 ·have e1 : Cv.dayV y m d = 0 := by simp [Cv.dayV, h]
  have e2 : Cv.dayE y m d = 2 := by simp [Cv.dayE, h]
  rw [e1, e2]; exact day_no y m d w h
 ·have e1 : Cv.dayV y m d = Cv.bef y m + d := by simp [Cv.dayV, h]
  have e2 : Cv.dayE y m d = 0 := by simp [Cv.dayE, h]
  obtain ⟨⟨a, b, c, f⟩, g, i⟩ := Cv.dayOk_t h
  rw [e1, e2]; exact day_yes y m d w a b c f g i
theorem days_any (M : Int) (w : World) : Calls Tryd.prog 69 #[.int .i64 M] w fun e w' => e = .returned (.tuple #[.int .i64 (Cv.fstV M), .int .i64 (Cv.lstV M), .int .i64 (Cv.mE M)]) ∧ w = w' := by
 cases h : Cv.okM M
 ·have e1 : 0 = Cv.fstV M := by simp [Cv.fstV, h]
  have e2 : 0 = Cv.lstV M := by simp [Cv.lstV, h]
  have e3 : 2 = Cv.mE M := by simp [Cv.mE, h]
  have h' := Cv.okM_f h
  have E := Lib.hid (And.intro e1 (And.intro e2 e3))
  clear e1 e2 e3 h
  rcases h' with h' | h'
  ·go_enter Tryd.func69, Tryd.ntmps69
   go_wp2
   go_ret3
   exact ⟨ret_three E.out.1 E.out.2.1 E.out.2.2, rfl⟩
  ·have h1 : 1 ≤ M := by omega
   go_enter Tryd.func69, Tryd.ntmps69
   go_wp2
   go_ret3
   exact ⟨ret_three E.out.1 E.out.2.1 E.out.2.2, rfl⟩
 ·have e1 : Cv.fst M = Cv.fstV M := by simp [Cv.fstV, h]
  have e2 : Cv.fst (M + 1) - 1 = Cv.lstV M := by simp [Cv.lstV, h]
  have e3 : 0 = Cv.mE M := by simp [Cv.mE, h]
  obtain ⟨h1, h2⟩ := Cv.okM_t h
  have es := Cv.fst_succ h1 h2
  obtain ⟨y1, y2⟩ := Cv.yr_bd h1 h2
  obtain ⟨m1, m2⟩ := Cv.mo_bd M
  have y0 : Cv.yr M = (M + 11) / 12 := by unfold Cv.yr; omega
  have m0 : Cv.mo M = (M + 11) % 12 + 1 := by unfold Cv.mo; omega
  have ef : Cv.fst M = Cv.bef (Cv.yr M) (Cv.mo M) + 1 := rfl
  obtain ⟨b1, b2⟩ := Cv.bef_bd (Cv.yr M) (Cv.mo M) y1 (by omega) m1 m2
  obtain ⟨l1, l2⟩ := Cv.lng_bd (Cv.yr M) (Cv.mo M)
  rw [y0, m0] at b1 b2 l1 l2 ef es
  have f1 : Cv.bef ((M + 11) / 12) ((M + 11) % 12 + 1) + 1 = Cv.fstV M := by omega
  have f2 : Cv.bef ((M + 11) / 12) ((M + 11) % 12 + 1) + 1 + Cv.lng ((M + 11) / 12) ((M + 11) % 12 + 1) - 1 = Cv.lstV M := by omega
  have E := Lib.hid (And.intro f1 (And.intro f2 e3))
  clear e1 e2 e3 h f1 f2 ef es y0 m0 y1 y2 m1 m2
  go_enter Tryd.func69, Tryd.ntmps69
  go_wp2_with (first | (go_at_call 58; refine (day_yes _ _ _ _ (by omega) (by omega) (by omega) (by omega) (by omega) (by omega)).mono ?_; rintro e w' ⟨rfl, rfl⟩) | (go_at_call 70; refine (long_any _ _ _).mono ?_; rintro e w' ⟨rfl, rfl⟩))
  go_ret3
  exact ⟨ret_three E.out.1 E.out.2.1 E.out.2.2, rfl⟩
end Go.Proofs.YtgceecnlgjmghaaDoor.ref08

namespace Go.Proofs.YtgceecnlgjmghaaDoor.ref08
open Go.RowKit Go.Proofs.YtgceecnlgjmghaaDoor.civ

theorem date_no (d : Int) (w : World) (h : Cv.okD d = false) : Calls Tryd.prog 57 #[.int .i64 d] w fun e w' => e = .returned (.tuple #[.int .i64 0, .int .i64 0, .int .i64 0, .int .i64 2]) ∧ w = w' := by
 have h' := Cv.okD_f h
 clear h
 rcases h' with h' | h'
 ·go_enter Tryd.func57, Tryd.ntmps57
  go_wp2
  exact bodyPost_ret (v := .tuple #[.int .i64 0, .int .i64 0, .int .i64 0, .int .i64 2]) (by simp [results, Tryd.results57, go_sem]) rfl ⟨rfl, rfl⟩
 ·have h1 : 1 ≤ d := by omega
  go_enter Tryd.func57, Tryd.ntmps57
  go_wp2
  exact bodyPost_ret (v := .tuple #[.int .i64 0, .int .i64 0, .int .i64 0, .int .i64 2]) (by simp [results, Tryd.results57, go_sem]) rfl ⟨rfl, rfl⟩
theorem date_yes (d : Int) (w : World) (h1 : 1 ≤ d) (h2 : d ≤ 3652059) : Calls Tryd.prog 57 #[.int .i64 d] w fun e w' => e = .returned (.tuple #[.int .i64 (Cv.dtY d), .int .i64 (Cv.dtM d), .int .i64 (Cv.dtD d), .int .i64 0]) ∧ w = w' := by
 have S0 := Lib.hid (Cv.dby_start d)
 go_enter Tryd.func57, Tryd.ntmps57
 go_wp2
 go_loop [0, 6] (fun r i => ∃ k q : Int, 1 ≤ k ∧ k ≤ 9999 ∧ 1 ≤ q ∧ q + Cv.dby k = d ∧ i = .int .i64 k ∧ r = .int .i64 q) (fun _ i => (10000 - intOf i).toNat)
 case atStart => exact ⟨_, _, by omega, by omega, by omega, S0.out, rfl, rfl⟩
 case round =>
  obtain ⟨k, q, k1, k2, q1, hq, rfl, rfl⟩ := hrel
  obtain ⟨b1, b2⟩ := Cv.dby_bd k k1 (by omega)
  obtain ⟨p1, p2⟩ := Cv.lpI_01 k
  have q2 : q ≤ 3652059 := by omega
  have hs := Cv.dby_succ k k1 k2
  by_cases hk : 365 + Cv.lpI k < q
  ·have k3 : k + 1 ≤ 9999 := by
    have : Cv.dby (9999 + 1) = 3652059 := Cv.dby_top
    by_cases e : k = 9999
    ·exfalso; subst e; omega
    ·omega
   have HQ := Lib.hid (And.intro hq hs)
   clear hq hs
   go_wp2_with (go_at_call 77; refine (year_any _ _).mono ?_; rintro e w' ⟨rfl, rfl⟩)
   go_round
   case rel => exact ⟨k + 1, q - (365 + Cv.lpI k), by omega, by omega, by omega, by rw [HQ.out.2]; have := HQ.out.1; omega, rfl, rfl⟩
   case measure => simp [intOf]; omega
  ·have hd : d ≤ Cv.dby (k + 1) := by omega
   have HQ := Lib.hid (And.intro hq (And.intro hs hd))
   have B0 := Lib.hid (Cv.bef_one k)
   have Bt := Lib.hid (Cv.bef_top k k1 k2)
   clear hq hs
   go_wp2_with (go_at_call 77; refine (year_any _ _).mono ?_; rintro e w' ⟨rfl, rfl⟩)
   go_loop [0, 7] (fun r i => ∃ j s : Int, 1 ≤ j ∧ j ≤ 12 ∧ 1 ≤ s ∧ s + Cv.bef k j = d ∧ i = .int .i64 j ∧ r = .int .i64 s) (fun _ i => (12 - intOf i).toNat)
   case atStart => exact ⟨1, q, by omega, by omega, by omega, by rw [B0.out]; exact HQ.out.1, rfl, rfl⟩
   case round =>
    obtain ⟨j, s, j1, j2, s1, hs, rfl, rfl⟩ := hrel
    obtain ⟨c1, c2⟩ := Cv.bef_bd k j k1 (by omega) j1 j2
    obtain ⟨l1, l2⟩ := Cv.lng_bd k j
    have s2 : s ≤ 3652059 := by omega
    by_cases hj : Cv.lng k j < s
    ·have j3 : j + 1 ≤ 12 := by
      by_cases e : j = 12
      ·exfalso; subst e; have := Bt.out; omega
      ·omega
     have HS := Lib.hid (And.intro hs (Cv.bef_next k j j1 (by omega)))
     clear hs
     go_wp2_with (go_at_call 70; refine (long_any _ _ _).mono ?_; rintro e w' ⟨rfl, rfl⟩)
     go_round
     case rel => exact ⟨j + 1, s - Cv.lng k j, by omega, by omega, by omega, by rw [HS.out.2]; have := HS.out.1; omega, rfl, rfl⟩
     case measure => simp [intOf]; omega
    ·have E := Lib.hid (Cv.dt_of k1 k2 j1 j2 s1 (by omega) hs)
     clear hs
     go_wp2_with (go_at_call 70; refine (long_any _ _ _).mono ?_; rintro e w' ⟨rfl, rfl⟩)
     exact bodyPost_ret (v := .tuple #[.int .i64 k, .int .i64 j, .int .i64 s, .int .i64 0]) (by simp [results, Tryd.results57, go_sem]) rfl ⟨ret_four E.out.2.2.1.symm E.out.2.2.2.1.symm E.out.2.2.2.2.symm rfl, rfl⟩
theorem date_any (d : Int) (w : World) : Calls Tryd.prog 57 #[.int .i64 d] w fun e w' => e = .returned (.tuple #[.int .i64 (Cv.dtY d), .int .i64 (Cv.dtM d), .int .i64 (Cv.dtD d), .int .i64 (Cv.dE d)]) ∧ w = w' := by
 cases h : Cv.okD d
 ·have e1 : Cv.dtY d = 0 := by simp [Cv.dtY, h]
  have e2 : Cv.dtM d = 0 := by simp [Cv.dtM, h]
  have e3 : Cv.dtD d = 0 := by simp [Cv.dtD, h]
  have e4 : Cv.dE d = 2 := by simp [Cv.dE, h]
  rw [e1, e2, e3, e4]; exact date_no d w h
 ·have e4 : Cv.dE d = 0 := by simp [Cv.dE, h]
  rw [e4]; exact date_yes d w (Cv.okD_t h).1 (Cv.okD_t h).2
theorem of_any (d : Int) (w : World) : Calls Tryd.prog 29 #[.int .i64 d] w fun e w' => e = .returned (.tuple #[.int .i64 (Cv.ofV d), .int .i64 (Cv.dE d)]) ∧ w = w' := by
 cases h : Cv.okD d
 ·have e1 : 0 = Cv.ofV d := by simp [Cv.ofV, h]
  have e4 : Cv.dE d = 2 := by simp [Cv.dE, h]
  have hb : (Cv.dE d != 0) = true := by rw [e4]; rfl
  have E := Lib.hid (And.intro e1 e4)
  clear e1 e4 h
  go_enter Tryd.func29, Tryd.ntmps29
  go_wp2_with (go_at_call 57; refine (date_any _ _).mono ?_; rintro e w' ⟨rfl, rfl⟩)
  go_ret2
  exact ⟨ret_two E.out.1 rfl, rfl⟩
 ·obtain ⟨d1, d2⟩ := Cv.okD_t h
  obtain ⟨M1, M2, F1, F2⟩ := Cv.ofD_spec d1 d2
  have hb : (Cv.dE d != 0) = false := by simp [Cv.dE, h]
  have ey : Cv.dtY d = Cv.yr (Cv.ofD d) := by simp [Cv.dtY, h]
  have em : Cv.dtM d = Cv.mo (Cv.ofD d) := by simp [Cv.dtM, h]
  obtain ⟨y1, y2⟩ := Cv.yr_bd M1 M2
  obtain ⟨m1, m2⟩ := Cv.mo_bd (Cv.ofD d)
  have ok : Cv.okYM (Cv.dtY d) (Cv.dtM d) = true := by rw [ey, em]; exact Cv.okYM_mk y1 y2 m1 m2
  have e1 : Cv.monV (Cv.dtY d) (Cv.dtM d) = Cv.ofV d := by
   simp only [Cv.monV, ok, if_true, Cv.ofV, h]; rw [ey, em]; exact Cv.yrmo _
  have e2 : Cv.monE (Cv.dtY d) (Cv.dtM d) = Cv.dE d := by simp [Cv.monE, ok, Cv.dE, h]
  have E := Lib.hid (And.intro e1 e2)
  clear e1 e2 h ey em ok M1 M2 F1 F2 y1 y2 m1 m2
  go_enter Tryd.func29, Tryd.ntmps29
  go_wp2_with (first | (go_at_call 57; refine (date_any _ _).mono ?_; rintro e w' ⟨rfl, rfl⟩) | (go_at_call 30; refine (month_any _ _ _).mono ?_; rintro e w' ⟨rfl, rfl⟩))
  go_ret2
  exact ⟨ret_two E.out.1 E.out.2, rfl⟩
end Go.Proofs.YtgceecnlgjmghaaDoor.ref08

