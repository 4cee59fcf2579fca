/- Plain facts about days, months and leap years (whole numbers alone, no program in sight). No conditions. -/
namespace Cv

/-- Is it a leap year (of the years 1 to 9999)? -/
def lp (y : Int) : Bool := decide (1 ≤ y) && decide (y ≤ 9999) && decide (y % 4 = 0) && (!decide (y % 100 = 0) || decide (y % 400 = 0))
def lpI (y : Int) : Int := if lp y = true then 1 else 0
def ahL : List Int := [0, 31, 59, 90, 120, 151, 181, 212, 243, 273, 304, 334, 365]
def ah (k : Int) : Int := ahL.getD k.toNat 0
/-- Days ahead of a year, and of a month of a year. -/
def dby (y : Int) : Int := 365 * (y - 1) + (y - 1) / 4 - (y - 1) / 100 + (y - 1) / 400
def bef (y m : Int) : Int := dby y + ah (m - 1) + (if 2 < m ∧ lp y = true then 1 else 0)
def lng (y m : Int) : Int := if m = 2 then 28 + lpI y else if m = 4 ∨ m = 6 ∨ m = 9 ∨ m = 11 then 30 else 31
def yr (M : Int) : Int := (M - 1) / 12 + 1
def mo (M : Int) : Int := (M - 1) % 12 + 1
/-- The first day of a month by its number. -/
def fst (M : Int) : Int := bef (yr M) (mo M) + 1
def okM (M : Int) : Bool := decide (1 ≤ M) && decide (M ≤ 119988)
def okYM (y m : Int) : Bool := decide (1 ≤ y) && decide (y ≤ 9999) && decide (1 ≤ m) && decide (m ≤ 12)
def okD (d : Int) : Bool := decide (1 ≤ d) && decide (d ≤ 3652059)

theorem okM_t {M : Int} (h : okM M = true) : 1 ≤ M ∧ M ≤ 119988 := by unfold okM at h; simpa using h
theorem okM_f {M : Int} (h : okM M = false) : M < 1 ∨ 119988 < M := by
  unfold okM at h; simp at h; omega
theorem okM_mk {M : Int} (h1 : 1 ≤ M) (h2 : M ≤ 119988) : okM M = true := by unfold okM; simp; omega
theorem okM_no {M : Int} (h1 : M < 1 ∨ 119988 < M) : okM M = false := by unfold okM; simp; omega
theorem okYM_t {y m : Int} (h : okYM y m = true) : 1 ≤ y ∧ y ≤ 9999 ∧ 1 ≤ m ∧ m ≤ 12 := by
  unfold okYM at h; simp at h; omega
theorem okYM_f {y m : Int} (h : okYM y m = false) : ¬ (1 ≤ y ∧ y ≤ 9999 ∧ 1 ≤ m ∧ m ≤ 12) := by
  unfold okYM at h; simp at h; omega
theorem okYM_mk {y m : Int} (h1 : 1 ≤ y) (h2 : y ≤ 9999) (h3 : 1 ≤ m) (h4 : m ≤ 12) : okYM y m = true := by
  unfold okYM; simp; omega
theorem okYM_no {y m : Int} (h : ¬ (1 ≤ y ∧ y ≤ 9999 ∧ 1 ≤ m ∧ m ≤ 12)) : okYM y m = false := by
  unfold okYM; simp; omega
theorem okD_t {d : Int} (h : okD d = true) : 1 ≤ d ∧ d ≤ 3652059 := by unfold okD at h; simpa using h
theorem okD_f {d : Int} (h : okD d = false) : d < 1 ∨ 3652059 < d := by unfold okD at h; simp at h; omega
theorem okD_mk {d : Int} (h1 : 1 ≤ d) (h2 : d ≤ 3652059) : okD d = true := by unfold okD; simp; omega
theorem okD_no {d : Int} (h1 : d < 1 ∨ 3652059 < d) : okD d = false := by unfold okD; simp; omega

theorem lp_iff (y : Int) : lp y = true ↔ (1 ≤ y ∧ y ≤ 9999) ∧ y % 4 = 0 ∧ (y % 100 ≠ 0 ∨ y % 400 = 0) := by
  unfold lp; simp; omega
theorem lpI_01 (y : Int) : 0 ≤ lpI y ∧ lpI y ≤ 1 := by unfold lpI; split <;> omega
theorem lpI_t {y : Int} (h : lp y = true) : lpI y = 1 := by unfold lpI; simp [h]
theorem lpI_f {y : Int} (h : lp y = false) : lpI y = 0 := by unfold lpI; simp [h]
theorem dby_succ (y : Int) (h1 : 1 ≤ y) (h2 : y ≤ 9999) : dby (y + 1) = dby y + 365 + lpI y := by
  have e1 : y + 1 - 1 = y := by omega
  have a4 : y / 4 = (y - 1) / 4 + (if y % 4 = 0 then 1 else 0) := by split <;> omega
  have a100 : y / 100 = (y - 1) / 100 + (if y % 100 = 0 then 1 else 0) := by split <;> omega
  have a400 : y / 400 = (y - 1) / 400 + (if y % 400 = 0 then 1 else 0) := by split <;> omega
  have i1 : y % 400 = 0 → y % 100 = 0 := by omega
  have i2 : y % 100 = 0 → y % 4 = 0 := by omega
  have hl := lp_iff y
  unfold lpI dby
  rw [e1, a4, a100, a400]
  by_cases h : lp y = true
  · rw [if_pos h]
    obtain ⟨_, b, c⟩ := hl.1 h
    rw [if_pos b]
    rcases c with c | c
    · rw [if_neg c, if_neg (fun q => c (i1 q))]; omega
    · rw [if_pos c, if_pos (i1 c)]; omega
  · rw [if_neg h]
    have n := mt hl.2 h
    by_cases p4 : y % 4 = 0
    · have p100 : y % 100 = 0 := Decidable.byContradiction fun q => n ⟨⟨h1, h2⟩, p4, Or.inl q⟩
      have p400 : ¬ y % 400 = 0 := fun q => n ⟨⟨h1, h2⟩, p4, Or.inr q⟩
      rw [if_pos p4, if_pos p100, if_neg p400]; omega
    · rw [if_neg p4, if_neg (fun q => p4 (i2 q)), if_neg (fun q => p4 (i2 (i1 q)))]; omega
theorem ah_bd (k : Int) (h0 : 0 ≤ k) (h1 : k ≤ 12) : 0 ≤ ah k ∧ ah k ≤ 365 := by
  have : k = 0 ∨ k = 1 ∨ k = 2 ∨ k = 3 ∨ k = 4 ∨ k = 5 ∨ k = 6 ∨ k = 7 ∨ k = 8 ∨ k = 9 ∨ k = 10 ∨ k = 11 ∨ k = 12 := by omega
  rcases this with rfl | rfl | rfl | rfl | rfl | rfl | rfl | rfl | rfl | rfl | rfl | rfl | rfl <;> decide
theorem dby_bd (y : Int) (h1 : 1 ≤ y) (h2 : y ≤ 10000) : 0 ≤ dby y ∧ dby y ≤ 3652059 := by unfold dby; omega
theorem bef_bd (y m : Int) (h1 : 1 ≤ y) (h2 : y ≤ 10000) (h3 : 1 ≤ m) (h4 : m ≤ 12) : 0 ≤ bef y m ∧ bef y m ≤ 3652425 := by
  have := dby_bd y h1 h2
  have := ah_bd (m - 1) (by omega) (by omega)
  unfold bef; split <;> omega
theorem lng_bd (y m : Int) : 28 ≤ lng y m ∧ lng y m ≤ 31 := by
  have := lpI_01 y
  unfold lng; split
  · omega
  · split <;> omega
/-- One month on, in the year. -/
theorem bef_next (y m : Int) (h3 : 1 ≤ m) (h4 : m ≤ 11) : bef y (m + 1) = bef y m + lng y m := by
  have : m = 1 ∨ m = 2 ∨ m = 3 ∨ m = 4 ∨ m = 5 ∨ m = 6 ∨ m = 7 ∨ m = 8 ∨ m = 9 ∨ m = 10 ∨ m = 11 := by omega
  rcases this with rfl | rfl | rfl | rfl | rfl | rfl | rfl | rfl | rfl | rfl | rfl <;>
    (cases h : lp y <;> simp [bef, lng, lpI, h, ah, ahL] <;> omega)
/-- From December to the next year. -/
theorem bef_year (y : Int) (h1 : 1 ≤ y) (h2 : y ≤ 9999) : bef (y + 1) 1 = bef y 12 + 31 := by
  have h := dby_succ y h1 h2
  simp only [bef, h, lpI]
  have e0 : ah (1 - 1) = 0 := by decide
  have e1 : ah (12 - 1) = 334 := by decide
  have n1 : ¬ ((2 : Int) < 1 ∧ lp (y + 1) = true) := fun h => absurd h.1 (by decide)
  rw [e0, e1, if_neg n1]
  cases hl : lp y <;> simp <;> omega
theorem bef_one (y : Int) : bef y 1 = dby y := by
  have n1 : ¬ ((2 : Int) < 1 ∧ lp y = true) := fun h => absurd h.1 (by decide)
  have e0 : ah (1 - 1) = 0 := by decide
  unfold bef; rw [if_neg n1, e0]; omega
theorem yr_bd {M : Int} (h1 : 1 ≤ M) (h2 : M ≤ 119988) : 1 ≤ yr M ∧ yr M ≤ 9999 := by unfold yr; omega
theorem mo_bd (M : Int) : 1 ≤ mo M ∧ mo M ≤ 12 := by unfold mo; omega
theorem yr_of {y m : Int} (h3 : 1 ≤ m) (h4 : m ≤ 12) : yr (12 * (y - 1) + m) = y := by unfold yr; omega
theorem mo_of {y m : Int} (h3 : 1 ≤ m) (h4 : m ≤ 12) : mo (12 * (y - 1) + m) = m := by unfold mo; omega
theorem yrmo (M : Int) : 12 * (yr M - 1) + mo M = M := by unfold yr mo; omega
theorem fst_of {y m : Int} (h3 : 1 ≤ m) (h4 : m ≤ 12) : fst (12 * (y - 1) + m) = bef y m + 1 := by unfold fst; rw [yr_of h3 h4, mo_of h3 h4]
theorem fst_succ {M : Int} (h1 : 1 ≤ M) (h2 : M ≤ 119988) : fst (M + 1) = fst M + lng (yr M) (mo M) := by
  obtain ⟨a, b⟩ := yr_bd h1 h2
  obtain ⟨c, d⟩ := mo_bd M
  by_cases e : mo M = 12
  · have e1 : yr (M + 1) = yr M + 1 := by unfold yr mo at *; omega
    have e2 : mo (M + 1) = 1 := by unfold mo at *; omega
    unfold fst; rw [e1, e2, bef_year _ a b, e]
    have : lng (yr M) 12 = 31 := by simp [lng]
    omega
  · have e1 : yr (M + 1) = yr M := by unfold yr mo at *; omega
    have e2 : mo (M + 1) = mo M + 1 := by unfold mo at *; omega
    unfold fst; rw [e1, e2, bef_next _ _ c (by omega)]; omega
theorem fst_lo {M : Int} (h1 : 1 ≤ M) (h2 : M ≤ 119988) : fst M + 28 ≤ fst (M + 1) ∧ fst (M + 1) ≤ fst M + 31 := by
  have := fst_succ h1 h2
  have := lng_bd (yr M) (mo M)
  omega
theorem fst_one : fst 1 = 1 := by decide
theorem fst_top : fst 119989 = 3652060 := by decide
theorem fst_add (n : Nat) {M : Int} (h1 : 1 ≤ M) (h2 : M + n ≤ 119989) : fst M + 28 * n ≤ fst (M + n) := by
  induction n with
  | zero => simp
  | succ k ih =>
    have a := ih (by omega)
    have b := (fst_lo (M := M + k) (by omega) (by omega)).1
    have e : M + ((k + 1 : Nat) : Int) = M + k + 1 := by omega
    rw [e]; omega
theorem fst_mono {a b : Int} (h1 : 1 ≤ a) (h : a ≤ b) (h2 : b ≤ 119989) : fst a + 28 * (b - a) ≤ fst b := by
  have := fst_add (b - a).toNat h1 (by omega)
  have e : a + ((b - a).toNat : Int) = b := by omega
  rw [e] at this; omega
theorem fst_bd {M : Int} (h1 : 1 ≤ M) (h2 : M ≤ 119989) : 1 ≤ fst M ∧ fst M ≤ 3652060 := by
  have a := fst_mono (a := 1) (b := M) (by omega) (by omega) (by omega)
  have b := fst_mono (a := M) (b := 119989) (by omega) (by omega) (by omega)
  rw [fst_one] at a; rw [fst_top] at b; omega
/-- A day lies in one month alone. -/
theorem mon_uniq {a b d : Int} (ha : 1 ≤ a) (ha' : a ≤ 119988) (hb : 1 ≤ b) (hb' : b ≤ 119988) (h1 : fst a ≤ d) (h2 : d < fst (a + 1)) (h3 : fst b ≤ d) (h4 : d < fst (b + 1)) : a = b := by
  rcases Int.lt_trichotomy a b with h | h | h
  · have := fst_mono (a := a + 1) (b := b) (by omega) (by omega) (by omega); omega
  · exact h
  · have := fst_mono (a := b + 1) (b := a) (by omega) (by omega) (by omega); omega
theorem mon_ex (n : Nat) : ∀ d : Int, 1 ≤ d → d < fst (1 + n) → 1 + (n : Int) ≤ 119989 → ∃ M, 1 ≤ M ∧ M ≤ 119988 ∧ fst M ≤ d ∧ d < fst (M + 1) := by
  induction n with
  | zero => intro d h1 h2; have := fst_one; simp at h2; omega
  | succ k ih =>
    intro d h1 h2 h3
    by_cases h : d < fst (1 + k)
    · exact ih d h1 h (by omega)
    · refine ⟨1 + k, by omega, by omega, by omega, ?_⟩
      have e : (1 : Int) + ((k + 1 : Nat) : Int) = 1 + k + 1 := by omega
      rw [e] at h2; exact h2
open Classical in
/-- The month that has a day (0 where there is none). -/
noncomputable def ofD (d : Int) : Int := if h : ∃ M, 1 ≤ M ∧ M ≤ 119988 ∧ fst M ≤ d ∧ d < fst (M + 1) then Classical.choose h else 0
theorem ofD_spec {d : Int} (h1 : 1 ≤ d) (h2 : d ≤ 3652059) : 1 ≤ ofD d ∧ ofD d ≤ 119988 ∧ fst (ofD d) ≤ d ∧ d < fst (ofD d + 1) := by
  have h : ∃ M, 1 ≤ M ∧ M ≤ 119988 ∧ fst M ≤ d ∧ d < fst (M + 1) :=
    mon_ex 119988 d h1 (by have := fst_top; have e : (1 : Int) + ((119988 : Nat) : Int) = 119989 := by omega
                           rw [e]; omega) (by omega)
  unfold ofD; rw [dif_pos h]; exact Classical.choose_spec h
theorem ofD_eq {M d : Int} (h1 : 1 ≤ M) (h2 : M ≤ 119988) (h3 : fst M ≤ d) (h4 : d < fst (M + 1)) : ofD d = M := by
  have a := fst_bd h1 (by omega)
  have b := fst_bd (M := M + 1) (by omega) (by omega)
  obtain ⟨p, q, r, s⟩ := ofD_spec (d := d) (by omega) (by omega)
  exact mon_uniq p q h1 h2 r s h3 h4

/- What the functions answer. -/
def monV (y m : Int) : Int := if okYM y m = true then 12 * (y - 1) + m else 0
def monE (y m : Int) : Int := if okYM y m = true then 0 else 2
def fstV (M : Int) : Int := if okM M = true then fst M else 0
def lstV (M : Int) : Int := if okM M = true then fst (M + 1) - 1 else 0
def mE (M : Int) : Int := if okM M = true then 0 else 2
def dayOk (y m d : Int) : Bool := okYM y m && decide (1 ≤ d) && decide (d ≤ lng y m)
def dayV (y m d : Int) : Int := if dayOk y m d = true then bef y m + d else 0
def dayE (y m d : Int) : Int := if dayOk y m d = true then 0 else 2
noncomputable def ofV (d : Int) : Int := if okD d = true then ofD d else 0
def dE (d : Int) : Int := if okD d = true then 0 else 2
noncomputable def dtY (d : Int) : Int := if okD d = true then yr (ofD d) else 0
noncomputable def dtM (d : Int) : Int := if okD d = true then mo (ofD d) else 0
noncomputable def dtD (d : Int) : Int := if okD d = true then d - fst (ofD d) + 1 else 0
theorem dayOk_t {y m d : Int} (h : dayOk y m d = true) : (1 ≤ y ∧ y ≤ 9999 ∧ 1 ≤ m ∧ m ≤ 12) ∧ 1 ≤ d ∧ d ≤ lng y m := by
  unfold dayOk at h; simp at h; exact ⟨okYM_t h.1.1, h.1.2, h.2⟩
theorem dayOk_mk {y m d : Int} (h : okYM y m = true) (h1 : 1 ≤ d) (h2 : d ≤ lng y m) : dayOk y m d = true := by
  unfold dayOk; simp [h, h1, h2]
theorem dayOk_no {y m d : Int} (h : ¬ ((1 ≤ y ∧ y ≤ 9999 ∧ 1 ≤ m ∧ m ≤ 12) ∧ 1 ≤ d ∧ d ≤ lng y m)) : dayOk y m d = false := by
  cases e : dayOk y m d
  · rfl
  · exact absurd (dayOk_t e) h
theorem lng_fst {y m : Int} (h1 : 1 ≤ y) (h2 : y ≤ 9999) (h3 : 1 ≤ m) (h4 : m ≤ 12) : fst (12 * (y - 1) + m + 1) - fst (12 * (y - 1) + m) = lng y m := by
  have := fst_succ (M := 12 * (y - 1) + m) (by omega) (by omega)
  rw [yr_of h3 h4, mo_of h3 h4] at this; omega
end Cv
namespace Cv
theorem lp_a {y : Int} (h1 : 1 ≤ y) (h2 : y ≤ 9999) (h3 : y % 4 = 0) (h4 : y % 100 = 0) : (y % 400 == 0) = lp y := by
  simp [lp, h1, h2, h3, h4]; rfl
theorem lp_b {y : Int} (h1 : 1 ≤ y) (h2 : y ≤ 9999) (h3 : y % 4 = 0) (h4 : ¬ y % 100 = 0) : true = lp y := by
  simp [lp, h1, h2, h3, h4]
theorem lp_c {y : Int} (h3 : ¬ y % 4 = 0) : false = lp y := by
  simp [lp, h3]
theorem lp_d {y : Int} (h3 : ¬ 1 ≤ y) : false = lp y := by
  simp [lp, h3]
theorem lp_e {y : Int} (h3 : ¬ y ≤ 9999) : false = lp y := by
  simp [lp, h3]
theorem lp_f {y : Int} (h1 : 1 ≤ y) (h2 : y ≤ 9999) (h : y % 400 = 0) : true = lp y := by
  have h3 : y % 4 = 0 := by omega
  simp [lp, h1, h2, h3, h]
theorem lp_g {y : Int} (h1 : 1 ≤ y) (h2 : y ≤ 9999) (h3 : y % 4 = 0) (h : ¬ y % 400 = 0) : (y % 100 != 0) = lp y := by
  simp [lp, h1, h2, h3, h]; rfl
theorem bef_a {y m : Int} (h : 2 < m) (hl : lp y = true) : 365 * (y - 1) + (y - 1) / 4 - (y - 1) / 100 + (y - 1) / 400 + ah (m - 1) + 1 = bef y m := by
  unfold bef dby; rw [if_pos ⟨h, hl⟩]
theorem bef_b {y m : Int} (h : ¬ (2 < m ∧ lp y = true)) : 365 * (y - 1) + (y - 1) / 4 - (y - 1) / 100 + (y - 1) / 400 + ah (m - 1) = bef y m := by
  unfold bef dby; rw [if_neg h]; omega
theorem ah_at {m : Int} (h1 : 1 ≤ m) (h2 : m ≤ 13) : ahL.getD (m.toNat - 1) 0 = ah (m - 1) := by
  unfold ah; congr 1; omega
theorem dby_flat {y : Int} (h1 : 1 ≤ y) (h2 : y ≤ 10000) : 0 ≤ 365 * (y - 1) + (y - 1) / 4 - (y - 1) / 100 + (y - 1) / 400 ∧ 365 * (y - 1) + (y - 1) / 4 - (y - 1) / 100 + (y - 1) / 400 ≤ 3652059 := dby_bd y h1 h2
end Cv
namespace Cv
theorem yrI (y : Int) (h : lp y = true) : 366 = 365 + lpI y := by rw [lpI_t h]; rfl
theorem yrJ (y : Int) (h : lp y = false) : 365 = 365 + lpI y := by rw [lpI_f h]; rfl
theorem lng_a {y m : Int} (h : m = 2) (hl : lp y = true) : 29 = lng y m := by simp [lng, h, lpI_t hl]
theorem lng_b {y m : Int} (h : m = 2) (hl : lp y = false) : 28 = lng y m := by simp [lng, h, lpI_f hl]
theorem lng_c {y m : Int} (h : m = 4 ∨ m = 6 ∨ m = 9 ∨ m = 11) : 30 = lng y m := by
  unfold lng; rw [if_neg (show ¬ m = 2 by omega), if_pos h]
theorem lng_d {y m : Int} (g : ¬ m = 2) (h : ¬ (m = 4 ∨ m = 6 ∨ m = 9 ∨ m = 11)) : 31 = lng y m := by
  unfold lng; rw [if_neg g, if_neg h]
theorem dby_400 (y : Int) : dby (y - (y - 1) % 400) = (y - 1) / 400 * 146097 := by unfold dby; omega
theorem bef_top (y : Int) (h1 : 1 ≤ y) (h2 : y ≤ 9999) : bef y 12 + lng y 12 = dby (y + 1) := by
  have a := bef_year y h1 h2
  have b := bef_one (y + 1)
  have c : lng y 12 = 31 := by simp [lng]
  omega
end Cv
namespace Cv
/-- The date of a day is the one whose day it is. -/
theorem dt_of {y m r D : Int} (h1 : 1 ≤ y) (h2 : y ≤ 9999) (h3 : 1 ≤ m) (h4 : m ≤ 12) (h5 : 1 ≤ r) (h6 : r ≤ lng y m) (h : r + bef y m = D) :
    okD D = true ∧ ofD D = 12 * (y - 1) + m ∧ dtY D = y ∧ dtM D = m ∧ dtD D = r := by
  have a := lng_fst h1 h2 h3 h4
  have b := fst_of (y := y) h3 h4
  have c : ofD D = 12 * (y - 1) + m := ofD_eq (by omega) (by omega) (by omega) (by omega)
  have e := fst_bd (M := 12 * (y - 1) + m) (by omega) (by omega)
  have e' := fst_bd (M := 12 * (y - 1) + m + 1) (by omega) (by omega)
  have d : okD D = true := okD_mk (by omega) (by omega)
  refine ⟨d, c, ?_, ?_, ?_⟩
  · simp only [dtY, d, if_true, c]; exact yr_of h3 h4
  · simp only [dtM, d, if_true, c]; exact mo_of h3 h4
  · simp only [dtD, d, if_true, c]; omega
theorem dby_top : dby 10000 = 3652059 := by decide
theorem dby_start (D : Int) : (D - 1) % 146097 + 1 + dby (1 + (D - 1) / 146097 * 400) = D := by unfold dby; omega
end Cv
namespace Cv
theorem lp_400 {y : Int} (h1 : 1 ≤ y) (h2 : y + 400 ≤ 9999) : lp (y + 400) = lp y := by
  have a := lp_iff y
  have b := lp_iff (y + 400)
  cases e : lp y <;> cases f : lp (y + 400)
  · rfl
  · have := b.1 f; have g := mt a.2 (by rw [e]; decide); exfalso; apply g; omega
  · have := a.1 e; have g := mt b.2 (by rw [f]; decide); exfalso; apply g; omega
  · rfl
theorem lng_400 {y m : Int} (h1 : 1 ≤ y) (h2 : y + 400 ≤ 9999) : lng (y + 400) m = lng y m := by
  unfold lng lpI; rw [lp_400 h1 h2]
theorem bef_400 {y m : Int} (h1 : 1 ≤ y) (h2 : y + 400 ≤ 9999) : bef (y + 400) m = bef y m + 146097 := by
  unfold bef; rw [lp_400 h1 h2]
  have : dby (y + 400) = dby y + 146097 := by unfold dby; omega
  omega
/-- Whoever is of a date's form has its day. -/
theorem day_of {y m r : Int} (h1 : 1 ≤ y) (h2 : y ≤ 9999) (h3 : 1 ≤ m) (h4 : m ≤ 12) (h5 : 1 ≤ r) (h6 : r ≤ lng y m) : dayV y m r = bef y m + r ∧ dayE y m r = 0 := by
  have := dayOk_mk (okYM_mk h1 h2 h3 h4) h5 h6
  simp [dayV, dayE, this]
theorem day_le {y m r : Int} (h1 : 1 ≤ y) (h2 : y ≤ 9999) (h3 : 1 ≤ m) (h4 : m ≤ 12) (h5 : 1 ≤ r) (h6 : r ≤ lng y m) : 1 ≤ r + bef y m ∧ r + bef y m ≤ 3652059 := by
  have := okD_t (dt_of h1 h2 h3 h4 h5 h6 rfl).1; exact this
/-- The day is beyond the last one of year y, just when its year is. -/
theorem day_yr {y m r : Int} (h1 : 1 ≤ y) (h2 : y ≤ 9999) (h3 : 1 ≤ m) (h4 : m ≤ 12) (h5 : 1 ≤ r) (h6 : r ≤ lng y m) : dby y < r + bef y m ∧ r + bef y m ≤ dby (y + 1) := by
  have a := fst_mono (a := 12 * (y - 1) + 1) (b := 12 * (y - 1) + m) (by omega) (by omega) (by omega)
  have b := fst_mono (a := 12 * (y - 1) + m + 1) (b := 12 * (y + 1 - 1) + 1) (by omega) (by omega) (by omega)
  have c := lng_fst h1 h2 h3 h4
  rw [fst_of (by omega) (by omega), fst_of h3 h4, bef_one] at a
  rw [fst_of (y := y + 1) (by omega) (by omega), bef_one] at b
  rw [fst_of h3 h4] at c
  omega
theorem dby_mono {a b : Int} (h : a ≤ b) : dby a ≤ dby b := by unfold dby; omega
/-- Earlier months' days are earlier. -/
theorem day_lt {y m r y' m' r' : Int} (h1 : 1 ≤ y) (h2 : y ≤ 9999) (h3 : 1 ≤ m) (h4 : m ≤ 12) (h6 : r ≤ lng y m)
    (g1 : 1 ≤ y') (g2 : y' ≤ 9999) (g3 : 1 ≤ m') (g4 : m' ≤ 12) (g5 : 1 ≤ r') (h : y < y' ∨ y = y' ∧ (m < m' ∨ m = m' ∧ r < r')) : bef y m + r < bef y' m' + r' := by
  by_cases e : y = y' ∧ m = m'
  · obtain ⟨rfl, rfl⟩ := e; omega
  · have hl : 12 * (y - 1) + m < 12 * (y' - 1) + m' := by omega
    have b := fst_mono (a := 12 * (y - 1) + m + 1) (b := 12 * (y' - 1) + m') (by omega) (by omega) (by omega)
    have c := lng_fst h1 h2 h3 h4
    rw [fst_of g3 g4] at b
    rw [fst_of h3 h4] at c
    omega
end Cv
