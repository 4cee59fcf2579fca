/- Chapter 11, as numbers: the calls whose answers the document fixes; what has fallen due, changes. No conditions but that numbers are of 64 bits. -/
import Derived.Test.YtpegaabcelkmmaaDoorPHx4
import Derived.Test.YtpegaabcelkmmaaDoorPHx5
import Derived.Test.YtpegaabcelkmmaaDoorPHx3
import Derived.Test.YtpegaabcelkmmaaDoorMMon
namespace Pr
theorem fits_of {x : Int} (h : -9223372036854775808 ≤ x ∧ x ≤ 9223372036854775807) : Ar.fits x = true := Ar.fits_mk h.1 h.2
/-- May a change be? -/
def cOk (x y n all : Int) : Bool := decide (0 ≤ x) && decide (x < 4611686018427387904) && decide (0 ≤ y) && decide (y < 4611686018427387904) && decide (1 ≤ all) && decide (all ≤ 3652059) && decide (0 ≤ n) && decide (n ≤ all)
theorem cOk_t {x y n all : Int} (h : cOk x y n all = true) : 0 ≤ x ∧ x < 4611686018427387904 ∧ 0 ≤ y ∧ y < 4611686018427387904 ∧ 1 ≤ all ∧ all ≤ 3652059 ∧ 0 ≤ n ∧ n ≤ all := by unfold cOk at h; simp at h; omega
theorem cOk_f {x y n all : Int} (h : cOk x y n all = false) : ¬ (0 ≤ x ∧ x < 4611686018427387904 ∧ 0 ≤ y ∧ y < 4611686018427387904 ∧ 1 ≤ all ∧ all ≤ 3652059 ∧ 0 ≤ n ∧ n ≤ all) := fun q => by
  have : cOk x y n all = true := by unfold cOk; simp; omega
  rw [h] at this; cases this
theorem onOk_f {x f n all : Int} (h : onOk x f n all = false) : ¬ (0 ≤ x ∧ x < 4611686018427387904 ∧ 1 ≤ all ∧ all ≤ 3652059 ∧ 0 ≤ f ∧ f ≤ n ∧ n ≤ all) := fun q => by rw [onOk_mk q] at h; cases h
def cV (x y n all : Int) : Int × Int × Int := if cOk x y n all = true then (x - x * n / all, y - y * n / all, 0) else (0, 0, 2)
theorem full {x all : Int} (h : 1 ≤ all) : x * all / all = x := Int.mul_ediv_cancel _ (by omega)
theorem zero {x all : Int} : x * 0 / all = 0 := by simp
end Pr
namespace Go.Proofs.YtpegaabcelkmmaaDoor.PH
open Go.RowKit Go.Proofs.YtpegaabcelkmmaaDoorW.PrintWords Go.Proofs.YtpegaabcelkmmaaDoorW.PrintLast

theorem w64 {x : Int} (h1 : -9223372036854775808 ≤ x) (h2 : x ≤ 9223372036854775807) : wrap64 x = x := by unfold wrap64; omega
theorem may_f (x : Int) : prorate_may.f x = some (decide (0 ≤ x ∧ x < 4611686018427387904)) := by
  unfold prorate_may.f
  by_cases h : x ≥ 0
  · rw [if_pos h]; simp; omega
  · rw [if_neg h]; simp; omega
theorem has_f (p d : Int) : prorate_period_has.f p d = some (decide (1 ≤ p ∧ p ≤ 3652059 ∧ 0 ≤ d ∧ d ≤ p)) := by
  unfold prorate_period_has.f
  by_cases h1 : p ≥ 1
  · rw [if_pos h1]
    by_cases h2 : p ≤ 3652059
    · rw [if_pos h2]
      by_cases h3 : d ≥ 0
      · rw [if_pos h3]; congr 1; exact decide_eq_decide.2 (by omega)
      · rw [if_neg h3]; simp; omega
    · rw [if_neg h2]; simp; omega
  · rw [if_neg h1]; simp; omega
theorem change_f (x y n all : Int) (k : Nat) (hk : 1 ≤ k) : prorate_Change.f k x y n all = some (Pr.cV x y n all) := by
  obtain ⟨k, rfl⟩ : ∃ m, k = m + 1 := ⟨k - 1, by omega⟩
  unfold prorate_Change.f
  rw [may_f, may_f, has_f]
  simp only [Option.bind_some]
  cases h : Pr.cOk x y n all with
  | true =>
    have g := Pr.cOk_t h
    rw [if_pos (by simp; omega), if_pos (by simp; omega), decide_eq_true (by omega), prorate_Change.j0, if_neg (by simp), due_f g.1 g.2.1 (by omega) (by omega) (by omega) (by omega), due_f (x := y) (by omega) (by omega) (by omega) (by omega) (by omega) (by omega)]
    have b1 := Pr.due_bd (x := x) (n := n) (all := all) (by omega) (by omega) (by omega) (by omega)
    have b2 := Pr.due_bd (x := y) (n := n) (all := all) (by omega) (by omega) (by omega) (by omega)
    simp only [Option.bind_some, Pr.cV, h, if_true]
    rw [w64 (by omega) (by omega), w64 (by omega) (by omega)]
  | false =>
    have g := Pr.cOk_f h
    have e : Pr.cV x y n all = (0, 0, 2) := by simp [Pr.cV, h]
    rw [e]
    by_cases h1 : decide (0 ≤ x ∧ x < 4611686018427387904) = true
    · rw [if_pos h1]
      by_cases h2 : decide (0 ≤ y ∧ y < 4611686018427387904) = true
      · rw [if_pos h2, decide_eq_false (by simp at h1 h2; omega), prorate_Change.j0, if_pos (by rfl)]
      · rw [if_neg h2, prorate_Change.j0, if_pos rfl]
    · rw [if_neg h1, prorate_Change.j0, if_pos rfl]
theorem due_any (x n all : Int) : prorate_Due.f x n all = some (Pr.onV x 0 n all, Pr.onE x 0 n all) := by
  unfold prorate_Due.f prorate_On.f
  simp only [Option.bind_some]
theorem refMay_f (x : Int) : quittanceref11_May.f x = some (decide (0 ≤ x ∧ x < 4611686018427387904)) := by
  unfold quittanceref11_May.f
  by_cases h : x ≥ 0
  · rw [if_pos h]; simp; omega
  · rw [if_neg h]; simp; omega
theorem refDays_f (d p : Int) : quittanceref11_days.f d p = some (decide (1 ≤ p ∧ p ≤ 3652059 ∧ 0 ≤ d ∧ d ≤ p)) := by
  unfold quittanceref11_days.f
  by_cases h1 : p ≥ 1
  · rw [if_pos h1]
    by_cases h2 : p ≤ 3652059
    · rw [if_pos h2]
      by_cases h3 : d ≥ 0
      · rw [if_pos h3]; congr 1; exact decide_eq_decide.2 (by omega)
      · rw [if_neg h3]; simp; omega
    · rw [if_neg h2]; simp; omega
  · rw [if_neg h1]; simp; omega
theorem refMul_f {x n all : Int} (hx : -9223372036854775808 ≤ x ∧ x ≤ 9223372036854775807) (hn : -9223372036854775808 ≤ n ∧ n ≤ 9223372036854775807) (ha : -9223372036854775808 ≤ all ∧ all ≤ 9223372036854775807) :
    quittanceref07_MulDiv.f x n all = some (Ar.mdQ x n all, Ar.mdR x n all, Ar.mdI x n all) := by
  have h : Ar.fits x = true ∧ Ar.fits n = true ∧ Ar.fits all = true := ⟨Pr.fits_of hx, Pr.fits_of hn, Pr.fits_of ha⟩
  unfold quittanceref07_MulDiv.f
  rw [if_pos h]
theorem refDue_f {x n all : Int} (hx : -9223372036854775808 ≤ x ∧ x ≤ 9223372036854775807) (hn : -9223372036854775808 ≤ n ∧ n ≤ 9223372036854775807) (ha : -9223372036854775808 ≤ all ∧ all ≤ 9223372036854775807) :
    quittanceref11_Due.f x n all = some (Pr.onV x 0 n all, Pr.onE x 0 n all) := by
  unfold quittanceref11_Due.f
  rw [refMay_f, refDays_f, refMul_f hx hn ha]
  simp only [Option.bind_some]
  cases h : Pr.onOk x 0 n all with
  | true =>
    have g := Pr.onOk_t h
    have b1 := Pr.due_bd (x := x) (n := n) (all := all) (by omega) (by omega) (by omega) (by omega)
    rw [if_pos (by simp; omega), if_pos (by simp; omega)]
    simp only [Pr.onV, Pr.onE, h, if_true, Ar.mdQ, Ar.fitV]
    rw [if_pos (by omega), if_pos (Ar.fits_mk (by omega) (by omega)), Pr.zero, Int.sub_zero]
  | false =>
    have g := Pr.onOk_f h
    simp only [Pr.onV, Pr.onE, h]
    by_cases h1 : 0 ≤ x ∧ x < 4611686018427387904
    · rw [if_pos (by simpa using h1), if_neg (by simp; omega)]; rfl
    · rw [if_neg (by simpa using h1)]; rfl
theorem refOn_f {x f n all : Int} (hx : -9223372036854775808 ≤ x ∧ x ≤ 9223372036854775807) (hf : -9223372036854775808 ≤ f ∧ f ≤ 9223372036854775807) (hn : -9223372036854775808 ≤ n ∧ n ≤ 9223372036854775807) (ha : -9223372036854775808 ≤ all ∧ all ≤ 9223372036854775807) :
    quittanceref11_On.f x f n all = some (Pr.onV x f n all, Pr.onE x f n all) := by
  unfold quittanceref11_On.f
  rw [refDue_f hx hf ha, refDue_f hx hn ha]
  simp only [Option.bind_some]
  cases h1 : Pr.onOk x 0 f all with
  | false =>
    have g := Pr.onOk_f h1
    rw [if_neg (by simp [Pr.onE, h1])]
    have : Pr.onOk x f n all = false := Pr.onOk_no (by omega)
    simp [Pr.onV, Pr.onE, this]
  | true =>
    have g1 := Pr.onOk_t h1
    rw [if_pos (by simp [Pr.onE, h1])]
    cases h2 : Pr.onOk x 0 n all with
    | false =>
      have g := Pr.onOk_f h2
      rw [if_neg (by simp [Pr.onE, h2])]
      have : Pr.onOk x f n all = false := Pr.onOk_no (by omega)
      simp [Pr.onV, Pr.onE, this]
    | true =>
      have g2 := Pr.onOk_t h2
      rw [if_pos (by simp [Pr.onE, h2])]
      by_cases hgt : f > n
      · rw [if_pos hgt]
        have : Pr.onOk x f n all = false := Pr.onOk_no (by omega)
        simp [Pr.onV, Pr.onE, this]
      · rw [if_neg hgt]
        have : Pr.onOk x f n all = true := Pr.onOk_mk (by omega)
        have b1 := Pr.due_bd (x := x) (n := n) (all := all) (by omega) (by omega) (by omega) (by omega)
        have b2 := Pr.due_bd (x := x) (n := f) (all := all) (by omega) (by omega) (by omega) (by omega)
        simp only [Pr.onV, Pr.onE, h1, h2, this, if_true, Pr.zero, Int.sub_zero]
        rw [w64 (by omega) (by omega)]
theorem refChange_f {x y n all : Int} (hx : -9223372036854775808 ≤ x ∧ x ≤ 9223372036854775807) (hy : -9223372036854775808 ≤ y ∧ y ≤ 9223372036854775807) (hn : -9223372036854775808 ≤ n ∧ n ≤ 9223372036854775807) (ha : -9223372036854775808 ≤ all ∧ all ≤ 9223372036854775807) :
    quittanceref11_Change.f x y n all = some (Pr.cV x y n all) := by
  unfold quittanceref11_Change.f
  rw [refOn_f hx hn ha ha, refOn_f hy hn ha ha]
  simp only [Option.bind_some]
  cases h : Pr.cOk x y n all with
  | true =>
    have g := Pr.cOk_t h
    have h1 : Pr.onOk x n all all = true := Pr.onOk_mk (by omega)
    have h2 : Pr.onOk y n all all = true := Pr.onOk_mk (by omega)
    rw [if_pos (by simp [Pr.onE, h1]), if_pos (by simp [Pr.onE, h2])]
    simp only [Pr.onV, Pr.cV, h, h1, h2, if_true]
    rw [Pr.full (by omega), Pr.full (by omega)]
  | false =>
    have g := Pr.cOk_f h
    have e : Pr.cV x y n all = (0, 0, 2) := by simp [Pr.cV, h]
    rw [e]
    by_cases h1 : Pr.onE x n all all = 0
    · rw [if_pos h1]
      rw [if_neg]
      intro h2
      cases q1 : Pr.onOk x n all all with
      | false => simp [Pr.onE, q1] at h1
      | true =>
        cases q2 : Pr.onOk y n all all with
        | false => simp [Pr.onE, q2] at h2
        | true => have := Pr.onOk_t q1; have := Pr.onOk_t q2; omega
    · rw [if_neg h1]
/-- The calls whose answers the document fixes. -/
theorem d1 : Cv.ofD 738905 = 24277 := Cv.ofD_eq (by decide) (by decide) (by decide) (by decide)
theorem d2 : Cv.ofD (738950 - 1) = 24279 := Cv.ofD_eq (by decide) (by decide) (by decide) (by decide)
theorem cnt_head : Tm.cnt 738905 738950 = 3 := by unfold Tm.cnt; rw [d1, d2]; rfl
theorem terms_head : Tm.terms 738905 738950 3 = [(24277, 12), (24278, 29), (24279, 4)] := by
  unfold Tm.terms Tm.ent Tm.cur
  simp only [List.range_succ, List.range_zero, List.nil_append, List.map_cons, List.map_nil, List.cons_append]
  rw [d1]
  decide
theorem months_head : prorate_Months.f 738905 738950 = some ([shr (24277, 12), shr (24278, 29), shr (24279, 4)], 0) := by
  unfold prorate_Months.f
  rw [if_neg (by decide), cnt_head, terms_head]
  rfl
theorem months_bad : prorate_Months.f 5 5 = some ([], 2) := by
  unfold prorate_Months.f
  rw [if_pos (by decide)]
theorem head_f (k : Nat) (hk : 1 ≤ k) : quittancelaw11_head.f k = some true := by
  unfold quittancelaw11_head.f
  rw [due_any, due_any, change_f _ _ _ _ _ hk]
  have e1 : quittanceref08_Day.f 2024 1 20 = some (738905, 0) := by decide
  have e2 : quittanceref08_Day.f 2024 3 5 = some (738950, 0) := by decide
  rw [e1, e2]
  simp only [Option.bind_some]
  rw [months_head, months_bad]
  simp only [Option.bind_some]
  rfl
theorem pure_dues (x f n all : Int) (hx : -9223372036854775808 ≤ x ∧ x ≤ 9223372036854775807) (hf : -9223372036854775808 ≤ f ∧ f ≤ 9223372036854775807) (hn : -9223372036854775808 ≤ n ∧ n ≤ 9223372036854775807) (ha : -9223372036854775808 ≤ all ∧ all ≤ 9223372036854775807) :
    quittancelaw11_ProrateDues.f 1 x f n all = some true := by
  unfold quittancelaw11_ProrateDues.f
  rw [due_any, refDue_f hx hf ha, refOn_f hx hf hn ha, prorate_On.f, head_f 1 (Nat.le_refl _)]
  simp only [Option.bind_some, if_true]
theorem pure_changes (x f n all y : Int) (hx : -9223372036854775808 ≤ x ∧ x ≤ 9223372036854775807) (hf : -9223372036854775808 ≤ f ∧ f ≤ 9223372036854775807) (ha : -9223372036854775808 ≤ all ∧ all ≤ 9223372036854775807) (hy : -9223372036854775808 ≤ y ∧ y ≤ 9223372036854775807) :
    quittancelaw11_ProrateChanges.f 1 x f n all y = some true := by
  unfold quittancelaw11_ProrateChanges.f
  rw [change_f _ _ _ _ _ (Nat.le_refl _), refChange_f hx hy hf ha, head_f 1 (Nat.le_refl _)]
  simp only [Option.bind_some, if_true]
/-- The walks of the laws. -/
theorem prorateDues (x f n all : Int) (w : World) (T : civ.Tab w) (hx : -9223372036854775808 ≤ x ∧ x ≤ 9223372036854775807) (hf : -9223372036854775808 ≤ f ∧ f ≤ 9223372036854775807) (hn : -9223372036854775808 ≤ n ∧ n ≤ 9223372036854775807) (ha : -9223372036854775808 ≤ all ∧ all ≤ 9223372036854775807) :
    Calls Tryd.prog 3 #[.agg #[.int .i64 x, .int .i64 f, .int .i64 n, .int .i64 all]] w fun e w' => e = .returned (.bool true) ∧ Below w.heap.size w w' :=
  quittancelaw11_ProrateDues.calls 1 x f n all true w ⟨T⟩ (pure_dues x f n all hx hf hn ha)
theorem prorateChanges (x f n all y : Int) (w : World) (T : civ.Tab w) (hx : -9223372036854775808 ≤ x ∧ x ≤ 9223372036854775807) (hf : -9223372036854775808 ≤ f ∧ f ≤ 9223372036854775807) (_hn : -9223372036854775808 ≤ n ∧ n ≤ 9223372036854775807) (ha : -9223372036854775808 ≤ all ∧ all ≤ 9223372036854775807) (hy : -9223372036854775808 ≤ y ∧ y ≤ 9223372036854775807) :
    Calls Tryd.prog 4 #[.agg #[.int .i64 x, .int .i64 f, .int .i64 n, .int .i64 all], .int .i64 y] w fun e w' => e = .returned (.bool true) ∧ Below w.heap.size w w' :=
  quittancelaw11_ProrateChanges.calls 1 x f n all y true w ⟨T⟩ (pure_changes x f n all y hx hf ha hy)
end Go.Proofs.YtpegaabcelkmmaaDoor.PH
