/- Chapter 11, as numbers: nothing is lost; changes at the edges. No conditions but that numbers are of 64 bits. -/
import Derived.Test.YtpegaabcelkmmaaDoorPHx7
import Derived.Test.YtpegaabcelkmmaaDoorPHx8
import Derived.Test.YtpegaabcelkmmaaDoorPure11A
namespace Pr
/-- One day's share is the quotient, or one more. -/
theorem share_one {a b c : Int} (hc : 0 < c) : (a + b) / c - a / c = b / c ∨ (a + b) / c - a / c = b / c + 1 := by
  have ha := Int.mul_ediv_add_emod a c
  have hb := Int.mul_ediv_add_emod b c
  have ra := Int.emod_nonneg a (show c ≠ 0 by omega)
  have rb := Int.emod_nonneg b (show c ≠ 0 by omega)
  have sa := Int.emod_lt_of_pos a hc
  have sb := Int.emod_lt_of_pos b hc
  have e : a + b = (a % c + b % c) + c * (a / c + b / c) := by rw [Int.mul_add]; omega
  rw [e, Int.add_mul_ediv_left _ _ (by omega)]
  by_cases h : a % c + b % c < c
  · rw [Int.ediv_eq_zero_of_lt (by omega) h]; omega
  · have : (a % c + b % c) / c = 1 := by
      have e2 : a % c + b % c = (a % c + b % c - c) + c * 1 := by omega
      rw [e2, Int.add_mul_ediv_left _ _ (by omega), Int.ediv_eq_zero_of_lt (by omega) (by omega)]; omega
    rw [this]; omega
theorem tmod_bd (a : Int) {c : Int} (hc : 1 ≤ c) : -c < a.tmod c ∧ a.tmod c < c := by
  have h1 := Int.tmod_lt_of_pos a (show 0 < c by omega)
  have h2 : -c < a.tmod c := by
    have := Int.tmod_lt_of_pos (-a) (show 0 < c by omega)
    rw [Int.neg_tmod] at this; omega
  exact ⟨h2, h1⟩
end Pr
namespace Go.Proofs.YtpegaabcelkmmaaDoor.PH
open Go.RowKit Go.Proofs.YtpegaabcelkmmaaDoorW.PrintWords Go.Proofs.YtpegaabcelkmmaaDoorW.PrintLast

theorem on_t {x f n all : Int} (h : Pr.onOk x f n all = true) : prorate_On.f x f n all = some (x * n / all - x * f / all, 0) := by
  unfold prorate_On.f; simp only [Pr.onV, Pr.onE, h, if_true]
theorem on_f {x f n all : Int} (h : Pr.onOk x f n all = false) : prorate_On.f x f n all = some (0, 2) := by
  unfold prorate_On.f; simp [Pr.onV, Pr.onE, h]
theorem whole_j1 (x f nx all : Int) (k : Nat) (h : Pr.onOk x f nx all = true) (hk : 1 ≤ k) : quittancelaw11_ProrateWhole.j1 (k + 1) false x f nx all = some true := by
  have g := Pr.onOk_t h
  rw [quittancelaw11_ProrateWhole.j1, if_neg (by simp), head_f _ hk]
  by_cases hf : f = all
  · rw [if_pos hf]; rfl
  · rw [if_neg hf, w64 (by omega) (by omega), on_t (Pr.onOk_mk (by omega)), refMul_f (by omega) (by omega) (by omega)]
    have hs := Pr.share_one (a := x * f) (b := x) (c := all) (by omega)
    have hb := Int.ediv_nonneg g.1 (show 0 ≤ all by omega)
    have hb2 : x / all ≤ x := Int.ediv_le_self _ g.1
    have e : x * (f + 1) = x * f + x := by rw [Int.mul_add]; omega
    have em : Ar.mdQ x 1 all = x / all := by
      unfold Ar.mdQ Ar.fitV
      rw [if_pos (by omega), Int.mul_one, if_pos (Ar.fits_mk (by omega) (by omega))]
    rw [e]
    simp only [Option.bind_some, if_true]
    rw [em]
    rcases hs with hs | hs
    · rw [if_pos hs]
    · rw [hs, if_neg (by omega), w64 (by omega) (by omega), if_pos rfl]
theorem pure_whole (x f nx all cut : Int) : quittancelaw11_ProrateWhole.f 3 x f nx all cut = some true := by
  unfold quittancelaw11_ProrateWhole.f
  cases h : Pr.onOk x f nx all with
  | false =>
    rw [on_f h]
    simp only [Option.bind_some]
    rw [if_neg (by omega), if_pos trivial, head_f _ (by omega)]; rfl
  | true =>
    have g := Pr.onOk_t h
    rw [on_t h]
    simp only [Option.bind_some, if_true]
    have e1 : wrap64 (wrap64 (nx - f) + 1) = nx - f + 1 := by rw [w64 (x := nx - f) (by omega) (by omega), w64] <;> omega
    rw [e1, if_neg (by omega)]
    have hr := Pr.tmod_bd cut (c := nx - f + 1) (by omega)
    generalize cut.tmod (nx - f + 1) = r at *
    have key : ∀ kk : Int, f ≤ kk → kk ≤ nx → quittancelaw11_ProrateWhole.j0 3 (x * nx / all - x * f / all) kk x f nx all = some true := by
      intro kk h1 h2
      rw [quittancelaw11_ProrateWhole.j0, on_t (Pr.onOk_mk (by omega)), on_t (Pr.onOk_mk (by omega)), on_t (Pr.onOk_mk (by omega))]
      have b1 := Pr.due_bd (x := x) (n := nx) (all := all) (by omega) (by omega) (by omega) (by omega)
      have b2 := Pr.due_bd (x := x) (n := f) (all := all) (by omega) (by omega) (by omega) (by omega)
      have b3 := Pr.due_bd (x := x) (n := kk) (all := all) (by omega) (by omega) (by omega) (by omega)
      have m1 := Pr.due_mono (x := x) (all := all) (f := f) (n := nx) (by omega) (by omega) (by omega)
      have m2 := Pr.due_mono (x := x) (all := all) (f := f) (n := kk) (by omega) (by omega) (by omega)
      have m3 := Pr.due_mono (x := x) (all := all) (f := kk) (n := nx) (by omega) (by omega) (by omega)
      simp only [Option.bind_some, if_true]
      rw [Pr.full (by omega), Pr.zero, if_pos (by rw [w64] <;> omega), if_pos (by omega), if_neg (by omega), decide_eq_false (by omega)]
      exact whole_j1 x f nx all 1 h (by omega)
    by_cases hlt : f + r < f
    · have e2 : wrap64 (f + r) = f + r := w64 (by omega) (by omega)
      rw [e2, if_pos hlt, w64 (x := f + r + nx) (by omega) (by omega), w64 (x := f + r + nx - f) (by omega) (by omega), w64 (by omega) (by omega)]
      exact key _ (by omega) (by omega)
    · have e2 : wrap64 (f + r) = f + r := w64 (by omega) (by omega)
      rw [e2, if_neg hlt]
      exact key _ (by omega) (by omega)
theorem pure_sides (x f nx all now : Int) : quittancelaw11_ProrateSides.f 3 x f nx all now = some true := by
  unfold quittancelaw11_ProrateSides.f
  rw [change_f _ _ _ _ _ (by omega), change_f _ _ _ _ _ (by omega), change_f _ _ _ _ _ (by omega), head_f _ (by omega)]
  simp only [Option.bind_some]
  cases h1 : Pr.cOk x x f all with
  | false => simp [Pr.cV, h1]
  | true =>
    have g1 := Pr.cOk_t h1
    have b := Pr.due_bd (x := x) (n := f) (all := all) (by omega) (by omega) (by omega) (by omega)
    cases h2 : Pr.cOk x now 0 all with
    | false => simp [Pr.cV, h1, h2]
    | true =>
      have g2 := Pr.cOk_t h2
      have h3 : Pr.cOk x now all all = true := by
        cases q : Pr.cOk x now all all with
        | true => rfl
        | false => exact absurd (by omega) (Pr.cOk_f q)
      simp only [Pr.cV, h1, h2, h3, if_true]
      rw [if_neg (by omega), if_neg (by omega), Pr.zero, Pr.zero, if_pos (by omega), if_pos (by omega), Pr.full (by omega), Pr.full (by omega), if_pos (by omega), if_pos (by omega)]
      rw [show ((0 : Int) != 0) = false by rfl, quittancelaw11_ProrateSides.j0, if_neg (by simp)]
      by_cases hf : f = all
      · rw [if_pos hf, hf, Pr.full (by omega), if_pos (by omega), head_f _ (by omega)]; rfl
      · rw [if_neg hf, w64 (by omega) (by omega), change_f _ _ _ _ _ (by omega), head_f _ (by omega)]
        have h4 : Pr.cOk x now (f + 1) all = true := by
          cases q : Pr.cOk x now (f + 1) all with
          | true => rfl
          | false => exact absurd (by omega) (Pr.cOk_f q)
        have m := Pr.due_mono (x := x) (all := all) (f := f) (n := f + 1) (by omega) (by omega) (by omega)
        simp only [Option.bind_some, Pr.cV, h4, if_true]
        rw [if_pos (by omega)]
theorem prorateWhole (x f n all cut : Int) (w : World) (T : civ.Tab w) :
    Calls Tryd.prog 6 #[.agg #[.int .i64 x, .int .i64 f, .int .i64 n, .int .i64 all], .int .i64 cut] w fun e w' => e = .returned (.bool true) ∧ Below w.heap.size w w' :=
  quittancelaw11_ProrateWhole.calls 3 x f n all cut true w ⟨T⟩ (pure_whole x f n all cut)
theorem prorateSides (x f n all now : Int) (w : World) (T : civ.Tab w) :
    Calls Tryd.prog 7 #[.agg #[.int .i64 x, .int .i64 f, .int .i64 n, .int .i64 all], .int .i64 now] w fun e w' => e = .returned (.bool true) ∧ Below w.heap.size w w' :=
  quittancelaw11_ProrateSides.calls 3 x f n all now true w ⟨T⟩ (pure_sides x f n all now)
end Go.Proofs.YtpegaabcelkmmaaDoor.PH
