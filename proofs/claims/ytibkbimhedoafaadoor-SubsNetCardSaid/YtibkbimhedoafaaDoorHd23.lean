/- Chapter 23: the numbers of the calls whose answers the document fixes. No conditions. -/
import Derived.Test.YtibkbimhedoafaaDoorPSubE
import Derived.Test.YtibkbimhedoafaaDoorMSubF
namespace Sb
open An Cv
def x0 : Su := ⟨1, 1, 1, 738895, 15, 1, 3100, 0, 0, 0⟩
def x3 : Su := ⟨1, 1, 1, 738895, 15, 1, 3100, 3, 0, 0⟩
theorem o0 : Cv.ofD 738895 = 24277 := Cv.ofD_eq (by decide) (by decide) (by decide) (by decide)
theorem o1 : Cv.ofD 738900 = 24277 := Cv.ofD_eq (by decide) (by decide) (by decide) (by decide)
theorem o2 : Cv.ofD 738931 = 24278 := Cv.ofD_eq (by decide) (by decide) (by decide) (by decide)
theorem o3 : Cv.ofD 738960 = 24279 := Cv.ofD_eq (by decide) (by decide) (by decide) (by decide)
theorem q0 : An.k0 738895 15 = 1 := by unfold An.k0; rw [o0]; decide
theorem t0 : An.top 738895 15 1 = 95712 := by unfold An.top; rw [o0, q0]; decide
theorem okc : An.ok 738895 15 1 = true := by decide
theorem b0 : An.B 738895 15 1 0 = 738895 := An.B_zero _ _ _
theorem b1 : An.B 738895 15 1 1 = 738900 := by unfold An.B An.mon; rw [o0, q0]; decide
theorem b2 : An.B 738895 15 1 2 = 738931 := by unfold An.B An.mon; rw [o0, q0]; decide
theorem b3 : An.B 738895 15 1 3 = 738960 := by unfold An.B An.mon; rw [o0, q0]; decide
theorem v0 : An.bV 738895 15 1 0 = 738895 ∧ An.bE 738895 15 1 0 = 0 := by
  have h : An.bOk 738895 15 1 0 = true := by unfold An.bOk; rw [okc]; decide
  simp [An.bV, An.bE, h, t0, b0]
theorem v3 : An.bV 738895 15 1 3 = 738960 ∧ An.bE 738895 15 1 3 = 0 := by
  have h : An.bOk 738895 15 1 3 = true := by unfold An.bOk; rw [okc]; decide
  simp [An.bV, An.bE, h, t0, b3]
/-- The like whatever the numbers that no period asks for. -/
theorem per (x : Su) (hs : x.st = 738895) (ha : x.an = 15) (he : x.ev = 1) : fr x 0 = 738895 ∧ fr x 1 = 738900 ∧ fr x 2 = 738931 ∧ fr x 3 = 738960 ∧ nx x 0 = 738900 ∧ nx x 1 = 738931 ∧ nx x 2 = 738960 ∧ wh x 0 = 31 ∧ wh x 1 = 31 ∧ wh x 2 = 29 ∧ tp x = 95712 ∧ okC x = true := by
  obtain ⟨_, _, _, _, _, _, _, _, _, _⟩ := x
  simp only at hs ha he
  subst hs ha he
  have f1 : ∀ a b c d e g h : Int, fst0 ⟨a, b, c, 738895, 15, 1, d, e, g, h⟩ 738900 = 738869 := fun _ _ _ _ _ _ _ => by unfold fst0; simp only [o1]; decide
  have f2 : ∀ a b c d e g h : Int, fst0 ⟨a, b, c, 738895, 15, 1, d, e, g, h⟩ 738931 = 738900 := fun _ _ _ _ _ _ _ => by unfold fst0; simp only [o2]; decide
  have f3 : ∀ a b c d e g h : Int, fst0 ⟨a, b, c, 738895, 15, 1, d, e, g, h⟩ 738960 = 738931 := fun _ _ _ _ _ _ _ => by unfold fst0; simp only [o3]; decide
  have e1 : (0 : Int) + 1 = 1 := rfl
  have e2 : (1 : Int) + 1 = 2 := rfl
  have e3 : (2 : Int) + 1 = 3 := rfl
  simp only [fr, nx, wh, tp, okC, e1, e2, e3, b0, b1, b2, b3, t0, okc, f1, f2, f3]
  decide
end Sb
namespace Go.Proofs.YtibkbimhedoafaaDoor.PH
open Go.RowKit Go.Proofs.YtibkbimhedoafaaDoorW.PrintWords Sb
theorem hd_day : subs_day.f 738936 = some true ∧ subs_day.f 738946 = some true := ⟨rfl, rfl⟩
theorem hd_ck0 (k : Nat) : subs_Check.f (k + 1) 1 1 1 738895 15 1 3100 0 0 0 = some 0 := by
  simp [subs_Check.f, subs_Check.j0, anchor_Bound.f, v0, subs_later.f]
theorem hd_ck3 (k : Nat) : subs_Check.f (k + 1) 1 1 1 738895 15 1 3100 3 0 0 = some 0 := by
  simp [subs_Check.f, subs_Check.j0, anchor_Bound.f, v3, subs_later.f]
theorem hd_c3 : subs_Check.f 1 1 1 1 738895 15 1 3100 3 0 0 = some 0 := hd_ck3 0
theorem hd_last : subs_last.f 1 1 1 738895 15 1 3100 3 0 0 738946 = some (2, 738931, 738960, 738960, 29, 3100, true) := by
  obtain ⟨h0, h1, h2, h3, n0, n1, n2, w0, w1, w2, ht, hc⟩ := per ⟨1, 1, 1, 738895, 15, 1, 3100, 3, 0, 0⟩ rfl rfl rfl
  unfold subs_last.f
  simp only [psub.inP, ee, ht, hc, show (3 : Int) - 1 = 2 from rfl, h2, n2, w2]
  rfl
theorem hd_on1 : subs_period_on.f 2 738931 738960 738960 29 3100 738946 738960 = some 1497 := by decide +kernel
theorem hd_on2 : subs_period_on.f 2 738931 738960 738960 29 6200 738946 738960 = some 2994 := by decide +kernel
theorem on_0 : subs_period_on.f 0 738895 738900 738900 31 3100 738895 738900 = some 500 := by decide +kernel
theorem on_1 : subs_period_on.f 1 738900 738931 738931 31 3100 738900 738931 = some 3100 := by decide +kernel
theorem on_2 : subs_period_on.f 2 738931 738960 738960 29 3100 738931 738960 = some 3100 := by decide +kernel
theorem change_eq {a0_0 a0_1 a0_2 a0_3 a0_4 a0_5 a0_6 a0_7 a0_8 a0_9 a1 a2_0 a2_1 i f n en wh p cr ch : Int} (hc : subs_Check.f 1 a0_0 a0_1 a0_2 a0_3 a0_4 a0_5 a0_6 a0_7 a0_8 a0_9 = some 0) (hd : subs_day.f a1 = some true) (h1 : a2_0 ≠ 0) (h2 : 0 ≤ a2_1) (h3 : a2_1 < 4611686018427387904)
    (hl : subs_last.f a0_0 a0_1 a0_2 a0_3 a0_4 a0_5 a0_6 a0_7 a0_8 a0_9 a1 = some (i, f, n, en, wh, p, true)) (hcr : subs_period_on.f i f n en wh p a1 en = some cr) (hch : subs_period_on.f i f n en wh a2_1 a1 en = some ch) :
    subs_Change.f a0_0 a0_1 a0_2 a0_3 a0_4 a0_5 a0_6 a0_7 a0_8 a0_9 a1 a2_0 a2_1 = some (a0_0, a0_1, a2_0, a0_3, a0_4, a0_5, a2_1, a0_7, a1, a0_9, a1, en, cr, ch, 0) := by
  unfold subs_Change.f
  simp only [psub.ckF, hc, Option.bind_some, hd]
  rw [if_neg (by simp; omega), hl]
  simp only [Option.bind_some]
  rw [if_neg (by decide), hcr]
  simp only [Option.bind_some]
  rw [hch]
  simp only [Option.bind_some]
theorem hd_change : subs_Change.f 1 1 1 738895 15 1 3100 3 0 0 738946 2 6200 = some (1, 1, 2, 738895, 15, 1, 6200, 3, 738946, 0, 738946, 738960, 1497, 2994, 0) :=
  change_eq hd_c3 hd_day.2 (by decide) (by decide) (by decide) hd_last hd_on1 hd_on2
theorem hd_find : anchor_Find.f 738895 15 1 738946 = some (2, 738931, 738960, 0) := by
  obtain ⟨g1, g2, g3⟩ := An.f_in (s := 738895) (a := 15) (E := 1) (d := 738946) (k := 2) okc (by decide) (by rw [t0]; decide) (by rw [b2]; decide) (by rw [show (2 : Int) + 1 = 3 from rfl, b3]; decide)
  simp [anchor_Find.f, An.fV, An.fE, g1, g2, g3, b2, b3]
theorem hd_cancel0 : subs_Cancel.f 1 1 1 738895 15 1 3100 3 0 0 738946 false = some (1, 1, 1, 738895, 15, 1, 3100, 3, 0, 738960, 0, 0, 0, 0, 0) := by
  unfold subs_Cancel.f
  simp only [psub.ckF, hd_c3, Option.bind_some, hd_day.2]
  rw [if_neg (by decide), if_neg (by decide), hd_find]
  simp only [Option.bind_some]
  rw [if_neg (by decide), if_neg (by decide), if_pos trivial]
theorem hd_cancel1 : subs_Cancel.f 1 1 1 738895 15 1 3100 3 0 0 738946 true = some (1, 1, 1, 738895, 15, 1, 3100, 3, 0, 738946, 738946, 738960, 1497, 0, 0) := by
  unfold subs_Cancel.f
  simp only [psub.ckF, hd_c3, Option.bind_some, hd_day.2]
  rw [if_neg (by decide), if_neg (by decide), hd_find]
  simp only [Option.bind_some]
  rw [if_neg (by decide), if_neg (by decide), if_neg (by decide), hd_last]
  simp only [Option.bind_some]
  rw [if_neg (by decide), hd_on1]
  simp only [Option.bind_some]
theorem hd_due : subs_Due.f 1 1 1 738895 15 1 3100 0 0 0 738936 10 = some ([⟨0, 738895, 738900, 500⟩, ⟨1, 738900, 738931, 3100⟩, ⟨2, 738931, 738960, 3100⟩], 1, 1, 1, 738895, 15, 1, 3100, 3, 0, 0, 0) := by
  obtain ⟨h0, h1, h2, h3, n0, n1, n2, w0, w1, w2, ht, hc⟩ := per x0 rfl rfl rfl
  have hst : psub.Stops x0 738936 10 (tp x0 - x0.bi).toNat 3 := by
    refine ⟨by rw [ht]; decide, fun j hj => ?_, .inr ?_⟩
    · obtain rfl | rfl | rfl : j = 0 ∨ j = 1 ∨ j = 2 := by omega
      · show psub.stopB x0 738936 10 0 0 = false
        unfold psub.stopB; rw [h0]; rfl
      · show psub.stopB x0 738936 10 1 1 = false
        unfold psub.stopB; rw [h1]; rfl
      · show psub.stopB x0 738936 10 2 2 = false
        unfold psub.stopB; rw [h2]; rfl
    · show psub.stopB x0 738936 10 3 3 = true
      unfold psub.stopB; rw [h3]; rfl
  have hcn : psub.cnt x0 738936 10 = 3 := psub.Stops.unique (psub.cntF_stops x0 738936 10 _ (tp x0 - x0.bi).toNat 0 (by omega) (fun i hi => by omega)) hst
  have g0 : psub.bl x0 0 = ⟨0, 738895, 738900, 500⟩ := by
    unfold psub.bl psub.onF
    simp only [ee, h0, n0, w0]
    simp only [x0, if_true]
    rw [on_0]
    rfl
  have g1 : psub.bl x0 1 = ⟨1, 738900, 738931, 3100⟩ := by
    unfold psub.bl psub.onF
    simp only [ee, h1, n1, w1]
    simp only [x0, if_true]
    rw [on_1]
    rfl
  have g2 : psub.bl x0 2 = ⟨2, 738931, 738960, 3100⟩ := by
    unfold psub.bl psub.onF
    simp only [ee, h2, n2, w2]
    simp only [x0, if_true]
    rw [on_2]
    rfl
  have hck : psub.ckF 1 x0 = some 0 := hd_ck0 0
  unfold subs_Due.f
  show (psub.ckF 1 x0).bind _ = _
  rw [hck]
  simp only [Option.bind_some, hd_day.1]
  rw [if_neg (by decide)]
  rw [if_pos ⟨hc, by decide, by show (0 : Int) ≤ tp x0; rw [ht]; decide⟩]
  show some (List.map (psub.bl x0) (ix 0 (psub.cnt x0 738936 10)), _) = _
  rw [show (psub.cnt { id := 1, cu := 1, pl := 1, st := 738895, an := 15, ev := 1, pr := 3100, bi := 0, si := 0, en := 0 } 738936 10) = 3 from hcn, hcn]
  show some ([psub.bl x0 (0 + 0), psub.bl x0 (0 + 1), psub.bl x0 (0 + 2)], _) = _
  rw [show (0 : Int) + 0 = 0 from rfl, show (0 : Int) + 1 = 1 from rfl, show (0 : Int) + 2 = 2 from rfl, g0, g1, g2]
  rfl
end Go.Proofs.YtibkbimhedoafaaDoor.PH
