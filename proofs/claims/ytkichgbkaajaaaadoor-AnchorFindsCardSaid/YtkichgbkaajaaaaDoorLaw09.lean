/- The calls whose answers the document fixes (head) of chapter 09, walked. The table of the days ahead of months holds its numbers. -/
import Derived.Test.YtkichgbkaajaaaaDoorAnchE
import Derived.Test.YtkichgbkaajaaaaDoorRef09
import Derived.Deep.RegionHeld3
namespace Go.Proofs.YtkichgbkaajaaaaDoor.law09
open Go.RowKit Go.Proofs.YtkichgbkaajaaaaDoor.base Go.Proofs.YtkichgbkaajaaaaDoor.anch
open Go.Proofs.YtkichgbkaajaaaaDoor.civ (Tab ret_four)

theorem day_any (y m d : Int) (w : World) : Calls Tryd.prog 21 #[.int .i64 y, .int .i64 m, .int .i64 d] w fun e w' => e = .returned (.int .i64 (Cv.dayV y m d)) ∧ w = w' := by
  go_enter Tryd.func21, Tryd.ntmps21
  go_wp2_with fail
  refine (ref08.day_any y m d _).mono ?_
  rintro e w' ⟨rfl, rfl⟩
  go_wp2
  go_ret
  exact ⟨rfl, rfl⟩
theorem day_is {y m d : Int} (D : Int) (w : World) (h : Cv.dayV y m d = D) : Calls Tryd.prog 21 #[.int .i64 y, .int .i64 m, .int .i64 d] w fun e w' => e = .returned (.int .i64 D) ∧ w = w' := by
  subst h; exact day_any y m d w
theorem bound_is {s a E k : Int} (v e : Int) (w : World) (T : Tab w) (h1 : An.bV s a E k = v) (h2 : An.bE s a E k = e) : Calls Tryd.prog 13 #[cyc s a E, .int .i64 k] w fun e' w' => e' = .returned (.tuple #[.int .i64 v, .int .i64 e]) ∧ Below w.heap.size w w' := by
  subst h1 h2; exact bound_any s a E k w T
theorem find_in {s a E d : Int} (k f n : Int) (w : World) (T : Tab w) (h : An.ok s a E = true) (h0 : 0 ≤ k) (h1 : k + 1 ≤ An.top s a E) (e1 : An.B s a E k = f) (e2 : An.B s a E (k + 1) = n) (h2 : f ≤ d) (h3 : d < n) :
    Calls Tryd.prog 15 #[cyc s a E, .int .i64 d] w fun e' w' => e' = .returned (.tuple #[.int .i64 k, .int .i64 f, .int .i64 n, .int .i64 0]) ∧ Below w.heap.size w w' := by
  subst e1 e2
  obtain ⟨g1, g2, g3⟩ := An.f_in h h0 h1 h2 h3
  exact (find_any s a E d w T).mono fun _ _ ⟨p, q⟩ => ⟨p.trans (ret_four (by simp [An.fV, g2, g3]) (by simp [An.fV, g2, g3]) (by simp [An.fV, g2, g3]) (by simp [An.fE, g1, g2])), q⟩
theorem find_no {s a E d : Int} (w : World) (T : Tab w) (h : An.fOk s a E d = true) (h1 : An.fIn s a E d = false) :
    Calls Tryd.prog 15 #[cyc s a E, .int .i64 d] w fun e' w' => e' = .returned (.tuple #[.int .i64 0, .int .i64 0, .int .i64 0, .int .i64 7]) ∧ Below w.heap.size w w' :=
  (find_any s a E d w T).mono fun _ _ ⟨p, q⟩ => ⟨p.trans (ret_four (by simp [An.fV, h1]) (by simp [An.fV, h1]) (by simp [An.fV, h1]) (by simp [An.fE, h, h1])), q⟩
/-- Numbers of three cycles. -/
theorem o1 : Cv.ofD 738916 = 24277 := Cv.ofD_eq (by decide) (by decide) (by decide) (by decide)
theorem o2 : Cv.ofD 738895 = 24277 := Cv.ofD_eq (by decide) (by decide) (by decide) (by decide)
theorem o3 : Cv.ofD 738900 = 24277 := Cv.ofD_eq (by decide) (by decide) (by decide) (by decide)
theorem q1 : An.k0 738916 31 = 0 := by unfold An.k0; rw [o1]; decide
theorem q2 : An.k0 738895 15 = 1 := by unfold An.k0; rw [o2]; decide
theorem q3 : An.k0 738900 15 = 0 := by unfold An.k0; rw [o3]; decide
theorem t1 : An.top 738916 31 1 = 95711 := by unfold An.top; rw [o1, q1]; decide
theorem t2 : An.top 738895 15 3 = 31904 := by unfold An.top; rw [o2, q2]; decide
theorem t3 : An.top 738900 15 3 = 31903 := by unfold An.top; rw [o3, q3]; decide
theorem b11 : An.B 738916 31 1 1 = 738945 := by unfold An.B An.mon; rw [o1, q1]; decide
theorem b12 : An.B 738916 31 1 2 = 738976 := by unfold An.B An.mon; rw [o1, q1]; decide
theorem b21 : An.B 738895 15 3 1 = 738900 := by unfold An.B An.mon; rw [o2, q2]; decide
theorem b31 : An.B 738900 15 3 1 = 738991 := by unfold An.B An.mon; rw [o3, q3]; decide
theorem bk {s a E k v : Int} (h : An.bOk s a E k = true) (h1 : k ≤ An.top s a E) (h2 : An.B s a E k = v) : An.bV s a E k = v ∧ An.bE s a E k = 0 := by simp [An.bV, An.bE, h, h1, h2]
theorem k1 : An.ok 738916 31 1 = true := by decide
theorem k2 : An.ok 738895 15 3 = true := by decide
theorem k3 : An.ok 738900 15 3 = true := by decide
theorem v11 : An.bV 738916 31 1 1 = 738945 ∧ An.bE 738916 31 1 1 = 0 := bk (by unfold An.bOk; rw [k1]; decide) (by rw [t1]; decide) b11
theorem v12 : An.bV 738916 31 1 2 = 738976 ∧ An.bE 738916 31 1 2 = 0 := bk (by unfold An.bOk; rw [k1]; decide) (by rw [t1]; decide) b12
theorem v21 : An.bV 738895 15 3 1 = 738900 ∧ An.bE 738895 15 3 1 = 0 := bk (by unfold An.bOk; rw [k2]; decide) (by rw [t2]; decide) b21
theorem v31 : An.bV 738900 15 3 1 = 738991 ∧ An.bE 738900 15 3 1 = 0 := bk (by unfold An.bOk; rw [k3]; decide) (by rw [t3]; decide) b31
theorem f1 : An.fOk 738916 31 1 738915 = true := by decide
theorem f2 : An.fIn 738916 31 1 738915 = false := by unfold An.fIn; rw [f1]; rfl
theorem check_is {s a E : Int} (v : Int) (w : World) (h : An.ckE s a E = v) : Calls Tryd.prog 10 #[cyc s a E] w fun e w' => e = .returned (.int .i64 v) ∧ Below w.heap.size w w' := by
  subst h; exact check_any s a E w
/-- A cycle that lies in memory. -/
def Cyc (b : Nat) (s a E : Int) (w : World) : Prop := w.cell? ⟨b, 0, none⟩ = some (.int .i64 s) ∧ w.cell? ⟨b, 1, none⟩ = some (.int .i64 a) ∧ w.cell? ⟨b, 2, none⟩ = some (.int .i64 E)
theorem Cyc.below {b n : Nat} {s a E : Int} {w w' : World} (h : Cyc b s a E w) (hb : Below n w w') (hn : b < n) : Cyc b s a E w' :=
  ⟨(hb.cell (p := ⟨b, 0, none⟩) hn).trans h.1, (hb.cell (p := ⟨b, 1, none⟩) hn).trans h.2.1, (hb.cell (p := ⟨b, 2, none⟩) hn).trans h.2.2⟩
theorem Cyc.after {b : Nat} {s a E : Int} {w w' : World} (h : Cyc b s a E w) (hb : Below w.heap.size w w') : Cyc b s a E w' := h.below hb (lt_of_cell h.1)

theorem keepC {b : Nat} {s a E : Int} {w x y : World} (h0 : x.cell? ⟨b, 0, none⟩ = some (.int .i64 s)) (h1 : x.cell? ⟨b, 1, none⟩ = some (.int .i64 a)) (h2 : x.cell? ⟨b, 2, none⟩ = some (.int .i64 E)) (hx : Below w.heap.size w x) (hy : Below x.heap.size x y) :
    y.cell? ⟨b, 0, none⟩ = some (.int .i64 s) ∧ y.cell? ⟨b, 1, none⟩ = some (.int .i64 a) ∧ y.cell? ⟨b, 2, none⟩ = some (.int .i64 E) ∧ Below w.heap.size w y :=
  have h := Cyc.after ⟨h0, h1, h2⟩ hy
  ⟨h.1, h.2.1, h.2.2, hx.trans (hy.mono hx.size)⟩
set_option maxRecDepth 100000 in
set_option maxHeartbeats 1000000 in
theorem head_any (w : World) (T : Tab w) : Calls Tryd.prog 12 #[] w fun e w' => e = .returned (.bool true) ∧ Below w.heap.size w w' := by
  have HT := Lib.hid T
  clear T
  go_enter Tryd.func12, Tryd.ntmps12
  go_wp2_with fail
  refine (day_is 738916 _ (by decide)).mono ?_
  rintro e w' ⟨rfl, rfl⟩
  go_wp2_with fail
  refine (bound_is 738945 0 _ (Tab.after HT.out ((Below.refl _ _).alloc (Nat.le_refl _) _)) v11.1 v11.2).mono ?_
  rintro e w1 ⟨rfl, B1⟩
  have K1 := Lib.hid (((Below.refl _ _).alloc (Nat.le_refl _) _).trans (B1.mono (by simp)))
  have C1 := Lib.hid ((show Cyc w.heap.size 738916 31 1 (w.alloc (.cells #[.int .i64 738916, .int .i64 31, .int .i64 1] 23)) from ⟨by simp [go_sem], by simp [go_sem], by simp [go_sem]⟩).after B1)
  clear B1
  obtain ⟨c0, c1, c2⟩ := C1.out
  go_wp2_with fail
  refine (bound_is 738976 0 _ (Tab.after HT.out K1.out) v12.1 v12.2).mono ?_
  rintro e w2 ⟨rfl, B2⟩
  have K2 := Lib.hid (K1.out.trans (B2.mono K1.out.size))
  have C2 := C1.out.after B2
  clear B2 c0 c1 c2
  obtain ⟨c0, c1, c2⟩ := C2
  have C2 : Cyc w.heap.size 738916 31 1 w2 := ⟨c0, c1, c2⟩
  go_wp2
  go_region_held3 (fun w' => w'.cell? ⟨w.heap.size, 0, none⟩ = some (.int .i64 738916) ∧ w'.cell? ⟨w.heap.size, 1, none⟩ = some (.int .i64 31) ∧ w'.cell? ⟨w.heap.size, 2, none⟩ = some (.int .i64 1) ∧ Below w2.heap.size w2 w')
    (first
      | exact ⟨c0, c1, c2, (Below.refl _ _).drew⟩
      | (go_split_ands; exact keepC (by assumption) (by assumption) (by assumption) (by assumption) B3))
    (first
      | (go_at_call 21; refine (day_is 738944 _ (by decide)).mono ?_; rintro e w' ⟨rfl, rfl⟩)
      | (go_at_call 15; go_split_ands; refine (find_in 0 738916 738945 _ (Tab.after HT.out (K2.out.trans (Below.mono (by assumption) K2.out.size))) k1 (by decide) (by rw [t1]; decide) (An.B_zero _ _ _) b11 (by decide) (by decide)).mono ?_; rintro e w3 ⟨rfl, B3⟩))
  have hS : w3.cell? ⟨w.heap.size, 0, none⟩ = some (.int .i64 738916) ∧ w3.cell? ⟨w.heap.size, 1, none⟩ = some (.int .i64 31) ∧ w3.cell? ⟨w.heap.size, 2, none⟩ = some (.int .i64 1) ∧ Below w2.heap.size w2 w3 := by assumption
  obtain ⟨c0, c1, c2, HB⟩ := hS
  have K3 := Lib.hid (K2.out.trans (HB.mono K2.out.size))
  clear B3 HB
  go_wp2_with fail
  refine (day_is 738895 _ (by decide)).mono ?_
  rintro e w' ⟨rfl, rfl⟩
  go_wp2_with fail
  refine (bound_is 738900 0 _ (Tab.after HT.out K3.out) v21.1 v21.2).mono ?_
  rintro e w4 ⟨rfl, B4⟩
  have K4 := Lib.hid (K3.out.trans (B4.mono K3.out.size))
  obtain ⟨c0, c1, c2⟩ := Cyc.after ⟨c0, c1, c2⟩ B4
  clear B4
  go_wp2_with fail
  refine (day_is 738900 _ (by decide)).mono ?_
  rintro e w' ⟨rfl, rfl⟩
  go_wp2_with fail
  refine (bound_is 738991 0 _ (Tab.after HT.out K4.out) v31.1 v31.2).mono ?_
  rintro e w5 ⟨rfl, B5⟩
  have K5 := Lib.hid (K4.out.trans (B5.mono K4.out.size))
  obtain ⟨c0, c1, c2⟩ := Cyc.after ⟨c0, c1, c2⟩ B5
  clear B5
  go_wp2
  go_region_held3 (fun w' => w'.cell? ⟨w.heap.size, 0, none⟩ = some (.int .i64 738916) ∧ w'.cell? ⟨w.heap.size, 1, none⟩ = some (.int .i64 31) ∧ w'.cell? ⟨w.heap.size, 2, none⟩ = some (.int .i64 1) ∧ Below w5.heap.size w5 w')
    (first
      | exact ⟨c0, c1, c2, (Below.refl _ _).drew⟩
      | (go_split_ands; exact keepC (by assumption) (by assumption) (by assumption) (by assumption) B6))
    (first
      | (go_at_call 21; refine (day_is 738915 _ (by decide)).mono ?_; rintro e w' ⟨rfl, rfl⟩)
      | (go_at_call 15; go_split_ands; refine (find_no _ (Tab.after HT.out (K5.out.trans (Below.mono (by assumption) K5.out.size))) f1 f2).mono ?_; rintro e w6 ⟨rfl, B6⟩))
  have hS : w6.cell? ⟨w.heap.size, 0, none⟩ = some (.int .i64 738916) ∧ w6.cell? ⟨w.heap.size, 1, none⟩ = some (.int .i64 31) ∧ w6.cell? ⟨w.heap.size, 2, none⟩ = some (.int .i64 1) ∧ Below w5.heap.size w5 w6 := by assumption
  obtain ⟨c0, c1, c2, HB⟩ := hS
  have K6 := Lib.hid (K5.out.trans (HB.mono K5.out.size))
  clear B6 HB
  go_wp2_with fail
  refine (day_is 738945 _ (by decide)).mono ?_
  rintro e w' ⟨rfl, rfl⟩
  go_wp2_with fail
  refine (day_is 738976 _ (by decide)).mono ?_
  rintro e w' ⟨rfl, rfl⟩
  go_wp2_with fail
  refine (day_is 738900 _ (by decide)).mono ?_
  rintro e w' ⟨rfl, rfl⟩
  go_wp2_with fail
  refine (day_is 738991 _ (by decide)).mono ?_
  rintro e w' ⟨rfl, rfl⟩
  go_wp2_with fail
  refine (check_is 2 _ (by decide)).mono ?_
  rintro e w7 ⟨rfl, B7⟩
  have K7 := Lib.hid (K6.out.trans (B7.mono K6.out.size))
  obtain ⟨c0, c1, c2⟩ := Cyc.after ⟨c0, c1, c2⟩ B7
  clear B7
  go_wp2
  go_ret
  exact ⟨rfl, K7.out⟩
end Go.Proofs.YtkichgbkaajaaaaDoor.law09
