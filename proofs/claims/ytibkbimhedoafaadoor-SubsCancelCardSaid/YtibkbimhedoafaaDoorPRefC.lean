/- What quittanceref23.Change answers (walks, printed by gen/mksubr.py). No conditions. -/
-- HYB
import Derived.Test.YtibkbimhedoafaaDoorPSubG
import Derived.Test.YtibkbimhedoafaaDoorPHx10
import Derived.Test.YtibkbimhedoafaaDoorPHx9
import Derived.Test.YtibkbimhedoafaaDoorPHx15
import Derived.Test.YtibkbimhedoafaaDoorPHx11
import Derived.Deep.DeepCutAuto
import Derived.Deep.DrawnRows
namespace Go.Proofs.YtibkbimhedoafaaDoor.pref
open Go.RowKit Go.Proofs.YtibkbimhedoafaaDoor.base Go.Shelf Sb
open Go.Proofs.YtibkbimhedoafaaDoor.psub
open Go.Proofs.YtibkbimhedoafaaDoor.PH (quittanceref23_Check.f quittanceref23_Check.calls quittanceref23_Day.f quittanceref23_Day.calls quittanceref23_last.f quittanceref23_last.calls quittanceref23_On.f quittanceref23_On.calls quittanceref23_End.f quittanceref23_End.calls)
open Go.Proofs.YtibkbimhedoafaaDoorW.PrintWords (blk_cell blk_frozen blk_far blk_set Aside0)
set_option linter.unusedSimpArgs false
attribute [local go_sem] Oper.semAt_some min2_int min_two
attribute [local go_sem ↓] Go.wp_at_zero Go.wp_at_succ
set_option maxRecDepth 100000 in
set_option maxHeartbeats 4000000 in
theorem change_arg (k : Nat) (x : Su) (on plan price c : Int) (d : Bool) (w : World) (hck : quittanceref23_Check.f k x.id x.cu x.pl x.st x.an x.ev x.pr x.bi x.si x.en = some c) (hd : quittanceref23_Day.f on = some d) (hb : c ≠ 0 ∨ d = false ∨ plan = 0 ∨ price < 0 ∨ 4611686018427387904 ≤ price) :
    Calls Tryd.prog 10 #[.agg (sc x), .int .i64 on, .agg #[.int .u64 plan, .int .i64 price]] w fun e w' => e = .returned (.tuple #[.agg zs, .agg zt, .int .i64 2]) ∧ Below w.heap.size w w' := by
  have HP := Lib.hid (fun w => quittanceref23_Check.calls k x.id x.cu x.pl x.st x.an x.ev x.pr x.bi x.si x.en c w hck)
  have HD := Lib.hid (fun w => quittanceref23_Day.calls on d w hd)
  have HB := Lib.hid hb
  clear hck hd hb
  have F1 := Lib.hid (F4.new w (sc x) #[.int .u64 plan, .int .i64 price] zs zt 26 28 26 30)
  unfold sc at F1
  unfold sc
  go_enter Tryd.func10, Tryd.ntmps10
  go_wp2_with fail
  refine (HP.out _).mono ?_
  rintro e w1 ⟨rfl, B1⟩
  have F2 := Lib.hid (F1.out.all (by unfold zs zt; exact B1))
  clear B1 F1
  have hb := HB.out
  by_cases h0 : c = 0
  · subst h0
    clear hb
    go_wp2_with fail
    refine (HD.out _).mono ?_
    rintro e w2 ⟨rfl, D2⟩
    have F3 := Lib.hid (F2.out.all D2.below)
    clear D2 F2
    have o0 := F3.out.two.c 0
    have o1 := F3.out.two.c 1
    simp at o0 o1
    cases d with
    | false =>
      have r0 := F3.out.tri.c 0
      have q0 := F3.out.tri.f 0
      have r1 := F3.out.tri.c 1
      have q1 := F3.out.tri.f 1
      have r2 := F3.out.tri.c 2
      have q2 := F3.out.tri.f 2
      have r3 := F3.out.tri.c 3
      have q3 := F3.out.tri.f 3
      have r4 := F3.out.tri.c 4
      have q4 := F3.out.tri.f 4
      have r5 := F3.out.tri.c 5
      have q5 := F3.out.tri.f 5
      have r6 := F3.out.tri.c 6
      have q6 := F3.out.tri.f 6
      have r7 := F3.out.tri.c 7
      have q7 := F3.out.tri.f 7
      have r8 := F3.out.tri.c 8
      have q8 := F3.out.tri.f 8
      have r9 := F3.out.tri.c 9
      have q9 := F3.out.tri.f 9
      have t0 := F3.out.fou.c 0
      have u0 := F3.out.fou.f 0
      have t1 := F3.out.fou.c 1
      have u1 := F3.out.fou.f 1
      have t2 := F3.out.fou.c 2
      have u2 := F3.out.fou.f 2
      have t3 := F3.out.fou.c 3
      have u3 := F3.out.fou.f 3
      simp [zs, zt] at r0 r1 r2 r3 r4 r5 r6 r7 r8 r9 t0 t1 t2 t3
      go_wp2_with fail
      have FZ := Lib.hid ((F3.out.put10 ⟨0, 0, 0, 0, 0, 0, 0, 0, 0, 0⟩).put4 (.int .i64 0) (.int .i64 0) (.int .i64 0) (.int .i64 0))
      change bodyPost _ _ _ _ _ (put4 (put10 _ (w.heap.size + 1 + 1) ⟨0, 0, 0, 0, 0, 0, 0, 0, 0, 0⟩) (w.heap.size + 1 + 1 + 1) (.int .i64 0) (.int .i64 0) (.int .i64 0) (.int .i64 0))
      clear r0 q0 r1 q1 r2 q2 r3 q3 r4 q4 r5 q5 r6 q6 r7 q7 r8 q8 r9 q9 t0 u0 t1 u1 t2 u2 t3 u3
      generalize put4 (put10 _ (w.heap.size + 1 + 1) ⟨0, 0, 0, 0, 0, 0, 0, 0, 0, 0⟩) (w.heap.size + 1 + 1 + 1) (.int .i64 0) (.int .i64 0) (.int .i64 0) (.int .i64 0) = V at FZ ⊢
      have r0 := FZ.out.tri.c 0
      have r1 := FZ.out.tri.c 1
      have r2 := FZ.out.tri.c 2
      have r3 := FZ.out.tri.c 3
      have r4 := FZ.out.tri.c 4
      have r5 := FZ.out.tri.c 5
      have r6 := FZ.out.tri.c 6
      have r7 := FZ.out.tri.c 7
      have r8 := FZ.out.tri.c 8
      have r9 := FZ.out.tri.c 9
      have t0 := FZ.out.fou.c 0
      have t1 := FZ.out.fou.c 1
      have t2 := FZ.out.fou.c 2
      have t3 := FZ.out.fou.c 3
      simp [sc] at r0 r1 r2 r3 r4 r5 r6 r7 r8 r9 t0 t1 t2 t3
      exact bodyPost_ret (v := .tuple #[.agg zs, .agg #[.int .i64 0, .int .i64 0, .int .i64 0, .int .i64 0], .int .i64 2]) (by simp [results, Tryd.results10, go_sem, zs, r0, r1, r2, r3, r4, r5, r6, r7, r8, r9, t0, t1, t2, t3]) rfl ⟨rfl, FZ.out.bel⟩
    | true =>
      by_cases h1 : plan = 0
      · subst h1
        have r0 := F3.out.tri.c 0
        have q0 := F3.out.tri.f 0
        have r1 := F3.out.tri.c 1
        have q1 := F3.out.tri.f 1
        have r2 := F3.out.tri.c 2
        have q2 := F3.out.tri.f 2
        have r3 := F3.out.tri.c 3
        have q3 := F3.out.tri.f 3
        have r4 := F3.out.tri.c 4
        have q4 := F3.out.tri.f 4
        have r5 := F3.out.tri.c 5
        have q5 := F3.out.tri.f 5
        have r6 := F3.out.tri.c 6
        have q6 := F3.out.tri.f 6
        have r7 := F3.out.tri.c 7
        have q7 := F3.out.tri.f 7
        have r8 := F3.out.tri.c 8
        have q8 := F3.out.tri.f 8
        have r9 := F3.out.tri.c 9
        have q9 := F3.out.tri.f 9
        have t0 := F3.out.fou.c 0
        have u0 := F3.out.fou.f 0
        have t1 := F3.out.fou.c 1
        have u1 := F3.out.fou.f 1
        have t2 := F3.out.fou.c 2
        have u2 := F3.out.fou.f 2
        have t3 := F3.out.fou.c 3
        have u3 := F3.out.fou.f 3
        simp [zs, zt] at r0 r1 r2 r3 r4 r5 r6 r7 r8 r9 t0 t1 t2 t3
        go_wp2_with fail
        have FZ := Lib.hid ((F3.out.put10 ⟨0, 0, 0, 0, 0, 0, 0, 0, 0, 0⟩).put4 (.int .i64 0) (.int .i64 0) (.int .i64 0) (.int .i64 0))
        change bodyPost _ _ _ _ _ (put4 (put10 _ (w.heap.size + 1 + 1) ⟨0, 0, 0, 0, 0, 0, 0, 0, 0, 0⟩) (w.heap.size + 1 + 1 + 1) (.int .i64 0) (.int .i64 0) (.int .i64 0) (.int .i64 0))
        clear r0 q0 r1 q1 r2 q2 r3 q3 r4 q4 r5 q5 r6 q6 r7 q7 r8 q8 r9 q9 t0 u0 t1 u1 t2 u2 t3 u3
        generalize put4 (put10 _ (w.heap.size + 1 + 1) ⟨0, 0, 0, 0, 0, 0, 0, 0, 0, 0⟩) (w.heap.size + 1 + 1 + 1) (.int .i64 0) (.int .i64 0) (.int .i64 0) (.int .i64 0) = V at FZ ⊢
        have r0 := FZ.out.tri.c 0
        have r1 := FZ.out.tri.c 1
        have r2 := FZ.out.tri.c 2
        have r3 := FZ.out.tri.c 3
        have r4 := FZ.out.tri.c 4
        have r5 := FZ.out.tri.c 5
        have r6 := FZ.out.tri.c 6
        have r7 := FZ.out.tri.c 7
        have r8 := FZ.out.tri.c 8
        have r9 := FZ.out.tri.c 9
        have t0 := FZ.out.fou.c 0
        have t1 := FZ.out.fou.c 1
        have t2 := FZ.out.fou.c 2
        have t3 := FZ.out.fou.c 3
        simp [sc] at r0 r1 r2 r3 r4 r5 r6 r7 r8 r9 t0 t1 t2 t3
        exact bodyPost_ret (v := .tuple #[.agg zs, .agg #[.int .i64 0, .int .i64 0, .int .i64 0, .int .i64 0], .int .i64 2]) (by simp [results, Tryd.results10, go_sem, zs, r0, r1, r2, r3, r4, r5, r6, r7, r8, r9, t0, t1, t2, t3]) rfl ⟨rfl, FZ.out.bel⟩
      · have g1 : (plan == 0) = false := by simpa using h1
        by_cases h2 : price < 0
        · have g2 := decide_eq_true h2
          have r0 := F3.out.tri.c 0
          have q0 := F3.out.tri.f 0
          have r1 := F3.out.tri.c 1
          have q1 := F3.out.tri.f 1
          have r2 := F3.out.tri.c 2
          have q2 := F3.out.tri.f 2
          have r3 := F3.out.tri.c 3
          have q3 := F3.out.tri.f 3
          have r4 := F3.out.tri.c 4
          have q4 := F3.out.tri.f 4
          have r5 := F3.out.tri.c 5
          have q5 := F3.out.tri.f 5
          have r6 := F3.out.tri.c 6
          have q6 := F3.out.tri.f 6
          have r7 := F3.out.tri.c 7
          have q7 := F3.out.tri.f 7
          have r8 := F3.out.tri.c 8
          have q8 := F3.out.tri.f 8
          have r9 := F3.out.tri.c 9
          have q9 := F3.out.tri.f 9
          have t0 := F3.out.fou.c 0
          have u0 := F3.out.fou.f 0
          have t1 := F3.out.fou.c 1
          have u1 := F3.out.fou.f 1
          have t2 := F3.out.fou.c 2
          have u2 := F3.out.fou.f 2
          have t3 := F3.out.fou.c 3
          have u3 := F3.out.fou.f 3
          simp [zs, zt] at r0 r1 r2 r3 r4 r5 r6 r7 r8 r9 t0 t1 t2 t3
          go_wp2_with fail
          have FZ := Lib.hid ((F3.out.put10 ⟨0, 0, 0, 0, 0, 0, 0, 0, 0, 0⟩).put4 (.int .i64 0) (.int .i64 0) (.int .i64 0) (.int .i64 0))
          change bodyPost _ _ _ _ _ (put4 (put10 _ (w.heap.size + 1 + 1) ⟨0, 0, 0, 0, 0, 0, 0, 0, 0, 0⟩) (w.heap.size + 1 + 1 + 1) (.int .i64 0) (.int .i64 0) (.int .i64 0) (.int .i64 0))
          clear r0 q0 r1 q1 r2 q2 r3 q3 r4 q4 r5 q5 r6 q6 r7 q7 r8 q8 r9 q9 t0 u0 t1 u1 t2 u2 t3 u3
          generalize put4 (put10 _ (w.heap.size + 1 + 1) ⟨0, 0, 0, 0, 0, 0, 0, 0, 0, 0⟩) (w.heap.size + 1 + 1 + 1) (.int .i64 0) (.int .i64 0) (.int .i64 0) (.int .i64 0) = V at FZ ⊢
          have r0 := FZ.out.tri.c 0
          have r1 := FZ.out.tri.c 1
          have r2 := FZ.out.tri.c 2
          have r3 := FZ.out.tri.c 3
          have r4 := FZ.out.tri.c 4
          have r5 := FZ.out.tri.c 5
          have r6 := FZ.out.tri.c 6
          have r7 := FZ.out.tri.c 7
          have r8 := FZ.out.tri.c 8
          have r9 := FZ.out.tri.c 9
          have t0 := FZ.out.fou.c 0
          have t1 := FZ.out.fou.c 1
          have t2 := FZ.out.fou.c 2
          have t3 := FZ.out.fou.c 3
          simp [sc] at r0 r1 r2 r3 r4 r5 r6 r7 r8 r9 t0 t1 t2 t3
          exact bodyPost_ret (v := .tuple #[.agg zs, .agg #[.int .i64 0, .int .i64 0, .int .i64 0, .int .i64 0], .int .i64 2]) (by simp [results, Tryd.results10, go_sem, zs, r0, r1, r2, r3, r4, r5, r6, r7, r8, r9, t0, t1, t2, t3]) rfl ⟨rfl, FZ.out.bel⟩
        · have g2 := decide_eq_false h2
          have h3 : 4611686018427387904 ≤ price := by simpa [h1, h2] using HB.out
          have g3 := decide_eq_true h3
          have r0 := F3.out.tri.c 0
          have q0 := F3.out.tri.f 0
          have r1 := F3.out.tri.c 1
          have q1 := F3.out.tri.f 1
          have r2 := F3.out.tri.c 2
          have q2 := F3.out.tri.f 2
          have r3 := F3.out.tri.c 3
          have q3 := F3.out.tri.f 3
          have r4 := F3.out.tri.c 4
          have q4 := F3.out.tri.f 4
          have r5 := F3.out.tri.c 5
          have q5 := F3.out.tri.f 5
          have r6 := F3.out.tri.c 6
          have q6 := F3.out.tri.f 6
          have r7 := F3.out.tri.c 7
          have q7 := F3.out.tri.f 7
          have r8 := F3.out.tri.c 8
          have q8 := F3.out.tri.f 8
          have r9 := F3.out.tri.c 9
          have q9 := F3.out.tri.f 9
          have t0 := F3.out.fou.c 0
          have u0 := F3.out.fou.f 0
          have t1 := F3.out.fou.c 1
          have u1 := F3.out.fou.f 1
          have t2 := F3.out.fou.c 2
          have u2 := F3.out.fou.f 2
          have t3 := F3.out.fou.c 3
          have u3 := F3.out.fou.f 3
          simp [zs, zt] at r0 r1 r2 r3 r4 r5 r6 r7 r8 r9 t0 t1 t2 t3
          go_wp2_with fail
          have FZ := Lib.hid ((F3.out.put10 ⟨0, 0, 0, 0, 0, 0, 0, 0, 0, 0⟩).put4 (.int .i64 0) (.int .i64 0) (.int .i64 0) (.int .i64 0))
          change bodyPost _ _ _ _ _ (put4 (put10 _ (w.heap.size + 1 + 1) ⟨0, 0, 0, 0, 0, 0, 0, 0, 0, 0⟩) (w.heap.size + 1 + 1 + 1) (.int .i64 0) (.int .i64 0) (.int .i64 0) (.int .i64 0))
          clear r0 q0 r1 q1 r2 q2 r3 q3 r4 q4 r5 q5 r6 q6 r7 q7 r8 q8 r9 q9 t0 u0 t1 u1 t2 u2 t3 u3
          generalize put4 (put10 _ (w.heap.size + 1 + 1) ⟨0, 0, 0, 0, 0, 0, 0, 0, 0, 0⟩) (w.heap.size + 1 + 1 + 1) (.int .i64 0) (.int .i64 0) (.int .i64 0) (.int .i64 0) = V at FZ ⊢
          have r0 := FZ.out.tri.c 0
          have r1 := FZ.out.tri.c 1
          have r2 := FZ.out.tri.c 2
          have r3 := FZ.out.tri.c 3
          have r4 := FZ.out.tri.c 4
          have r5 := FZ.out.tri.c 5
          have r6 := FZ.out.tri.c 6
          have r7 := FZ.out.tri.c 7
          have r8 := FZ.out.tri.c 8
          have r9 := FZ.out.tri.c 9
          have t0 := FZ.out.fou.c 0
          have t1 := FZ.out.fou.c 1
          have t2 := FZ.out.fou.c 2
          have t3 := FZ.out.fou.c 3
          simp [sc] at r0 r1 r2 r3 r4 r5 r6 r7 r8 r9 t0 t1 t2 t3
          exact bodyPost_ret (v := .tuple #[.agg zs, .agg #[.int .i64 0, .int .i64 0, .int .i64 0, .int .i64 0], .int .i64 2]) (by simp [results, Tryd.results10, go_sem, zs, r0, r1, r2, r3, r4, r5, r6, r7, r8, r9, t0, t1, t2, t3]) rfl ⟨rfl, FZ.out.bel⟩
  · have g0 : (c == 0) = false := by simpa using h0
    have g0' : (c != 0) = true := by simpa using h0
    clear hb
    have r0 := F2.out.tri.c 0
    have q0 := F2.out.tri.f 0
    have r1 := F2.out.tri.c 1
    have q1 := F2.out.tri.f 1
    have r2 := F2.out.tri.c 2
    have q2 := F2.out.tri.f 2
    have r3 := F2.out.tri.c 3
    have q3 := F2.out.tri.f 3
    have r4 := F2.out.tri.c 4
    have q4 := F2.out.tri.f 4
    have r5 := F2.out.tri.c 5
    have q5 := F2.out.tri.f 5
    have r6 := F2.out.tri.c 6
    have q6 := F2.out.tri.f 6
    have r7 := F2.out.tri.c 7
    have q7 := F2.out.tri.f 7
    have r8 := F2.out.tri.c 8
    have q8 := F2.out.tri.f 8
    have r9 := F2.out.tri.c 9
    have q9 := F2.out.tri.f 9
    have t0 := F2.out.fou.c 0
    have u0 := F2.out.fou.f 0
    have t1 := F2.out.fou.c 1
    have u1 := F2.out.fou.f 1
    have t2 := F2.out.fou.c 2
    have u2 := F2.out.fou.f 2
    have t3 := F2.out.fou.c 3
    have u3 := F2.out.fou.f 3
    simp [zs, zt] at r0 r1 r2 r3 r4 r5 r6 r7 r8 r9 t0 t1 t2 t3
    go_wp2_with fail
    have FZ := Lib.hid ((F2.out.put10 ⟨0, 0, 0, 0, 0, 0, 0, 0, 0, 0⟩).put4 (.int .i64 0) (.int .i64 0) (.int .i64 0) (.int .i64 0))
    change bodyPost _ _ _ _ _ (put4 (put10 _ (w.heap.size + 1 + 1) ⟨0, 0, 0, 0, 0, 0, 0, 0, 0, 0⟩) (w.heap.size + 1 + 1 + 1) (.int .i64 0) (.int .i64 0) (.int .i64 0) (.int .i64 0))
    clear r0 q0 r1 q1 r2 q2 r3 q3 r4 q4 r5 q5 r6 q6 r7 q7 r8 q8 r9 q9 t0 u0 t1 u1 t2 u2 t3 u3
    generalize put4 (put10 _ (w.heap.size + 1 + 1) ⟨0, 0, 0, 0, 0, 0, 0, 0, 0, 0⟩) (w.heap.size + 1 + 1 + 1) (.int .i64 0) (.int .i64 0) (.int .i64 0) (.int .i64 0) = V at FZ ⊢
    have r0 := FZ.out.tri.c 0
    have r1 := FZ.out.tri.c 1
    have r2 := FZ.out.tri.c 2
    have r3 := FZ.out.tri.c 3
    have r4 := FZ.out.tri.c 4
    have r5 := FZ.out.tri.c 5
    have r6 := FZ.out.tri.c 6
    have r7 := FZ.out.tri.c 7
    have r8 := FZ.out.tri.c 8
    have r9 := FZ.out.tri.c 9
    have t0 := FZ.out.fou.c 0
    have t1 := FZ.out.fou.c 1
    have t2 := FZ.out.fou.c 2
    have t3 := FZ.out.fou.c 3
    simp [sc] at r0 r1 r2 r3 r4 r5 r6 r7 r8 r9 t0 t1 t2 t3
    exact bodyPost_ret (v := .tuple #[.agg zs, .agg #[.int .i64 0, .int .i64 0, .int .i64 0, .int .i64 0], .int .i64 2]) (by simp [results, Tryd.results10, go_sem, zs, r0, r1, r2, r3, r4, r5, r6, r7, r8, r9, t0, t1, t2, t3]) rfl ⟨rfl, FZ.out.bel⟩
set_option maxRecDepth 100000 in
set_option maxHeartbeats 4000000 in
theorem change_none (k : Nat) (x : Su) (on plan price nx : Int) (w : World) (hck : quittanceref23_Check.f k x.id x.cu x.pl x.st x.an x.ev x.pr x.bi x.si x.en = some 0) (hd : quittanceref23_Day.f on = some true) (h1 : plan ≠ 0) (h2 : 0 ≤ price) (h3 : price < 4611686018427387904) (hl : quittanceref23_last.f k x.id x.cu x.pl x.st x.an x.ev x.pr x.bi x.si x.en on = some (nx, false)) :
    Calls Tryd.prog 10 #[.agg (sc x), .int .i64 on, .agg #[.int .u64 plan, .int .i64 price]] w fun e w' => e = .returned (.tuple #[.agg zs, .agg zt, .int .i64 9]) ∧ Below w.heap.size w w' := by
  have HP := Lib.hid (fun w => quittanceref23_Check.calls k x.id x.cu x.pl x.st x.an x.ev x.pr x.bi x.si x.en 0 w hck)
  have HD := Lib.hid (fun w => quittanceref23_Day.calls on true w hd)
  have HL := Lib.hid (fun w => quittanceref23_last.calls k x.id x.cu x.pl x.st x.an x.ev x.pr x.bi x.si x.en on nx false w hl)
  have Hh1 := Lib.hid h1
  have Hh2 := Lib.hid h2
  have Hh3 := Lib.hid h3
  clear hck hd hl h1 h2 h3
  have F1 := Lib.hid (F4.new w (sc x) #[.int .u64 plan, .int .i64 price] zs zt 26 28 26 30)
  unfold sc at F1
  unfold sc
  go_enter Tryd.func10, Tryd.ntmps10
  go_wp2_with fail
  refine (HP.out _).mono ?_
  rintro e w1 ⟨rfl, B1⟩
  have F2 := Lib.hid (F1.out.all (by unfold zs zt; exact B1))
  clear B1 F1
  go_wp2_with fail
  refine (HD.out _).mono ?_
  rintro e w2 ⟨rfl, D2⟩
  have F3 := Lib.hid (F2.out.all D2.below)
  clear D2 F2
  have o0 := F3.out.two.c 0
  have o1 := F3.out.two.c 1
  have s0 := F3.out.one.c 0
  have s1 := F3.out.one.c 1
  have s2 := F3.out.one.c 2
  have s3 := F3.out.one.c 3
  have s4 := F3.out.one.c 4
  have s5 := F3.out.one.c 5
  have s6 := F3.out.one.c 6
  have s7 := F3.out.one.c 7
  have s8 := F3.out.one.c 8
  have s9 := F3.out.one.c 9
  simp at o0 o1 s0 s1 s2 s3 s4 s5 s6 s7 s8 s9
  have g1 : (plan == 0) = false := by simpa using Hh1.out
  have g2 : decide (price < 0) = false := decide_eq_false (by have := Hh2.out; omega)
  have g3 : decide (4611686018427387904 ≤ price) = false := decide_eq_false (by have := Hh3.out; omega)
  go_wp2_with fail
  refine (HL.out _).mono ?_
  rintro e w3 ⟨rfl, B3⟩
  have F4 := Lib.hid (F3.out.all B3)
  clear B3
  clear F3 o0 o1 s0 s1 s2 s3 s4 s5 s6 s7 s8 s9 g1 g2 g3
  have r0 := F4.out.tri.c 0
  have q0 := F4.out.tri.f 0
  have r1 := F4.out.tri.c 1
  have q1 := F4.out.tri.f 1
  have r2 := F4.out.tri.c 2
  have q2 := F4.out.tri.f 2
  have r3 := F4.out.tri.c 3
  have q3 := F4.out.tri.f 3
  have r4 := F4.out.tri.c 4
  have q4 := F4.out.tri.f 4
  have r5 := F4.out.tri.c 5
  have q5 := F4.out.tri.f 5
  have r6 := F4.out.tri.c 6
  have q6 := F4.out.tri.f 6
  have r7 := F4.out.tri.c 7
  have q7 := F4.out.tri.f 7
  have r8 := F4.out.tri.c 8
  have q8 := F4.out.tri.f 8
  have r9 := F4.out.tri.c 9
  have q9 := F4.out.tri.f 9
  have t0 := F4.out.fou.c 0
  have u0 := F4.out.fou.f 0
  have t1 := F4.out.fou.c 1
  have u1 := F4.out.fou.f 1
  have t2 := F4.out.fou.c 2
  have u2 := F4.out.fou.f 2
  have t3 := F4.out.fou.c 3
  have u3 := F4.out.fou.f 3
  simp [zs, zt] at r0 r1 r2 r3 r4 r5 r6 r7 r8 r9 t0 t1 t2 t3
  go_wp2_with fail
  have FZ := Lib.hid ((F4.out.put10 ⟨0, 0, 0, 0, 0, 0, 0, 0, 0, 0⟩).put4 (.int .i64 0) (.int .i64 0) (.int .i64 0) (.int .i64 0))
  change bodyPost _ _ _ _ _ (put4 (put10 _ (w.heap.size + 1 + 1) ⟨0, 0, 0, 0, 0, 0, 0, 0, 0, 0⟩) (w.heap.size + 1 + 1 + 1) (.int .i64 0) (.int .i64 0) (.int .i64 0) (.int .i64 0))
  clear r0 q0 r1 q1 r2 q2 r3 q3 r4 q4 r5 q5 r6 q6 r7 q7 r8 q8 r9 q9 t0 u0 t1 u1 t2 u2 t3 u3
  generalize put4 (put10 _ (w.heap.size + 1 + 1) ⟨0, 0, 0, 0, 0, 0, 0, 0, 0, 0⟩) (w.heap.size + 1 + 1 + 1) (.int .i64 0) (.int .i64 0) (.int .i64 0) (.int .i64 0) = V at FZ ⊢
  have r0 := FZ.out.tri.c 0
  have r1 := FZ.out.tri.c 1
  have r2 := FZ.out.tri.c 2
  have r3 := FZ.out.tri.c 3
  have r4 := FZ.out.tri.c 4
  have r5 := FZ.out.tri.c 5
  have r6 := FZ.out.tri.c 6
  have r7 := FZ.out.tri.c 7
  have r8 := FZ.out.tri.c 8
  have r9 := FZ.out.tri.c 9
  have t0 := FZ.out.fou.c 0
  have t1 := FZ.out.fou.c 1
  have t2 := FZ.out.fou.c 2
  have t3 := FZ.out.fou.c 3
  simp [sc] at r0 r1 r2 r3 r4 r5 r6 r7 r8 r9 t0 t1 t2 t3
  exact bodyPost_ret (v := .tuple #[.agg zs, .agg #[.int .i64 0, .int .i64 0, .int .i64 0, .int .i64 0], .int .i64 9]) (by simp [results, Tryd.results10, go_sem, zs, r0, r1, r2, r3, r4, r5, r6, r7, r8, r9, t0, t1, t2, t3]) rfl ⟨rfl, FZ.out.bel⟩
theorem s7 {w V : World} {x : Su} {plan price : Int} (h : F4 w #[.int .u64 x.id, .int .u64 x.cu, .int .u64 x.pl, .int .i64 x.st, .int .i64 x.an, .int .i64 x.ev, .int .i64 x.pr, .int .i64 x.bi, .int .i64 x.si, .int .i64 x.en] #[.int .u64 plan, .int .i64 price] zs zt 26 28 26 30 V) : F4 w #[.int .u64 x.id, .int .u64 x.cu, .int .u64 x.pl, .int .i64 x.st, .int .i64 x.an, .int .i64 x.ev, .int .i64 x.pr, .int .i64 x.bi, .int .i64 x.si, .int .i64 x.en] #[.int .u64 plan, .int .i64 price] zs zt 26 28 26 30 V ∧ V.cell? ⟨w.heap.size, 0, none⟩ = some (.int .u64 x.id) ∧ V.cell? ⟨w.heap.size, 1, none⟩ = some (.int .u64 x.cu) ∧ V.cell? ⟨w.heap.size, 2, none⟩ = some (.int .u64 x.pl) ∧ V.cell? ⟨w.heap.size, 3, none⟩ = some (.int .i64 x.st) ∧ V.cell? ⟨w.heap.size, 4, none⟩ = some (.int .i64 x.an) ∧ V.cell? ⟨w.heap.size, 5, none⟩ = some (.int .i64 x.ev) ∧ V.cell? ⟨w.heap.size, 6, none⟩ = some (.int .i64 x.pr) ∧ V.cell? ⟨w.heap.size, 7, none⟩ = some (.int .i64 x.bi) ∧ V.cell? ⟨w.heap.size, 8, none⟩ = some (.int .i64 x.si) ∧ V.cell? ⟨w.heap.size, 9, none⟩ = some (.int .i64 x.en) ∧ V.cell? ⟨w.heap.size + 1, 1, none⟩ = some (.int .i64 price) :=
  ⟨h, h.one.c 0, h.one.c 1, h.one.c 2, h.one.c 3, h.one.c 4, h.one.c 5, h.one.c 6, h.one.c 7, h.one.c 8, h.one.c 9, h.two.c 1⟩
theorem Bl.dr {b : Nat} {cs : Array Value} {t : TypeId} {W : World} (h : Bl b cs t W) : Bl b cs t W.drew := h
theorem Bl.set4 {b : Nat} {z0 z1 z2 z3 : Value} {t : TypeId} {W : World} (h : Bl b #[z0, z1, z2, z3] t W) (v0 v1 v2 v3 : Value) : Bl b #[v0, v1, v2, v3] t (put4 W b v0 v1 v2 v3) := by
  have := blk_set (blk_set (blk_set (blk_set h 0 v0) 1 v1) 2 v2) 3 v3
  simpa [psub.put4, Bl] using this
theorem F4.dral {w W : World} {c1 c2 c3 c4 : Array Value} {t1 t2 t3 t4 : TypeId} (h : F4 w c1 c2 c3 c4 t1 t2 t3 t4 W.drew) (o : Obj) : F4 w c1 c2 c3 c4 t1 t2 t3 t4 (W.alloc o).drew :=
  (F4.alloc (W := W) ⟨h.one, h.two, h.tri, h.fou, ⟨h.bel.os, h.bel.tape, h.bel.output, h.bel.size, h.bel.block⟩⟩ o).drew
set_option maxRecDepth 100000 in
set_option maxHeartbeats 4000000 in
theorem change_main (k : Nat) (x : Su) (on plan price nx en cr ch : Int) (w : World) (hck : quittanceref23_Check.f k x.id x.cu x.pl x.st x.an x.ev x.pr x.bi x.si x.en = some 0) (hd : quittanceref23_Day.f on = some true) (h1 : plan ≠ 0) (h2 : 0 ≤ price) (h3 : price < 4611686018427387904) (hl : quittanceref23_last.f k x.id x.cu x.pl x.st x.an x.ev x.pr x.bi x.si x.en on = some (nx, true)) (he : quittanceref23_End.f x.id x.cu x.pl x.st x.an x.ev x.pr x.bi x.si x.en nx = some en)
    (hcr : quittanceref23_On.f k x.id x.cu x.pl x.st x.an x.ev x.pr x.bi x.si x.en nx x.pr on en = some cr) (hch : quittanceref23_On.f k x.id x.cu x.pl x.st x.an x.ev x.pr x.bi x.si x.en nx price on en = some ch) :
    Calls Tryd.prog 10 #[.agg (sc x), .int .i64 on, .agg #[.int .u64 plan, .int .i64 price]] w fun e w' => e = .returned (.tuple #[.agg (sc { x with pl := plan, pr := price, si := on }), .agg #[.int .i64 on, .int .i64 en, .int .i64 cr, .int .i64 ch], .int .i64 0]) ∧ Below w.heap.size w w' := by
  have HP := Lib.hid (fun w => quittanceref23_Check.calls k x.id x.cu x.pl x.st x.an x.ev x.pr x.bi x.si x.en 0 w hck)
  have HD := Lib.hid (fun w => quittanceref23_Day.calls on true w hd)
  have HL := Lib.hid (fun w => quittanceref23_last.calls k x.id x.cu x.pl x.st x.an x.ev x.pr x.bi x.si x.en on nx true w hl)
  have HE := Lib.hid (fun w => quittanceref23_End.calls x.id x.cu x.pl x.st x.an x.ev x.pr x.bi x.si x.en nx en w he)
  have HA := Lib.hid (fun w => quittanceref23_On.calls k x.id x.cu x.pl x.st x.an x.ev x.pr x.bi x.si x.en nx x.pr on en cr w hcr)
  have HG := Lib.hid (fun w => quittanceref23_On.calls k x.id x.cu x.pl x.st x.an x.ev x.pr x.bi x.si x.en nx price on en ch w hch)
  have Hh1 := Lib.hid h1
  have Hh2 := Lib.hid h2
  have Hh3 := Lib.hid h3
  clear hck hd hl he hcr hch h1 h2 h3
  have F1 := Lib.hid (F4.new w (sc x) #[.int .u64 plan, .int .i64 price] zs zt 26 28 26 30)
  unfold sc at F1
  unfold sc
  go_enter Tryd.func10, Tryd.ntmps10
  go_wp2_with fail
  refine (HP.out _).mono ?_
  rintro e w1 ⟨rfl, B1⟩
  have F2 := Lib.hid (F1.out.all (by unfold zs zt; exact B1))
  clear B1 F1
  go_wp2_with fail
  refine (HD.out _).mono ?_
  rintro e w2 ⟨rfl, D2⟩
  have F3 := Lib.hid (F2.out.all D2.below)
  clear D2 F2
  have o0 := F3.out.two.c 0
  have o1 := F3.out.two.c 1
  have s0 := F3.out.one.c 0
  have s1 := F3.out.one.c 1
  have s2 := F3.out.one.c 2
  have s3 := F3.out.one.c 3
  have s4 := F3.out.one.c 4
  have s5 := F3.out.one.c 5
  have s6 := F3.out.one.c 6
  have s7 := F3.out.one.c 7
  have s8 := F3.out.one.c 8
  have s9 := F3.out.one.c 9
  simp at o0 o1 s0 s1 s2 s3 s4 s5 s6 s7 s8 s9
  have g1 : (plan == 0) = false := by simpa using Hh1.out
  have g2 : decide (price < 0) = false := decide_eq_false (by have := Hh2.out; omega)
  have g3 : decide (4611686018427387904 ≤ price) = false := decide_eq_false (by have := Hh3.out; omega)
  go_wp2_with fail
  refine (HL.out _).mono ?_
  rintro e w3 ⟨rfl, B3⟩
  have F4 := Lib.hid (F3.out.all B3)
  clear B3
  clear F3 o0 o1 s0 s1 s2 s3 s4 s5 s6 s7 s8 s9 g1 g2 g3
  have s0 := F4.out.one.c 0
  have s1 := F4.out.one.c 1
  have s2 := F4.out.one.c 2
  have s3 := F4.out.one.c 3
  have s4 := F4.out.one.c 4
  have s5 := F4.out.one.c 5
  have s6 := F4.out.one.c 6
  have s7 := F4.out.one.c 7
  have s8 := F4.out.one.c 8
  have s9 := F4.out.one.c 9
  simp at s0 s1 s2 s3 s4 s5 s6 s7 s8 s9
  go_wp2_with fail
  refine (HE.out _).mono ?_
  rintro e w4 ⟨rfl, B4⟩
  have F5 := F4.out.all B4
  clear B4 F4 s0 s1 s2 s3 s4 s5 s6 s7 s8 s9
  go_upto_region 7 with fail
  have F6 := Lib.hid F5.drew
  have hlt := F5.fou.lt
  clear F5
  go_cut [12] (fun s12 wx => ∃ g : Nat, s12 = .pointer (some ⟨g, 0, none⟩) ∧ w.heap.size + 1 + 1 + 1 < g ∧ Bl g #[.int .i64 on, .int .i64 en, .int .i64 cr, .int .i64 ch] 30 wx ∧ F4 w #[.int .u64 x.id, .int .u64 x.cu, .int .u64 x.pl, .int .i64 x.st, .int .i64 x.an, .int .i64 x.ev, .int .i64 x.pr, .int .i64 x.bi, .int .i64 x.si, .int .i64 x.en] #[.int .u64 plan, .int .i64 price] zs zt 26 28 26 30 wx)
  case first =>
    have hs : ∀ V : World, F4 w #[.int .u64 x.id, .int .u64 x.cu, .int .u64 x.pl, .int .i64 x.st, .int .i64 x.an, .int .i64 x.ev, .int .i64 x.pr, .int .i64 x.bi, .int .i64 x.si, .int .i64 x.en] #[.int .u64 plan, .int .i64 price] zs zt 26 28 26 30 V → V.cell? ⟨w.heap.size, 0, none⟩ = some (.int .u64 x.id) := fun V h => h.one.c 0
    have hs1 : ∀ V : World, F4 w #[.int .u64 x.id, .int .u64 x.cu, .int .u64 x.pl, .int .i64 x.st, .int .i64 x.an, .int .i64 x.ev, .int .i64 x.pr, .int .i64 x.bi, .int .i64 x.si, .int .i64 x.en] #[.int .u64 plan, .int .i64 price] zs zt 26 28 26 30 V → V.cell? ⟨w.heap.size, 1, none⟩ = some (.int .u64 x.cu) := fun V h => h.one.c 1
    have hs2 : ∀ V : World, F4 w #[.int .u64 x.id, .int .u64 x.cu, .int .u64 x.pl, .int .i64 x.st, .int .i64 x.an, .int .i64 x.ev, .int .i64 x.pr, .int .i64 x.bi, .int .i64 x.si, .int .i64 x.en] #[.int .u64 plan, .int .i64 price] zs zt 26 28 26 30 V → V.cell? ⟨w.heap.size, 2, none⟩ = some (.int .u64 x.pl) := fun V h => h.one.c 2
    have hs3 : ∀ V : World, F4 w #[.int .u64 x.id, .int .u64 x.cu, .int .u64 x.pl, .int .i64 x.st, .int .i64 x.an, .int .i64 x.ev, .int .i64 x.pr, .int .i64 x.bi, .int .i64 x.si, .int .i64 x.en] #[.int .u64 plan, .int .i64 price] zs zt 26 28 26 30 V → V.cell? ⟨w.heap.size, 3, none⟩ = some (.int .i64 x.st) := fun V h => h.one.c 3
    have hs4 : ∀ V : World, F4 w #[.int .u64 x.id, .int .u64 x.cu, .int .u64 x.pl, .int .i64 x.st, .int .i64 x.an, .int .i64 x.ev, .int .i64 x.pr, .int .i64 x.bi, .int .i64 x.si, .int .i64 x.en] #[.int .u64 plan, .int .i64 price] zs zt 26 28 26 30 V → V.cell? ⟨w.heap.size, 4, none⟩ = some (.int .i64 x.an) := fun V h => h.one.c 4
    have hs5 : ∀ V : World, F4 w #[.int .u64 x.id, .int .u64 x.cu, .int .u64 x.pl, .int .i64 x.st, .int .i64 x.an, .int .i64 x.ev, .int .i64 x.pr, .int .i64 x.bi, .int .i64 x.si, .int .i64 x.en] #[.int .u64 plan, .int .i64 price] zs zt 26 28 26 30 V → V.cell? ⟨w.heap.size, 5, none⟩ = some (.int .i64 x.ev) := fun V h => h.one.c 5
    have hs6 : ∀ V : World, F4 w #[.int .u64 x.id, .int .u64 x.cu, .int .u64 x.pl, .int .i64 x.st, .int .i64 x.an, .int .i64 x.ev, .int .i64 x.pr, .int .i64 x.bi, .int .i64 x.si, .int .i64 x.en] #[.int .u64 plan, .int .i64 price] zs zt 26 28 26 30 V → V.cell? ⟨w.heap.size, 6, none⟩ = some (.int .i64 x.pr) := fun V h => h.one.c 6
    have hs7 : ∀ V : World, F4 w #[.int .u64 x.id, .int .u64 x.cu, .int .u64 x.pl, .int .i64 x.st, .int .i64 x.an, .int .i64 x.ev, .int .i64 x.pr, .int .i64 x.bi, .int .i64 x.si, .int .i64 x.en] #[.int .u64 plan, .int .i64 price] zs zt 26 28 26 30 V → V.cell? ⟨w.heap.size, 7, none⟩ = some (.int .i64 x.bi) := fun V h => h.one.c 7
    have hs8 : ∀ V : World, F4 w #[.int .u64 x.id, .int .u64 x.cu, .int .u64 x.pl, .int .i64 x.st, .int .i64 x.an, .int .i64 x.ev, .int .i64 x.pr, .int .i64 x.bi, .int .i64 x.si, .int .i64 x.en] #[.int .u64 plan, .int .i64 price] zs zt 26 28 26 30 V → V.cell? ⟨w.heap.size, 8, none⟩ = some (.int .i64 x.si) := fun V h => h.one.c 8
    have hs9 : ∀ V : World, F4 w #[.int .u64 x.id, .int .u64 x.cu, .int .u64 x.pl, .int .i64 x.st, .int .i64 x.an, .int .i64 x.ev, .int .i64 x.pr, .int .i64 x.bi, .int .i64 x.si, .int .i64 x.en] #[.int .u64 plan, .int .i64 price] zs zt 26 28 26 30 V → V.cell? ⟨w.heap.size, 9, none⟩ = some (.int .i64 x.en) := fun V h => h.one.c 9
    have hs10 : ∀ V : World, F4 w #[.int .u64 x.id, .int .u64 x.cu, .int .u64 x.pl, .int .i64 x.st, .int .i64 x.an, .int .i64 x.ev, .int .i64 x.pr, .int .i64 x.bi, .int .i64 x.si, .int .i64 x.en] #[.int .u64 plan, .int .i64 price] zs zt 26 28 26 30 V → V.cell? ⟨w.heap.size + 1, 1, none⟩ = some (.int .i64 price) := fun V h => h.two.c 1
    go_region_held3 (fun w' => F4 w #[.int .u64 x.id, .int .u64 x.cu, .int .u64 x.pl, .int .i64 x.st, .int .i64 x.an, .int .i64 x.ev, .int .i64 x.pr, .int .i64 x.bi, .int .i64 x.si, .int .i64 x.en] #[.int .u64 plan, .int .i64 price] zs zt 26 28 26 30 w')
      (first
        | with_reducible exact F6.out
        | with_reducible exact F7
        | (go_split_ands; with_reducible exact (F4.dral (by assumption) _))
        | (go_split_ands; with_reducible exact (F4.alloc (by assumption) _))
        | (go_split_ands; with_reducible (refine (F4.far (F4.far (F4.far (F4.far ?_ (by omega) _ _) (by omega) _ _) (by omega) _ _) (by omega) _ _); assumption)))
      (first
        | (go_at_call 22; go_split_ands; (first | ((with_reducible refine (HA.out _).mono ?_)) | ((with_reducible refine (HG.out _).mono ?_))); rintro e w5 ⟨rfl, B5⟩; have F7 := F4.all (by assumption) B5; (first | (have Zb := Lib.hid (show Bl w4.heap.size zt 30 w5 from Bl.all (Bl.dr (World.alloc_heap_new w4 _)) B5)) | (have Zb := Lib.hid (show Bl w4.heap.size zt 30 w5 from Bl.all Zb.out B5)) | skip); (first | (have br0 := Zb.out.c 0; have br1 := Zb.out.c 1; have br2 := Zb.out.c 2; have br3 := Zb.out.c 3; have bq0 := Zb.out.f 0; have bq1 := Zb.out.f 1; have bq2 := Zb.out.f 2; have bq3 := Zb.out.f 3; simp [zt] at br0 br1 br2 br3) | skip); obtain ⟨u5, v5⟩ := bcell B5; have z5 := B5.size; (try simp at z5); have m5 : w4.heap.size ≤ w5.heap.size := by omega; (first | (have y5 : w4.heap.size < w5.heap.size := by omega) | skip)))
    all_goals
      go_wp2_with fail
      go_meet
      first
        | exact ⟨_, rfl, by omega, World.alloc_heap_new _ _, F4.alloc F7 _⟩
        | exact ⟨_, rfl, by omega, Bl.set4 (b := w5.heap.size) (Bl.all (World.alloc_heap_new _ _) B5) _ _ _ _, F4.far (F4.far (F4.far (F4.far F7 (by omega) _ _) (by omega) _ _) (by omega) _ _) (by omega) _ _⟩
        | exact ⟨_, rfl, by omega, Bl.set4 (Bl.all (World.alloc_heap_new _ _) B5) _ _ _ _, F4.far (F4.far (F4.far (F4.far F7 (by omega) _ _) (by omega) _ _) (by omega) _ _) (by omega) _ _⟩
        | exact ⟨_, rfl, by omega, Bl.set4 (by have := Zb.out; unfold zt at this; exact this) _ _ _ _, F4.far (F4.far (F4.far (F4.far F7 (by omega) _ _) (by omega) _ _) (by omega) _ _) (by omega) _ _⟩
  case rest =>
    obtain ⟨g, rfl, hg, hx, hF⟩ := hcut
    have F7 := Lib.hid hF
    have X7 := Lib.hid hx
    have HGT := Lib.hid hg
    clear hF hx
    have o0 := F7.out.two.c 0
    have o1 := F7.out.two.c 1
    have s2 := F7.out.one.c 2
    have s6 := F7.out.one.c 6
    have s8 := F7.out.one.c 8
    have v2 := F7.out.one.f 2
    have v6 := F7.out.one.f 6
    have v8 := F7.out.one.f 8
    simp at o0 o1 s2 s6 s8
    go_upto_region 11 with fail
    have F8 := ((F7.out.setO 2 (.int .u64 plan) rfl).setO 6 (.int .i64 price) rfl).setO 8 (.int .i64 on) rfl
    simp only [List.setIfInBounds_toArray, List.set_cons_zero, List.set_cons_succ] at F8
    have X8 := ((X7.out.far (show g ≠ w.heap.size by omega) 2 (.int .u64 plan)).far (show g ≠ w.heap.size by omega) 6 (.int .i64 price)).far (show g ≠ w.heap.size by omega) 8 (.int .i64 on)
    clear o0 o1 s2 s6 s8 v2 v6 v8 F7 X7
    generalize World.setCell (World.setCell (World.setCell _ _ _) _ _) _ _ = w8 at F8 X8 ⊢
    have F8 := Lib.hid F8
    have y0 := X8.c 0
    have y1 := X8.c 1
    have y2 := X8.c 2
    have y3 := X8.c 3
    clear X8
    have s0 := F8.out.one.c 0
    have s1 := F8.out.one.c 1
    have s2 := F8.out.one.c 2
    have s3 := F8.out.one.c 3
    have s4 := F8.out.one.c 4
    have s5 := F8.out.one.c 5
    have s6 := F8.out.one.c 6
    have s7 := F8.out.one.c 7
    have s8 := F8.out.one.c 8
    have s9 := F8.out.one.c 9
    simp at y0 y1 y2 y3 s0 s1 s2 s3 s4 s5 s6 s7 s8 s9
    have r0 := F8.out.tri.c 0
    have q0 := F8.out.tri.f 0
    have r1 := F8.out.tri.c 1
    have q1 := F8.out.tri.f 1
    have r2 := F8.out.tri.c 2
    have q2 := F8.out.tri.f 2
    have r3 := F8.out.tri.c 3
    have q3 := F8.out.tri.f 3
    have r4 := F8.out.tri.c 4
    have q4 := F8.out.tri.f 4
    have r5 := F8.out.tri.c 5
    have q5 := F8.out.tri.f 5
    have r6 := F8.out.tri.c 6
    have q6 := F8.out.tri.f 6
    have r7 := F8.out.tri.c 7
    have q7 := F8.out.tri.f 7
    have r8 := F8.out.tri.c 8
    have q8 := F8.out.tri.f 8
    have r9 := F8.out.tri.c 9
    have q9 := F8.out.tri.f 9
    have t0 := F8.out.fou.c 0
    have u0 := F8.out.fou.f 0
    have t1 := F8.out.fou.c 1
    have u1 := F8.out.fou.f 1
    have t2 := F8.out.fou.c 2
    have u2 := F8.out.fou.f 2
    have t3 := F8.out.fou.c 3
    have u3 := F8.out.fou.f 3
    simp [zs, zt] at r0 r1 r2 r3 r4 r5 r6 r7 r8 r9 t0 t1 t2 t3
    go_wp2
    go_region
    have FZ := Lib.hid (((F8.out.put10 { x with pl := plan, pr := price, si := on }).put4 (.int .i64 on) (.int .i64 en) (.int .i64 cr) (.int .i64 ch)).drew)
    change Exit.then _ _ _ _ ((put4 (put10 _ (w.heap.size + 1 + 1) { x with pl := plan, pr := price, si := on }) (w.heap.size + 1 + 1 + 1) (.int .i64 on) (.int .i64 en) (.int .i64 cr) (.int .i64 ch)).drew)
    clear r0 q0 r1 q1 r2 q2 r3 q3 r4 q4 r5 q5 r6 q6 r7 q7 r8 q8 r9 q9 t0 u0 t1 u1 t2 u2 t3 u3
    generalize (put4 (put10 _ (w.heap.size + 1 + 1) { x with pl := plan, pr := price, si := on }) (w.heap.size + 1 + 1 + 1) (.int .i64 on) (.int .i64 en) (.int .i64 cr) (.int .i64 ch)).drew = V at FZ ⊢
    have r0 := FZ.out.tri.c 0
    have r1 := FZ.out.tri.c 1
    have r2 := FZ.out.tri.c 2
    have r3 := FZ.out.tri.c 3
    have r4 := FZ.out.tri.c 4
    have r5 := FZ.out.tri.c 5
    have r6 := FZ.out.tri.c 6
    have r7 := FZ.out.tri.c 7
    have r8 := FZ.out.tri.c 8
    have r9 := FZ.out.tri.c 9
    have t0 := FZ.out.fou.c 0
    have t1 := FZ.out.fou.c 1
    have t2 := FZ.out.fou.c 2
    have t3 := FZ.out.fou.c 3
    simp [sc] at r0 r1 r2 r3 r4 r5 r6 r7 r8 r9 t0 t1 t2 t3
    go_wp2
    exact bodyPost_ret (v := .tuple #[.agg #[.int .u64 x.id, .int .u64 x.cu, .int .u64 plan, .int .i64 x.st, .int .i64 x.an, .int .i64 x.ev, .int .i64 price, .int .i64 x.bi, .int .i64 on, .int .i64 x.en], .agg #[.int .i64 on, .int .i64 en, .int .i64 cr, .int .i64 ch], .int .i64 0]) (by simp [results, Tryd.results10, go_sem, zs, r0, r1, r2, r3, r4, r5, r6, r7, r8, r9, t0, t1, t2, t3]) rfl ⟨rfl, FZ.out.bel⟩
end Go.Proofs.YtibkbimhedoafaaDoor.pref
