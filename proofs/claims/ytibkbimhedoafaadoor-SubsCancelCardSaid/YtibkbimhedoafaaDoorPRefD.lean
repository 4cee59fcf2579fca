/- What quittanceref23.Cancel answers (walks, printed by gen/mksubr2.py); it, and Change, in the printed form. No conditions. -/
-- HYB
import Derived.Test.YtibkbimhedoafaaDoorPRefC
import Derived.Test.YtibkbimhedoafaaDoorPHx18
namespace Go.Proofs.YtibkbimhedoafaaDoor.pref
open Go.RowKit Go.Proofs.YtibkbimhedoafaaDoor.base Go.Shelf Sb
open Go.Proofs.YtibkbimhedoafaaDoor.psub
open Go.Proofs.YtibkbimhedoafaaDoor.PH (quittanceref23_Check.f quittanceref23_Check.calls quittanceref23_Day.f quittanceref23_Day.calls quittanceref23_On.f quittanceref23_On.calls)
open Go.Proofs.YtibkbimhedoafaaDoorW.PrintWords (blk_cell blk_frozen blk_far blk_set Aside0)
set_option linter.unusedSimpArgs false
attribute [local go_sem] Oper.semAt_some min2_int min_two
set_option maxRecDepth 100000 in
set_option maxHeartbeats 4000000 in
theorem cancel_arg (k : Nat) (x : Su) (on c : Int) (at_ d : Bool) (w : World) (hck : quittanceref23_Check.f k x.id x.cu x.pl x.st x.an x.ev x.pr x.bi x.si x.en = some c) (hd : quittanceref23_Day.f on = some d) (hb : c ≠ 0 ∨ d = false) :
    Calls Tryd.prog 13 #[.agg (sc x), .int .i64 on, .bool at_] w fun e w' => e = .returned (.tuple #[.agg zs, .agg zt, .int .i64 2]) ∧ Below w.heap.size w w' := by
  have HP := Lib.hid (fun w => quittanceref23_Check.calls k x.id x.cu x.pl x.st x.an x.ev x.pr x.bi x.si x.en c w hck)
  have HD := Lib.hid (fun w => quittanceref23_Day.calls on d w hd)
  have Hhb := Lib.hid hb
  clear hck hd hb
  have F1 := Lib.hid (F3.new w (sc x) zs zt 26 26 30)
  unfold sc at F1
  unfold sc
  go_enter Tryd.func13, Tryd.ntmps13
  go_wp2_with fail
  refine (HP.out _).mono ?_
  rintro e w1 ⟨rfl, B1⟩
  have F2 := Lib.hid (F1.out.all (by unfold zs zt; exact B1))
  clear B1 F1
  have hb := Hhb.out
  by_cases h0 : c = 0
  · subst h0
    go_wp2_with fail
    refine (HD.out _).mono ?_
    rintro e w2 ⟨rfl, D2⟩
    have F3 := Lib.hid (F2.out.all D2.below)
    clear D2 F2
    obtain rfl : d = false := by simpa using hb
    have r0 := F3.out.two.c 0
    have q0 := F3.out.two.f 0
    have r1 := F3.out.two.c 1
    have q1 := F3.out.two.f 1
    have r2 := F3.out.two.c 2
    have q2 := F3.out.two.f 2
    have r3 := F3.out.two.c 3
    have q3 := F3.out.two.f 3
    have r4 := F3.out.two.c 4
    have q4 := F3.out.two.f 4
    have r5 := F3.out.two.c 5
    have q5 := F3.out.two.f 5
    have r6 := F3.out.two.c 6
    have q6 := F3.out.two.f 6
    have r7 := F3.out.two.c 7
    have q7 := F3.out.two.f 7
    have r8 := F3.out.two.c 8
    have q8 := F3.out.two.f 8
    have r9 := F3.out.two.c 9
    have q9 := F3.out.two.f 9
    have t0 := F3.out.tri.c 0
    have u0 := F3.out.tri.f 0
    have t1 := F3.out.tri.c 1
    have u1 := F3.out.tri.f 1
    have t2 := F3.out.tri.c 2
    have u2 := F3.out.tri.f 2
    have t3 := F3.out.tri.c 3
    have u3 := F3.out.tri.f 3
    simp [zs, zt] at r0 r1 r2 r3 r4 r5 r6 r7 r8 r9 t0 t1 t2 t3
    go_wp2_with fail
    have FZ := Lib.hid ((F3.out.put10 ⟨0, 0, 0, 0, 0, 0, 0, 0, 0, 0⟩).put4 (.int .i64 0) (.int .i64 0) (.int .i64 0) (.int .i64 0))
    change bodyPost _ _ _ _ _ (put4 (put10 _ (w.heap.size + 1) ⟨0, 0, 0, 0, 0, 0, 0, 0, 0, 0⟩) (w.heap.size + 1 + 1) (.int .i64 0) (.int .i64 0) (.int .i64 0) (.int .i64 0))
    clear r0 q0 r1 q1 r2 q2 r3 q3 r4 q4 r5 q5 r6 q6 r7 q7 r8 q8 r9 q9 t0 u0 t1 u1 t2 u2 t3 u3
    generalize put4 (put10 _ (w.heap.size + 1) ⟨0, 0, 0, 0, 0, 0, 0, 0, 0, 0⟩) (w.heap.size + 1 + 1) (.int .i64 0) (.int .i64 0) (.int .i64 0) (.int .i64 0) = V at FZ ⊢
    have r0 := FZ.out.two.c 0
    have r1 := FZ.out.two.c 1
    have r2 := FZ.out.two.c 2
    have r3 := FZ.out.two.c 3
    have r4 := FZ.out.two.c 4
    have r5 := FZ.out.two.c 5
    have r6 := FZ.out.two.c 6
    have r7 := FZ.out.two.c 7
    have r8 := FZ.out.two.c 8
    have r9 := FZ.out.two.c 9
    have t0 := FZ.out.tri.c 0
    have t1 := FZ.out.tri.c 1
    have t2 := FZ.out.tri.c 2
    have t3 := FZ.out.tri.c 3
    simp [sc] at r0 r1 r2 r3 r4 r5 r6 r7 r8 r9 t0 t1 t2 t3
    exact bodyPost_ret (v := .tuple #[.agg zs, .agg #[.int .i64 0, .int .i64 0, .int .i64 0, .int .i64 0], .int .i64 2]) (by simp [results, Tryd.results13, go_sem, zs, r0, r1, r2, r3, r4, r5, r6, r7, r8, r9, t0, t1, t2, t3]) rfl ⟨rfl, FZ.out.bel⟩
  · have g0 : (c == 0) = false := by simpa using h0
    have g0' : (c != 0) = true := by simpa using h0
    clear hb
    have r0 := F2.out.two.c 0
    have q0 := F2.out.two.f 0
    have r1 := F2.out.two.c 1
    have q1 := F2.out.two.f 1
    have r2 := F2.out.two.c 2
    have q2 := F2.out.two.f 2
    have r3 := F2.out.two.c 3
    have q3 := F2.out.two.f 3
    have r4 := F2.out.two.c 4
    have q4 := F2.out.two.f 4
    have r5 := F2.out.two.c 5
    have q5 := F2.out.two.f 5
    have r6 := F2.out.two.c 6
    have q6 := F2.out.two.f 6
    have r7 := F2.out.two.c 7
    have q7 := F2.out.two.f 7
    have r8 := F2.out.two.c 8
    have q8 := F2.out.two.f 8
    have r9 := F2.out.two.c 9
    have q9 := F2.out.two.f 9
    have t0 := F2.out.tri.c 0
    have u0 := F2.out.tri.f 0
    have t1 := F2.out.tri.c 1
    have u1 := F2.out.tri.f 1
    have t2 := F2.out.tri.c 2
    have u2 := F2.out.tri.f 2
    have t3 := F2.out.tri.c 3
    have u3 := F2.out.tri.f 3
    simp [zs, zt] at r0 r1 r2 r3 r4 r5 r6 r7 r8 r9 t0 t1 t2 t3
    go_wp2_with fail
    have FZ := Lib.hid ((F2.out.put10 ⟨0, 0, 0, 0, 0, 0, 0, 0, 0, 0⟩).put4 (.int .i64 0) (.int .i64 0) (.int .i64 0) (.int .i64 0))
    change bodyPost _ _ _ _ _ (put4 (put10 _ (w.heap.size + 1) ⟨0, 0, 0, 0, 0, 0, 0, 0, 0, 0⟩) (w.heap.size + 1 + 1) (.int .i64 0) (.int .i64 0) (.int .i64 0) (.int .i64 0))
    clear r0 q0 r1 q1 r2 q2 r3 q3 r4 q4 r5 q5 r6 q6 r7 q7 r8 q8 r9 q9 t0 u0 t1 u1 t2 u2 t3 u3
    generalize put4 (put10 _ (w.heap.size + 1) ⟨0, 0, 0, 0, 0, 0, 0, 0, 0, 0⟩) (w.heap.size + 1 + 1) (.int .i64 0) (.int .i64 0) (.int .i64 0) (.int .i64 0) = V at FZ ⊢
    have r0 := FZ.out.two.c 0
    have r1 := FZ.out.two.c 1
    have r2 := FZ.out.two.c 2
    have r3 := FZ.out.two.c 3
    have r4 := FZ.out.two.c 4
    have r5 := FZ.out.two.c 5
    have r6 := FZ.out.two.c 6
    have r7 := FZ.out.two.c 7
    have r8 := FZ.out.two.c 8
    have r9 := FZ.out.two.c 9
    have t0 := FZ.out.tri.c 0
    have t1 := FZ.out.tri.c 1
    have t2 := FZ.out.tri.c 2
    have t3 := FZ.out.tri.c 3
    simp [sc] at r0 r1 r2 r3 r4 r5 r6 r7 r8 r9 t0 t1 t2 t3
    exact bodyPost_ret (v := .tuple #[.agg zs, .agg #[.int .i64 0, .int .i64 0, .int .i64 0, .int .i64 0], .int .i64 2]) (by simp [results, Tryd.results13, go_sem, zs, r0, r1, r2, r3, r4, r5, r6, r7, r8, r9, t0, t1, t2, t3]) rfl ⟨rfl, FZ.out.bel⟩
set_option maxRecDepth 100000 in
set_option maxHeartbeats 4000000 in
theorem cancel_state (k : Nat) (x : Su) (on : Int) (at_ : Bool) (w : World) (hck : quittanceref23_Check.f k x.id x.cu x.pl x.st x.an x.ev x.pr x.bi x.si x.en = some 0) (hd : quittanceref23_Day.f on = some true) (hb : x.en ≠ 0 ∨ on < x.st ∨ at_ = true ∧ on < x.si) :
    Calls Tryd.prog 13 #[.agg (sc x), .int .i64 on, .bool at_] w fun e w' => e = .returned (.tuple #[.agg zs, .agg zt, .int .i64 9]) ∧ Below w.heap.size w w' := by
  have HP := Lib.hid (fun w => quittanceref23_Check.calls k x.id x.cu x.pl x.st x.an x.ev x.pr x.bi x.si x.en 0 w hck)
  have HD := Lib.hid (fun w => quittanceref23_Day.calls on true w hd)
  have Hhb := Lib.hid hb
  clear hck hd hb
  have F1 := Lib.hid (F3.new w (sc x) zs zt 26 26 30)
  unfold sc at F1
  unfold sc
  go_enter Tryd.func13, Tryd.ntmps13
  go_wp2_with fail
  refine (HP.out _).mono ?_
  rintro e w1 ⟨rfl, B1⟩
  have F2 := Lib.hid (F1.out.all (by unfold zs zt; exact B1))
  clear B1 F1
  go_wp2_with fail
  refine (HD.out _).mono ?_
  rintro e w2 ⟨rfl, D2⟩
  have F3 := Lib.hid (F2.out.all D2.below)
  clear D2 F2
  have s3 := F3.out.one.c 3
  have s8 := F3.out.one.c 8
  have s9 := F3.out.one.c 9
  simp at s3 s8 s9
  have hb := Hhb.out
  by_cases h0 : x.en = 0
  · have g0 : (x.en == 0) = true := by simpa using h0
    have g0' : (x.en != 0) = false := by simpa using h0
    by_cases h1 : on < x.st
    · have g1 := decide_eq_true h1
      have r0 := F3.out.two.c 0
      have q0 := F3.out.two.f 0
      have r1 := F3.out.two.c 1
      have q1 := F3.out.two.f 1
      have r2 := F3.out.two.c 2
      have q2 := F3.out.two.f 2
      have r3 := F3.out.two.c 3
      have q3 := F3.out.two.f 3
      have r4 := F3.out.two.c 4
      have q4 := F3.out.two.f 4
      have r5 := F3.out.two.c 5
      have q5 := F3.out.two.f 5
      have r6 := F3.out.two.c 6
      have q6 := F3.out.two.f 6
      have r7 := F3.out.two.c 7
      have q7 := F3.out.two.f 7
      have r8 := F3.out.two.c 8
      have q8 := F3.out.two.f 8
      have r9 := F3.out.two.c 9
      have q9 := F3.out.two.f 9
      have t0 := F3.out.tri.c 0
      have u0 := F3.out.tri.f 0
      have t1 := F3.out.tri.c 1
      have u1 := F3.out.tri.f 1
      have t2 := F3.out.tri.c 2
      have u2 := F3.out.tri.f 2
      have t3 := F3.out.tri.c 3
      have u3 := F3.out.tri.f 3
      simp [zs, zt] at r0 r1 r2 r3 r4 r5 r6 r7 r8 r9 t0 t1 t2 t3
      go_wp2_with fail
      have FZ := Lib.hid ((F3.out.put10 ⟨0, 0, 0, 0, 0, 0, 0, 0, 0, 0⟩).put4 (.int .i64 0) (.int .i64 0) (.int .i64 0) (.int .i64 0))
      change bodyPost _ _ _ _ _ (put4 (put10 _ (w.heap.size + 1) ⟨0, 0, 0, 0, 0, 0, 0, 0, 0, 0⟩) (w.heap.size + 1 + 1) (.int .i64 0) (.int .i64 0) (.int .i64 0) (.int .i64 0))
      clear r0 q0 r1 q1 r2 q2 r3 q3 r4 q4 r5 q5 r6 q6 r7 q7 r8 q8 r9 q9 t0 u0 t1 u1 t2 u2 t3 u3
      generalize put4 (put10 _ (w.heap.size + 1) ⟨0, 0, 0, 0, 0, 0, 0, 0, 0, 0⟩) (w.heap.size + 1 + 1) (.int .i64 0) (.int .i64 0) (.int .i64 0) (.int .i64 0) = V at FZ ⊢
      have r0 := FZ.out.two.c 0
      have r1 := FZ.out.two.c 1
      have r2 := FZ.out.two.c 2
      have r3 := FZ.out.two.c 3
      have r4 := FZ.out.two.c 4
      have r5 := FZ.out.two.c 5
      have r6 := FZ.out.two.c 6
      have r7 := FZ.out.two.c 7
      have r8 := FZ.out.two.c 8
      have r9 := FZ.out.two.c 9
      have t0 := FZ.out.tri.c 0
      have t1 := FZ.out.tri.c 1
      have t2 := FZ.out.tri.c 2
      have t3 := FZ.out.tri.c 3
      simp [sc] at r0 r1 r2 r3 r4 r5 r6 r7 r8 r9 t0 t1 t2 t3
      exact bodyPost_ret (v := .tuple #[.agg zs, .agg #[.int .i64 0, .int .i64 0, .int .i64 0, .int .i64 0], .int .i64 9]) (by simp [results, Tryd.results13, go_sem, zs, r0, r1, r2, r3, r4, r5, r6, r7, r8, r9, t0, t1, t2, t3]) rfl ⟨rfl, FZ.out.bel⟩
    · have g1 := decide_eq_false h1
      have h2 : at_ = true ∧ on < x.si := by simpa [h0, h1] using hb
      obtain ⟨rfl, h2⟩ := h2
      have g2 := decide_eq_true h2
      have r0 := F3.out.two.c 0
      have q0 := F3.out.two.f 0
      have r1 := F3.out.two.c 1
      have q1 := F3.out.two.f 1
      have r2 := F3.out.two.c 2
      have q2 := F3.out.two.f 2
      have r3 := F3.out.two.c 3
      have q3 := F3.out.two.f 3
      have r4 := F3.out.two.c 4
      have q4 := F3.out.two.f 4
      have r5 := F3.out.two.c 5
      have q5 := F3.out.two.f 5
      have r6 := F3.out.two.c 6
      have q6 := F3.out.two.f 6
      have r7 := F3.out.two.c 7
      have q7 := F3.out.two.f 7
      have r8 := F3.out.two.c 8
      have q8 := F3.out.two.f 8
      have r9 := F3.out.two.c 9
      have q9 := F3.out.two.f 9
      have t0 := F3.out.tri.c 0
      have u0 := F3.out.tri.f 0
      have t1 := F3.out.tri.c 1
      have u1 := F3.out.tri.f 1
      have t2 := F3.out.tri.c 2
      have u2 := F3.out.tri.f 2
      have t3 := F3.out.tri.c 3
      have u3 := F3.out.tri.f 3
      simp [zs, zt] at r0 r1 r2 r3 r4 r5 r6 r7 r8 r9 t0 t1 t2 t3
      go_wp2_with fail
      have FZ := Lib.hid ((F3.out.put10 ⟨0, 0, 0, 0, 0, 0, 0, 0, 0, 0⟩).put4 (.int .i64 0) (.int .i64 0) (.int .i64 0) (.int .i64 0))
      change bodyPost _ _ _ _ _ (put4 (put10 _ (w.heap.size + 1) ⟨0, 0, 0, 0, 0, 0, 0, 0, 0, 0⟩) (w.heap.size + 1 + 1) (.int .i64 0) (.int .i64 0) (.int .i64 0) (.int .i64 0))
      clear r0 q0 r1 q1 r2 q2 r3 q3 r4 q4 r5 q5 r6 q6 r7 q7 r8 q8 r9 q9 t0 u0 t1 u1 t2 u2 t3 u3
      generalize put4 (put10 _ (w.heap.size + 1) ⟨0, 0, 0, 0, 0, 0, 0, 0, 0, 0⟩) (w.heap.size + 1 + 1) (.int .i64 0) (.int .i64 0) (.int .i64 0) (.int .i64 0) = V at FZ ⊢
      have r0 := FZ.out.two.c 0
      have r1 := FZ.out.two.c 1
      have r2 := FZ.out.two.c 2
      have r3 := FZ.out.two.c 3
      have r4 := FZ.out.two.c 4
      have r5 := FZ.out.two.c 5
      have r6 := FZ.out.two.c 6
      have r7 := FZ.out.two.c 7
      have r8 := FZ.out.two.c 8
      have r9 := FZ.out.two.c 9
      have t0 := FZ.out.tri.c 0
      have t1 := FZ.out.tri.c 1
      have t2 := FZ.out.tri.c 2
      have t3 := FZ.out.tri.c 3
      simp [sc] at r0 r1 r2 r3 r4 r5 r6 r7 r8 r9 t0 t1 t2 t3
      exact bodyPost_ret (v := .tuple #[.agg zs, .agg #[.int .i64 0, .int .i64 0, .int .i64 0, .int .i64 0], .int .i64 9]) (by simp [results, Tryd.results13, go_sem, zs, r0, r1, r2, r3, r4, r5, r6, r7, r8, r9, t0, t1, t2, t3]) rfl ⟨rfl, FZ.out.bel⟩
  · have g0 : (x.en == 0) = false := by simpa using h0
    have g0' : (x.en != 0) = true := by simpa using h0
    have r0 := F3.out.two.c 0
    have q0 := F3.out.two.f 0
    have r1 := F3.out.two.c 1
    have q1 := F3.out.two.f 1
    have r2 := F3.out.two.c 2
    have q2 := F3.out.two.f 2
    have r3 := F3.out.two.c 3
    have q3 := F3.out.two.f 3
    have r4 := F3.out.two.c 4
    have q4 := F3.out.two.f 4
    have r5 := F3.out.two.c 5
    have q5 := F3.out.two.f 5
    have r6 := F3.out.two.c 6
    have q6 := F3.out.two.f 6
    have r7 := F3.out.two.c 7
    have q7 := F3.out.two.f 7
    have r8 := F3.out.two.c 8
    have q8 := F3.out.two.f 8
    have r9 := F3.out.two.c 9
    have q9 := F3.out.two.f 9
    have t0 := F3.out.tri.c 0
    have u0 := F3.out.tri.f 0
    have t1 := F3.out.tri.c 1
    have u1 := F3.out.tri.f 1
    have t2 := F3.out.tri.c 2
    have u2 := F3.out.tri.f 2
    have t3 := F3.out.tri.c 3
    have u3 := F3.out.tri.f 3
    simp [zs, zt] at r0 r1 r2 r3 r4 r5 r6 r7 r8 r9 t0 t1 t2 t3
    go_wp2_with fail
    have FZ := Lib.hid ((F3.out.put10 ⟨0, 0, 0, 0, 0, 0, 0, 0, 0, 0⟩).put4 (.int .i64 0) (.int .i64 0) (.int .i64 0) (.int .i64 0))
    change bodyPost _ _ _ _ _ (put4 (put10 _ (w.heap.size + 1) ⟨0, 0, 0, 0, 0, 0, 0, 0, 0, 0⟩) (w.heap.size + 1 + 1) (.int .i64 0) (.int .i64 0) (.int .i64 0) (.int .i64 0))
    clear r0 q0 r1 q1 r2 q2 r3 q3 r4 q4 r5 q5 r6 q6 r7 q7 r8 q8 r9 q9 t0 u0 t1 u1 t2 u2 t3 u3
    generalize put4 (put10 _ (w.heap.size + 1) ⟨0, 0, 0, 0, 0, 0, 0, 0, 0, 0⟩) (w.heap.size + 1 + 1) (.int .i64 0) (.int .i64 0) (.int .i64 0) (.int .i64 0) = V at FZ ⊢
    have r0 := FZ.out.two.c 0
    have r1 := FZ.out.two.c 1
    have r2 := FZ.out.two.c 2
    have r3 := FZ.out.two.c 3
    have r4 := FZ.out.two.c 4
    have r5 := FZ.out.two.c 5
    have r6 := FZ.out.two.c 6
    have r7 := FZ.out.two.c 7
    have r8 := FZ.out.two.c 8
    have r9 := FZ.out.two.c 9
    have t0 := FZ.out.tri.c 0
    have t1 := FZ.out.tri.c 1
    have t2 := FZ.out.tri.c 2
    have t3 := FZ.out.tri.c 3
    simp [sc] at r0 r1 r2 r3 r4 r5 r6 r7 r8 r9 t0 t1 t2 t3
    exact bodyPost_ret (v := .tuple #[.agg zs, .agg #[.int .i64 0, .int .i64 0, .int .i64 0, .int .i64 0], .int .i64 9]) (by simp [results, Tryd.results13, go_sem, zs, r0, r1, r2, r3, r4, r5, r6, r7, r8, r9, t0, t1, t2, t3]) rfl ⟨rfl, FZ.out.bel⟩
set_option maxRecDepth 100000 in
set_option maxHeartbeats 4000000 in
theorem cancel_find (k : Nat) (x : Su) (on i f n er : Int) (at_ : Bool) (w : World) (hck : quittanceref23_Check.f k x.id x.cu x.pl x.st x.an x.ev x.pr x.bi x.si x.en = some 0) (hd : quittanceref23_Day.f on = some true) (h0 : x.en = 0) (h1 : x.st ≤ on) (h2 : at_ = true → x.si ≤ on) (hf : ∀ w, Calls Tryd.prog 32 #[.agg #[.int .i64 x.st, .int .i64 x.an, .int .i64 x.ev], .int .i64 on] w fun e w' => e = .returned (.tuple #[.int .i64 i, .int .i64 f, .int .i64 n, .int .i64 er]) ∧ Below w.heap.size w w') (he : er ≠ 0) :
    Calls Tryd.prog 13 #[.agg (sc x), .int .i64 on, .bool at_] w fun e w' => e = .returned (.tuple #[.agg zs, .agg zt, .int .i64 7]) ∧ Below w.heap.size w w' := by
  have HP := Lib.hid (fun w => quittanceref23_Check.calls k x.id x.cu x.pl x.st x.an x.ev x.pr x.bi x.si x.en 0 w hck)
  have HD := Lib.hid (fun w => quittanceref23_Day.calls on true w hd)
  have HF := Lib.hid hf
  have Hh0 := Lib.hid h0
  have Hh1 := Lib.hid h1
  have Hh2 := Lib.hid h2
  have Hhe := Lib.hid he
  clear hck hd hf h0 h1 h2 he
  have F1 := Lib.hid (F3.new w (sc x) zs zt 26 26 30)
  unfold sc at F1
  unfold sc
  go_enter Tryd.func13, Tryd.ntmps13
  go_wp2_with fail
  refine (HP.out _).mono ?_
  rintro e w1 ⟨rfl, B1⟩
  have F2 := Lib.hid (F1.out.all (by unfold zs zt; exact B1))
  clear B1 F1
  go_wp2_with fail
  refine (HD.out _).mono ?_
  rintro e w2 ⟨rfl, D2⟩
  have F3 := Lib.hid (F2.out.all D2.below)
  clear D2 F2
  have s3 := F3.out.one.c 3
  have s4 := F3.out.one.c 4
  have s5 := F3.out.one.c 5
  have s8 := F3.out.one.c 8
  have s9 := F3.out.one.c 9
  simp at s3 s4 s5 s8 s9
  have g0 : (x.en == 0) = true := by simpa using Hh0.out
  have g0' : (x.en != 0) = false := by simpa using Hh0.out
  have g1 : decide (on < x.st) = false := decide_eq_false (by have := Hh1.out; omega)
  have ge : (er == 0) = false := by simpa using Hhe.out
  have ge' : (er != 0) = true := by simpa using Hhe.out
  cases at_ with
  | false =>
    go_wp2_with fail
    refine (HF.out _).mono ?_
    rintro e w3 ⟨rfl, B3⟩
    have F4 := Lib.hid (F3.out.all B3)
    clear B3 F3 s3 s4 s5 s8 s9
    have r0 := F4.out.two.c 0
    have q0 := F4.out.two.f 0
    have r1 := F4.out.two.c 1
    have q1 := F4.out.two.f 1
    have r2 := F4.out.two.c 2
    have q2 := F4.out.two.f 2
    have r3 := F4.out.two.c 3
    have q3 := F4.out.two.f 3
    have r4 := F4.out.two.c 4
    have q4 := F4.out.two.f 4
    have r5 := F4.out.two.c 5
    have q5 := F4.out.two.f 5
    have r6 := F4.out.two.c 6
    have q6 := F4.out.two.f 6
    have r7 := F4.out.two.c 7
    have q7 := F4.out.two.f 7
    have r8 := F4.out.two.c 8
    have q8 := F4.out.two.f 8
    have r9 := F4.out.two.c 9
    have q9 := F4.out.two.f 9
    have t0 := F4.out.tri.c 0
    have u0 := F4.out.tri.f 0
    have t1 := F4.out.tri.c 1
    have u1 := F4.out.tri.f 1
    have t2 := F4.out.tri.c 2
    have u2 := F4.out.tri.f 2
    have t3 := F4.out.tri.c 3
    have u3 := F4.out.tri.f 3
    simp [zs, zt] at r0 r1 r2 r3 r4 r5 r6 r7 r8 r9 t0 t1 t2 t3
    go_wp2_with fail
    have FZ := Lib.hid ((F4.out.put10 ⟨0, 0, 0, 0, 0, 0, 0, 0, 0, 0⟩).put4 (.int .i64 0) (.int .i64 0) (.int .i64 0) (.int .i64 0))
    change bodyPost _ _ _ _ _ (put4 (put10 _ (w.heap.size + 1) ⟨0, 0, 0, 0, 0, 0, 0, 0, 0, 0⟩) (w.heap.size + 1 + 1) (.int .i64 0) (.int .i64 0) (.int .i64 0) (.int .i64 0))
    clear r0 q0 r1 q1 r2 q2 r3 q3 r4 q4 r5 q5 r6 q6 r7 q7 r8 q8 r9 q9 t0 u0 t1 u1 t2 u2 t3 u3
    generalize put4 (put10 _ (w.heap.size + 1) ⟨0, 0, 0, 0, 0, 0, 0, 0, 0, 0⟩) (w.heap.size + 1 + 1) (.int .i64 0) (.int .i64 0) (.int .i64 0) (.int .i64 0) = V at FZ ⊢
    have r0 := FZ.out.two.c 0
    have r1 := FZ.out.two.c 1
    have r2 := FZ.out.two.c 2
    have r3 := FZ.out.two.c 3
    have r4 := FZ.out.two.c 4
    have r5 := FZ.out.two.c 5
    have r6 := FZ.out.two.c 6
    have r7 := FZ.out.two.c 7
    have r8 := FZ.out.two.c 8
    have r9 := FZ.out.two.c 9
    have t0 := FZ.out.tri.c 0
    have t1 := FZ.out.tri.c 1
    have t2 := FZ.out.tri.c 2
    have t3 := FZ.out.tri.c 3
    simp [sc] at r0 r1 r2 r3 r4 r5 r6 r7 r8 r9 t0 t1 t2 t3
    exact bodyPost_ret (v := .tuple #[.agg zs, .agg #[.int .i64 0, .int .i64 0, .int .i64 0, .int .i64 0], .int .i64 7]) (by simp [results, Tryd.results13, go_sem, zs, r0, r1, r2, r3, r4, r5, r6, r7, r8, r9, t0, t1, t2, t3]) rfl ⟨rfl, FZ.out.bel⟩
  | true =>
    have g2 : decide (on < x.si) = false := decide_eq_false (by have := Hh2.out rfl; omega)
    go_wp2_with fail
    refine (HF.out _).mono ?_
    rintro e w3 ⟨rfl, B3⟩
    have F4 := Lib.hid (F3.out.all B3)
    clear B3 F3 s3 s4 s5 s8 s9
    have r0 := F4.out.two.c 0
    have q0 := F4.out.two.f 0
    have r1 := F4.out.two.c 1
    have q1 := F4.out.two.f 1
    have r2 := F4.out.two.c 2
    have q2 := F4.out.two.f 2
    have r3 := F4.out.two.c 3
    have q3 := F4.out.two.f 3
    have r4 := F4.out.two.c 4
    have q4 := F4.out.two.f 4
    have r5 := F4.out.two.c 5
    have q5 := F4.out.two.f 5
    have r6 := F4.out.two.c 6
    have q6 := F4.out.two.f 6
    have r7 := F4.out.two.c 7
    have q7 := F4.out.two.f 7
    have r8 := F4.out.two.c 8
    have q8 := F4.out.two.f 8
    have r9 := F4.out.two.c 9
    have q9 := F4.out.two.f 9
    have t0 := F4.out.tri.c 0
    have u0 := F4.out.tri.f 0
    have t1 := F4.out.tri.c 1
    have u1 := F4.out.tri.f 1
    have t2 := F4.out.tri.c 2
    have u2 := F4.out.tri.f 2
    have t3 := F4.out.tri.c 3
    have u3 := F4.out.tri.f 3
    simp [zs, zt] at r0 r1 r2 r3 r4 r5 r6 r7 r8 r9 t0 t1 t2 t3
    go_wp2_with fail
    have FZ := Lib.hid ((F4.out.put10 ⟨0, 0, 0, 0, 0, 0, 0, 0, 0, 0⟩).put4 (.int .i64 0) (.int .i64 0) (.int .i64 0) (.int .i64 0))
    change bodyPost _ _ _ _ _ (put4 (put10 _ (w.heap.size + 1) ⟨0, 0, 0, 0, 0, 0, 0, 0, 0, 0⟩) (w.heap.size + 1 + 1) (.int .i64 0) (.int .i64 0) (.int .i64 0) (.int .i64 0))
    clear r0 q0 r1 q1 r2 q2 r3 q3 r4 q4 r5 q5 r6 q6 r7 q7 r8 q8 r9 q9 t0 u0 t1 u1 t2 u2 t3 u3
    generalize put4 (put10 _ (w.heap.size + 1) ⟨0, 0, 0, 0, 0, 0, 0, 0, 0, 0⟩) (w.heap.size + 1 + 1) (.int .i64 0) (.int .i64 0) (.int .i64 0) (.int .i64 0) = V at FZ ⊢
    have r0 := FZ.out.two.c 0
    have r1 := FZ.out.two.c 1
    have r2 := FZ.out.two.c 2
    have r3 := FZ.out.two.c 3
    have r4 := FZ.out.two.c 4
    have r5 := FZ.out.two.c 5
    have r6 := FZ.out.two.c 6
    have r7 := FZ.out.two.c 7
    have r8 := FZ.out.two.c 8
    have r9 := FZ.out.two.c 9
    have t0 := FZ.out.tri.c 0
    have t1 := FZ.out.tri.c 1
    have t2 := FZ.out.tri.c 2
    have t3 := FZ.out.tri.c 3
    simp [sc] at r0 r1 r2 r3 r4 r5 r6 r7 r8 r9 t0 t1 t2 t3
    exact bodyPost_ret (v := .tuple #[.agg zs, .agg #[.int .i64 0, .int .i64 0, .int .i64 0, .int .i64 0], .int .i64 7]) (by simp [results, Tryd.results13, go_sem, zs, r0, r1, r2, r3, r4, r5, r6, r7, r8, r9, t0, t1, t2, t3]) rfl ⟨rfl, FZ.out.bel⟩
set_option maxRecDepth 100000 in
set_option maxHeartbeats 4000000 in
theorem cancel_ahead (k : Nat) (x : Su) (on i f n : Int) (at_ : Bool) (w : World) (hck : quittanceref23_Check.f k x.id x.cu x.pl x.st x.an x.ev x.pr x.bi x.si x.en = some 0) (hd : quittanceref23_Day.f on = some true) (h0 : x.en = 0) (h1 : x.st ≤ on) (h2 : at_ = true → x.si ≤ on) (hf : ∀ w, Calls Tryd.prog 32 #[.agg #[.int .i64 x.st, .int .i64 x.an, .int .i64 x.ev], .int .i64 on] w fun e w' => e = .returned (.tuple #[.int .i64 i, .int .i64 f, .int .i64 n, .int .i64 0]) ∧ Below w.heap.size w w') (hi : 0 ≤ i) (hi2 : i ≤ 200000) (hb : i + 1 < x.bi) :
    Calls Tryd.prog 13 #[.agg (sc x), .int .i64 on, .bool at_] w fun e w' => e = .returned (.tuple #[.agg zs, .agg zt, .int .i64 9]) ∧ Below w.heap.size w w' := by
  have HP := Lib.hid (fun w => quittanceref23_Check.calls k x.id x.cu x.pl x.st x.an x.ev x.pr x.bi x.si x.en 0 w hck)
  have HD := Lib.hid (fun w => quittanceref23_Day.calls on true w hd)
  have HF := Lib.hid hf
  have Hh0 := Lib.hid h0
  have Hh1 := Lib.hid h1
  have Hh2 := Lib.hid h2
  have Hhb := Lib.hid hb
  clear hck hd hf h0 h1 h2 hb
  have F1 := Lib.hid (F3.new w (sc x) zs zt 26 26 30)
  unfold sc at F1
  unfold sc
  go_enter Tryd.func13, Tryd.ntmps13
  go_wp2_with fail
  refine (HP.out _).mono ?_
  rintro e w1 ⟨rfl, B1⟩
  have F2 := Lib.hid (F1.out.all (by unfold zs zt; exact B1))
  clear B1 F1
  go_wp2_with fail
  refine (HD.out _).mono ?_
  rintro e w2 ⟨rfl, D2⟩
  have F3 := Lib.hid (F2.out.all D2.below)
  clear D2 F2
  have s3 := F3.out.one.c 3
  have s4 := F3.out.one.c 4
  have s5 := F3.out.one.c 5
  have s8 := F3.out.one.c 8
  have s9 := F3.out.one.c 9
  simp at s3 s4 s5 s8 s9
  have g0 : (x.en == 0) = true := by simpa using Hh0.out
  have g0' : (x.en != 0) = false := by simpa using Hh0.out
  have g1 : decide (on < x.st) = false := decide_eq_false (by have := Hh1.out; omega)
  have gb : decide (i + 1 < x.bi) = true := decide_eq_true Hhb.out
  cases at_ with
  | false =>
    go_wp2_with fail
    refine (HF.out _).mono ?_
    rintro e w3 ⟨rfl, B3⟩
    have F4 := Lib.hid (F3.out.all B3)
    clear B3 F3 s3 s4 s5 s8 s9
    have s7 := F4.out.one.c 7
    simp at s7
    have r0 := F4.out.two.c 0
    have q0 := F4.out.two.f 0
    have r1 := F4.out.two.c 1
    have q1 := F4.out.two.f 1
    have r2 := F4.out.two.c 2
    have q2 := F4.out.two.f 2
    have r3 := F4.out.two.c 3
    have q3 := F4.out.two.f 3
    have r4 := F4.out.two.c 4
    have q4 := F4.out.two.f 4
    have r5 := F4.out.two.c 5
    have q5 := F4.out.two.f 5
    have r6 := F4.out.two.c 6
    have q6 := F4.out.two.f 6
    have r7 := F4.out.two.c 7
    have q7 := F4.out.two.f 7
    have r8 := F4.out.two.c 8
    have q8 := F4.out.two.f 8
    have r9 := F4.out.two.c 9
    have q9 := F4.out.two.f 9
    have t0 := F4.out.tri.c 0
    have u0 := F4.out.tri.f 0
    have t1 := F4.out.tri.c 1
    have u1 := F4.out.tri.f 1
    have t2 := F4.out.tri.c 2
    have u2 := F4.out.tri.f 2
    have t3 := F4.out.tri.c 3
    have u3 := F4.out.tri.f 3
    simp [zs, zt] at r0 r1 r2 r3 r4 r5 r6 r7 r8 r9 t0 t1 t2 t3
    go_wp2_with fail
    have FZ := Lib.hid ((F4.out.put10 ⟨0, 0, 0, 0, 0, 0, 0, 0, 0, 0⟩).put4 (.int .i64 0) (.int .i64 0) (.int .i64 0) (.int .i64 0))
    change bodyPost _ _ _ _ _ (put4 (put10 _ (w.heap.size + 1) ⟨0, 0, 0, 0, 0, 0, 0, 0, 0, 0⟩) (w.heap.size + 1 + 1) (.int .i64 0) (.int .i64 0) (.int .i64 0) (.int .i64 0))
    clear r0 q0 r1 q1 r2 q2 r3 q3 r4 q4 r5 q5 r6 q6 r7 q7 r8 q8 r9 q9 t0 u0 t1 u1 t2 u2 t3 u3
    generalize put4 (put10 _ (w.heap.size + 1) ⟨0, 0, 0, 0, 0, 0, 0, 0, 0, 0⟩) (w.heap.size + 1 + 1) (.int .i64 0) (.int .i64 0) (.int .i64 0) (.int .i64 0) = V at FZ ⊢
    have r0 := FZ.out.two.c 0
    have r1 := FZ.out.two.c 1
    have r2 := FZ.out.two.c 2
    have r3 := FZ.out.two.c 3
    have r4 := FZ.out.two.c 4
    have r5 := FZ.out.two.c 5
    have r6 := FZ.out.two.c 6
    have r7 := FZ.out.two.c 7
    have r8 := FZ.out.two.c 8
    have r9 := FZ.out.two.c 9
    have t0 := FZ.out.tri.c 0
    have t1 := FZ.out.tri.c 1
    have t2 := FZ.out.tri.c 2
    have t3 := FZ.out.tri.c 3
    simp [sc] at r0 r1 r2 r3 r4 r5 r6 r7 r8 r9 t0 t1 t2 t3
    exact bodyPost_ret (v := .tuple #[.agg zs, .agg #[.int .i64 0, .int .i64 0, .int .i64 0, .int .i64 0], .int .i64 9]) (by simp [results, Tryd.results13, go_sem, zs, r0, r1, r2, r3, r4, r5, r6, r7, r8, r9, t0, t1, t2, t3]) rfl ⟨rfl, FZ.out.bel⟩
  | true =>
    have g2 : decide (on < x.si) = false := decide_eq_false (by have := Hh2.out rfl; omega)
    go_wp2_with fail
    refine (HF.out _).mono ?_
    rintro e w3 ⟨rfl, B3⟩
    have F4 := Lib.hid (F3.out.all B3)
    clear B3 F3 s3 s4 s5 s8 s9
    have s7 := F4.out.one.c 7
    simp at s7
    have r0 := F4.out.two.c 0
    have q0 := F4.out.two.f 0
    have r1 := F4.out.two.c 1
    have q1 := F4.out.two.f 1
    have r2 := F4.out.two.c 2
    have q2 := F4.out.two.f 2
    have r3 := F4.out.two.c 3
    have q3 := F4.out.two.f 3
    have r4 := F4.out.two.c 4
    have q4 := F4.out.two.f 4
    have r5 := F4.out.two.c 5
    have q5 := F4.out.two.f 5
    have r6 := F4.out.two.c 6
    have q6 := F4.out.two.f 6
    have r7 := F4.out.two.c 7
    have q7 := F4.out.two.f 7
    have r8 := F4.out.two.c 8
    have q8 := F4.out.two.f 8
    have r9 := F4.out.two.c 9
    have q9 := F4.out.two.f 9
    have t0 := F4.out.tri.c 0
    have u0 := F4.out.tri.f 0
    have t1 := F4.out.tri.c 1
    have u1 := F4.out.tri.f 1
    have t2 := F4.out.tri.c 2
    have u2 := F4.out.tri.f 2
    have t3 := F4.out.tri.c 3
    have u3 := F4.out.tri.f 3
    simp [zs, zt] at r0 r1 r2 r3 r4 r5 r6 r7 r8 r9 t0 t1 t2 t3
    go_wp2_with fail
    have FZ := Lib.hid ((F4.out.put10 ⟨0, 0, 0, 0, 0, 0, 0, 0, 0, 0⟩).put4 (.int .i64 0) (.int .i64 0) (.int .i64 0) (.int .i64 0))
    change bodyPost _ _ _ _ _ (put4 (put10 _ (w.heap.size + 1) ⟨0, 0, 0, 0, 0, 0, 0, 0, 0, 0⟩) (w.heap.size + 1 + 1) (.int .i64 0) (.int .i64 0) (.int .i64 0) (.int .i64 0))
    clear r0 q0 r1 q1 r2 q2 r3 q3 r4 q4 r5 q5 r6 q6 r7 q7 r8 q8 r9 q9 t0 u0 t1 u1 t2 u2 t3 u3
    generalize put4 (put10 _ (w.heap.size + 1) ⟨0, 0, 0, 0, 0, 0, 0, 0, 0, 0⟩) (w.heap.size + 1 + 1) (.int .i64 0) (.int .i64 0) (.int .i64 0) (.int .i64 0) = V at FZ ⊢
    have r0 := FZ.out.two.c 0
    have r1 := FZ.out.two.c 1
    have r2 := FZ.out.two.c 2
    have r3 := FZ.out.two.c 3
    have r4 := FZ.out.two.c 4
    have r5 := FZ.out.two.c 5
    have r6 := FZ.out.two.c 6
    have r7 := FZ.out.two.c 7
    have r8 := FZ.out.two.c 8
    have r9 := FZ.out.two.c 9
    have t0 := FZ.out.tri.c 0
    have t1 := FZ.out.tri.c 1
    have t2 := FZ.out.tri.c 2
    have t3 := FZ.out.tri.c 3
    simp [sc] at r0 r1 r2 r3 r4 r5 r6 r7 r8 r9 t0 t1 t2 t3
    exact bodyPost_ret (v := .tuple #[.agg zs, .agg #[.int .i64 0, .int .i64 0, .int .i64 0, .int .i64 0], .int .i64 9]) (by simp [results, Tryd.results13, go_sem, zs, r0, r1, r2, r3, r4, r5, r6, r7, r8, r9, t0, t1, t2, t3]) rfl ⟨rfl, FZ.out.bel⟩
set_option maxRecDepth 100000 in
set_option maxHeartbeats 4000000 in
theorem cancel_later (k : Nat) (x : Su) (on i f n : Int) (w : World) (hck : quittanceref23_Check.f k x.id x.cu x.pl x.st x.an x.ev x.pr x.bi x.si x.en = some 0) (hd : quittanceref23_Day.f on = some true) (h0 : x.en = 0) (h1 : x.st ≤ on) (hf : ∀ w, Calls Tryd.prog 32 #[.agg #[.int .i64 x.st, .int .i64 x.an, .int .i64 x.ev], .int .i64 on] w fun e w' => e = .returned (.tuple #[.int .i64 i, .int .i64 f, .int .i64 n, .int .i64 0]) ∧ Below w.heap.size w w') (hi : 0 ≤ i) (hi2 : i ≤ 200000) (hb : ¬ i + 1 < x.bi) :
    Calls Tryd.prog 13 #[.agg (sc x), .int .i64 on, .bool false] w fun e w' => e = .returned (.tuple #[.agg (sc { x with en := n }), .agg zt, .int .i64 0]) ∧ Below w.heap.size w w' := by
  have HP := Lib.hid (fun w => quittanceref23_Check.calls k x.id x.cu x.pl x.st x.an x.ev x.pr x.bi x.si x.en 0 w hck)
  have HD := Lib.hid (fun w => quittanceref23_Day.calls on true w hd)
  have HF := Lib.hid hf
  have Hh0 := Lib.hid h0
  have Hh1 := Lib.hid h1
  have Hhb := Lib.hid hb
  clear hck hd hf h0 h1 hb
  have F1 := Lib.hid (F3.new w (sc x) zs zt 26 26 30)
  unfold sc at F1
  unfold sc
  go_enter Tryd.func13, Tryd.ntmps13
  go_wp2_with fail
  refine (HP.out _).mono ?_
  rintro e w1 ⟨rfl, B1⟩
  have F2 := Lib.hid (F1.out.all (by unfold zs zt; exact B1))
  clear B1 F1
  go_wp2_with fail
  refine (HD.out _).mono ?_
  rintro e w2 ⟨rfl, D2⟩
  have F3 := Lib.hid (F2.out.all D2.below)
  clear D2 F2
  have s3 := F3.out.one.c 3
  have s4 := F3.out.one.c 4
  have s5 := F3.out.one.c 5
  have s8 := F3.out.one.c 8
  have s9 := F3.out.one.c 9
  simp at s3 s4 s5 s8 s9
  have g0 : (x.en == 0) = true := by simpa using Hh0.out
  have g0' : (x.en != 0) = false := by simpa using Hh0.out
  have g1 : decide (on < x.st) = false := decide_eq_false (by have := Hh1.out; omega)
  have gb : decide (i + 1 < x.bi) = false := decide_eq_false (by have := Hhb.out; omega)
  go_wp2_with fail
  refine (HF.out _).mono ?_
  rintro e w3 ⟨rfl, B3⟩
  have F4 := Lib.hid (F3.out.all B3)
  clear B3 F3 s3 s4 s5 s8 s9
  have s7 := F4.out.one.c 7
  have s9 := F4.out.one.c 9
  have v9 := F4.out.one.f 9
  simp at s7 s9
  go_upto_region 12 with fail
  have F5 := F4.out.setO 9 (.int .i64 n) rfl
  simp only [List.setIfInBounds_toArray, List.set_cons_zero, List.set_cons_succ] at F5
  clear F4 s7 s9 v9
  generalize w3.setCell _ _ = w4 at F5 ⊢
  have F5 := Lib.hid F5
  have s0 := F5.out.one.c 0
  have s1 := F5.out.one.c 1
  have s2 := F5.out.one.c 2
  have s3 := F5.out.one.c 3
  have s4 := F5.out.one.c 4
  have s5 := F5.out.one.c 5
  have s6 := F5.out.one.c 6
  have s7 := F5.out.one.c 7
  have s8 := F5.out.one.c 8
  have s9 := F5.out.one.c 9
  simp at s0 s1 s2 s3 s4 s5 s6 s7 s8 s9
  have r0 := F5.out.two.c 0
  have q0 := F5.out.two.f 0
  have r1 := F5.out.two.c 1
  have q1 := F5.out.two.f 1
  have r2 := F5.out.two.c 2
  have q2 := F5.out.two.f 2
  have r3 := F5.out.two.c 3
  have q3 := F5.out.two.f 3
  have r4 := F5.out.two.c 4
  have q4 := F5.out.two.f 4
  have r5 := F5.out.two.c 5
  have q5 := F5.out.two.f 5
  have r6 := F5.out.two.c 6
  have q6 := F5.out.two.f 6
  have r7 := F5.out.two.c 7
  have q7 := F5.out.two.f 7
  have r8 := F5.out.two.c 8
  have q8 := F5.out.two.f 8
  have r9 := F5.out.two.c 9
  have q9 := F5.out.two.f 9
  have t0 := F5.out.tri.c 0
  have u0 := F5.out.tri.f 0
  have t1 := F5.out.tri.c 1
  have u1 := F5.out.tri.f 1
  have t2 := F5.out.tri.c 2
  have u2 := F5.out.tri.f 2
  have t3 := F5.out.tri.c 3
  have u3 := F5.out.tri.f 3
  simp [zs, zt] at r0 r1 r2 r3 r4 r5 r6 r7 r8 r9 t0 t1 t2 t3
  go_wp2_with fail
  have FZ := Lib.hid ((F5.out.put10 { x with en := n }).put4 (.int .i64 0) (.int .i64 0) (.int .i64 0) (.int .i64 0))
  change bodyPost _ _ _ _ _ (put4 (put10 _ (w.heap.size + 1) { x with en := n }) (w.heap.size + 1 + 1) (.int .i64 0) (.int .i64 0) (.int .i64 0) (.int .i64 0))
  clear r0 q0 r1 q1 r2 q2 r3 q3 r4 q4 r5 q5 r6 q6 r7 q7 r8 q8 r9 q9 t0 u0 t1 u1 t2 u2 t3 u3
  generalize put4 (put10 _ (w.heap.size + 1) { x with en := n }) (w.heap.size + 1 + 1) (.int .i64 0) (.int .i64 0) (.int .i64 0) (.int .i64 0) = V at FZ ⊢
  have r0 := FZ.out.two.c 0
  have r1 := FZ.out.two.c 1
  have r2 := FZ.out.two.c 2
  have r3 := FZ.out.two.c 3
  have r4 := FZ.out.two.c 4
  have r5 := FZ.out.two.c 5
  have r6 := FZ.out.two.c 6
  have r7 := FZ.out.two.c 7
  have r8 := FZ.out.two.c 8
  have r9 := FZ.out.two.c 9
  have t0 := FZ.out.tri.c 0
  have t1 := FZ.out.tri.c 1
  have t2 := FZ.out.tri.c 2
  have t3 := FZ.out.tri.c 3
  simp [sc] at r0 r1 r2 r3 r4 r5 r6 r7 r8 r9 t0 t1 t2 t3
  exact bodyPost_ret (v := .tuple #[.agg #[.int .u64 x.id, .int .u64 x.cu, .int .u64 x.pl, .int .i64 x.st, .int .i64 x.an, .int .i64 x.ev, .int .i64 x.pr, .int .i64 x.bi, .int .i64 x.si, .int .i64 n], .agg #[.int .i64 0, .int .i64 0, .int .i64 0, .int .i64 0], .int .i64 0]) (by simp [results, Tryd.results13, go_sem, zs, r0, r1, r2, r3, r4, r5, r6, r7, r8, r9, t0, t1, t2, t3]) rfl ⟨rfl, FZ.out.bel⟩
set_option maxRecDepth 100000 in
set_option maxHeartbeats 4000000 in
theorem cancel_none (k : Nat) (x : Su) (on i f n : Int) (w : World) (hck : quittanceref23_Check.f k x.id x.cu x.pl x.st x.an x.ev x.pr x.bi x.si x.en = some 0) (hd : quittanceref23_Day.f on = some true) (h0 : x.en = 0) (h1 : x.st ≤ on) (h2 : x.si ≤ on) (hf : ∀ w, Calls Tryd.prog 32 #[.agg #[.int .i64 x.st, .int .i64 x.an, .int .i64 x.ev], .int .i64 on] w fun e w' => e = .returned (.tuple #[.int .i64 i, .int .i64 f, .int .i64 n, .int .i64 0]) ∧ Below w.heap.size w w') (hi : 0 ≤ i) (hi2 : i ≤ 200000) (hb : ¬ i + 1 < x.bi) (hn : x.bi ≠ i + 1) :
    Calls Tryd.prog 13 #[.agg (sc x), .int .i64 on, .bool true] w fun e w' => e = .returned (.tuple #[.agg (sc { x with en := on }), .agg zt, .int .i64 0]) ∧ Below w.heap.size w w' := by
  have HP := Lib.hid (fun w => quittanceref23_Check.calls k x.id x.cu x.pl x.st x.an x.ev x.pr x.bi x.si x.en 0 w hck)
  have HD := Lib.hid (fun w => quittanceref23_Day.calls on true w hd)
  have HF := Lib.hid hf
  have Hh0 := Lib.hid h0
  have Hh1 := Lib.hid h1
  have Hh2 := Lib.hid h2
  have Hhb := Lib.hid hb
  have Hhn := Lib.hid hn
  clear hck hd hf h0 h1 h2 hb hn
  have F1 := Lib.hid (F3.new w (sc x) zs zt 26 26 30)
  unfold sc at F1
  unfold sc
  go_enter Tryd.func13, Tryd.ntmps13
  go_wp2_with fail
  refine (HP.out _).mono ?_
  rintro e w1 ⟨rfl, B1⟩
  have F2 := Lib.hid (F1.out.all (by unfold zs zt; exact B1))
  clear B1 F1
  go_wp2_with fail
  refine (HD.out _).mono ?_
  rintro e w2 ⟨rfl, D2⟩
  have F3 := Lib.hid (F2.out.all D2.below)
  clear D2 F2
  have s3 := F3.out.one.c 3
  have s4 := F3.out.one.c 4
  have s5 := F3.out.one.c 5
  have s8 := F3.out.one.c 8
  have s9 := F3.out.one.c 9
  simp at s3 s4 s5 s8 s9
  have g0 : (x.en == 0) = true := by simpa using Hh0.out
  have g0' : (x.en != 0) = false := by simpa using Hh0.out
  have g1 : decide (on < x.st) = false := decide_eq_false (by have := Hh1.out; omega)
  have gb : decide (i + 1 < x.bi) = false := decide_eq_false (by have := Hhb.out; omega)
  have g2 : decide (on < x.si) = false := decide_eq_false (by have := Hh2.out; omega)
  have gn : (x.bi == i + 1) = false := by simpa using Hhn.out
  go_wp2_with fail
  refine (HF.out _).mono ?_
  rintro e w3 ⟨rfl, B3⟩
  have F4 := Lib.hid (F3.out.all B3)
  clear B3 F3 s3 s4 s5 s8 s9
  have s7 := F4.out.one.c 7
  simp at s7
  go_upto_region 14 with fail
  have F5 := F4.out.alloc (.cells #[.int .i64 0, .int .i64 0, .int .i64 0, .int .i64 0] 30)
  have X5 : Bl w3.heap.size #[.int .i64 0, .int .i64 0, .int .i64 0, .int .i64 0] 30 (w3.alloc (.cells #[.int .i64 0, .int .i64 0, .int .i64 0, .int .i64 0] 30)) := World.alloc_heap_new w3 _
  have HGT := Lib.hid F4.out.tri.lt
  clear F4 s7
  generalize w3.alloc _ = w4 at F5 X5 ⊢
  generalize w3.heap.size = g at HGT X5 ⊢
  have F5 := Lib.hid F5
  have X5 := Lib.hid X5
  have s7 := F5.out.one.c 7
  simp at s7
  go_upto_region 16 with fail
  clear s7
  have s9 := F5.out.one.c 9
  have v9 := F5.out.one.f 9
  simp at s9
  go_upto_region 17 with fail
  have F8 := F5.out.setO 9 (.int .i64 on) rfl
  simp only [List.setIfInBounds_toArray, List.set_cons_zero, List.set_cons_succ] at F8
  have X8 := X5.out.far (show g ≠ w.heap.size by have := HGT.out; omega) 9 (.int .i64 on)
  clear F5 X5 s9 v9
  generalize World.setCell _ _ _ = w8 at F8 X8 ⊢
  have F8 := Lib.hid F8
  have y0 := X8.c 0
  have y1 := X8.c 1
  have y2 := X8.c 2
  have y3 := X8.c 3
  clear X8
  have hgt := HGT.out
  have n1 : g ≠ w.heap.size + 1 := by omega
  have n2 := n1.symm
  have n3 : g ≠ w.heap.size + 1 + 1 := by omega
  have n4 := n3.symm
  have s0 := F8.out.one.c 0
  have s1 := F8.out.one.c 1
  have s2 := F8.out.one.c 2
  have s3 := F8.out.one.c 3
  have s4 := F8.out.one.c 4
  have s5 := F8.out.one.c 5
  have s6 := F8.out.one.c 6
  have s7 := F8.out.one.c 7
  have s8 := F8.out.one.c 8
  have s9 := F8.out.one.c 9
  simp at y0 y1 y2 y3 s0 s1 s2 s3 s4 s5 s6 s7 s8 s9
  have r0 := F8.out.two.c 0
  have q0 := F8.out.two.f 0
  have r1 := F8.out.two.c 1
  have q1 := F8.out.two.f 1
  have r2 := F8.out.two.c 2
  have q2 := F8.out.two.f 2
  have r3 := F8.out.two.c 3
  have q3 := F8.out.two.f 3
  have r4 := F8.out.two.c 4
  have q4 := F8.out.two.f 4
  have r5 := F8.out.two.c 5
  have q5 := F8.out.two.f 5
  have r6 := F8.out.two.c 6
  have q6 := F8.out.two.f 6
  have r7 := F8.out.two.c 7
  have q7 := F8.out.two.f 7
  have r8 := F8.out.two.c 8
  have q8 := F8.out.two.f 8
  have r9 := F8.out.two.c 9
  have q9 := F8.out.two.f 9
  have t0 := F8.out.tri.c 0
  have u0 := F8.out.tri.f 0
  have t1 := F8.out.tri.c 1
  have u1 := F8.out.tri.f 1
  have t2 := F8.out.tri.c 2
  have u2 := F8.out.tri.f 2
  have t3 := F8.out.tri.c 3
  have u3 := F8.out.tri.f 3
  simp [zs, zt] at r0 r1 r2 r3 r4 r5 r6 r7 r8 r9 t0 t1 t2 t3
  go_wp2
  go_region
  have FZ := Lib.hid (((F8.out.put10 { x with en := on }).put4 (.int .i64 0) (.int .i64 0) (.int .i64 0) (.int .i64 0)).drew)
  change Exit.then _ _ _ _ ((put4 (put10 _ (w.heap.size + 1) { x with en := on }) (w.heap.size + 1 + 1) (.int .i64 0) (.int .i64 0) (.int .i64 0) (.int .i64 0)).drew)
  clear r0 q0 r1 q1 r2 q2 r3 q3 r4 q4 r5 q5 r6 q6 r7 q7 r8 q8 r9 q9 t0 u0 t1 u1 t2 u2 t3 u3
  generalize (put4 (put10 _ (w.heap.size + 1) { x with en := on }) (w.heap.size + 1 + 1) (.int .i64 0) (.int .i64 0) (.int .i64 0) (.int .i64 0)).drew = V at FZ ⊢
  have r0 := FZ.out.two.c 0
  have r1 := FZ.out.two.c 1
  have r2 := FZ.out.two.c 2
  have r3 := FZ.out.two.c 3
  have r4 := FZ.out.two.c 4
  have r5 := FZ.out.two.c 5
  have r6 := FZ.out.two.c 6
  have r7 := FZ.out.two.c 7
  have r8 := FZ.out.two.c 8
  have r9 := FZ.out.two.c 9
  have t0 := FZ.out.tri.c 0
  have t1 := FZ.out.tri.c 1
  have t2 := FZ.out.tri.c 2
  have t3 := FZ.out.tri.c 3
  simp [sc] at r0 r1 r2 r3 r4 r5 r6 r7 r8 r9 t0 t1 t2 t3
  go_wp2
  exact bodyPost_ret (v := .tuple #[.agg #[.int .u64 x.id, .int .u64 x.cu, .int .u64 x.pl, .int .i64 x.st, .int .i64 x.an, .int .i64 x.ev, .int .i64 x.pr, .int .i64 x.bi, .int .i64 x.si, .int .i64 on], .agg #[.int .i64 0, .int .i64 0, .int .i64 0, .int .i64 0], .int .i64 0]) (by simp [results, Tryd.results13, go_sem, zs, r0, r1, r2, r3, r4, r5, r6, r7, r8, r9, t0, t1, t2, t3]) rfl ⟨rfl, FZ.out.bel⟩
set_option maxRecDepth 100000 in
set_option maxHeartbeats 4000000 in
theorem cancel_in (k : Nat) (x : Su) (on i f n cr : Int) (w : World) (hck : quittanceref23_Check.f k x.id x.cu x.pl x.st x.an x.ev x.pr x.bi x.si x.en = some 0) (hd : quittanceref23_Day.f on = some true) (h0 : x.en = 0) (h1 : x.st ≤ on) (h2 : x.si ≤ on) (hf : ∀ w, Calls Tryd.prog 32 #[.agg #[.int .i64 x.st, .int .i64 x.an, .int .i64 x.ev], .int .i64 on] w fun e w' => e = .returned (.tuple #[.int .i64 i, .int .i64 f, .int .i64 n, .int .i64 0]) ∧ Below w.heap.size w w') (hi : 0 ≤ i) (hi2 : i ≤ 200000) (hn : x.bi = i + 1) (hcr : quittanceref23_On.f k x.id x.cu x.pl x.st x.an x.ev x.pr x.bi x.si x.en n x.pr on n = some cr) :
    Calls Tryd.prog 13 #[.agg (sc x), .int .i64 on, .bool true] w fun e w' => e = .returned (.tuple #[.agg (sc { x with en := on }), .agg #[.int .i64 on, .int .i64 n, .int .i64 cr, .int .i64 0], .int .i64 0]) ∧ Below w.heap.size w w' := by
  have HP := Lib.hid (fun w => quittanceref23_Check.calls k x.id x.cu x.pl x.st x.an x.ev x.pr x.bi x.si x.en 0 w hck)
  have HD := Lib.hid (fun w => quittanceref23_Day.calls on true w hd)
  have HA := Lib.hid (fun w => quittanceref23_On.calls k x.id x.cu x.pl x.st x.an x.ev x.pr x.bi x.si x.en n x.pr on n cr w hcr)
  have HF := Lib.hid hf
  have Hh0 := Lib.hid h0
  have Hh1 := Lib.hid h1
  have Hh2 := Lib.hid h2
  have Hhn := Lib.hid hn
  clear hck hd hf hcr h0 h1 h2 hn
  have F1 := Lib.hid (F3.new w (sc x) zs zt 26 26 30)
  unfold sc at F1
  unfold sc
  go_enter Tryd.func13, Tryd.ntmps13
  go_wp2_with fail
  refine (HP.out _).mono ?_
  rintro e w1 ⟨rfl, B1⟩
  have F2 := Lib.hid (F1.out.all (by unfold zs zt; exact B1))
  clear B1 F1
  go_wp2_with fail
  refine (HD.out _).mono ?_
  rintro e w2 ⟨rfl, D2⟩
  have F3 := Lib.hid (F2.out.all D2.below)
  clear D2 F2
  have s3 := F3.out.one.c 3
  have s4 := F3.out.one.c 4
  have s5 := F3.out.one.c 5
  have s8 := F3.out.one.c 8
  have s9 := F3.out.one.c 9
  simp at s3 s4 s5 s8 s9
  have g0 : (x.en == 0) = true := by simpa using Hh0.out
  have g0' : (x.en != 0) = false := by simpa using Hh0.out
  have g1 : decide (on < x.st) = false := decide_eq_false (by have := Hh1.out; omega)
  have gb : decide (i + 1 < x.bi) = false := decide_eq_false (by have := Hhn.out; omega)
  have gn : (x.bi == i + 1) = true := by simpa using Hhn.out
  have g2 : decide (on < x.si) = false := decide_eq_false (by have := Hh2.out; omega)
  go_wp2_with fail
  refine (HF.out _).mono ?_
  rintro e w3 ⟨rfl, B3⟩
  have F4 := Lib.hid (F3.out.all B3)
  clear B3 F3 s3 s4 s5 s8 s9
  have s7 := F4.out.one.c 7
  simp at s7
  go_upto_region 14 with fail
  have F5 := F4.out.alloc (.cells #[.int .i64 0, .int .i64 0, .int .i64 0, .int .i64 0] 30)
  have X5 : Bl w3.heap.size #[.int .i64 0, .int .i64 0, .int .i64 0, .int .i64 0] 30 (w3.alloc (.cells #[.int .i64 0, .int .i64 0, .int .i64 0, .int .i64 0] 30)) := World.alloc_heap_new w3 _
  have HGT := Lib.hid F4.out.tri.lt
  clear F4 s7
  generalize w3.alloc _ = w4 at F5 X5 ⊢
  generalize w3.heap.size = g at HGT X5 ⊢
  have F5 := Lib.hid F5
  have X5 := Lib.hid X5
  have s7 := F5.out.one.c 7
  simp at s7
  clear s7
  have s0 := F5.out.one.c 0
  have s1 := F5.out.one.c 1
  have s2 := F5.out.one.c 2
  have s3 := F5.out.one.c 3
  have s4 := F5.out.one.c 4
  have s5 := F5.out.one.c 5
  have s6 := F5.out.one.c 6
  have s7 := F5.out.one.c 7
  have s8 := F5.out.one.c 8
  have s9 := F5.out.one.c 9
  simp at s0 s1 s2 s3 s4 s5 s6 s7 s8 s9
  go_wp2_with fail
  refine (HA.out _).mono ?_
  rintro e w5 ⟨rfl, B5⟩
  have F6 := Lib.hid (F5.out.all B5)
  have X6 := Lib.hid (X5.out.all B5)
  clear B5 F5 X5 s0 s1 s2 s3 s4 s5 s6 s7 s8 s9
  have y0 := X6.out.c 0
  have y1 := X6.out.c 1
  have y2 := X6.out.c 2
  have y3 := X6.out.c 3
  have z0 := X6.out.f 0
  have z1 := X6.out.f 1
  have z2 := X6.out.f 2
  have z3 := X6.out.f 3
  simp at y0 y1 y2 y3
  go_upto_region 16 with fail
  have F7 : F3 w _ _ _ _ _ _ (put4 w5 g (.int .i64 on) (.int .i64 n) (.int .i64 cr) (.int .i64 0)) := ⟨F6.out.one.put4 (by have := HGT.out; omega) _ _ _ _, F6.out.two.put4 (by have := HGT.out; omega) _ _ _ _, F6.out.tri.put4 (by have := HGT.out; omega) _ _ _ _, (((F6.out.bel.setCell (by simp; have := HGT.out; omega) _).setCell (by simp; have := HGT.out; omega) _).setCell (by simp; have := HGT.out; omega) _).setCell (by simp; have := HGT.out; omega) _⟩
  have X7 := Bl.set4 X6.out (.int .i64 on) (.int .i64 n) (.int .i64 cr) (.int .i64 0)
  change Code.wp _ _ _ _ (put4 w5 g (.int .i64 on) (.int .i64 n) (.int .i64 cr) (.int .i64 0))
  clear F6 X6 y0 y1 y2 y3 z0 z1 z2 z3
  generalize put4 w5 g _ _ _ _ = w6 at F7 X7 ⊢
  have F7 := Lib.hid F7
  have X7 := Lib.hid X7
  have s9 := F7.out.one.c 9
  have v9 := F7.out.one.f 9
  simp at s9
  go_upto_region 17 with fail
  have F8 := F7.out.setO 9 (.int .i64 on) rfl
  simp only [List.setIfInBounds_toArray, List.set_cons_zero, List.set_cons_succ] at F8
  have X8 := X7.out.far (show g ≠ w.heap.size by have := HGT.out; omega) 9 (.int .i64 on)
  clear F7 X7 s9 v9
  generalize World.setCell _ _ _ = w8 at F8 X8 ⊢
  have F8 := Lib.hid F8
  have y0 := X8.c 0
  have y1 := X8.c 1
  have y2 := X8.c 2
  have y3 := X8.c 3
  clear X8
  have hgt := HGT.out
  have n1 : g ≠ w.heap.size + 1 := by omega
  have n2 := n1.symm
  have n3 : g ≠ w.heap.size + 1 + 1 := by omega
  have n4 := n3.symm
  have s0 := F8.out.one.c 0
  have s1 := F8.out.one.c 1
  have s2 := F8.out.one.c 2
  have s3 := F8.out.one.c 3
  have s4 := F8.out.one.c 4
  have s5 := F8.out.one.c 5
  have s6 := F8.out.one.c 6
  have s7 := F8.out.one.c 7
  have s8 := F8.out.one.c 8
  have s9 := F8.out.one.c 9
  simp at y0 y1 y2 y3 s0 s1 s2 s3 s4 s5 s6 s7 s8 s9
  have r0 := F8.out.two.c 0
  have q0 := F8.out.two.f 0
  have r1 := F8.out.two.c 1
  have q1 := F8.out.two.f 1
  have r2 := F8.out.two.c 2
  have q2 := F8.out.two.f 2
  have r3 := F8.out.two.c 3
  have q3 := F8.out.two.f 3
  have r4 := F8.out.two.c 4
  have q4 := F8.out.two.f 4
  have r5 := F8.out.two.c 5
  have q5 := F8.out.two.f 5
  have r6 := F8.out.two.c 6
  have q6 := F8.out.two.f 6
  have r7 := F8.out.two.c 7
  have q7 := F8.out.two.f 7
  have r8 := F8.out.two.c 8
  have q8 := F8.out.two.f 8
  have r9 := F8.out.two.c 9
  have q9 := F8.out.two.f 9
  have t0 := F8.out.tri.c 0
  have u0 := F8.out.tri.f 0
  have t1 := F8.out.tri.c 1
  have u1 := F8.out.tri.f 1
  have t2 := F8.out.tri.c 2
  have u2 := F8.out.tri.f 2
  have t3 := F8.out.tri.c 3
  have u3 := F8.out.tri.f 3
  simp [zs, zt] at r0 r1 r2 r3 r4 r5 r6 r7 r8 r9 t0 t1 t2 t3
  go_wp2
  go_region
  have FZ := Lib.hid (((F8.out.put10 { x with en := on }).put4 (.int .i64 on) (.int .i64 n) (.int .i64 cr) (.int .i64 0)).drew)
  change Exit.then _ _ _ _ ((put4 (put10 _ (w.heap.size + 1) { x with en := on }) (w.heap.size + 1 + 1) (.int .i64 on) (.int .i64 n) (.int .i64 cr) (.int .i64 0)).drew)
  clear r0 q0 r1 q1 r2 q2 r3 q3 r4 q4 r5 q5 r6 q6 r7 q7 r8 q8 r9 q9 t0 u0 t1 u1 t2 u2 t3 u3
  generalize (put4 (put10 _ (w.heap.size + 1) { x with en := on }) (w.heap.size + 1 + 1) (.int .i64 on) (.int .i64 n) (.int .i64 cr) (.int .i64 0)).drew = V at FZ ⊢
  have r0 := FZ.out.two.c 0
  have r1 := FZ.out.two.c 1
  have r2 := FZ.out.two.c 2
  have r3 := FZ.out.two.c 3
  have r4 := FZ.out.two.c 4
  have r5 := FZ.out.two.c 5
  have r6 := FZ.out.two.c 6
  have r7 := FZ.out.two.c 7
  have r8 := FZ.out.two.c 8
  have r9 := FZ.out.two.c 9
  have t0 := FZ.out.tri.c 0
  have t1 := FZ.out.tri.c 1
  have t2 := FZ.out.tri.c 2
  have t3 := FZ.out.tri.c 3
  simp [sc] at r0 r1 r2 r3 r4 r5 r6 r7 r8 r9 t0 t1 t2 t3
  go_wp2
  exact bodyPost_ret (v := .tuple #[.agg #[.int .u64 x.id, .int .u64 x.cu, .int .u64 x.pl, .int .i64 x.st, .int .i64 x.an, .int .i64 x.ev, .int .i64 x.pr, .int .i64 x.bi, .int .i64 x.si, .int .i64 on], .agg #[.int .i64 on, .int .i64 n, .int .i64 cr, .int .i64 0], .int .i64 0]) (by simp [results, Tryd.results13, go_sem, zs, r0, r1, r2, r3, r4, r5, r6, r7, r8, r9, t0, t1, t2, t3]) rfl ⟨rfl, FZ.out.bel⟩
end Go.Proofs.YtibkbimhedoafaaDoor.pref
namespace Go.Proofs.YtibkbimhedoafaaDoor.PH
open Go.RowKit Go.Proofs.YtibkbimhedoafaaDoorW.PrintWords Sb
/-- So many rounds are enough, whatever the subscription. -/
def KK : Nat := 400000
noncomputable def quittanceref23_Change.f (a0_0 a0_1 a0_2 a0_3 a0_4 a0_5 a0_6 a0_7 a0_8 a0_9 a1 a2_0 a2_1 : Int) : Option (Int × Int × Int × Int × Int × Int × Int × Int × Int × Int × Int × Int × Int × Int × Int) :=
  (quittanceref23_Check.f KK a0_0 a0_1 a0_2 a0_3 a0_4 a0_5 a0_6 a0_7 a0_8 a0_9).bind fun c => (quittanceref23_Day.f a1).bind fun d =>
    if c ≠ 0 ∨ d = false ∨ a2_0 = 0 ∨ a2_1 < 0 ∨ 4611686018427387904 ≤ a2_1 then some (0, 0, 0, 0, 0, 0, 0, 0, 0, 0, 0, 0, 0, 0, 2)
    else (quittanceref23_last.f KK a0_0 a0_1 a0_2 a0_3 a0_4 a0_5 a0_6 a0_7 a0_8 a0_9 a1).bind fun p => if p.2 = false then some (0, 0, 0, 0, 0, 0, 0, 0, 0, 0, 0, 0, 0, 0, 9)
      else (quittanceref23_End.f a0_0 a0_1 a0_2 a0_3 a0_4 a0_5 a0_6 a0_7 a0_8 a0_9 p.1).bind fun en => (quittanceref23_On.f KK a0_0 a0_1 a0_2 a0_3 a0_4 a0_5 a0_6 a0_7 a0_8 a0_9 p.1 a0_6 a1 en).bind fun cr => (quittanceref23_On.f KK a0_0 a0_1 a0_2 a0_3 a0_4 a0_5 a0_6 a0_7 a0_8 a0_9 p.1 a2_1 a1 en).bind fun ch => some (a0_0, a0_1, a2_0, a0_3, a0_4, a0_5, a2_1, a0_7, a1, a0_9, a1, en, cr, ch, 0)
theorem quittanceref23_Change.calls (a0_0 a0_1 a0_2 a0_3 a0_4 a0_5 a0_6 a0_7 a0_8 a0_9 a1 a2_0 a2_1 : Int) (r1 r2 r3 r4 r5 r6 r7 r8 r9 r10 r11 r12 r13 r14 r15 : Int) (w : World) (h : quittanceref23_Change.f a0_0 a0_1 a0_2 a0_3 a0_4 a0_5 a0_6 a0_7 a0_8 a0_9 a1 a2_0 a2_1 = some (r1, r2, r3, r4, r5, r6, r7, r8, r9, r10, r11, r12, r13, r14, r15)) :
    Calls Tryd.prog 10 #[.agg #[.int .u64 a0_0, .int .u64 a0_1, .int .u64 a0_2, .int .i64 a0_3, .int .i64 a0_4, .int .i64 a0_5, .int .i64 a0_6, .int .i64 a0_7, .int .i64 a0_8, .int .i64 a0_9], .int .i64 a1, .agg #[.int .u64 a2_0, .int .i64 a2_1]] w fun e w' => e = .returned (.tuple #[.agg #[.int .u64 r1, .int .u64 r2, .int .u64 r3, .int .i64 r4, .int .i64 r5, .int .i64 r6, .int .i64 r7, .int .i64 r8, .int .i64 r9, .int .i64 r10], .agg #[.int .i64 r11, .int .i64 r12, .int .i64 r13, .int .i64 r14], .int .i64 r15]) ∧ Below w.heap.size w w' := by
  unfold quittanceref23_Change.f at h
  replace h := Option.bind_eq_some_iff.mp h
  obtain ⟨c, hc, h⟩ := h
  replace h := Option.bind_eq_some_iff.mp h
  obtain ⟨d, hd, h⟩ := h
  by_cases hb : c ≠ 0 ∨ d = false ∨ a2_0 = 0 ∨ a2_1 < 0 ∨ 4611686018427387904 ≤ a2_1
  · rw [if_pos hb] at h
    simp only [Option.some.injEq, Prod.mk.injEq] at h
    obtain ⟨rfl, rfl, rfl, rfl, rfl, rfl, rfl, rfl, rfl, rfl, rfl, rfl, rfl, rfl, rfl⟩ := h
    exact pref.change_arg KK ⟨a0_0, a0_1, a0_2, a0_3, a0_4, a0_5, a0_6, a0_7, a0_8, a0_9⟩ a1 a2_0 a2_1 c d w hc hd hb
  · rw [if_neg hb] at h
    obtain rfl : c = 0 := if q : c = 0 then q else absurd (.inl q) hb
    obtain rfl : d = true := by
      cases d
      · exact absurd (.inr (.inl rfl)) hb
      · rfl
    have h1 : a2_0 ≠ 0 := fun q => hb (.inr (.inr (.inl q)))
    have h2 : 0 ≤ a2_1 := if q : a2_1 < 0 then absurd (.inr (.inr (.inr (.inl q)))) hb else by omega
    have h3 : a2_1 < 4611686018427387904 := if q : 4611686018427387904 ≤ a2_1 then absurd (.inr (.inr (.inr (.inr q)))) hb else by omega
    replace h := Option.bind_eq_some_iff.mp h
    obtain ⟨⟨nx, l⟩, hl, h⟩ := h
    simp only [] at h
    cases l with
    | false =>
      rw [if_pos rfl] at h
      simp only [Option.some.injEq, Prod.mk.injEq] at h
      obtain ⟨rfl, rfl, rfl, rfl, rfl, rfl, rfl, rfl, rfl, rfl, rfl, rfl, rfl, rfl, rfl⟩ := h
      exact pref.change_none KK ⟨a0_0, a0_1, a0_2, a0_3, a0_4, a0_5, a0_6, a0_7, a0_8, a0_9⟩ a1 a2_0 a2_1 nx w hc hd h1 h2 h3 hl
    | true =>
      rw [if_neg (by decide)] at h
      replace h := Option.bind_eq_some_iff.mp h
      obtain ⟨en, he, h⟩ := h
      replace h := Option.bind_eq_some_iff.mp h
      obtain ⟨cr, hcr, h⟩ := h
      replace h := Option.bind_eq_some_iff.mp h
      obtain ⟨ch, hch, h⟩ := h
      simp only [Option.some.injEq, Prod.mk.injEq] at h
      obtain ⟨rfl, rfl, rfl, rfl, rfl, rfl, rfl, rfl, rfl, rfl, rfl, rfl, rfl, rfl, rfl⟩ := h
      exact pref.change_main KK ⟨a0_0, a0_1, a0_2, a0_3, a0_4, a0_5, a0_6, a0_7, a0_8, a0_9⟩ a1 a2_0 a2_1 nx en cr ch w hc hd h1 h2 h3 hl he hcr hch
noncomputable def quittanceref23_Cancel.f (a0_0 a0_1 a0_2 a0_3 a0_4 a0_5 a0_6 a0_7 a0_8 a0_9 a1 : Int) (a2 : Bool) : Option (Int × Int × Int × Int × Int × Int × Int × Int × Int × Int × Int × Int × Int × Int × Int) :=
  (quittanceref23_Check.f KK a0_0 a0_1 a0_2 a0_3 a0_4 a0_5 a0_6 a0_7 a0_8 a0_9).bind fun c => (quittanceref23_Day.f a1).bind fun d =>
    if c ≠ 0 ∨ d = false then some (0, 0, 0, 0, 0, 0, 0, 0, 0, 0, 0, 0, 0, 0, 2)
    else if a0_9 ≠ 0 ∨ a1 < a0_3 ∨ a2 = true ∧ a1 < a0_8 then some (0, 0, 0, 0, 0, 0, 0, 0, 0, 0, 0, 0, 0, 0, 9)
    else (quittanceref09_Find.f KK a0_3 a0_4 a0_5 a1).bind fun q => if q.2.2.2 ≠ 0 then some (0, 0, 0, 0, 0, 0, 0, 0, 0, 0, 0, 0, 0, 0, 7)
      else if ¬ (0 ≤ q.1 ∧ q.1 ≤ 200000) then none
      else if q.1 + 1 < a0_7 then some (0, 0, 0, 0, 0, 0, 0, 0, 0, 0, 0, 0, 0, 0, 9)
      else if a2 = false then some (a0_0, a0_1, a0_2, a0_3, a0_4, a0_5, a0_6, a0_7, a0_8, q.2.2.1, 0, 0, 0, 0, 0)
      else if a0_7 = q.1 + 1 then (quittanceref23_On.f KK a0_0 a0_1 a0_2 a0_3 a0_4 a0_5 a0_6 a0_7 a0_8 a0_9 q.2.2.1 a0_6 a1 q.2.2.1).bind fun cr => some (a0_0, a0_1, a0_2, a0_3, a0_4, a0_5, a0_6, a0_7, a0_8, a1, a1, q.2.2.1, cr, 0, 0)
      else some (a0_0, a0_1, a0_2, a0_3, a0_4, a0_5, a0_6, a0_7, a0_8, a1, 0, 0, 0, 0, 0)
theorem quittanceref23_Cancel.calls (a0_0 a0_1 a0_2 a0_3 a0_4 a0_5 a0_6 a0_7 a0_8 a0_9 a1 : Int) (a2 : Bool) (r1 r2 r3 r4 r5 r6 r7 r8 r9 r10 r11 r12 r13 r14 r15 : Int) (w : World) (h : quittanceref23_Cancel.f a0_0 a0_1 a0_2 a0_3 a0_4 a0_5 a0_6 a0_7 a0_8 a0_9 a1 a2 = some (r1, r2, r3, r4, r5, r6, r7, r8, r9, r10, r11, r12, r13, r14, r15)) :
    Calls Tryd.prog 13 #[.agg #[.int .u64 a0_0, .int .u64 a0_1, .int .u64 a0_2, .int .i64 a0_3, .int .i64 a0_4, .int .i64 a0_5, .int .i64 a0_6, .int .i64 a0_7, .int .i64 a0_8, .int .i64 a0_9], .int .i64 a1, .bool a2] w fun e w' => e = .returned (.tuple #[.agg #[.int .u64 r1, .int .u64 r2, .int .u64 r3, .int .i64 r4, .int .i64 r5, .int .i64 r6, .int .i64 r7, .int .i64 r8, .int .i64 r9, .int .i64 r10], .agg #[.int .i64 r11, .int .i64 r12, .int .i64 r13, .int .i64 r14], .int .i64 r15]) ∧ Below w.heap.size w w' := by
  unfold quittanceref23_Cancel.f at h
  replace h := Option.bind_eq_some_iff.mp h
  obtain ⟨c, hc, h⟩ := h
  replace h := Option.bind_eq_some_iff.mp h
  obtain ⟨d, hd, h⟩ := h
  by_cases hb : c ≠ 0 ∨ d = false
  · rw [if_pos hb] at h
    simp only [Option.some.injEq, Prod.mk.injEq] at h
    obtain ⟨rfl, rfl, rfl, rfl, rfl, rfl, rfl, rfl, rfl, rfl, rfl, rfl, rfl, rfl, rfl⟩ := h
    exact pref.cancel_arg KK ⟨a0_0, a0_1, a0_2, a0_3, a0_4, a0_5, a0_6, a0_7, a0_8, a0_9⟩ a1 c a2 d w hc hd hb
  · rw [if_neg hb] at h
    obtain rfl : c = 0 := if q : c = 0 then q else absurd (.inl q) hb
    obtain rfl : d = true := by
      cases d
      · exact absurd (.inr rfl) hb
      · rfl
    by_cases hs : a0_9 ≠ 0 ∨ a1 < a0_3 ∨ a2 = true ∧ a1 < a0_8
    · rw [if_pos hs] at h
      simp only [Option.some.injEq, Prod.mk.injEq] at h
      obtain ⟨rfl, rfl, rfl, rfl, rfl, rfl, rfl, rfl, rfl, rfl, rfl, rfl, rfl, rfl, rfl⟩ := h
      exact pref.cancel_state KK ⟨a0_0, a0_1, a0_2, a0_3, a0_4, a0_5, a0_6, a0_7, a0_8, a0_9⟩ a1 a2 w hc hd hs
    · rw [if_neg hs] at h
      have h0 : a0_9 = 0 := if q : a0_9 = 0 then q else absurd (.inl q) hs
      have h1 : a0_3 ≤ a1 := if q : a1 < a0_3 then absurd (.inr (.inl q)) hs else by omega
      have h2 : a2 = true → a0_8 ≤ a1 := fun g => if q : a1 < a0_8 then absurd (.inr (.inr ⟨g, q⟩)) hs else by omega
      replace h := Option.bind_eq_some_iff.mp h
      obtain ⟨⟨i, f, n, er⟩, hf, h⟩ := h
      simp only [] at h
      have hF : ∀ w, _ := fun w => quittanceref09_Find.calls KK a0_3 a0_4 a0_5 a1 i f n er w hf
      by_cases he : er ≠ 0
      · rw [if_pos he] at h
        simp only [Option.some.injEq, Prod.mk.injEq] at h
        obtain ⟨rfl, rfl, rfl, rfl, rfl, rfl, rfl, rfl, rfl, rfl, rfl, rfl, rfl, rfl, rfl⟩ := h
        exact pref.cancel_find KK ⟨a0_0, a0_1, a0_2, a0_3, a0_4, a0_5, a0_6, a0_7, a0_8, a0_9⟩ a1 i f n er a2 w hc hd h0 h1 h2 hF he
      · rw [if_neg he] at h
        obtain rfl : er = 0 := if q : er = 0 then q else absurd q he
        by_cases hi : ¬ (0 ≤ i ∧ i ≤ 200000)
        · rw [if_pos hi] at h
          cases h
        · rw [if_neg hi] at h
          replace hi := Classical.not_not.mp hi
          by_cases hg : i + 1 < a0_7
          · rw [if_pos hg] at h
            simp only [Option.some.injEq, Prod.mk.injEq] at h
            obtain ⟨rfl, rfl, rfl, rfl, rfl, rfl, rfl, rfl, rfl, rfl, rfl, rfl, rfl, rfl, rfl⟩ := h
            exact pref.cancel_ahead KK ⟨a0_0, a0_1, a0_2, a0_3, a0_4, a0_5, a0_6, a0_7, a0_8, a0_9⟩ a1 i f n a2 w hc hd h0 h1 h2 hF hi.1 hi.2 hg
          · rw [if_neg hg] at h
            cases a2 with
            | false =>
              rw [if_pos rfl] at h
              simp only [Option.some.injEq, Prod.mk.injEq] at h
              obtain ⟨rfl, rfl, rfl, rfl, rfl, rfl, rfl, rfl, rfl, rfl, rfl, rfl, rfl, rfl, rfl⟩ := h
              exact pref.cancel_later KK ⟨a0_0, a0_1, a0_2, a0_3, a0_4, a0_5, a0_6, a0_7, a0_8, a0_9⟩ a1 i f n w hc hd h0 h1 hF hi.1 hi.2 hg
            | true =>
              rw [if_neg (by decide)] at h
              by_cases hn : a0_7 = i + 1
              · rw [if_pos hn] at h
                replace h := Option.bind_eq_some_iff.mp h
                obtain ⟨cr, hcr, h⟩ := h
                simp only [Option.some.injEq, Prod.mk.injEq] at h
                obtain ⟨rfl, rfl, rfl, rfl, rfl, rfl, rfl, rfl, rfl, rfl, rfl, rfl, rfl, rfl, rfl⟩ := h
                exact pref.cancel_in KK ⟨a0_0, a0_1, a0_2, a0_3, a0_4, a0_5, a0_6, a0_7, a0_8, a0_9⟩ a1 i f n cr w hc hd h0 h1 (h2 rfl) hF hi.1 hi.2 hn hcr
              · rw [if_neg hn] at h
                simp only [Option.some.injEq, Prod.mk.injEq] at h
                obtain ⟨rfl, rfl, rfl, rfl, rfl, rfl, rfl, rfl, rfl, rfl, rfl, rfl, rfl, rfl, rfl⟩ := h
                exact pref.cancel_none KK ⟨a0_0, a0_1, a0_2, a0_3, a0_4, a0_5, a0_6, a0_7, a0_8, a0_9⟩ a1 i f n w hc hd h0 h1 (h2 rfl) hF hi.1 hi.2 hg hn
end Go.Proofs.YtibkbimhedoafaaDoor.PH
