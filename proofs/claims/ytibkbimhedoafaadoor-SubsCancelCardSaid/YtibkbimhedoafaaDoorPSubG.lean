/- What subs.Cancel answers (walks, printed by gen/mksubg.py). The table of the days ahead of months holds its numbers. -/
-- HYB
import Derived.Test.YtibkbimhedoafaaDoorPSubF
namespace Go.Proofs.YtibkbimhedoafaaDoor.psub
open Go.RowKit Go.Proofs.YtibkbimhedoafaaDoor.base Go.Shelf Sb
open Go.Proofs.YtibkbimhedoafaaDoor.PH (subs_Check.f subs_Check.calls subs_day.f subs_day.calls subs_last.f subs_last.calls subs_period_on.f subs_period_on.calls)
open Go.Proofs.YtibkbimhedoafaaDoor.civ (Tab)
open Go.Proofs.YtibkbimhedoafaaDoorW.PrintWords (blk_grown blk_alloc blk_new blk_cell blk_frozen blk_far blk_set blk_drew below_drew1 Aside0)
set_option linter.unusedSimpArgs false
attribute [local go_sem] Oper.semAt_some min2_int min_two
/-- Three blocks, and what lay ahead of them. -/
structure F3 (w : World) (c1 c2 c3 : Array Value) (t1 t2 t3 : TypeId) (W : World) : Prop where
  one : Bl w.heap.size c1 t1 W
  two : Bl (w.heap.size + 1) c2 t2 W
  tri : Bl (w.heap.size + 1 + 1) c3 t3 W
  bel : Below w.heap.size w W
section
variable {w W V : World} {c1 c2 c3 : Array Value} {t1 t2 t3 : TypeId}
theorem F3.new (w : World) (c1 c2 c3 : Array Value) (t1 t2 t3 : TypeId) : F3 w c1 c2 c3 t1 t2 t3 (((w.alloc (.cells c1 t1 (0, 0))).alloc (.cells c2 t2 (0, 0))).alloc (.cells c3 t3 (0, 0))) := by
  have f1 := World.alloc_heap_new w (.cells c1 t1 (0, 0))
  have f2 := World.alloc_heap_new (w.alloc (.cells c1 t1 (0, 0))) (.cells c2 t2 (0, 0))
  have f3 := World.alloc_heap_new ((w.alloc (.cells c1 t1 (0, 0))).alloc (.cells c2 t2 (0, 0))) (.cells c3 t3 (0, 0))
  simp only [World.size_alloc] at f2 f3
  exact ⟨(Below.heap_alloc _ _ _ (by simp; omega)).trans ((Below.heap_alloc _ _ _ (by simp)).trans f1), (Below.heap_alloc _ _ _ (by simp)).trans f2, f3, ((Below.refl _ w).alloc (Nat.le_refl _) _ |>.alloc (by simp) _).alloc (by simp; omega) _⟩
theorem F3.all (h : F3 w c1 c2 c3 t1 t2 t3 W) (hB : Below W.heap.size W V) : F3 w c1 c2 c3 t1 t2 t3 V := ⟨h.one.all hB, h.two.all hB, h.tri.all hB, h.bel.trans (hB.mono h.bel.size)⟩
theorem F3.alloc (h : F3 w c1 c2 c3 t1 t2 t3 W) (o : Obj) : F3 w c1 c2 c3 t1 t2 t3 (W.alloc o) := ⟨h.one.alloc o, h.two.alloc o, h.tri.alloc o, h.bel.alloc h.bel.size o⟩
theorem F3.drew (h : F3 w c1 c2 c3 t1 t2 t3 W) : F3 w c1 c2 c3 t1 t2 t3 W.drew := ⟨h.one, h.two, h.tri, h.bel.drew⟩
theorem F3.put4 {z0 z1 z2 z3 : Value} (h : F3 w c1 c2 #[z0, z1, z2, z3] t1 t2 t3 W) (v0 v1 v2 v3 : Value) : F3 w c1 c2 #[v0, v1, v2, v3] t1 t2 t3 (put4 W (w.heap.size + 1 + 1) v0 v1 v2 v3) :=
  ⟨h.one.put4 (by omega) _ _ _ _, h.two.put4 (by omega) _ _ _ _, by
    have := blk_set (blk_set (blk_set (blk_set h.tri 0 v0) 1 v1) 2 v2) 3 v3
    simpa [psub.put4, Bl] using this, (((h.bel.setCell (by simp; omega) _).setCell (by simp; omega) _).setCell (by simp; omega) _).setCell (by simp; omega) _⟩
theorem F3.setO {d : Array Value} (h : F3 w c1 c2 c3 t1 t2 t3 W) (i : Nat) (v : Value) (hd : c1.setIfInBounds i v = d) : F3 w d c2 c3 t1 t2 t3 (W.setCell ⟨w.heap.size, i, none⟩ v) :=
  ⟨by rw [← hd]; exact blk_set h.one i v, h.two.far (by omega) _ _, h.tri.far (by omega) _ _, h.bel.setCell (by simp) _⟩
theorem F3.put10 (h : F3 w c1 zs c3 t1 t2 t3 W) (y : Su) : F3 w c1 (sc y) c3 t1 t2 t3 (put10 W (w.heap.size + 1) y) :=
  ⟨(put10_heap _ _ _ _ (by omega)).trans h.one, put10_self _ _ _ _ h.two, (put10_heap _ _ _ _ (by omega)).trans h.tri, put10_below h.bel _ _ (by omega)⟩
end
set_option maxRecDepth 100000 in
set_option maxHeartbeats 4000000 in
theorem cancel_arg (k : Nat) (x : Su) (on c : Int) (at_ d : Bool) (w : World) (T : Tab w) (hck : ckF k x = some c) (hd : subs_day.f on = some d) (hb : c ≠ 0 ∨ d = false) :
    Calls Tryd.prog 12 #[.agg (sc x), .int .i64 on, .bool at_] w fun e w' => e = .returned (.tuple #[.agg zs, .agg zt, .int .i64 2]) ∧ Below w.heap.size w w' := by
  have Hhb := Lib.hid hb
  clear hb
  have HP := Lib.hid (fun w (T : Tab w) => subs_Check.calls k x.id x.cu x.pl x.st x.an x.ev x.pr x.bi x.si x.en c w (Aside0.mk T) hck)
  have HD := Lib.hid (fun w => subs_day.calls on d w hd)
  have HT := Lib.hid T
  clear T hck hd
  have F1 := Lib.hid (F3.new w (sc x) zs zt 26 26 30)
  unfold sc at F1
  unfold sc
  go_enter Tryd.func12, Tryd.ntmps12
  go_wp2_with fail
  refine (HP.out _ (tabB HT.out (by have := F1.out.bel; unfold zs zt at this; exact this))).mono ?_
  rintro e w1 ⟨rfl, B1⟩
  have F2 := Lib.hid (F1.out.all (by unfold zs zt; exact B1))
  clear B1 F1
  have hb := Hhb.out
  by_cases h0 : c = 0
  · subst h0
    go_wp2_with fail
    refine (HD.out _).mono ?_
    rintro e w2 ⟨rfl, D2⟩
    have F3 := Lib.hid (F2.out.all D2.below)
    clear D2 F2
    obtain rfl : d = false := by simpa using hb
    have r0 := F3.out.two.c 0
    have q0 := F3.out.two.f 0
    have r1 := F3.out.two.c 1
    have q1 := F3.out.two.f 1
    have r2 := F3.out.two.c 2
    have q2 := F3.out.two.f 2
    have r3 := F3.out.two.c 3
    have q3 := F3.out.two.f 3
    have r4 := F3.out.two.c 4
    have q4 := F3.out.two.f 4
    have r5 := F3.out.two.c 5
    have q5 := F3.out.two.f 5
    have r6 := F3.out.two.c 6
    have q6 := F3.out.two.f 6
    have r7 := F3.out.two.c 7
    have q7 := F3.out.two.f 7
    have r8 := F3.out.two.c 8
    have q8 := F3.out.two.f 8
    have r9 := F3.out.two.c 9
    have q9 := F3.out.two.f 9
    have t0 := F3.out.tri.c 0
    have u0 := F3.out.tri.f 0
    have t1 := F3.out.tri.c 1
    have u1 := F3.out.tri.f 1
    have t2 := F3.out.tri.c 2
    have u2 := F3.out.tri.f 2
    have t3 := F3.out.tri.c 3
    have u3 := F3.out.tri.f 3
    simp [zs, zt] at r0 r1 r2 r3 r4 r5 r6 r7 r8 r9 t0 t1 t2 t3
    go_wp2_with fail
    have FZ := Lib.hid ((F3.out.put10 ⟨0, 0, 0, 0, 0, 0, 0, 0, 0, 0⟩).put4 (.int .i64 0) (.int .i64 0) (.int .i64 0) (.int .i64 0))
    change bodyPost _ _ _ _ _ (put4 (put10 _ (w.heap.size + 1) ⟨0, 0, 0, 0, 0, 0, 0, 0, 0, 0⟩) (w.heap.size + 1 + 1) (.int .i64 0) (.int .i64 0) (.int .i64 0) (.int .i64 0))
    clear r0 q0 r1 q1 r2 q2 r3 q3 r4 q4 r5 q5 r6 q6 r7 q7 r8 q8 r9 q9 t0 u0 t1 u1 t2 u2 t3 u3
    generalize put4 (put10 _ (w.heap.size + 1) ⟨0, 0, 0, 0, 0, 0, 0, 0, 0, 0⟩) (w.heap.size + 1 + 1) (.int .i64 0) (.int .i64 0) (.int .i64 0) (.int .i64 0) = V at FZ ⊢
    have r0 := FZ.out.two.c 0
    have r1 := FZ.out.two.c 1
    have r2 := FZ.out.two.c 2
    have r3 := FZ.out.two.c 3
    have r4 := FZ.out.two.c 4
    have r5 := FZ.out.two.c 5
    have r6 := FZ.out.two.c 6
    have r7 := FZ.out.two.c 7
    have r8 := FZ.out.two.c 8
    have r9 := FZ.out.two.c 9
    have t0 := FZ.out.tri.c 0
    have t1 := FZ.out.tri.c 1
    have t2 := FZ.out.tri.c 2
    have t3 := FZ.out.tri.c 3
    simp [sc] at r0 r1 r2 r3 r4 r5 r6 r7 r8 r9 t0 t1 t2 t3
    exact bodyPost_ret (v := .tuple #[.agg zs, .agg #[.int .i64 0, .int .i64 0, .int .i64 0, .int .i64 0], .int .i64 2]) (by simp [results, Tryd.results12, go_sem, zs, r0, r1, r2, r3, r4, r5, r6, r7, r8, r9, t0, t1, t2, t3]) rfl ⟨rfl, FZ.out.bel⟩
  · have g0 : (c == 0) = false := by simpa using h0
    have g0' : (c != 0) = true := by simpa using h0
    have r0 := F2.out.two.c 0
    have q0 := F2.out.two.f 0
    have r1 := F2.out.two.c 1
    have q1 := F2.out.two.f 1
    have r2 := F2.out.two.c 2
    have q2 := F2.out.two.f 2
    have r3 := F2.out.two.c 3
    have q3 := F2.out.two.f 3
    have r4 := F2.out.two.c 4
    have q4 := F2.out.two.f 4
    have r5 := F2.out.two.c 5
    have q5 := F2.out.two.f 5
    have r6 := F2.out.two.c 6
    have q6 := F2.out.two.f 6
    have r7 := F2.out.two.c 7
    have q7 := F2.out.two.f 7
    have r8 := F2.out.two.c 8
    have q8 := F2.out.two.f 8
    have r9 := F2.out.two.c 9
    have q9 := F2.out.two.f 9
    have t0 := F2.out.tri.c 0
    have u0 := F2.out.tri.f 0
    have t1 := F2.out.tri.c 1
    have u1 := F2.out.tri.f 1
    have t2 := F2.out.tri.c 2
    have u2 := F2.out.tri.f 2
    have t3 := F2.out.tri.c 3
    have u3 := F2.out.tri.f 3
    simp [zs, zt] at r0 r1 r2 r3 r4 r5 r6 r7 r8 r9 t0 t1 t2 t3
    go_wp2_with fail
    have FZ := Lib.hid ((F2.out.put10 ⟨0, 0, 0, 0, 0, 0, 0, 0, 0, 0⟩).put4 (.int .i64 0) (.int .i64 0) (.int .i64 0) (.int .i64 0))
    change bodyPost _ _ _ _ _ (put4 (put10 _ (w.heap.size + 1) ⟨0, 0, 0, 0, 0, 0, 0, 0, 0, 0⟩) (w.heap.size + 1 + 1) (.int .i64 0) (.int .i64 0) (.int .i64 0) (.int .i64 0))
    clear r0 q0 r1 q1 r2 q2 r3 q3 r4 q4 r5 q5 r6 q6 r7 q7 r8 q8 r9 q9 t0 u0 t1 u1 t2 u2 t3 u3
    generalize put4 (put10 _ (w.heap.size + 1) ⟨0, 0, 0, 0, 0, 0, 0, 0, 0, 0⟩) (w.heap.size + 1 + 1) (.int .i64 0) (.int .i64 0) (.int .i64 0) (.int .i64 0) = V at FZ ⊢
    have r0 := FZ.out.two.c 0
    have r1 := FZ.out.two.c 1
    have r2 := FZ.out.two.c 2
    have r3 := FZ.out.two.c 3
    have r4 := FZ.out.two.c 4
    have r5 := FZ.out.two.c 5
    have r6 := FZ.out.two.c 6
    have r7 := FZ.out.two.c 7
    have r8 := FZ.out.two.c 8
    have r9 := FZ.out.two.c 9
    have t0 := FZ.out.tri.c 0
    have t1 := FZ.out.tri.c 1
    have t2 := FZ.out.tri.c 2
    have t3 := FZ.out.tri.c 3
    simp [sc] at r0 r1 r2 r3 r4 r5 r6 r7 r8 r9 t0 t1 t2 t3
    exact bodyPost_ret (v := .tuple #[.agg zs, .agg #[.int .i64 0, .int .i64 0, .int .i64 0, .int .i64 0], .int .i64 2]) (by simp [results, Tryd.results12, go_sem, zs, r0, r1, r2, r3, r4, r5, r6, r7, r8, r9, t0, t1, t2, t3]) rfl ⟨rfl, FZ.out.bel⟩
set_option maxRecDepth 100000 in
set_option maxHeartbeats 4000000 in
theorem cancel_state (k : Nat) (x : Su) (on : Int) (at_ : Bool) (w : World) (T : Tab w) (hck : ckF k x = some 0) (hd : subs_day.f on = some true) (hb : x.en ≠ 0 ∨ on < x.st ∨ at_ = true ∧ on < x.si) :
    Calls Tryd.prog 12 #[.agg (sc x), .int .i64 on, .bool at_] w fun e w' => e = .returned (.tuple #[.agg zs, .agg zt, .int .i64 9]) ∧ Below w.heap.size w w' := by
  have Hhb := Lib.hid hb
  clear hb
  have HP := Lib.hid (fun w (T : Tab w) => subs_Check.calls k x.id x.cu x.pl x.st x.an x.ev x.pr x.bi x.si x.en 0 w (Aside0.mk T) hck)
  have HD := Lib.hid (fun w => subs_day.calls on true w hd)
  have HT := Lib.hid T
  clear T hck hd
  have F1 := Lib.hid (F3.new w (sc x) zs zt 26 26 30)
  unfold sc at F1
  unfold sc
  go_enter Tryd.func12, Tryd.ntmps12
  go_wp2_with fail
  refine (HP.out _ (tabB HT.out (by have := F1.out.bel; unfold zs zt at this; exact this))).mono ?_
  rintro e w1 ⟨rfl, B1⟩
  have F2 := Lib.hid (F1.out.all (by unfold zs zt; exact B1))
  clear B1 F1
  go_wp2_with fail
  refine (HD.out _).mono ?_
  rintro e w2 ⟨rfl, D2⟩
  have F3 := Lib.hid (F2.out.all D2.below)
  clear D2 F2
  have s3 := F3.out.one.c 3
  have s8 := F3.out.one.c 8
  have s9 := F3.out.one.c 9
  simp at s3 s8 s9
  have hb := Hhb.out
  by_cases h0 : x.en = 0
  · have g0 : (x.en == 0) = true := by simpa using h0
    have g0' : (x.en != 0) = false := by simpa using h0
    by_cases h1 : on < x.st
    · have g1 := decide_eq_true h1
      have r0 := F3.out.two.c 0
      have q0 := F3.out.two.f 0
      have r1 := F3.out.two.c 1
      have q1 := F3.out.two.f 1
      have r2 := F3.out.two.c 2
      have q2 := F3.out.two.f 2
      have r3 := F3.out.two.c 3
      have q3 := F3.out.two.f 3
      have r4 := F3.out.two.c 4
      have q4 := F3.out.two.f 4
      have r5 := F3.out.two.c 5
      have q5 := F3.out.two.f 5
      have r6 := F3.out.two.c 6
      have q6 := F3.out.two.f 6
      have r7 := F3.out.two.c 7
      have q7 := F3.out.two.f 7
      have r8 := F3.out.two.c 8
      have q8 := F3.out.two.f 8
      have r9 := F3.out.two.c 9
      have q9 := F3.out.two.f 9
      have t0 := F3.out.tri.c 0
      have u0 := F3.out.tri.f 0
      have t1 := F3.out.tri.c 1
      have u1 := F3.out.tri.f 1
      have t2 := F3.out.tri.c 2
      have u2 := F3.out.tri.f 2
      have t3 := F3.out.tri.c 3
      have u3 := F3.out.tri.f 3
      simp [zs, zt] at r0 r1 r2 r3 r4 r5 r6 r7 r8 r9 t0 t1 t2 t3
      go_wp2_with fail
      have FZ := Lib.hid ((F3.out.put10 ⟨0, 0, 0, 0, 0, 0, 0, 0, 0, 0⟩).put4 (.int .i64 0) (.int .i64 0) (.int .i64 0) (.int .i64 0))
      change bodyPost _ _ _ _ _ (put4 (put10 _ (w.heap.size + 1) ⟨0, 0, 0, 0, 0, 0, 0, 0, 0, 0⟩) (w.heap.size + 1 + 1) (.int .i64 0) (.int .i64 0) (.int .i64 0) (.int .i64 0))
      clear r0 q0 r1 q1 r2 q2 r3 q3 r4 q4 r5 q5 r6 q6 r7 q7 r8 q8 r9 q9 t0 u0 t1 u1 t2 u2 t3 u3
      generalize put4 (put10 _ (w.heap.size + 1) ⟨0, 0, 0, 0, 0, 0, 0, 0, 0, 0⟩) (w.heap.size + 1 + 1) (.int .i64 0) (.int .i64 0) (.int .i64 0) (.int .i64 0) = V at FZ ⊢
      have r0 := FZ.out.two.c 0
      have r1 := FZ.out.two.c 1
      have r2 := FZ.out.two.c 2
      have r3 := FZ.out.two.c 3
      have r4 := FZ.out.two.c 4
      have r5 := FZ.out.two.c 5
      have r6 := FZ.out.two.c 6
      have r7 := FZ.out.two.c 7
      have r8 := FZ.out.two.c 8
      have r9 := FZ.out.two.c 9
      have t0 := FZ.out.tri.c 0
      have t1 := FZ.out.tri.c 1
      have t2 := FZ.out.tri.c 2
      have t3 := FZ.out.tri.c 3
      simp [sc] at r0 r1 r2 r3 r4 r5 r6 r7 r8 r9 t0 t1 t2 t3
      exact bodyPost_ret (v := .tuple #[.agg zs, .agg #[.int .i64 0, .int .i64 0, .int .i64 0, .int .i64 0], .int .i64 9]) (by simp [results, Tryd.results12, go_sem, zs, r0, r1, r2, r3, r4, r5, r6, r7, r8, r9, t0, t1, t2, t3]) rfl ⟨rfl, FZ.out.bel⟩
    · have g1 := decide_eq_false h1
      have h2 : at_ = true ∧ on < x.si := by simpa [h0, h1] using hb
      obtain ⟨rfl, h2⟩ := h2
      have g2 := decide_eq_true h2
      have r0 := F3.out.two.c 0
      have q0 := F3.out.two.f 0
      have r1 := F3.out.two.c 1
      have q1 := F3.out.two.f 1
      have r2 := F3.out.two.c 2
      have q2 := F3.out.two.f 2
      have r3 := F3.out.two.c 3
      have q3 := F3.out.two.f 3
      have r4 := F3.out.two.c 4
      have q4 := F3.out.two.f 4
      have r5 := F3.out.two.c 5
      have q5 := F3.out.two.f 5
      have r6 := F3.out.two.c 6
      have q6 := F3.out.two.f 6
      have r7 := F3.out.two.c 7
      have q7 := F3.out.two.f 7
      have r8 := F3.out.two.c 8
      have q8 := F3.out.two.f 8
      have r9 := F3.out.two.c 9
      have q9 := F3.out.two.f 9
      have t0 := F3.out.tri.c 0
      have u0 := F3.out.tri.f 0
      have t1 := F3.out.tri.c 1
      have u1 := F3.out.tri.f 1
      have t2 := F3.out.tri.c 2
      have u2 := F3.out.tri.f 2
      have t3 := F3.out.tri.c 3
      have u3 := F3.out.tri.f 3
      simp [zs, zt] at r0 r1 r2 r3 r4 r5 r6 r7 r8 r9 t0 t1 t2 t3
      go_wp2_with fail
      have FZ := Lib.hid ((F3.out.put10 ⟨0, 0, 0, 0, 0, 0, 0, 0, 0, 0⟩).put4 (.int .i64 0) (.int .i64 0) (.int .i64 0) (.int .i64 0))
      change bodyPost _ _ _ _ _ (put4 (put10 _ (w.heap.size + 1) ⟨0, 0, 0, 0, 0, 0, 0, 0, 0, 0⟩) (w.heap.size + 1 + 1) (.int .i64 0) (.int .i64 0) (.int .i64 0) (.int .i64 0))
      clear r0 q0 r1 q1 r2 q2 r3 q3 r4 q4 r5 q5 r6 q6 r7 q7 r8 q8 r9 q9 t0 u0 t1 u1 t2 u2 t3 u3
      generalize put4 (put10 _ (w.heap.size + 1) ⟨0, 0, 0, 0, 0, 0, 0, 0, 0, 0⟩) (w.heap.size + 1 + 1) (.int .i64 0) (.int .i64 0) (.int .i64 0) (.int .i64 0) = V at FZ ⊢
      have r0 := FZ.out.two.c 0
      have r1 := FZ.out.two.c 1
      have r2 := FZ.out.two.c 2
      have r3 := FZ.out.two.c 3
      have r4 := FZ.out.two.c 4
      have r5 := FZ.out.two.c 5
      have r6 := FZ.out.two.c 6
      have r7 := FZ.out.two.c 7
      have r8 := FZ.out.two.c 8
      have r9 := FZ.out.two.c 9
      have t0 := FZ.out.tri.c 0
      have t1 := FZ.out.tri.c 1
      have t2 := FZ.out.tri.c 2
      have t3 := FZ.out.tri.c 3
      simp [sc] at r0 r1 r2 r3 r4 r5 r6 r7 r8 r9 t0 t1 t2 t3
      exact bodyPost_ret (v := .tuple #[.agg zs, .agg #[.int .i64 0, .int .i64 0, .int .i64 0, .int .i64 0], .int .i64 9]) (by simp [results, Tryd.results12, go_sem, zs, r0, r1, r2, r3, r4, r5, r6, r7, r8, r9, t0, t1, t2, t3]) rfl ⟨rfl, FZ.out.bel⟩
  · have g0 : (x.en == 0) = false := by simpa using h0
    have g0' : (x.en != 0) = true := by simpa using h0
    have r0 := F3.out.two.c 0
    have q0 := F3.out.two.f 0
    have r1 := F3.out.two.c 1
    have q1 := F3.out.two.f 1
    have r2 := F3.out.two.c 2
    have q2 := F3.out.two.f 2
    have r3 := F3.out.two.c 3
    have q3 := F3.out.two.f 3
    have r4 := F3.out.two.c 4
    have q4 := F3.out.two.f 4
    have r5 := F3.out.two.c 5
    have q5 := F3.out.two.f 5
    have r6 := F3.out.two.c 6
    have q6 := F3.out.two.f 6
    have r7 := F3.out.two.c 7
    have q7 := F3.out.two.f 7
    have r8 := F3.out.two.c 8
    have q8 := F3.out.two.f 8
    have r9 := F3.out.two.c 9
    have q9 := F3.out.two.f 9
    have t0 := F3.out.tri.c 0
    have u0 := F3.out.tri.f 0
    have t1 := F3.out.tri.c 1
    have u1 := F3.out.tri.f 1
    have t2 := F3.out.tri.c 2
    have u2 := F3.out.tri.f 2
    have t3 := F3.out.tri.c 3
    have u3 := F3.out.tri.f 3
    simp [zs, zt] at r0 r1 r2 r3 r4 r5 r6 r7 r8 r9 t0 t1 t2 t3
    go_wp2_with fail
    have FZ := Lib.hid ((F3.out.put10 ⟨0, 0, 0, 0, 0, 0, 0, 0, 0, 0⟩).put4 (.int .i64 0) (.int .i64 0) (.int .i64 0) (.int .i64 0))
    change bodyPost _ _ _ _ _ (put4 (put10 _ (w.heap.size + 1) ⟨0, 0, 0, 0, 0, 0, 0, 0, 0, 0⟩) (w.heap.size + 1 + 1) (.int .i64 0) (.int .i64 0) (.int .i64 0) (.int .i64 0))
    clear r0 q0 r1 q1 r2 q2 r3 q3 r4 q4 r5 q5 r6 q6 r7 q7 r8 q8 r9 q9 t0 u0 t1 u1 t2 u2 t3 u3
    generalize put4 (put10 _ (w.heap.size + 1) ⟨0, 0, 0, 0, 0, 0, 0, 0, 0, 0⟩) (w.heap.size + 1 + 1) (.int .i64 0) (.int .i64 0) (.int .i64 0) (.int .i64 0) = V at FZ ⊢
    have r0 := FZ.out.two.c 0
    have r1 := FZ.out.two.c 1
    have r2 := FZ.out.two.c 2
    have r3 := FZ.out.two.c 3
    have r4 := FZ.out.two.c 4
    have r5 := FZ.out.two.c 5
    have r6 := FZ.out.two.c 6
    have r7 := FZ.out.two.c 7
    have r8 := FZ.out.two.c 8
    have r9 := FZ.out.two.c 9
    have t0 := FZ.out.tri.c 0
    have t1 := FZ.out.tri.c 1
    have t2 := FZ.out.tri.c 2
    have t3 := FZ.out.tri.c 3
    simp [sc] at r0 r1 r2 r3 r4 r5 r6 r7 r8 r9 t0 t1 t2 t3
    exact bodyPost_ret (v := .tuple #[.agg zs, .agg #[.int .i64 0, .int .i64 0, .int .i64 0, .int .i64 0], .int .i64 9]) (by simp [results, Tryd.results12, go_sem, zs, r0, r1, r2, r3, r4, r5, r6, r7, r8, r9, t0, t1, t2, t3]) rfl ⟨rfl, FZ.out.bel⟩
set_option maxRecDepth 100000 in
set_option maxHeartbeats 4000000 in
theorem cancel_find (k : Nat) (x : Su) (on i f n er : Int) (at_ : Bool) (w : World) (T : Tab w) (hck : ckF k x = some 0) (hd : subs_day.f on = some true) (h0 : x.en = 0) (h1 : x.st ≤ on) (h2 : at_ = true → x.si ≤ on) (hf : ∀ w, Tab w → Calls Tryd.prog 31 #[.agg #[.int .i64 x.st, .int .i64 x.an, .int .i64 x.ev], .int .i64 on] w fun e w' => e = .returned (.tuple #[.int .i64 i, .int .i64 f, .int .i64 n, .int .i64 er]) ∧ Below w.heap.size w w') (he : er ≠ 0) :
    Calls Tryd.prog 12 #[.agg (sc x), .int .i64 on, .bool at_] w fun e w' => e = .returned (.tuple #[.agg zs, .agg zt, .int .i64 er]) ∧ Below w.heap.size w w' := by
  have Hh0 := Lib.hid h0
  have Hh1 := Lib.hid h1
  have Hh2 := Lib.hid h2
  have Hhe := Lib.hid he
  clear h0 h1 h2 he
  have HP := Lib.hid (fun w (T : Tab w) => subs_Check.calls k x.id x.cu x.pl x.st x.an x.ev x.pr x.bi x.si x.en 0 w (Aside0.mk T) hck)
  have HD := Lib.hid (fun w => subs_day.calls on true w hd)
  have HF := Lib.hid hf
  have HT := Lib.hid T
  clear T hck hd hf
  have F1 := Lib.hid (F3.new w (sc x) zs zt 26 26 30)
  unfold sc at F1
  unfold sc
  go_enter Tryd.func12, Tryd.ntmps12
  go_wp2_with fail
  refine (HP.out _ (tabB HT.out (by have := F1.out.bel; unfold zs zt at this; exact this))).mono ?_
  rintro e w1 ⟨rfl, B1⟩
  have F2 := Lib.hid (F1.out.all (by unfold zs zt; exact B1))
  clear B1 F1
  go_wp2_with fail
  refine (HD.out _).mono ?_
  rintro e w2 ⟨rfl, D2⟩
  have F3 := Lib.hid (F2.out.all D2.below)
  clear D2 F2
  have s3 := F3.out.one.c 3
  have s4 := F3.out.one.c 4
  have s5 := F3.out.one.c 5
  have s8 := F3.out.one.c 8
  have s9 := F3.out.one.c 9
  simp at s3 s4 s5 s8 s9
  have h0 := Hh0.out
  have h1 := Hh1.out
  have h2 := Hh2.out
  have he := Hhe.out
  have g0 : (x.en == 0) = true := by simpa using h0
  have g0' : (x.en != 0) = false := by simpa using h0
  have g1 : decide (on < x.st) = false := decide_eq_false (by omega)
  have ge : (er == 0) = false := by simpa using he
  have ge' : (er != 0) = true := by simpa using he
  clear h0 h1 h2 he
  cases at_ with
  | false =>
    go_wp2_with fail
    refine (HF.out _ (tabB HT.out F3.out.bel)).mono ?_
    rintro e w3 ⟨rfl, B3⟩
    have F4 := Lib.hid (F3.out.all B3)
    clear B3 F3 s3 s4 s5 s8 s9
    have r0 := F4.out.two.c 0
    have q0 := F4.out.two.f 0
    have r1 := F4.out.two.c 1
    have q1 := F4.out.two.f 1
    have r2 := F4.out.two.c 2
    have q2 := F4.out.two.f 2
    have r3 := F4.out.two.c 3
    have q3 := F4.out.two.f 3
    have r4 := F4.out.two.c 4
    have q4 := F4.out.two.f 4
    have r5 := F4.out.two.c 5
    have q5 := F4.out.two.f 5
    have r6 := F4.out.two.c 6
    have q6 := F4.out.two.f 6
    have r7 := F4.out.two.c 7
    have q7 := F4.out.two.f 7
    have r8 := F4.out.two.c 8
    have q8 := F4.out.two.f 8
    have r9 := F4.out.two.c 9
    have q9 := F4.out.two.f 9
    have t0 := F4.out.tri.c 0
    have u0 := F4.out.tri.f 0
    have t1 := F4.out.tri.c 1
    have u1 := F4.out.tri.f 1
    have t2 := F4.out.tri.c 2
    have u2 := F4.out.tri.f 2
    have t3 := F4.out.tri.c 3
    have u3 := F4.out.tri.f 3
    simp [zs, zt] at r0 r1 r2 r3 r4 r5 r6 r7 r8 r9 t0 t1 t2 t3
    go_wp2_with fail
    have FZ := Lib.hid ((F4.out.put10 ⟨0, 0, 0, 0, 0, 0, 0, 0, 0, 0⟩).put4 (.int .i64 0) (.int .i64 0) (.int .i64 0) (.int .i64 0))
    change bodyPost _ _ _ _ _ (put4 (put10 _ (w.heap.size + 1) ⟨0, 0, 0, 0, 0, 0, 0, 0, 0, 0⟩) (w.heap.size + 1 + 1) (.int .i64 0) (.int .i64 0) (.int .i64 0) (.int .i64 0))
    clear r0 q0 r1 q1 r2 q2 r3 q3 r4 q4 r5 q5 r6 q6 r7 q7 r8 q8 r9 q9 t0 u0 t1 u1 t2 u2 t3 u3
    generalize put4 (put10 _ (w.heap.size + 1) ⟨0, 0, 0, 0, 0, 0, 0, 0, 0, 0⟩) (w.heap.size + 1 + 1) (.int .i64 0) (.int .i64 0) (.int .i64 0) (.int .i64 0) = V at FZ ⊢
    have r0 := FZ.out.two.c 0
    have r1 := FZ.out.two.c 1
    have r2 := FZ.out.two.c 2
    have r3 := FZ.out.two.c 3
    have r4 := FZ.out.two.c 4
    have r5 := FZ.out.two.c 5
    have r6 := FZ.out.two.c 6
    have r7 := FZ.out.two.c 7
    have r8 := FZ.out.two.c 8
    have r9 := FZ.out.two.c 9
    have t0 := FZ.out.tri.c 0
    have t1 := FZ.out.tri.c 1
    have t2 := FZ.out.tri.c 2
    have t3 := FZ.out.tri.c 3
    simp [sc] at r0 r1 r2 r3 r4 r5 r6 r7 r8 r9 t0 t1 t2 t3
    exact bodyPost_ret (v := .tuple #[.agg zs, .agg #[.int .i64 0, .int .i64 0, .int .i64 0, .int .i64 0], .int .i64 er]) (by simp [results, Tryd.results12, go_sem, zs, r0, r1, r2, r3, r4, r5, r6, r7, r8, r9, t0, t1, t2, t3]) rfl ⟨rfl, FZ.out.bel⟩
  | true =>
    have g2 : decide (on < x.si) = false := decide_eq_false (by have := Hh2.out rfl; omega)
    go_wp2_with fail
    refine (HF.out _ (tabB HT.out F3.out.bel)).mono ?_
    rintro e w3 ⟨rfl, B3⟩
    have F4 := Lib.hid (F3.out.all B3)
    clear B3 F3 s3 s4 s5 s8 s9
    have r0 := F4.out.two.c 0
    have q0 := F4.out.two.f 0
    have r1 := F4.out.two.c 1
    have q1 := F4.out.two.f 1
    have r2 := F4.out.two.c 2
    have q2 := F4.out.two.f 2
    have r3 := F4.out.two.c 3
    have q3 := F4.out.two.f 3
    have r4 := F4.out.two.c 4
    have q4 := F4.out.two.f 4
    have r5 := F4.out.two.c 5
    have q5 := F4.out.two.f 5
    have r6 := F4.out.two.c 6
    have q6 := F4.out.two.f 6
    have r7 := F4.out.two.c 7
    have q7 := F4.out.two.f 7
    have r8 := F4.out.two.c 8
    have q8 := F4.out.two.f 8
    have r9 := F4.out.two.c 9
    have q9 := F4.out.two.f 9
    have t0 := F4.out.tri.c 0
    have u0 := F4.out.tri.f 0
    have t1 := F4.out.tri.c 1
    have u1 := F4.out.tri.f 1
    have t2 := F4.out.tri.c 2
    have u2 := F4.out.tri.f 2
    have t3 := F4.out.tri.c 3
    have u3 := F4.out.tri.f 3
    simp [zs, zt] at r0 r1 r2 r3 r4 r5 r6 r7 r8 r9 t0 t1 t2 t3
    go_wp2_with fail
    have FZ := Lib.hid ((F4.out.put10 ⟨0, 0, 0, 0, 0, 0, 0, 0, 0, 0⟩).put4 (.int .i64 0) (.int .i64 0) (.int .i64 0) (.int .i64 0))
    change bodyPost _ _ _ _ _ (put4 (put10 _ (w.heap.size + 1) ⟨0, 0, 0, 0, 0, 0, 0, 0, 0, 0⟩) (w.heap.size + 1 + 1) (.int .i64 0) (.int .i64 0) (.int .i64 0) (.int .i64 0))
    clear r0 q0 r1 q1 r2 q2 r3 q3 r4 q4 r5 q5 r6 q6 r7 q7 r8 q8 r9 q9 t0 u0 t1 u1 t2 u2 t3 u3
    generalize put4 (put10 _ (w.heap.size + 1) ⟨0, 0, 0, 0, 0, 0, 0, 0, 0, 0⟩) (w.heap.size + 1 + 1) (.int .i64 0) (.int .i64 0) (.int .i64 0) (.int .i64 0) = V at FZ ⊢
    have r0 := FZ.out.two.c 0
    have r1 := FZ.out.two.c 1
    have r2 := FZ.out.two.c 2
    have r3 := FZ.out.two.c 3
    have r4 := FZ.out.two.c 4
    have r5 := FZ.out.two.c 5
    have r6 := FZ.out.two.c 6
    have r7 := FZ.out.two.c 7
    have r8 := FZ.out.two.c 8
    have r9 := FZ.out.two.c 9
    have t0 := FZ.out.tri.c 0
    have t1 := FZ.out.tri.c 1
    have t2 := FZ.out.tri.c 2
    have t3 := FZ.out.tri.c 3
    simp [sc] at r0 r1 r2 r3 r4 r5 r6 r7 r8 r9 t0 t1 t2 t3
    exact bodyPost_ret (v := .tuple #[.agg zs, .agg #[.int .i64 0, .int .i64 0, .int .i64 0, .int .i64 0], .int .i64 er]) (by simp [results, Tryd.results12, go_sem, zs, r0, r1, r2, r3, r4, r5, r6, r7, r8, r9, t0, t1, t2, t3]) rfl ⟨rfl, FZ.out.bel⟩
set_option maxRecDepth 100000 in
set_option maxHeartbeats 4000000 in
theorem cancel_ahead (k : Nat) (x : Su) (on i f n : Int) (at_ : Bool) (w : World) (T : Tab w) (hck : ckF k x = some 0) (hd : subs_day.f on = some true) (h0 : x.en = 0) (h1 : x.st ≤ on) (h2 : at_ = true → x.si ≤ on) (hf : ∀ w, Tab w → Calls Tryd.prog 31 #[.agg #[.int .i64 x.st, .int .i64 x.an, .int .i64 x.ev], .int .i64 on] w fun e w' => e = .returned (.tuple #[.int .i64 i, .int .i64 f, .int .i64 n, .int .i64 0]) ∧ Below w.heap.size w w') (hi : 0 ≤ i) (hi2 : i ≤ 200000) (hb : i + 1 < x.bi) :
    Calls Tryd.prog 12 #[.agg (sc x), .int .i64 on, .bool at_] w fun e w' => e = .returned (.tuple #[.agg zs, .agg zt, .int .i64 9]) ∧ Below w.heap.size w w' := by
  have Hh0 := Lib.hid h0
  have Hh1 := Lib.hid h1
  have Hh2 := Lib.hid h2
  have Hhb := Lib.hid hb
  clear h0 h1 h2 hb
  have HP := Lib.hid (fun w (T : Tab w) => subs_Check.calls k x.id x.cu x.pl x.st x.an x.ev x.pr x.bi x.si x.en 0 w (Aside0.mk T) hck)
  have HD := Lib.hid (fun w => subs_day.calls on true w hd)
  have HF := Lib.hid hf
  have HT := Lib.hid T
  clear T hck hd hf
  have F1 := Lib.hid (F3.new w (sc x) zs zt 26 26 30)
  unfold sc at F1
  unfold sc
  go_enter Tryd.func12, Tryd.ntmps12
  go_wp2_with fail
  refine (HP.out _ (tabB HT.out (by have := F1.out.bel; unfold zs zt at this; exact this))).mono ?_
  rintro e w1 ⟨rfl, B1⟩
  have F2 := Lib.hid (F1.out.all (by unfold zs zt; exact B1))
  clear B1 F1
  go_wp2_with fail
  refine (HD.out _).mono ?_
  rintro e w2 ⟨rfl, D2⟩
  have F3 := Lib.hid (F2.out.all D2.below)
  clear D2 F2
  have s3 := F3.out.one.c 3
  have s4 := F3.out.one.c 4
  have s5 := F3.out.one.c 5
  have s8 := F3.out.one.c 8
  have s9 := F3.out.one.c 9
  simp at s3 s4 s5 s8 s9
  have h0 := Hh0.out
  have h1 := Hh1.out
  have h2 := Hh2.out
  have hb := Hhb.out
  have g0 : (x.en == 0) = true := by simpa using h0
  have g0' : (x.en != 0) = false := by simpa using h0
  have g1 : decide (on < x.st) = false := decide_eq_false (by omega)
  have gb : decide (i + 1 < x.bi) = true := decide_eq_true hb
  clear h0 h1 h2 hb
  cases at_ with
  | false =>
    go_wp2_with fail
    refine (HF.out _ (tabB HT.out F3.out.bel)).mono ?_
    rintro e w3 ⟨rfl, B3⟩
    have F4 := Lib.hid (F3.out.all B3)
    clear B3 F3 s3 s4 s5 s8 s9
    have s7 := F4.out.one.c 7
    simp at s7
    have r0 := F4.out.two.c 0
    have q0 := F4.out.two.f 0
    have r1 := F4.out.two.c 1
    have q1 := F4.out.two.f 1
    have r2 := F4.out.two.c 2
    have q2 := F4.out.two.f 2
    have r3 := F4.out.two.c 3
    have q3 := F4.out.two.f 3
    have r4 := F4.out.two.c 4
    have q4 := F4.out.two.f 4
    have r5 := F4.out.two.c 5
    have q5 := F4.out.two.f 5
    have r6 := F4.out.two.c 6
    have q6 := F4.out.two.f 6
    have r7 := F4.out.two.c 7
    have q7 := F4.out.two.f 7
    have r8 := F4.out.two.c 8
    have q8 := F4.out.two.f 8
    have r9 := F4.out.two.c 9
    have q9 := F4.out.two.f 9
    have t0 := F4.out.tri.c 0
    have u0 := F4.out.tri.f 0
    have t1 := F4.out.tri.c 1
    have u1 := F4.out.tri.f 1
    have t2 := F4.out.tri.c 2
    have u2 := F4.out.tri.f 2
    have t3 := F4.out.tri.c 3
    have u3 := F4.out.tri.f 3
    simp [zs, zt] at r0 r1 r2 r3 r4 r5 r6 r7 r8 r9 t0 t1 t2 t3
    go_wp2_with fail
    have FZ := Lib.hid ((F4.out.put10 ⟨0, 0, 0, 0, 0, 0, 0, 0, 0, 0⟩).put4 (.int .i64 0) (.int .i64 0) (.int .i64 0) (.int .i64 0))
    change bodyPost _ _ _ _ _ (put4 (put10 _ (w.heap.size + 1) ⟨0, 0, 0, 0, 0, 0, 0, 0, 0, 0⟩) (w.heap.size + 1 + 1) (.int .i64 0) (.int .i64 0) (.int .i64 0) (.int .i64 0))
    clear r0 q0 r1 q1 r2 q2 r3 q3 r4 q4 r5 q5 r6 q6 r7 q7 r8 q8 r9 q9 t0 u0 t1 u1 t2 u2 t3 u3
    generalize put4 (put10 _ (w.heap.size + 1) ⟨0, 0, 0, 0, 0, 0, 0, 0, 0, 0⟩) (w.heap.size + 1 + 1) (.int .i64 0) (.int .i64 0) (.int .i64 0) (.int .i64 0) = V at FZ ⊢
    have r0 := FZ.out.two.c 0
    have r1 := FZ.out.two.c 1
    have r2 := FZ.out.two.c 2
    have r3 := FZ.out.two.c 3
    have r4 := FZ.out.two.c 4
    have r5 := FZ.out.two.c 5
    have r6 := FZ.out.two.c 6
    have r7 := FZ.out.two.c 7
    have r8 := FZ.out.two.c 8
    have r9 := FZ.out.two.c 9
    have t0 := FZ.out.tri.c 0
    have t1 := FZ.out.tri.c 1
    have t2 := FZ.out.tri.c 2
    have t3 := FZ.out.tri.c 3
    simp [sc] at r0 r1 r2 r3 r4 r5 r6 r7 r8 r9 t0 t1 t2 t3
    exact bodyPost_ret (v := .tuple #[.agg zs, .agg #[.int .i64 0, .int .i64 0, .int .i64 0, .int .i64 0], .int .i64 9]) (by simp [results, Tryd.results12, go_sem, zs, r0, r1, r2, r3, r4, r5, r6, r7, r8, r9, t0, t1, t2, t3]) rfl ⟨rfl, FZ.out.bel⟩
  | true =>
    have g2 : decide (on < x.si) = false := decide_eq_false (by have := Hh2.out rfl; omega)
    go_wp2_with fail
    refine (HF.out _ (tabB HT.out F3.out.bel)).mono ?_
    rintro e w3 ⟨rfl, B3⟩
    have F4 := Lib.hid (F3.out.all B3)
    clear B3 F3 s3 s4 s5 s8 s9
    have s7 := F4.out.one.c 7
    simp at s7
    have r0 := F4.out.two.c 0
    have q0 := F4.out.two.f 0
    have r1 := F4.out.two.c 1
    have q1 := F4.out.two.f 1
    have r2 := F4.out.two.c 2
    have q2 := F4.out.two.f 2
    have r3 := F4.out.two.c 3
    have q3 := F4.out.two.f 3
    have r4 := F4.out.two.c 4
    have q4 := F4.out.two.f 4
    have r5 := F4.out.two.c 5
    have q5 := F4.out.two.f 5
    have r6 := F4.out.two.c 6
    have q6 := F4.out.two.f 6
    have r7 := F4.out.two.c 7
    have q7 := F4.out.two.f 7
    have r8 := F4.out.two.c 8
    have q8 := F4.out.two.f 8
    have r9 := F4.out.two.c 9
    have q9 := F4.out.two.f 9
    have t0 := F4.out.tri.c 0
    have u0 := F4.out.tri.f 0
    have t1 := F4.out.tri.c 1
    have u1 := F4.out.tri.f 1
    have t2 := F4.out.tri.c 2
    have u2 := F4.out.tri.f 2
    have t3 := F4.out.tri.c 3
    have u3 := F4.out.tri.f 3
    simp [zs, zt] at r0 r1 r2 r3 r4 r5 r6 r7 r8 r9 t0 t1 t2 t3
    go_wp2_with fail
    have FZ := Lib.hid ((F4.out.put10 ⟨0, 0, 0, 0, 0, 0, 0, 0, 0, 0⟩).put4 (.int .i64 0) (.int .i64 0) (.int .i64 0) (.int .i64 0))
    change bodyPost _ _ _ _ _ (put4 (put10 _ (w.heap.size + 1) ⟨0, 0, 0, 0, 0, 0, 0, 0, 0, 0⟩) (w.heap.size + 1 + 1) (.int .i64 0) (.int .i64 0) (.int .i64 0) (.int .i64 0))
    clear r0 q0 r1 q1 r2 q2 r3 q3 r4 q4 r5 q5 r6 q6 r7 q7 r8 q8 r9 q9 t0 u0 t1 u1 t2 u2 t3 u3
    generalize put4 (put10 _ (w.heap.size + 1) ⟨0, 0, 0, 0, 0, 0, 0, 0, 0, 0⟩) (w.heap.size + 1 + 1) (.int .i64 0) (.int .i64 0) (.int .i64 0) (.int .i64 0) = V at FZ ⊢
    have r0 := FZ.out.two.c 0
    have r1 := FZ.out.two.c 1
    have r2 := FZ.out.two.c 2
    have r3 := FZ.out.two.c 3
    have r4 := FZ.out.two.c 4
    have r5 := FZ.out.two.c 5
    have r6 := FZ.out.two.c 6
    have r7 := FZ.out.two.c 7
    have r8 := FZ.out.two.c 8
    have r9 := FZ.out.two.c 9
    have t0 := FZ.out.tri.c 0
    have t1 := FZ.out.tri.c 1
    have t2 := FZ.out.tri.c 2
    have t3 := FZ.out.tri.c 3
    simp [sc] at r0 r1 r2 r3 r4 r5 r6 r7 r8 r9 t0 t1 t2 t3
    exact bodyPost_ret (v := .tuple #[.agg zs, .agg #[.int .i64 0, .int .i64 0, .int .i64 0, .int .i64 0], .int .i64 9]) (by simp [results, Tryd.results12, go_sem, zs, r0, r1, r2, r3, r4, r5, r6, r7, r8, r9, t0, t1, t2, t3]) rfl ⟨rfl, FZ.out.bel⟩
set_option maxRecDepth 100000 in
set_option maxHeartbeats 4000000 in
theorem cancel_later (k : Nat) (x : Su) (on i f n : Int) (w : World) (T : Tab w) (hck : ckF k x = some 0) (hd : subs_day.f on = some true) (h0 : x.en = 0) (h1 : x.st ≤ on) (hf : ∀ w, Tab w → Calls Tryd.prog 31 #[.agg #[.int .i64 x.st, .int .i64 x.an, .int .i64 x.ev], .int .i64 on] w fun e w' => e = .returned (.tuple #[.int .i64 i, .int .i64 f, .int .i64 n, .int .i64 0]) ∧ Below w.heap.size w w') (hi : 0 ≤ i) (hi2 : i ≤ 200000) (hb : ¬ i + 1 < x.bi) :
    Calls Tryd.prog 12 #[.agg (sc x), .int .i64 on, .bool false] w fun e w' => e = .returned (.tuple #[.agg (sc { x with en := n }), .agg zt, .int .i64 0]) ∧ Below w.heap.size w w' := by
  have Hh0 := Lib.hid h0
  have Hh1 := Lib.hid h1
  have Hhb := Lib.hid hb
  clear h0 h1 hb
  have HP := Lib.hid (fun w (T : Tab w) => subs_Check.calls k x.id x.cu x.pl x.st x.an x.ev x.pr x.bi x.si x.en 0 w (Aside0.mk T) hck)
  have HD := Lib.hid (fun w => subs_day.calls on true w hd)
  have HF := Lib.hid hf
  have HT := Lib.hid T
  clear T hck hd hf
  have F1 := Lib.hid (F3.new w (sc x) zs zt 26 26 30)
  unfold sc at F1
  unfold sc
  go_enter Tryd.func12, Tryd.ntmps12
  go_wp2_with fail
  refine (HP.out _ (tabB HT.out (by have := F1.out.bel; unfold zs zt at this; exact this))).mono ?_
  rintro e w1 ⟨rfl, B1⟩
  have F2 := Lib.hid (F1.out.all (by unfold zs zt; exact B1))
  clear B1 F1
  go_wp2_with fail
  refine (HD.out _).mono ?_
  rintro e w2 ⟨rfl, D2⟩
  have F3 := Lib.hid (F2.out.all D2.below)
  clear D2 F2
  have s3 := F3.out.one.c 3
  have s4 := F3.out.one.c 4
  have s5 := F3.out.one.c 5
  have s8 := F3.out.one.c 8
  have s9 := F3.out.one.c 9
  simp at s3 s4 s5 s8 s9
  have h0 := Hh0.out
  have h1 := Hh1.out
  have hb := Hhb.out
  have g0 : (x.en == 0) = true := by simpa using h0
  have g0' : (x.en != 0) = false := by simpa using h0
  have g1 : decide (on < x.st) = false := decide_eq_false (by omega)
  have gb : decide (i + 1 < x.bi) = false := decide_eq_false (by omega)
  clear h0 h1 hb
  go_wp2_with fail
  refine (HF.out _ (tabB HT.out F3.out.bel)).mono ?_
  rintro e w3 ⟨rfl, B3⟩
  have F4 := Lib.hid (F3.out.all B3)
  clear B3 F3 s3 s4 s5 s8 s9
  have s7 := F4.out.one.c 7
  have s9 := F4.out.one.c 9
  have v9 := F4.out.one.f 9
  simp at s7 s9
  go_upto_region 12 with fail
  have F5 := F4.out.setO 9 (.int .i64 n) rfl
  simp only [List.setIfInBounds_toArray, List.set_cons_zero, List.set_cons_succ] at F5
  clear F4 s7 s9 v9
  generalize w3.setCell _ _ = w4 at F5 ⊢
  have F5 := Lib.hid F5
  have s0 := F5.out.one.c 0
  have s1 := F5.out.one.c 1
  have s2 := F5.out.one.c 2
  have s3 := F5.out.one.c 3
  have s4 := F5.out.one.c 4
  have s5 := F5.out.one.c 5
  have s6 := F5.out.one.c 6
  have s7 := F5.out.one.c 7
  have s8 := F5.out.one.c 8
  have s9 := F5.out.one.c 9
  simp at s0 s1 s2 s3 s4 s5 s6 s7 s8 s9
  have r0 := F5.out.two.c 0
  have q0 := F5.out.two.f 0
  have r1 := F5.out.two.c 1
  have q1 := F5.out.two.f 1
  have r2 := F5.out.two.c 2
  have q2 := F5.out.two.f 2
  have r3 := F5.out.two.c 3
  have q3 := F5.out.two.f 3
  have r4 := F5.out.two.c 4
  have q4 := F5.out.two.f 4
  have r5 := F5.out.two.c 5
  have q5 := F5.out.two.f 5
  have r6 := F5.out.two.c 6
  have q6 := F5.out.two.f 6
  have r7 := F5.out.two.c 7
  have q7 := F5.out.two.f 7
  have r8 := F5.out.two.c 8
  have q8 := F5.out.two.f 8
  have r9 := F5.out.two.c 9
  have q9 := F5.out.two.f 9
  have t0 := F5.out.tri.c 0
  have u0 := F5.out.tri.f 0
  have t1 := F5.out.tri.c 1
  have u1 := F5.out.tri.f 1
  have t2 := F5.out.tri.c 2
  have u2 := F5.out.tri.f 2
  have t3 := F5.out.tri.c 3
  have u3 := F5.out.tri.f 3
  simp [zs, zt] at r0 r1 r2 r3 r4 r5 r6 r7 r8 r9 t0 t1 t2 t3
  go_wp2_with fail
  have FZ := Lib.hid ((F5.out.put10 { x with en := n }).put4 (.int .i64 0) (.int .i64 0) (.int .i64 0) (.int .i64 0))
  change bodyPost _ _ _ _ _ (put4 (put10 _ (w.heap.size + 1) { x with en := n }) (w.heap.size + 1 + 1) (.int .i64 0) (.int .i64 0) (.int .i64 0) (.int .i64 0))
  clear r0 q0 r1 q1 r2 q2 r3 q3 r4 q4 r5 q5 r6 q6 r7 q7 r8 q8 r9 q9 t0 u0 t1 u1 t2 u2 t3 u3
  generalize put4 (put10 _ (w.heap.size + 1) { x with en := n }) (w.heap.size + 1 + 1) (.int .i64 0) (.int .i64 0) (.int .i64 0) (.int .i64 0) = V at FZ ⊢
  have r0 := FZ.out.two.c 0
  have r1 := FZ.out.two.c 1
  have r2 := FZ.out.two.c 2
  have r3 := FZ.out.two.c 3
  have r4 := FZ.out.two.c 4
  have r5 := FZ.out.two.c 5
  have r6 := FZ.out.two.c 6
  have r7 := FZ.out.two.c 7
  have r8 := FZ.out.two.c 8
  have r9 := FZ.out.two.c 9
  have t0 := FZ.out.tri.c 0
  have t1 := FZ.out.tri.c 1
  have t2 := FZ.out.tri.c 2
  have t3 := FZ.out.tri.c 3
  simp [sc] at r0 r1 r2 r3 r4 r5 r6 r7 r8 r9 t0 t1 t2 t3
  exact bodyPost_ret (v := .tuple #[.agg #[.int .u64 x.id, .int .u64 x.cu, .int .u64 x.pl, .int .i64 x.st, .int .i64 x.an, .int .i64 x.ev, .int .i64 x.pr, .int .i64 x.bi, .int .i64 x.si, .int .i64 n], .agg #[.int .i64 0, .int .i64 0, .int .i64 0, .int .i64 0], .int .i64 0]) (by simp [results, Tryd.results12, go_sem, zs, r0, r1, r2, r3, r4, r5, r6, r7, r8, r9, t0, t1, t2, t3]) rfl ⟨rfl, FZ.out.bel⟩
set_option maxRecDepth 100000 in
set_option maxHeartbeats 4000000 in
theorem cancel_none (k : Nat) (x : Su) (on i f n pi pf pn pe pw pp : Int) (w : World) (T : Tab w) (hck : ckF k x = some 0) (hd : subs_day.f on = some true) (h0 : x.en = 0) (h1 : x.st ≤ on) (h2 : x.si ≤ on) (hf : ∀ w, Tab w → Calls Tryd.prog 31 #[.agg #[.int .i64 x.st, .int .i64 x.an, .int .i64 x.ev], .int .i64 on] w fun e w' => e = .returned (.tuple #[.int .i64 i, .int .i64 f, .int .i64 n, .int .i64 0]) ∧ Below w.heap.size w w') (hi : 0 ≤ i) (hi2 : i ≤ 200000) (hb : ¬ i + 1 < x.bi) (hl : subs_last.f x.id x.cu x.pl x.st x.an x.ev x.pr x.bi x.si x.en on = some (pi, pf, pn, pe, pw, pp, false)) :
    Calls Tryd.prog 12 #[.agg (sc x), .int .i64 on, .bool true] w fun e w' => e = .returned (.tuple #[.agg (sc { x with en := on }), .agg zt, .int .i64 0]) ∧ Below w.heap.size w w' := by
  have HL := Lib.hid (fun w (T : Tab w) => subs_last.calls x.id x.cu x.pl x.st x.an x.ev x.pr x.bi x.si x.en on pi pf pn pe pw pp false w (Aside0.mk T) hl)
  clear hl
  have Hh0 := Lib.hid h0
  have Hh1 := Lib.hid h1
  have Hh2 := Lib.hid h2
  have Hhb := Lib.hid hb
  clear h0 h1 h2 hb
  have HP := Lib.hid (fun w (T : Tab w) => subs_Check.calls k x.id x.cu x.pl x.st x.an x.ev x.pr x.bi x.si x.en 0 w (Aside0.mk T) hck)
  have HD := Lib.hid (fun w => subs_day.calls on true w hd)
  have HF := Lib.hid hf
  have HT := Lib.hid T
  clear T hck hd hf
  have F1 := Lib.hid (F3.new w (sc x) zs zt 26 26 30)
  unfold sc at F1
  unfold sc
  go_enter Tryd.func12, Tryd.ntmps12
  go_wp2_with fail
  refine (HP.out _ (tabB HT.out (by have := F1.out.bel; unfold zs zt at this; exact this))).mono ?_
  rintro e w1 ⟨rfl, B1⟩
  have F2 := Lib.hid (F1.out.all (by unfold zs zt; exact B1))
  clear B1 F1
  go_wp2_with fail
  refine (HD.out _).mono ?_
  rintro e w2 ⟨rfl, D2⟩
  have F3 := Lib.hid (F2.out.all D2.below)
  clear D2 F2
  have s3 := F3.out.one.c 3
  have s4 := F3.out.one.c 4
  have s5 := F3.out.one.c 5
  have s8 := F3.out.one.c 8
  have s9 := F3.out.one.c 9
  simp at s3 s4 s5 s8 s9
  have h0 := Hh0.out
  have h1 := Hh1.out
  have h2 := Hh2.out
  have hb := Hhb.out
  have g0 : (x.en == 0) = true := by simpa using h0
  have g0' : (x.en != 0) = false := by simpa using h0
  have g1 : decide (on < x.st) = false := decide_eq_false (by omega)
  have gb : decide (i + 1 < x.bi) = false := decide_eq_false (by omega)
  have g2 : decide (on < x.si) = false := decide_eq_false (by omega)
  clear h0 h1 h2 hb
  go_wp2_with fail
  refine (HF.out _ (tabB HT.out F3.out.bel)).mono ?_
  rintro e w3 ⟨rfl, B3⟩
  have F4 := Lib.hid (F3.out.all B3)
  clear B3 F3 s3 s4 s5 s8 s9
  have s0 := F4.out.one.c 0
  have s1 := F4.out.one.c 1
  have s2 := F4.out.one.c 2
  have s3 := F4.out.one.c 3
  have s4 := F4.out.one.c 4
  have s5 := F4.out.one.c 5
  have s6 := F4.out.one.c 6
  have s7 := F4.out.one.c 7
  have s8 := F4.out.one.c 8
  have s9 := F4.out.one.c 9
  simp at s0 s1 s2 s3 s4 s5 s6 s7 s8 s9
  go_wp2_with fail
  refine (HL.out _ (tabB HT.out F4.out.bel)).mono ?_
  rintro e w4 ⟨rfl, B4⟩
  have F5 := Lib.hid (F4.out.all B4)
  clear B4 F4 s0 s1 s2 s3 s4 s5 s6 s7 s8 s9
  go_upto_region 16 with fail
  have F6 := F5.out.alloc (.cells #[.int .i64 pi, .int .i64 pf, .int .i64 pn, .int .i64 pe, .int .i64 pw, .int .i64 pp] 68)
  clear F5
  generalize w4.alloc _ = w5 at F6 ⊢
  have F6 := Lib.hid F6
  have s9 := F6.out.one.c 9
  have v9 := F6.out.one.f 9
  simp at s9
  go_upto_region 17 with fail
  have F7 := F6.out.setO 9 (.int .i64 on) rfl
  simp only [List.setIfInBounds_toArray, List.set_cons_zero, List.set_cons_succ] at F7
  clear F6 s9 v9
  generalize w5.setCell _ _ = w6 at F7 ⊢
  have F7 := Lib.hid F7
  have s0 := F7.out.one.c 0
  have s1 := F7.out.one.c 1
  have s2 := F7.out.one.c 2
  have s3 := F7.out.one.c 3
  have s4 := F7.out.one.c 4
  have s5 := F7.out.one.c 5
  have s6 := F7.out.one.c 6
  have s7 := F7.out.one.c 7
  have s8 := F7.out.one.c 8
  have s9 := F7.out.one.c 9
  simp at s0 s1 s2 s3 s4 s5 s6 s7 s8 s9
  have r0 := F7.out.two.c 0
  have q0 := F7.out.two.f 0
  have r1 := F7.out.two.c 1
  have q1 := F7.out.two.f 1
  have r2 := F7.out.two.c 2
  have q2 := F7.out.two.f 2
  have r3 := F7.out.two.c 3
  have q3 := F7.out.two.f 3
  have r4 := F7.out.two.c 4
  have q4 := F7.out.two.f 4
  have r5 := F7.out.two.c 5
  have q5 := F7.out.two.f 5
  have r6 := F7.out.two.c 6
  have q6 := F7.out.two.f 6
  have r7 := F7.out.two.c 7
  have q7 := F7.out.two.f 7
  have r8 := F7.out.two.c 8
  have q8 := F7.out.two.f 8
  have r9 := F7.out.two.c 9
  have q9 := F7.out.two.f 9
  have t0 := F7.out.tri.c 0
  have u0 := F7.out.tri.f 0
  have t1 := F7.out.tri.c 1
  have u1 := F7.out.tri.f 1
  have t2 := F7.out.tri.c 2
  have u2 := F7.out.tri.f 2
  have t3 := F7.out.tri.c 3
  have u3 := F7.out.tri.f 3
  simp [zs, zt] at r0 r1 r2 r3 r4 r5 r6 r7 r8 r9 t0 t1 t2 t3
  go_wp2
  go_region
  have FZ := Lib.hid (((F7.out.put10 { x with en := on }).put4 (.int .i64 0) (.int .i64 0) (.int .i64 0) (.int .i64 0)).drew)
  change Exit.then _ _ _ _ ((put4 (put10 _ (w.heap.size + 1) { x with en := on }) (w.heap.size + 1 + 1) (.int .i64 0) (.int .i64 0) (.int .i64 0) (.int .i64 0)).drew)
  clear r0 q0 r1 q1 r2 q2 r3 q3 r4 q4 r5 q5 r6 q6 r7 q7 r8 q8 r9 q9 t0 u0 t1 u1 t2 u2 t3 u3
  generalize (put4 (put10 _ (w.heap.size + 1) { x with en := on }) (w.heap.size + 1 + 1) (.int .i64 0) (.int .i64 0) (.int .i64 0) (.int .i64 0)).drew = V at FZ ⊢
  have r0 := FZ.out.two.c 0
  have r1 := FZ.out.two.c 1
  have r2 := FZ.out.two.c 2
  have r3 := FZ.out.two.c 3
  have r4 := FZ.out.two.c 4
  have r5 := FZ.out.two.c 5
  have r6 := FZ.out.two.c 6
  have r7 := FZ.out.two.c 7
  have r8 := FZ.out.two.c 8
  have r9 := FZ.out.two.c 9
  have t0 := FZ.out.tri.c 0
  have t1 := FZ.out.tri.c 1
  have t2 := FZ.out.tri.c 2
  have t3 := FZ.out.tri.c 3
  simp [sc] at r0 r1 r2 r3 r4 r5 r6 r7 r8 r9 t0 t1 t2 t3
  go_wp2
  exact bodyPost_ret (v := .tuple #[.agg #[.int .u64 x.id, .int .u64 x.cu, .int .u64 x.pl, .int .i64 x.st, .int .i64 x.an, .int .i64 x.ev, .int .i64 x.pr, .int .i64 x.bi, .int .i64 x.si, .int .i64 on], .agg #[.int .i64 0, .int .i64 0, .int .i64 0, .int .i64 0], .int .i64 0]) (by simp [results, Tryd.results12, go_sem, zs, r0, r1, r2, r3, r4, r5, r6, r7, r8, r9, t0, t1, t2, t3]) rfl ⟨rfl, FZ.out.bel⟩
set_option maxRecDepth 100000 in
set_option maxHeartbeats 4000000 in
theorem cancel_in (k : Nat) (x : Su) (on i f n pi pf pn pe pw pp cr : Int) (w : World) (T : Tab w) (hck : ckF k x = some 0) (hd : subs_day.f on = some true) (h0 : x.en = 0) (h1 : x.st ≤ on) (h2 : x.si ≤ on) (hf : ∀ w, Tab w → Calls Tryd.prog 31 #[.agg #[.int .i64 x.st, .int .i64 x.an, .int .i64 x.ev], .int .i64 on] w fun e w' => e = .returned (.tuple #[.int .i64 i, .int .i64 f, .int .i64 n, .int .i64 0]) ∧ Below w.heap.size w w') (hi : 0 ≤ i) (hi2 : i ≤ 200000) (hb : ¬ i + 1 < x.bi) (hl : subs_last.f x.id x.cu x.pl x.st x.an x.ev x.pr x.bi x.si x.en on = some (pi, pf, pn, pe, pw, pp, true)) (hcr : subs_period_on.f pi pf pn pe pw pp on pn = some cr) :
    Calls Tryd.prog 12 #[.agg (sc x), .int .i64 on, .bool true] w fun e w' => e = .returned (.tuple #[.agg (sc { x with en := on }), .agg #[.int .i64 on, .int .i64 pn, .int .i64 cr, .int .i64 0], .int .i64 0]) ∧ Below w.heap.size w w' := by
  have HL := Lib.hid (fun w (T : Tab w) => subs_last.calls x.id x.cu x.pl x.st x.an x.ev x.pr x.bi x.si x.en on pi pf pn pe pw pp true w (Aside0.mk T) hl)
  have HA := Lib.hid (fun w => subs_period_on.calls pi pf pn pe pw pp on pn cr w hcr)
  clear hl hcr
  have Hh0 := Lib.hid h0
  have Hh1 := Lib.hid h1
  have Hh2 := Lib.hid h2
  have Hhb := Lib.hid hb
  clear h0 h1 h2 hb
  have HP := Lib.hid (fun w (T : Tab w) => subs_Check.calls k x.id x.cu x.pl x.st x.an x.ev x.pr x.bi x.si x.en 0 w (Aside0.mk T) hck)
  have HD := Lib.hid (fun w => subs_day.calls on true w hd)
  have HF := Lib.hid hf
  have HT := Lib.hid T
  clear T hck hd hf
  have F1 := Lib.hid (F3.new w (sc x) zs zt 26 26 30)
  unfold sc at F1
  unfold sc
  go_enter Tryd.func12, Tryd.ntmps12
  go_wp2_with fail
  refine (HP.out _ (tabB HT.out (by have := F1.out.bel; unfold zs zt at this; exact this))).mono ?_
  rintro e w1 ⟨rfl, B1⟩
  have F2 := Lib.hid (F1.out.all (by unfold zs zt; exact B1))
  clear B1 F1
  go_wp2_with fail
  refine (HD.out _).mono ?_
  rintro e w2 ⟨rfl, D2⟩
  have F3 := Lib.hid (F2.out.all D2.below)
  clear D2 F2
  have s3 := F3.out.one.c 3
  have s4 := F3.out.one.c 4
  have s5 := F3.out.one.c 5
  have s8 := F3.out.one.c 8
  have s9 := F3.out.one.c 9
  simp at s3 s4 s5 s8 s9
  have h0 := Hh0.out
  have h1 := Hh1.out
  have h2 := Hh2.out
  have hb := Hhb.out
  have g0 : (x.en == 0) = true := by simpa using h0
  have g0' : (x.en != 0) = false := by simpa using h0
  have g1 : decide (on < x.st) = false := decide_eq_false (by omega)
  have gb : decide (i + 1 < x.bi) = false := decide_eq_false (by omega)
  have g2 : decide (on < x.si) = false := decide_eq_false (by omega)
  clear h0 h1 h2 hb
  go_wp2_with fail
  refine (HF.out _ (tabB HT.out F3.out.bel)).mono ?_
  rintro e w3 ⟨rfl, B3⟩
  have F4 := Lib.hid (F3.out.all B3)
  clear B3 F3 s3 s4 s5 s8 s9
  have s0 := F4.out.one.c 0
  have s1 := F4.out.one.c 1
  have s2 := F4.out.one.c 2
  have s3 := F4.out.one.c 3
  have s4 := F4.out.one.c 4
  have s5 := F4.out.one.c 5
  have s6 := F4.out.one.c 6
  have s7 := F4.out.one.c 7
  have s8 := F4.out.one.c 8
  have s9 := F4.out.one.c 9
  simp at s0 s1 s2 s3 s4 s5 s6 s7 s8 s9
  go_wp2_with fail
  refine (HL.out _ (tabB HT.out F4.out.bel)).mono ?_
  rintro e w4 ⟨rfl, B4⟩
  have F5 := Lib.hid (F4.out.all B4)
  clear B4 F4 s0 s1 s2 s3 s4 s5 s6 s7 s8 s9
  go_upto_region 15 with fail
  have P6 : Bl w4.heap.size #[.int .i64 pi, .int .i64 pf, .int .i64 pn, .int .i64 pe, .int .i64 pw, .int .i64 pp] 68 (w4.alloc (.cells #[.int .i64 pi, .int .i64 pf, .int .i64 pn, .int .i64 pe, .int .i64 pw, .int .i64 pp] 68)) := World.alloc_heap_new w4 _
  have F6 := F5.out.alloc (.cells #[.int .i64 pi, .int .i64 pf, .int .i64 pn, .int .i64 pe, .int .i64 pw, .int .i64 pp] 68)
  have hg := F5.out.tri.lt
  clear F5
  generalize w4.alloc _ = w5 at F6 P6 ⊢
  generalize w4.heap.size = g at hg P6 ⊢
  have HNE := Lib.hid (show g ≠ w.heap.size + 1 + 1 by omega)
  have F6 := Lib.hid F6.drew
  have P6 := Lib.hid (show Bl _ _ _ w5.drew from P6)
  go_region_held3 (fun w' => Bl g #[.int .i64 pi, .int .i64 pf, .int .i64 pn, .int .i64 pe, .int .i64 pw, .int .i64 pp] 68 w' ∧ w'.cell? ⟨g, 0, none⟩ = some (.int .i64 pi) ∧ w'.cell? ⟨g, 1, none⟩ = some (.int .i64 pf) ∧ w'.cell? ⟨g, 2, none⟩ = some (.int .i64 pn) ∧ w'.cell? ⟨g, 3, none⟩ = some (.int .i64 pe) ∧ w'.cell? ⟨g, 4, none⟩ = some (.int .i64 pw) ∧ w'.cell? ⟨g, 5, none⟩ = some (.int .i64 pp))
    (first
      | exact six P6.out
      | exact six P7.out
      | exact six ((((P7.out.far HNE.out 0 _).far HNE.out 1 _).far HNE.out 2 _).far HNE.out 3 _))
    (first
      | (go_at_call 26; refine (HA.out _).mono ?_; rintro e w6 ⟨rfl, B6⟩; have P7 := Lib.hid (P6.out.all B6); have F7 := Lib.hid (F6.out.all B6); have u0 := F7.out.tri.f 0; have t0 := F7.out.tri.c 0; have u1 := F7.out.tri.f 1; have t1 := F7.out.tri.c 1; have u2 := F7.out.tri.f 2; have t2 := F7.out.tri.c 2; have u3 := F7.out.tri.f 3; have t3 := F7.out.tri.c 3; simp [zt] at t0 t1 t2 t3; clear B6))
  change Exit.then _ _ _ _ (put4 w6 (w.heap.size + 1 + 1) (.int .i64 on) (.int .i64 pn) (.int .i64 cr) (.int .i64 0))
  have F8 := Lib.hid (F7.out.put4 (.int .i64 on) (.int .i64 pn) (.int .i64 cr) (.int .i64 0))
  clear t0 t1 t2 t3 u0 u1 u2 u3 F7 P7 P6 F6
  generalize put4 w6 (w.heap.size + 1 + 1) (.int .i64 on) (.int .i64 pn) (.int .i64 cr) (.int .i64 0) = w7 at F8 ⊢
  have s9 := F8.out.one.c 9
  have v9 := F8.out.one.f 9
  simp at s9
  go_upto_region 17 with fail
  have F9 := F8.out.setO 9 (.int .i64 on) rfl
  simp only [List.setIfInBounds_toArray, List.set_cons_zero, List.set_cons_succ] at F9
  clear F8 s9 v9
  generalize w7.setCell _ _ = w8 at F9 ⊢
  have F9 := Lib.hid F9
  have s0 := F9.out.one.c 0
  have s1 := F9.out.one.c 1
  have s2 := F9.out.one.c 2
  have s3 := F9.out.one.c 3
  have s4 := F9.out.one.c 4
  have s5 := F9.out.one.c 5
  have s6 := F9.out.one.c 6
  have s7 := F9.out.one.c 7
  have s8 := F9.out.one.c 8
  have s9 := F9.out.one.c 9
  simp at s0 s1 s2 s3 s4 s5 s6 s7 s8 s9
  have r0 := F9.out.two.c 0
  have q0 := F9.out.two.f 0
  have r1 := F9.out.two.c 1
  have q1 := F9.out.two.f 1
  have r2 := F9.out.two.c 2
  have q2 := F9.out.two.f 2
  have r3 := F9.out.two.c 3
  have q3 := F9.out.two.f 3
  have r4 := F9.out.two.c 4
  have q4 := F9.out.two.f 4
  have r5 := F9.out.two.c 5
  have q5 := F9.out.two.f 5
  have r6 := F9.out.two.c 6
  have q6 := F9.out.two.f 6
  have r7 := F9.out.two.c 7
  have q7 := F9.out.two.f 7
  have r8 := F9.out.two.c 8
  have q8 := F9.out.two.f 8
  have r9 := F9.out.two.c 9
  have q9 := F9.out.two.f 9
  have t0 := F9.out.tri.c 0
  have u0 := F9.out.tri.f 0
  have t1 := F9.out.tri.c 1
  have u1 := F9.out.tri.f 1
  have t2 := F9.out.tri.c 2
  have u2 := F9.out.tri.f 2
  have t3 := F9.out.tri.c 3
  have u3 := F9.out.tri.f 3
  simp [zs, zt] at r0 r1 r2 r3 r4 r5 r6 r7 r8 r9 t0 t1 t2 t3
  go_wp2
  go_region
  have FZ := Lib.hid (((F9.out.put10 { x with en := on }).put4 (.int .i64 on) (.int .i64 pn) (.int .i64 cr) (.int .i64 0)).drew)
  change Exit.then _ _ _ _ ((put4 (put10 _ (w.heap.size + 1) { x with en := on }) (w.heap.size + 1 + 1) (.int .i64 on) (.int .i64 pn) (.int .i64 cr) (.int .i64 0)).drew)
  clear r0 q0 r1 q1 r2 q2 r3 q3 r4 q4 r5 q5 r6 q6 r7 q7 r8 q8 r9 q9 t0 u0 t1 u1 t2 u2 t3 u3
  generalize (put4 (put10 _ (w.heap.size + 1) { x with en := on }) (w.heap.size + 1 + 1) (.int .i64 on) (.int .i64 pn) (.int .i64 cr) (.int .i64 0)).drew = V at FZ ⊢
  have r0 := FZ.out.two.c 0
  have r1 := FZ.out.two.c 1
  have r2 := FZ.out.two.c 2
  have r3 := FZ.out.two.c 3
  have r4 := FZ.out.two.c 4
  have r5 := FZ.out.two.c 5
  have r6 := FZ.out.two.c 6
  have r7 := FZ.out.two.c 7
  have r8 := FZ.out.two.c 8
  have r9 := FZ.out.two.c 9
  have t0 := FZ.out.tri.c 0
  have t1 := FZ.out.tri.c 1
  have t2 := FZ.out.tri.c 2
  have t3 := FZ.out.tri.c 3
  simp [sc] at r0 r1 r2 r3 r4 r5 r6 r7 r8 r9 t0 t1 t2 t3
  go_wp2
  exact bodyPost_ret (v := .tuple #[.agg #[.int .u64 x.id, .int .u64 x.cu, .int .u64 x.pl, .int .i64 x.st, .int .i64 x.an, .int .i64 x.ev, .int .i64 x.pr, .int .i64 x.bi, .int .i64 x.si, .int .i64 on], .agg #[.int .i64 on, .int .i64 pn, .int .i64 cr, .int .i64 0], .int .i64 0]) (by simp [results, Tryd.results12, go_sem, zs, r0, r1, r2, r3, r4, r5, r6, r7, r8, r9, t0, t1, t2, t3]) rfl ⟨rfl, FZ.out.bel⟩
end Go.Proofs.YtibkbimhedoafaaDoor.psub
