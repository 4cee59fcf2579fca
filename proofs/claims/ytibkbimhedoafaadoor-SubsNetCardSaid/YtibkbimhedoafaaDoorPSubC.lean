/- What subs.Due answers (a walk). The table of the days ahead of months holds its numbers. -/
-- HYB
import Derived.Test.YtibkbimhedoafaaDoorPSubB
import Derived.Test.YtibkbimhedoafaaDoorPHx4
import Derived.Test.YtibkbimhedoafaaDoorPHx5
namespace Go.Proofs.YtibkbimhedoafaaDoor.psub
open Go.RowKit Go.Proofs.YtibkbimhedoafaaDoor.base Go.Shelf Go.Proofs.YtibkbimhedoafaaDoor.rl Sb
open Go.Proofs.YtibkbimhedoafaaDoor.PH (subs_Check.f subs_Check.calls subs_day.f subs_day.calls)
open Go.Proofs.YtibkbimhedoafaaDoor.lift
open Go.Proofs.YtibkbimhedoafaaDoor.civ (Tab)
open Go.Proofs.YtibkbimhedoafaaDoorW.PrintLast (take_ pure_ one_ skip_ last_ goes_ norm_ value_ i64_w i32_w)
open Go.Proofs.YtibkbimhedoafaaDoorW.PrintWords (blk_grown blk_alloc blk_new blk_cell blk_frozen blk_far blk_set blk_drew below_drew1 Aside0)
set_option linter.unusedSimpArgs false
attribute [local go_sem] Oper.semAt_some min2_int min_two

def zs : Array Value := #[.int .u64 0, .int .u64 0, .int .u64 0, .int .i64 0, .int .i64 0, .int .i64 0, .int .i64 0, .int .i64 0, .int .i64 0, .int .i64 0]
def putZ (W : World) (b : Nat) : World := ((((((((((W.setCell ⟨b, 0, none⟩ (.int .u64 0)).setCell ⟨b, 1, none⟩ (.int .u64 0)).setCell ⟨b, 2, none⟩ (.int .u64 0)).setCell ⟨b, 3, none⟩ (.int .i64 0)).setCell ⟨b, 4, none⟩ (.int .i64 0)).setCell ⟨b, 5, none⟩ (.int .i64 0)).setCell ⟨b, 6, none⟩ (.int .i64 0)).setCell ⟨b, 7, none⟩ (.int .i64 0)).setCell ⟨b, 8, none⟩ (.int .i64 0)).setCell ⟨b, 9, none⟩ (.int .i64 0))
theorem putZ_self (W : World) (b : Nat) (z0 z1 z2 z3 z4 z5 z6 z7 z8 z9 : Value) (t : TypeId) (h : W.heap[b]? = some (.cells #[z0, z1, z2, z3, z4, z5, z6, z7, z8, z9] t (0, 0))) : (putZ W b).heap[b]? = some (.cells zs t (0, 0)) := by
  have := (blk_set (blk_set (blk_set (blk_set (blk_set (blk_set (blk_set (blk_set (blk_set (blk_set h 0 (.int .u64 0)) 1 (.int .u64 0)) 2 (.int .u64 0)) 3 (.int .i64 0)) 4 (.int .i64 0)) 5 (.int .i64 0)) 6 (.int .i64 0)) 7 (.int .i64 0)) 8 (.int .i64 0)) 9 (.int .i64 0))
  simpa [putZ, zs] using this
theorem putZ_below {m : Nat} {w W : World} (h : Below m w W) (b : Nat) (hb : m ≤ b) : Below m w (putZ W b) := (((((((((h.setCell hb _).setCell hb _).setCell hb _).setCell hb _).setCell hb _).setCell hb _).setCell hb _).setCell hb _).setCell hb _).setCell hb _
noncomputable def ckF (k : Nat) (x : Su) : Option Int := subs_Check.f k x.id x.cu x.pl x.st x.an x.ev x.pr x.bi x.si x.en
set_option maxRecDepth 100000 in
set_option maxHeartbeats 4000000 in
theorem due_no (k : Nat) (x : Su) (today most : Int) (c : Int) (d : Bool) (w : World) (T : Tab w) (hc : ckF k x = some c) (hd : subs_day.f today = some d) (hb : c ≠ 0 ∨ d = false ∨ most < 1 ∨ 1000 < most) :
    Calls Tryd.prog 14 #[.agg (sc x), .int .i64 today, .int .i64 most] w fun e w' =>
      e = .returned (.tuple #[.slice none 0 0, .agg zs, .int .i64 2]) ∧ Below w.heap.size w w' := by
  have hP := fun w (T : Tab w) => subs_Check.calls k x.id x.cu x.pl x.st x.an x.ev x.pr x.bi x.si x.en c w (Aside0.mk T) hc
  have hD := fun w => subs_day.calls today d w hd
  have HT := Lib.hid T
  have HP := Lib.hid hP
  have HD := Lib.hid hD
  have hTl := tab_lt T
  clear T hP hD hc hd
  refine (callsIn_wide (n := 3)).1 ?_
  refine callsIn_of_wp_marks Tryd.func14 rfl trivial ?_ rfl
  simp only [Tryd.ntmps14, List.size_toArray, List.length_cons, List.length_nil, Nat.reduceAdd, Nat.reduceSub, Array.replicate_succ, Array.replicate_zero, List.push_toArray, List.append_toArray, List.nil_append, List.cons_append]
  obtain ⟨f1, f2, f3, f4⟩ := four w (.cells (sc x) 26 (0, 0)) (.cells #[.int .i64 today] 3 (0, 0)) (.cells #[.int .i64 most] 3 (0, 0)) (.cells zs 26 (0, 0))
  have b0 : Below w.heap.size w ((((w.alloc (.cells (sc x) 26 (0, 0))).alloc (.cells #[.int .i64 today] 3 (0, 0))).alloc (.cells #[.int .i64 most] 3 (0, 0))).alloc (.cells zs 26 (0, 0))) :=
    (((Below.refl _ w).alloc (Nat.le_refl _) _ |>.alloc (by simp) _).alloc (by simp; omega) _).alloc (by simp; omega) _
  have T1 := Lib.hid (show Tab _ from fun i hi => (b0.cell (p := ⟨0, i, none⟩) hTl).trans (HT.out i hi))
  have F1 := Lib.hid (And.intro f1 (And.intro f2 (And.intro f3 (And.intro f4 b0))))
  clear f1 f2 f3 f4 b0
  unfold sc zs at F1 T1
  unfold sc
  gi_wp2_with fail
  refine ⟨trivial, (callsIn_wide.2 (HP.out _ T1.out)).mono ?_⟩
  rintro e w2 ⟨rfl, B2⟩
  have F2 := Lib.hid (And.intro ((B2.block w.heap.size (by simp only [World.size_alloc]; omega)).trans F1.out.1) (And.intro ((B2.block (w.heap.size + 1) (by simp only [World.size_alloc]; omega)).trans F1.out.2.1) (And.intro ((B2.block (w.heap.size + 1 + 1) (by simp only [World.size_alloc]; omega)).trans F1.out.2.2.1)
    (And.intro ((B2.block (w.heap.size + 1 + 1 + 1) (by simp only [World.size_alloc]; omega)).trans F1.out.2.2.2.1) (F1.out.2.2.2.2.trans (B2.mono (by simp only [World.size_alloc]; omega)))))))
  clear B2 F1 T1
  have d0 := blk_cell F2.out.2.1 0
  have m0 := blk_cell F2.out.2.2.1 0
  simp at d0 m0
  by_cases h0 : c = 0
  · subst h0
    gi_wp2_with fail
    refine ⟨trivial, (callsIn_wide.2 (HD.out _)).mono ?_⟩
    rintro e w3 ⟨rfl, D3⟩
    have F3 := Lib.hid (D3.below)
    obtain ⟨n3, hn3⟩ := D3.out
    have e3 : w3.heap = w2.heap := by rw [hn3]; rfl
    have F3 := Lib.hid (show w3.heap[w.heap.size]? = _ ∧ w3.heap[w.heap.size + 1]? = _ ∧ w3.heap[w.heap.size + 1 + 1]? = _ ∧ w3.heap[w.heap.size + 1 + 1 + 1]? = _ ∧ Below w.heap.size w w3 from by
      rw [e3]; exact ⟨F2.out.1, F2.out.2.1, F2.out.2.2.1, F2.out.2.2.2.1, F2.out.2.2.2.2.trans (D3.below.mono F2.out.2.2.2.2.size)⟩)
    clear F2 d0 m0 D3 hn3 e3
    have m0 := blk_cell F3.out.2.2.1 0
    simp at m0
    by_cases h1 : d = true
    · subst h1
      by_cases h2 : most < 1
      · have g2 := decide_eq_true h2
        have r0 := blk_cell F3.out.2.2.2.1 0
        have q0 := blk_frozen F3.out.2.2.2.1 0
        have r1 := blk_cell F3.out.2.2.2.1 1
        have q1 := blk_frozen F3.out.2.2.2.1 1
        have r2 := blk_cell F3.out.2.2.2.1 2
        have q2 := blk_frozen F3.out.2.2.2.1 2
        have r3 := blk_cell F3.out.2.2.2.1 3
        have q3 := blk_frozen F3.out.2.2.2.1 3
        have r4 := blk_cell F3.out.2.2.2.1 4
        have q4 := blk_frozen F3.out.2.2.2.1 4
        have r5 := blk_cell F3.out.2.2.2.1 5
        have q5 := blk_frozen F3.out.2.2.2.1 5
        have r6 := blk_cell F3.out.2.2.2.1 6
        have q6 := blk_frozen F3.out.2.2.2.1 6
        have r7 := blk_cell F3.out.2.2.2.1 7
        have q7 := blk_frozen F3.out.2.2.2.1 7
        have r8 := blk_cell F3.out.2.2.2.1 8
        have q8 := blk_frozen F3.out.2.2.2.1 8
        have r9 := blk_cell F3.out.2.2.2.1 9
        have q9 := blk_frozen F3.out.2.2.2.1 9
        simp at r0 r1 r2 r3 r4 r5 r6 r7 r8 r9
        gi_wp2_with fail
        have hz := putZ_self w3 (w.heap.size + 1 + 1 + 1) _ _ _ _ _ _ _ _ _ _ _ F3.out.2.2.2.1
        have hB := putZ_below F3.out.2.2.2.2 (w.heap.size + 1 + 1 + 1) (by omega)
        change bodyPostM _ _ _ _ _ _ _ (putZ w3 (w.heap.size + 1 + 1 + 1))
        generalize putZ w3 (w.heap.size + 1 + 1 + 1) = V at hz hB ⊢
        have t0 := blk_cell hz 0
        have t1 := blk_cell hz 1
        have t2 := blk_cell hz 2
        have t3 := blk_cell hz 3
        have t4 := blk_cell hz 4
        have t5 := blk_cell hz 5
        have t6 := blk_cell hz 6
        have t7 := blk_cell hz 7
        have t8 := blk_cell hz 8
        have t9 := blk_cell hz 9
        simp [zs] at t0 t1 t2 t3 t4 t5 t6 t7 t8 t9
        refine ⟨.tuple #[.slice none 0 0, .agg zs, .int .i64 2], ?_, rfl, hB⟩
        simp [results, Tryd.results14, go_sem, t0, t1, t2, t3, t4, t5, t6, t7, t8, t9, zs]
      · have g2 := decide_eq_false h2
        have h3 : 1000 < most := by simpa [h2] using hb
        have g3 := decide_eq_true h3
        have r0 := blk_cell F3.out.2.2.2.1 0
        have q0 := blk_frozen F3.out.2.2.2.1 0
        have r1 := blk_cell F3.out.2.2.2.1 1
        have q1 := blk_frozen F3.out.2.2.2.1 1
        have r2 := blk_cell F3.out.2.2.2.1 2
        have q2 := blk_frozen F3.out.2.2.2.1 2
        have r3 := blk_cell F3.out.2.2.2.1 3
        have q3 := blk_frozen F3.out.2.2.2.1 3
        have r4 := blk_cell F3.out.2.2.2.1 4
        have q4 := blk_frozen F3.out.2.2.2.1 4
        have r5 := blk_cell F3.out.2.2.2.1 5
        have q5 := blk_frozen F3.out.2.2.2.1 5
        have r6 := blk_cell F3.out.2.2.2.1 6
        have q6 := blk_frozen F3.out.2.2.2.1 6
        have r7 := blk_cell F3.out.2.2.2.1 7
        have q7 := blk_frozen F3.out.2.2.2.1 7
        have r8 := blk_cell F3.out.2.2.2.1 8
        have q8 := blk_frozen F3.out.2.2.2.1 8
        have r9 := blk_cell F3.out.2.2.2.1 9
        have q9 := blk_frozen F3.out.2.2.2.1 9
        simp at r0 r1 r2 r3 r4 r5 r6 r7 r8 r9
        gi_wp2_with fail
        have hz := putZ_self w3 (w.heap.size + 1 + 1 + 1) _ _ _ _ _ _ _ _ _ _ _ F3.out.2.2.2.1
        have hB := putZ_below F3.out.2.2.2.2 (w.heap.size + 1 + 1 + 1) (by omega)
        change bodyPostM _ _ _ _ _ _ _ (putZ w3 (w.heap.size + 1 + 1 + 1))
        generalize putZ w3 (w.heap.size + 1 + 1 + 1) = V at hz hB ⊢
        have t0 := blk_cell hz 0
        have t1 := blk_cell hz 1
        have t2 := blk_cell hz 2
        have t3 := blk_cell hz 3
        have t4 := blk_cell hz 4
        have t5 := blk_cell hz 5
        have t6 := blk_cell hz 6
        have t7 := blk_cell hz 7
        have t8 := blk_cell hz 8
        have t9 := blk_cell hz 9
        simp [zs] at t0 t1 t2 t3 t4 t5 t6 t7 t8 t9
        refine ⟨.tuple #[.slice none 0 0, .agg zs, .int .i64 2], ?_, rfl, hB⟩
        simp [results, Tryd.results14, go_sem, t0, t1, t2, t3, t4, t5, t6, t7, t8, t9, zs]
    · have g1 : d = false := by simpa using h1
      subst g1
      have r0 := blk_cell F3.out.2.2.2.1 0
      have q0 := blk_frozen F3.out.2.2.2.1 0
      have r1 := blk_cell F3.out.2.2.2.1 1
      have q1 := blk_frozen F3.out.2.2.2.1 1
      have r2 := blk_cell F3.out.2.2.2.1 2
      have q2 := blk_frozen F3.out.2.2.2.1 2
      have r3 := blk_cell F3.out.2.2.2.1 3
      have q3 := blk_frozen F3.out.2.2.2.1 3
      have r4 := blk_cell F3.out.2.2.2.1 4
      have q4 := blk_frozen F3.out.2.2.2.1 4
      have r5 := blk_cell F3.out.2.2.2.1 5
      have q5 := blk_frozen F3.out.2.2.2.1 5
      have r6 := blk_cell F3.out.2.2.2.1 6
      have q6 := blk_frozen F3.out.2.2.2.1 6
      have r7 := blk_cell F3.out.2.2.2.1 7
      have q7 := blk_frozen F3.out.2.2.2.1 7
      have r8 := blk_cell F3.out.2.2.2.1 8
      have q8 := blk_frozen F3.out.2.2.2.1 8
      have r9 := blk_cell F3.out.2.2.2.1 9
      have q9 := blk_frozen F3.out.2.2.2.1 9
      simp at r0 r1 r2 r3 r4 r5 r6 r7 r8 r9
      gi_wp2_with fail
      have hz := putZ_self w3 (w.heap.size + 1 + 1 + 1) _ _ _ _ _ _ _ _ _ _ _ F3.out.2.2.2.1
      have hB := putZ_below F3.out.2.2.2.2 (w.heap.size + 1 + 1 + 1) (by omega)
      change bodyPostM _ _ _ _ _ _ _ (putZ w3 (w.heap.size + 1 + 1 + 1))
      generalize putZ w3 (w.heap.size + 1 + 1 + 1) = V at hz hB ⊢
      have t0 := blk_cell hz 0
      have t1 := blk_cell hz 1
      have t2 := blk_cell hz 2
      have t3 := blk_cell hz 3
      have t4 := blk_cell hz 4
      have t5 := blk_cell hz 5
      have t6 := blk_cell hz 6
      have t7 := blk_cell hz 7
      have t8 := blk_cell hz 8
      have t9 := blk_cell hz 9
      simp [zs] at t0 t1 t2 t3 t4 t5 t6 t7 t8 t9
      refine ⟨.tuple #[.slice none 0 0, .agg zs, .int .i64 2], ?_, rfl, hB⟩
      simp [results, Tryd.results14, go_sem, t0, t1, t2, t3, t4, t5, t6, t7, t8, t9, zs]
  · have g0 : (c != 0) = true := by simpa using h0
    have r0 := blk_cell F2.out.2.2.2.1 0
    have q0 := blk_frozen F2.out.2.2.2.1 0
    have r1 := blk_cell F2.out.2.2.2.1 1
    have q1 := blk_frozen F2.out.2.2.2.1 1
    have r2 := blk_cell F2.out.2.2.2.1 2
    have q2 := blk_frozen F2.out.2.2.2.1 2
    have r3 := blk_cell F2.out.2.2.2.1 3
    have q3 := blk_frozen F2.out.2.2.2.1 3
    have r4 := blk_cell F2.out.2.2.2.1 4
    have q4 := blk_frozen F2.out.2.2.2.1 4
    have r5 := blk_cell F2.out.2.2.2.1 5
    have q5 := blk_frozen F2.out.2.2.2.1 5
    have r6 := blk_cell F2.out.2.2.2.1 6
    have q6 := blk_frozen F2.out.2.2.2.1 6
    have r7 := blk_cell F2.out.2.2.2.1 7
    have q7 := blk_frozen F2.out.2.2.2.1 7
    have r8 := blk_cell F2.out.2.2.2.1 8
    have q8 := blk_frozen F2.out.2.2.2.1 8
    have r9 := blk_cell F2.out.2.2.2.1 9
    have q9 := blk_frozen F2.out.2.2.2.1 9
    simp at r0 r1 r2 r3 r4 r5 r6 r7 r8 r9
    gi_wp2_with fail
    refine ⟨trivial, ?_⟩
    gi_wp2_with fail
    have hz := putZ_self w2 (w.heap.size + 1 + 1 + 1) _ _ _ _ _ _ _ _ _ _ _ F2.out.2.2.2.1
    have hB := putZ_below F2.out.2.2.2.2 (w.heap.size + 1 + 1 + 1) (by omega)
    change bodyPostM _ _ _ _ _ _ _ (putZ w2 (w.heap.size + 1 + 1 + 1))
    generalize putZ w2 (w.heap.size + 1 + 1 + 1) = V at hz hB ⊢
    have t0 := blk_cell hz 0
    have t1 := blk_cell hz 1
    have t2 := blk_cell hz 2
    have t3 := blk_cell hz 3
    have t4 := blk_cell hz 4
    have t5 := blk_cell hz 5
    have t6 := blk_cell hz 6
    have t7 := blk_cell hz 7
    have t8 := blk_cell hz 8
    have t9 := blk_cell hz 9
    simp [zs] at t0 t1 t2 t3 t4 t5 t6 t7 t8 t9
    refine ⟨.tuple #[.slice none 0 0, .agg zs, .int .i64 2], ?_, rfl, hB⟩
    simp [results, Tryd.results14, go_sem, t0, t1, t2, t3, t4, t5, t6, t7, t8, t9, zs]
end Go.Proofs.YtibkbimhedoafaaDoor.psub
