/- What subs.Change answers (walks). The table of the days ahead of months holds its numbers. What subs.Cancel answers (walks, printed by gen/mksubg.py). The table of the days ahead of months holds its numbers. subs.Change and subs.Cancel in the printed form. The table of the days ahead of months holds its numbers. -/
import Derived.Test.YtibkbimhedoafaaDoorPSubD
import Derived.Deep.RegionHeld3
import Derived.RegionTactic
import Derived.BigRegion
-- HYB
namespace Go.Proofs.YtibkbimhedoafaaDoor.psub
open Go.RowKit Go.Proofs.YtibkbimhedoafaaDoor.base Go.Shelf Sb
open Go.Proofs.YtibkbimhedoafaaDoor.PH (subs_Check.f subs_Check.calls subs_day.f subs_day.calls subs_last.f subs_last.calls subs_period_on.f subs_period_on.calls)
open Go.Proofs.YtibkbimhedoafaaDoor.civ (Tab)
open Go.Proofs.YtibkbimhedoafaaDoorW.PrintWords (blk_grown blk_alloc blk_new blk_cell blk_frozen blk_far blk_set blk_drew below_drew1 Aside0)
set_option linter.unusedSimpArgs false
attribute [local go_sem] Oper.semAt_some min2_int min_two
/-- A block of cells. -/
def Bl (b : Nat) (cs : Array Value) (t : TypeId) (W : World) : Prop := W.heap[b]? = some (.cells cs t (0, 0))
theorem Bl.lt {b : Nat} {cs : Array Value} {t : TypeId} {W : World} (h : Bl b cs t W) : b < W.heap.size := (Array.getElem?_eq_some_iff.1 h).1
theorem Bl.all {b : Nat} {cs : Array Value} {t : TypeId} {W V : World} (h : Bl b cs t W) (hB : Below W.heap.size W V) : Bl b cs t V := (hB.block b h.lt).trans h
theorem Bl.alloc {b : Nat} {cs : Array Value} {t : TypeId} {W : World} (h : Bl b cs t W) (o : Obj) : Bl b cs t (W.alloc o) := (Below.heap_alloc _ _ _ h.lt).trans h
theorem Bl.far {b : Nat} {cs : Array Value} {t : TypeId} {W : World} (h : Bl b cs t W) {c : Nat} (hn : b ≠ c) (i : Nat) (v : Value) : Bl b cs t (W.setCell ⟨c, i, none⟩ v) := (Below.heap_setCell W ⟨c, i, none⟩ v b hn).trans h
theorem six {g : Nat} {a0 a1 a2 a3 a4 a5 : Value} {t : TypeId} {V : World} (h : Bl g #[a0, a1, a2, a3, a4, a5] t V) : Bl g #[a0, a1, a2, a3, a4, a5] t V ∧ V.cell? ⟨g, 0, none⟩ = some a0 ∧ V.cell? ⟨g, 1, none⟩ = some a1 ∧ V.cell? ⟨g, 2, none⟩ = some a2 ∧ V.cell? ⟨g, 3, none⟩ = some a3 ∧ V.cell? ⟨g, 4, none⟩ = some a4 ∧ V.cell? ⟨g, 5, none⟩ = some a5 :=
  ⟨h, blk_cell h 0, blk_cell h 1, blk_cell h 2, blk_cell h 3, blk_cell h 4, blk_cell h 5⟩
/-- Four cells are stored. -/
def put4 (W : World) (b : Nat) (v0 v1 v2 v3 : Value) : World := (((W.setCell ⟨b, 0, none⟩ v0).setCell ⟨b, 1, none⟩ v1).setCell ⟨b, 2, none⟩ v2).setCell ⟨b, 3, none⟩ v3
theorem Bl.put4 {b : Nat} {cs : Array Value} {t : TypeId} {W : World} (h : Bl b cs t W) {c : Nat} (hn : b ≠ c) (v0 v1 v2 v3 : Value) : Bl b cs t (put4 W c v0 v1 v2 v3) := (((h.far hn 0 _).far hn 1 _).far hn 2 _).far hn 3 _
/-- Four blocks, and what lay ahead of them. -/
structure F4 (w : World) (c1 c2 c3 c4 : Array Value) (t1 t2 t3 t4 : TypeId) (W : World) : Prop where
  one : Bl w.heap.size c1 t1 W
  two : Bl (w.heap.size + 1) c2 t2 W
  tri : Bl (w.heap.size + 1 + 1) c3 t3 W
  fou : Bl (w.heap.size + 1 + 1 + 1) c4 t4 W
  bel : Below w.heap.size w W
section
variable {w W V : World} {c1 c2 c3 c4 : Array Value} {t1 t2 t3 t4 : TypeId}
theorem F4.new (w : World) (c1 c2 c3 c4 : Array Value) (t1 t2 t3 t4 : TypeId) : F4 w c1 c2 c3 c4 t1 t2 t3 t4 ((((w.alloc (.cells c1 t1 (0, 0))).alloc (.cells c2 t2 (0, 0))).alloc (.cells c3 t3 (0, 0))).alloc (.cells c4 t4 (0, 0))) := by
  obtain ⟨f1, f2, f3, f4⟩ := four w (.cells c1 t1 (0, 0)) (.cells c2 t2 (0, 0)) (.cells c3 t3 (0, 0)) (.cells c4 t4 (0, 0))
  exact ⟨f1, f2, f3, f4, (((Below.refl _ w).alloc (Nat.le_refl _) _ |>.alloc (by simp) _).alloc (by simp; omega) _).alloc (by simp; omega) _⟩
theorem F4.all (h : F4 w c1 c2 c3 c4 t1 t2 t3 t4 W) (hB : Below W.heap.size W V) : F4 w c1 c2 c3 c4 t1 t2 t3 t4 V := ⟨h.one.all hB, h.two.all hB, h.tri.all hB, h.fou.all hB, h.bel.trans (hB.mono h.bel.size)⟩
theorem F4.alloc (h : F4 w c1 c2 c3 c4 t1 t2 t3 t4 W) (o : Obj) : F4 w c1 c2 c3 c4 t1 t2 t3 t4 (W.alloc o) := ⟨h.one.alloc o, h.two.alloc o, h.tri.alloc o, h.fou.alloc o, h.bel.alloc h.bel.size o⟩
theorem F4.put4 {z0 z1 z2 z3 : Value} (h : F4 w c1 c2 c3 #[z0, z1, z2, z3] t1 t2 t3 t4 W) (v0 v1 v2 v3 : Value) : F4 w c1 c2 c3 #[v0, v1, v2, v3] t1 t2 t3 t4 (put4 W (w.heap.size + 1 + 1 + 1) v0 v1 v2 v3) :=
  ⟨h.one.put4 (by omega) _ _ _ _, h.two.put4 (by omega) _ _ _ _, h.tri.put4 (by omega) _ _ _ _, by
    have := blk_set (blk_set (blk_set (blk_set h.fou 0 v0) 1 v1) 2 v2) 3 v3
    simpa [psub.put4, Bl] using this, (((h.bel.setCell (by simp; omega) _).setCell (by simp; omega) _).setCell (by simp; omega) _).setCell (by simp; omega) _⟩
theorem F4.far (h : F4 w c1 c2 c3 c4 t1 t2 t3 t4 W) {g : Nat} (hg : w.heap.size + 1 + 1 + 1 < g) (i : Nat) (v : Value) : F4 w c1 c2 c3 c4 t1 t2 t3 t4 (W.setCell ⟨g, i, none⟩ v) :=
  ⟨h.one.far (by omega) _ _, h.two.far (by omega) _ _, h.tri.far (by omega) _ _, h.fou.far (by omega) _ _, h.bel.setCell (by simp; omega) _⟩
theorem F4.setF {z0 z1 z2 z3 : Value} (h : F4 w c1 c2 c3 #[z0, z1, z2, z3] t1 t2 t3 t4 W) (v : Value) : F4 w c1 c2 c3 #[z0, z1, z2, v] t1 t2 t3 t4 (W.setCell ⟨w.heap.size + 1 + 1 + 1, 3, none⟩ v) :=
  ⟨h.one.far (by omega) _ _, h.two.far (by omega) _ _, h.tri.far (by omega) _ _, by
    have := blk_set h.fou 3 v
    simpa [Bl] using this, h.bel.setCell (by simp; omega) _⟩
theorem F4.setO {d : Array Value} (h : F4 w c1 c2 c3 c4 t1 t2 t3 t4 W) (i : Nat) (v : Value) (hd : c1.setIfInBounds i v = d) : F4 w d c2 c3 c4 t1 t2 t3 t4 (W.setCell ⟨w.heap.size, i, none⟩ v) :=
  ⟨by rw [← hd]; exact blk_set h.one i v, h.two.far (by omega) _ _, h.tri.far (by omega) _ _, h.fou.far (by omega) _ _, h.bel.setCell (by simp) _⟩
theorem F4.drew (h : F4 w c1 c2 c3 c4 t1 t2 t3 t4 W) : F4 w c1 c2 c3 c4 t1 t2 t3 t4 W.drew := ⟨h.one, h.two, h.tri, h.fou, h.bel.drew⟩
theorem F4.put10 (h : F4 w c1 c2 zs c4 t1 t2 t3 t4 W) (y : Su) : F4 w c1 c2 (sc y) c4 t1 t2 t3 t4 (put10 W (w.heap.size + 1 + 1) y) :=
  ⟨(put10_heap _ _ _ _ (by omega)).trans h.one, (put10_heap _ _ _ _ (by omega)).trans h.two, put10_self _ _ _ _ h.tri, (put10_heap _ _ _ _ (by omega)).trans h.fou, put10_below h.bel _ _ (by omega)⟩
end
theorem tabB {w W : World} (T : Tab w) (h : Below w.heap.size w W) : Tab W := fun i hi => (h.cell (p := ⟨0, i, none⟩) (tab_lt T)).trans (T i hi)
/-- The cells of the four blocks are read and may be written. -/
theorem Bl.c {b : Nat} {cs : Array Value} {t : TypeId} {W : World} (h : Bl b cs t W) (i : Nat) : W.cell? ⟨b, i, none⟩ = cs[i]? := blk_cell h i
theorem Bl.f {b : Nat} {cs : Array Value} {t : TypeId} {W : World} (h : Bl b cs t W) (i : Nat) : W.frozen? ⟨b, i, none⟩ = false := blk_frozen h i
def zt : Array Value := #[.int .i64 0, .int .i64 0, .int .i64 0, .int .i64 0]
set_option maxRecDepth 100000 in
set_option maxHeartbeats 4000000 in
theorem change_main (k : Nat) (x : Su) (on plan price i f n en wh p cr ch : Int) (w : World) (T : Tab w) (hck : ckF k x = some 0) (hd : subs_day.f on = some true) (h1 : plan ≠ 0) (h2 : 0 ≤ price) (h3 : price < 4611686018427387904)
    (hl : subs_last.f x.id x.cu x.pl x.st x.an x.ev x.pr x.bi x.si x.en on = some (i, f, n, en, wh, p, true)) (hcr : subs_period_on.f i f n en wh p on en = some cr) (hch : subs_period_on.f i f n en wh price on en = some ch) :
    Calls Tryd.prog 9 #[.agg (sc x), .int .i64 on, .agg #[.int .u64 plan, .int .i64 price]] w fun e w' =>
      e = .returned (.tuple #[.agg (sc { x with pl := plan, pr := price, si := on }), .agg #[.int .i64 on, .int .i64 en, .int .i64 cr, .int .i64 ch], .int .i64 0]) ∧ Below w.heap.size w w' := by
  have HP := Lib.hid (fun w (T : Tab w) => subs_Check.calls k x.id x.cu x.pl x.st x.an x.ev x.pr x.bi x.si x.en 0 w (Aside0.mk T) hck)
  have HD := Lib.hid (fun w => subs_day.calls on true w hd)
  have HL := Lib.hid (fun w (T : Tab w) => subs_last.calls x.id x.cu x.pl x.st x.an x.ev x.pr x.bi x.si x.en on i f n en wh p true w (Aside0.mk T) hl)
  have HA := Lib.hid (fun w => subs_period_on.calls i f n en wh p on en cr w hcr)
  have HG := Lib.hid (fun w => subs_period_on.calls i f n en wh price on en ch w hch)
  have HT := Lib.hid T
  clear T hck hd hl hcr hch
  have F1 := Lib.hid (F4.new w (sc x) #[.int .u64 plan, .int .i64 price] zs zt 26 28 26 30)
  unfold sc zs zt at F1
  unfold sc
  go_enter Tryd.func9, Tryd.ntmps9
  go_wp2_with fail
  refine (HP.out _ (tabB HT.out F1.out.bel)).mono ?_
  rintro e w1 ⟨rfl, B1⟩
  have F2 := Lib.hid (F1.out.all B1)
  clear B1 F1
  go_wp2_with fail
  refine (HD.out _).mono ?_
  rintro e w2 ⟨rfl, D2⟩
  have F3 := Lib.hid (F2.out.all D2.below)
  clear D2 F2
  have o0 := F3.out.two.c 0
  have o1 := F3.out.two.c 1
  have s0 := F3.out.one.c 0
  have s1 := F3.out.one.c 1
  have s2 := F3.out.one.c 2
  have s3 := F3.out.one.c 3
  have s4 := F3.out.one.c 4
  have s5 := F3.out.one.c 5
  have s6 := F3.out.one.c 6
  have s7 := F3.out.one.c 7
  have s8 := F3.out.one.c 8
  have s9 := F3.out.one.c 9
  simp at o0 o1 s0 s1 s2 s3 s4 s5 s6 s7 s8 s9
  have g1 : (plan == 0) = false := by simpa using h1
  have g2 : decide (price < 0) = false := decide_eq_false (by omega)
  have g3 : decide (4611686018427387904 ≤ price) = false := decide_eq_false (by omega)
  go_wp2_with fail
  refine (HL.out _ (tabB HT.out F3.out.bel)).mono ?_
  rintro e w3 ⟨rfl, B3⟩
  have F4 := Lib.hid (F3.out.all B3)
  clear B3 F3 o0 o1 s0 s1 s2 s3 s4 s5 s6 s7 s8 s9 g1 g2 g3
  go_upto_region 6 with fail
  have P4 : Bl w3.heap.size #[.int .i64 i, .int .i64 f, .int .i64 n, .int .i64 en, .int .i64 wh, .int .i64 p] 68 (w3.alloc (.cells #[.int .i64 i, .int .i64 f, .int .i64 n, .int .i64 en, .int .i64 wh, .int .i64 p] 68)) := World.alloc_heap_new w3 _
  have F5 := F4.out.alloc (.cells #[.int .i64 i, .int .i64 f, .int .i64 n, .int .i64 en, .int .i64 wh, .int .i64 p] 68)
  have hg := F4.out.fou.lt
  clear F4
  generalize w3.alloc _ = w4 at P4 F5 ⊢
  generalize w3.heap.size = g at hg P4 ⊢
  have hne : g ≠ w.heap.size + 1 + 1 + 1 := by omega
  have HNE := Lib.hid hne
  have HGE := Lib.hid hg
  have F5 := Lib.hid (show F4 _ _ _ _ _ _ _ _ _ w4.drew from ⟨F5.one, F5.two, F5.tri, F5.fou, F5.bel.drew⟩)
  have P5 := Lib.hid (show Bl _ _ _ w4.drew from P4)
  clear hne P4
  go_region_held3 (fun w' => Bl g #[.int .i64 i, .int .i64 f, .int .i64 n, .int .i64 en, .int .i64 wh, .int .i64 p] 68 w' ∧ w'.cell? ⟨g, 0, none⟩ = some (.int .i64 i) ∧ w'.cell? ⟨g, 1, none⟩ = some (.int .i64 f) ∧ w'.cell? ⟨g, 2, none⟩ = some (.int .i64 n) ∧ w'.cell? ⟨g, 3, none⟩ = some (.int .i64 en) ∧ w'.cell? ⟨g, 4, none⟩ = some (.int .i64 wh) ∧ w'.cell? ⟨g, 5, none⟩ = some (.int .i64 p))
    (first
      | exact six P5.out
      | exact six P6.out
      | exact six ((((P6.out.far HNE.out 0 _).far HNE.out 1 _).far HNE.out 2 _).far HNE.out 3 _))
    (first
      | (go_at_call 26; refine (HA.out _).mono ?_; rintro e w5 ⟨rfl, B5⟩; have P6 := Lib.hid (P5.out.all B5); have F6 := Lib.hid (F5.out.all B5); have t0 := F6.out.fou.f 0; have t1 := F6.out.fou.f 1; have t2 := F6.out.fou.f 2; have t3 := F6.out.fou.f 3; have r0 := F6.out.fou.c 0; have r1 := F6.out.fou.c 1; have r2 := F6.out.fou.c 2; have r3 := F6.out.fou.c 3; simp at r0 r1 r2 r3; clear B5))
  change Exit.then _ _ _ _ (put4 w5 (w.heap.size + 1 + 1 + 1) _ _ _ _)
  have F7 := Lib.hid (F6.out.put4 (.int .i64 on) (.int .i64 en) (.int .i64 cr) (.int .i64 0))
  have P7 := Lib.hid (P6.out.put4 HNE.out (.int .i64 on) (.int .i64 en) (.int .i64 cr) (.int .i64 0))
  clear t0 t1 t2 t3 r0 r1 r2 r3 F6 P6
  generalize put4 w5 (w.heap.size + 1 + 1 + 1) (.int .i64 on) (.int .i64 en) (.int .i64 cr) (.int .i64 0) = w6 at F7 P7 ⊢
  have o1 := F7.out.two.c 1
  have p0 := P7.out.c 0
  have p1 := P7.out.c 1
  have p2 := P7.out.c 2
  have p3 := P7.out.c 3
  have p4 := P7.out.c 4
  have p5 := P7.out.c 5
  have p6 := P7.out.f 5
  simp at o1 p0 p1 p2 p3 p4 p5
  go_wp2_with fail
  refine (HG.out _).mono ?_
  rintro e w7 ⟨rfl, B7⟩
  have F8 := Lib.hid ((F7.out.far HGE.out 5 (.int .i64 price)).all B7)
  clear o1 p0 p1 p2 p3 p4 p5 p6 B7 P7 F7
  have s2 := F8.out.one.f 2
  have s6 := F8.out.one.f 6
  have s8 := F8.out.one.f 8
  have t3 := F8.out.fou.f 3
  have x3 := F8.out.fou.c 3
  have o0 := F8.out.two.c 0
  have o1 := F8.out.two.c 1
  have r2 := F8.out.one.c 2
  have r6 := F8.out.one.c 6
  have r8 := F8.out.one.c 8
  simp at o0 o1 r2 r6 r8 x3
  go_wp2
  go_region
  change Exit.then _ _ _ _ (((((w7.setCell ⟨w.heap.size + 1 + 1 + 1, 3, none⟩ (.int .i64 ch)).setCell ⟨w.heap.size, 2, none⟩ (.int .u64 plan)).setCell ⟨w.heap.size, 6, none⟩ (.int .i64 price)).setCell ⟨w.heap.size, 8, none⟩ (.int .i64 on)).drew)
  have F9 := Lib.hid (((((F8.out.setF (.int .i64 ch)).setO 2 (.int .u64 plan) rfl).setO 6 (.int .i64 price) rfl).setO 8 (.int .i64 on) rfl).drew)
  clear F8 s2 s6 s8 t3 x3 o0 o1 r2 r6 r8
  simp only [List.setIfInBounds_toArray, List.set_cons_zero, List.set_cons_succ] at F9
  generalize (((((w7.setCell ⟨w.heap.size + 1 + 1 + 1, 3, none⟩ (.int .i64 ch)).setCell ⟨w.heap.size, 2, none⟩ (.int .u64 plan)).setCell ⟨w.heap.size, 6, none⟩ (.int .i64 price)).setCell ⟨w.heap.size, 8, none⟩ (.int .i64 on)).drew) = w8 at F9 ⊢
  have s0 := F9.out.one.c 0
  have r0 := F9.out.tri.c 0
  have q0 := F9.out.tri.f 0
  have s1 := F9.out.one.c 1
  have r1 := F9.out.tri.c 1
  have q1 := F9.out.tri.f 1
  have s2 := F9.out.one.c 2
  have r2 := F9.out.tri.c 2
  have q2 := F9.out.tri.f 2
  have s3 := F9.out.one.c 3
  have r3 := F9.out.tri.c 3
  have q3 := F9.out.tri.f 3
  have s4 := F9.out.one.c 4
  have r4 := F9.out.tri.c 4
  have q4 := F9.out.tri.f 4
  have s5 := F9.out.one.c 5
  have r5 := F9.out.tri.c 5
  have q5 := F9.out.tri.f 5
  have s6 := F9.out.one.c 6
  have r6 := F9.out.tri.c 6
  have q6 := F9.out.tri.f 6
  have s7 := F9.out.one.c 7
  have r7 := F9.out.tri.c 7
  have q7 := F9.out.tri.f 7
  have s8 := F9.out.one.c 8
  have r8 := F9.out.tri.c 8
  have q8 := F9.out.tri.f 8
  have s9 := F9.out.one.c 9
  have r9 := F9.out.tri.c 9
  have q9 := F9.out.tri.f 9
  have t0 := F9.out.fou.c 0
  have u0 := F9.out.fou.f 0
  have t1 := F9.out.fou.c 1
  have u1 := F9.out.fou.f 1
  have t2 := F9.out.fou.c 2
  have u2 := F9.out.fou.f 2
  have t3 := F9.out.fou.c 3
  have u3 := F9.out.fou.f 3
  simp at s0 r0 s1 r1 s2 r2 s3 r3 s4 r4 s5 r5 s6 r6 s7 r7 s8 r8 s9 r9 t0 t1 t2 t3
  go_wp2
  go_region
  change Exit.then _ _ _ _ ((put4 (put10 w8 (w.heap.size + 1 + 1) { x with pl := plan, pr := price, si := on }) (w.heap.size + 1 + 1 + 1) (.int .i64 on) (.int .i64 en) (.int .i64 cr) (.int .i64 ch)).drew)
  have FA := Lib.hid ((((F9.out.put10 { x with pl := plan, pr := price, si := on }).put4 (.int .i64 on) (.int .i64 en) (.int .i64 cr) (.int .i64 ch))).drew)
  generalize (put4 (put10 w8 (w.heap.size + 1 + 1) { x with pl := plan, pr := price, si := on }) (w.heap.size + 1 + 1 + 1) (.int .i64 on) (.int .i64 en) (.int .i64 cr) (.int .i64 ch)).drew = w9 at FA ⊢
  clear F9 s0 r0 q0 s1 r1 q1 s2 r2 q2 s3 r3 q3 s4 r4 q4 s5 r5 q5 s6 r6 q6 s7 r7 q7 s8 r8 q8 s9 r9 q9 t0 u0 t1 u1 t2 u2 t3 u3
  have r0 := FA.out.tri.c 0
  have r1 := FA.out.tri.c 1
  have r2 := FA.out.tri.c 2
  have r3 := FA.out.tri.c 3
  have r4 := FA.out.tri.c 4
  have r5 := FA.out.tri.c 5
  have r6 := FA.out.tri.c 6
  have r7 := FA.out.tri.c 7
  have r8 := FA.out.tri.c 8
  have r9 := FA.out.tri.c 9
  have t0 := FA.out.fou.c 0
  have t1 := FA.out.fou.c 1
  have t2 := FA.out.fou.c 2
  have t3 := FA.out.fou.c 3
  simp [sc] at r0 r1 r2 r3 r4 r5 r6 r7 r8 r9 t0 t1 t2 t3
  go_wp2
  exact bodyPost_ret (v := .tuple #[.agg #[.int .u64 x.id, .int .u64 x.cu, .int .u64 plan, .int .i64 x.st, .int .i64 x.an, .int .i64 x.ev, .int .i64 price, .int .i64 x.bi, .int .i64 on, .int .i64 x.en], .agg #[.int .i64 on, .int .i64 en, .int .i64 cr, .int .i64 ch], .int .i64 0])
    (by simp [results, Tryd.results9, go_sem, r0, r1, r2, r3, r4, r5, r6, r7, r8, r9, t0, t1, t2, t3]) rfl ⟨rfl, FA.out.bel⟩

/- refused -/
set_option maxRecDepth 100000 in
set_option maxHeartbeats 4000000 in
theorem change_arg (k : Nat) (x : Su) (on plan price c : Int) (d : Bool) (w : World) (T : Tab w) (hck : ckF k x = some c) (hd : subs_day.f on = some d) (hb : c ≠ 0 ∨ d = false ∨ plan = 0 ∨ price < 0 ∨ 4611686018427387904 ≤ price) :
    Calls Tryd.prog 9 #[.agg (sc x), .int .i64 on, .agg #[.int .u64 plan, .int .i64 price]] w fun e w' => e = .returned (.tuple #[.agg zs, .agg zt, .int .i64 2]) ∧ Below w.heap.size w w' := by
  have HP := Lib.hid (fun w (T : Tab w) => subs_Check.calls k x.id x.cu x.pl x.st x.an x.ev x.pr x.bi x.si x.en c w (Aside0.mk T) hck)
  have HD := Lib.hid (fun w => subs_day.calls on d w hd)
  have HT := Lib.hid T
  clear T hck hd
  have F1 := Lib.hid (F4.new w (sc x) #[.int .u64 plan, .int .i64 price] zs zt 26 28 26 30)
  unfold sc zt at F1
  unfold sc
  go_enter Tryd.func9, Tryd.ntmps9
  go_wp2_with fail
  refine (HP.out _ (tabB HT.out (by have := F1.out.bel; unfold zs at this; exact this))).mono ?_
  rintro e w1 ⟨rfl, B1⟩
  have F2 := Lib.hid (F1.out.all (by unfold zs; exact B1))
  clear B1 F1
  by_cases h0 : c = 0
  · subst h0
    go_wp2_with fail
    refine (HD.out _).mono ?_
    rintro e w2 ⟨rfl, D2⟩
    have F3 := Lib.hid (F2.out.all D2.below)
    clear D2 F2
    have o0 := F3.out.two.c 0
    have o1 := F3.out.two.c 1
    simp at o0 o1
    cases d with
    | false =>
      have r0 := F3.out.tri.c 0
      have q0 := F3.out.tri.f 0
      have r1 := F3.out.tri.c 1
      have q1 := F3.out.tri.f 1
      have r2 := F3.out.tri.c 2
      have q2 := F3.out.tri.f 2
      have r3 := F3.out.tri.c 3
      have q3 := F3.out.tri.f 3
      have r4 := F3.out.tri.c 4
      have q4 := F3.out.tri.f 4
      have r5 := F3.out.tri.c 5
      have q5 := F3.out.tri.f 5
      have r6 := F3.out.tri.c 6
      have q6 := F3.out.tri.f 6
      have r7 := F3.out.tri.c 7
      have q7 := F3.out.tri.f 7
      have r8 := F3.out.tri.c 8
      have q8 := F3.out.tri.f 8
      have r9 := F3.out.tri.c 9
      have q9 := F3.out.tri.f 9
      have t0 := F3.out.fou.c 0
      have u0 := F3.out.fou.f 0
      have t1 := F3.out.fou.c 1
      have u1 := F3.out.fou.f 1
      have t2 := F3.out.fou.c 2
      have u2 := F3.out.fou.f 2
      have t3 := F3.out.fou.c 3
      have u3 := F3.out.fou.f 3
      simp [zs] at r0 r1 r2 r3 r4 r5 r6 r7 r8 r9 t0 t1 t2 t3
      go_wp2_with fail
      have FZ := Lib.hid ((F3.out.put10 ⟨0, 0, 0, 0, 0, 0, 0, 0, 0, 0⟩).put4 (.int .i64 0) (.int .i64 0) (.int .i64 0) (.int .i64 0))
      change bodyPost _ _ _ _ _ (put4 (put10 _ (w.heap.size + 1 + 1) ⟨0, 0, 0, 0, 0, 0, 0, 0, 0, 0⟩) (w.heap.size + 1 + 1 + 1) (.int .i64 0) (.int .i64 0) (.int .i64 0) (.int .i64 0))
      clear r0 q0 r1 q1 r2 q2 r3 q3 r4 q4 r5 q5 r6 q6 r7 q7 r8 q8 r9 q9 t0 u0 t1 u1 t2 u2 t3 u3
      generalize put4 (put10 _ (w.heap.size + 1 + 1) ⟨0, 0, 0, 0, 0, 0, 0, 0, 0, 0⟩) (w.heap.size + 1 + 1 + 1) (.int .i64 0) (.int .i64 0) (.int .i64 0) (.int .i64 0) = V at FZ ⊢
      have r0 := FZ.out.tri.c 0
      have r1 := FZ.out.tri.c 1
      have r2 := FZ.out.tri.c 2
      have r3 := FZ.out.tri.c 3
      have r4 := FZ.out.tri.c 4
      have r5 := FZ.out.tri.c 5
      have r6 := FZ.out.tri.c 6
      have r7 := FZ.out.tri.c 7
      have r8 := FZ.out.tri.c 8
      have r9 := FZ.out.tri.c 9
      have t0 := FZ.out.fou.c 0
      have t1 := FZ.out.fou.c 1
      have t2 := FZ.out.fou.c 2
      have t3 := FZ.out.fou.c 3
      simp [sc] at r0 r1 r2 r3 r4 r5 r6 r7 r8 r9 t0 t1 t2 t3
      exact bodyPost_ret (v := .tuple #[.agg zs, .agg zt, .int .i64 2]) (by simp [results, Tryd.results9, go_sem, zs, zt, r0, r1, r2, r3, r4, r5, r6, r7, r8, r9, t0, t1, t2, t3]) rfl ⟨rfl, FZ.out.bel⟩
    | true =>
      by_cases h1 : plan = 0
      · subst h1
        have r0 := F3.out.tri.c 0
        have q0 := F3.out.tri.f 0
        have r1 := F3.out.tri.c 1
        have q1 := F3.out.tri.f 1
        have r2 := F3.out.tri.c 2
        have q2 := F3.out.tri.f 2
        have r3 := F3.out.tri.c 3
        have q3 := F3.out.tri.f 3
        have r4 := F3.out.tri.c 4
        have q4 := F3.out.tri.f 4
        have r5 := F3.out.tri.c 5
        have q5 := F3.out.tri.f 5
        have r6 := F3.out.tri.c 6
        have q6 := F3.out.tri.f 6
        have r7 := F3.out.tri.c 7
        have q7 := F3.out.tri.f 7
        have r8 := F3.out.tri.c 8
        have q8 := F3.out.tri.f 8
        have r9 := F3.out.tri.c 9
        have q9 := F3.out.tri.f 9
        have t0 := F3.out.fou.c 0
        have u0 := F3.out.fou.f 0
        have t1 := F3.out.fou.c 1
        have u1 := F3.out.fou.f 1
        have t2 := F3.out.fou.c 2
        have u2 := F3.out.fou.f 2
        have t3 := F3.out.fou.c 3
        have u3 := F3.out.fou.f 3
        simp [zs] at r0 r1 r2 r3 r4 r5 r6 r7 r8 r9 t0 t1 t2 t3
        go_wp2_with fail
        have FZ := Lib.hid ((F3.out.put10 ⟨0, 0, 0, 0, 0, 0, 0, 0, 0, 0⟩).put4 (.int .i64 0) (.int .i64 0) (.int .i64 0) (.int .i64 0))
        change bodyPost _ _ _ _ _ (put4 (put10 _ (w.heap.size + 1 + 1) ⟨0, 0, 0, 0, 0, 0, 0, 0, 0, 0⟩) (w.heap.size + 1 + 1 + 1) (.int .i64 0) (.int .i64 0) (.int .i64 0) (.int .i64 0))
        clear r0 q0 r1 q1 r2 q2 r3 q3 r4 q4 r5 q5 r6 q6 r7 q7 r8 q8 r9 q9 t0 u0 t1 u1 t2 u2 t3 u3
        generalize put4 (put10 _ (w.heap.size + 1 + 1) ⟨0, 0, 0, 0, 0, 0, 0, 0, 0, 0⟩) (w.heap.size + 1 + 1 + 1) (.int .i64 0) (.int .i64 0) (.int .i64 0) (.int .i64 0) = V at FZ ⊢
        have r0 := FZ.out.tri.c 0
        have r1 := FZ.out.tri.c 1
        have r2 := FZ.out.tri.c 2
        have r3 := FZ.out.tri.c 3
        have r4 := FZ.out.tri.c 4
        have r5 := FZ.out.tri.c 5
        have r6 := FZ.out.tri.c 6
        have r7 := FZ.out.tri.c 7
        have r8 := FZ.out.tri.c 8
        have r9 := FZ.out.tri.c 9
        have t0 := FZ.out.fou.c 0
        have t1 := FZ.out.fou.c 1
        have t2 := FZ.out.fou.c 2
        have t3 := FZ.out.fou.c 3
        simp [sc] at r0 r1 r2 r3 r4 r5 r6 r7 r8 r9 t0 t1 t2 t3
        exact bodyPost_ret (v := .tuple #[.agg zs, .agg zt, .int .i64 2]) (by simp [results, Tryd.results9, go_sem, zs, zt, r0, r1, r2, r3, r4, r5, r6, r7, r8, r9, t0, t1, t2, t3]) rfl ⟨rfl, FZ.out.bel⟩
      · have g1 : (plan == 0) = false := by simpa using h1
        by_cases h2 : price < 0
        · have g2 := decide_eq_true h2
          have r0 := F3.out.tri.c 0
          have q0 := F3.out.tri.f 0
          have r1 := F3.out.tri.c 1
          have q1 := F3.out.tri.f 1
          have r2 := F3.out.tri.c 2
          have q2 := F3.out.tri.f 2
          have r3 := F3.out.tri.c 3
          have q3 := F3.out.tri.f 3
          have r4 := F3.out.tri.c 4
          have q4 := F3.out.tri.f 4
          have r5 := F3.out.tri.c 5
          have q5 := F3.out.tri.f 5
          have r6 := F3.out.tri.c 6
          have q6 := F3.out.tri.f 6
          have r7 := F3.out.tri.c 7
          have q7 := F3.out.tri.f 7
          have r8 := F3.out.tri.c 8
          have q8 := F3.out.tri.f 8
          have r9 := F3.out.tri.c 9
          have q9 := F3.out.tri.f 9
          have t0 := F3.out.fou.c 0
          have u0 := F3.out.fou.f 0
          have t1 := F3.out.fou.c 1
          have u1 := F3.out.fou.f 1
          have t2 := F3.out.fou.c 2
          have u2 := F3.out.fou.f 2
          have t3 := F3.out.fou.c 3
          have u3 := F3.out.fou.f 3
          simp [zs] at r0 r1 r2 r3 r4 r5 r6 r7 r8 r9 t0 t1 t2 t3
          go_wp2_with fail
          have FZ := Lib.hid ((F3.out.put10 ⟨0, 0, 0, 0, 0, 0, 0, 0, 0, 0⟩).put4 (.int .i64 0) (.int .i64 0) (.int .i64 0) (.int .i64 0))
          change bodyPost _ _ _ _ _ (put4 (put10 _ (w.heap.size + 1 + 1) ⟨0, 0, 0, 0, 0, 0, 0, 0, 0, 0⟩) (w.heap.size + 1 + 1 + 1) (.int .i64 0) (.int .i64 0) (.int .i64 0) (.int .i64 0))
          clear r0 q0 r1 q1 r2 q2 r3 q3 r4 q4 r5 q5 r6 q6 r7 q7 r8 q8 r9 q9 t0 u0 t1 u1 t2 u2 t3 u3
          generalize put4 (put10 _ (w.heap.size + 1 + 1) ⟨0, 0, 0, 0, 0, 0, 0, 0, 0, 0⟩) (w.heap.size + 1 + 1 + 1) (.int .i64 0) (.int .i64 0) (.int .i64 0) (.int .i64 0) = V at FZ ⊢
          have r0 := FZ.out.tri.c 0
          have r1 := FZ.out.tri.c 1
          have r2 := FZ.out.tri.c 2
          have r3 := FZ.out.tri.c 3
          have r4 := FZ.out.tri.c 4
          have r5 := FZ.out.tri.c 5
          have r6 := FZ.out.tri.c 6
          have r7 := FZ.out.tri.c 7
          have r8 := FZ.out.tri.c 8
          have r9 := FZ.out.tri.c 9
          have t0 := FZ.out.fou.c 0
          have t1 := FZ.out.fou.c 1
          have t2 := FZ.out.fou.c 2
          have t3 := FZ.out.fou.c 3
          simp [sc] at r0 r1 r2 r3 r4 r5 r6 r7 r8 r9 t0 t1 t2 t3
          exact bodyPost_ret (v := .tuple #[.agg zs, .agg zt, .int .i64 2]) (by simp [results, Tryd.results9, go_sem, zs, zt, r0, r1, r2, r3, r4, r5, r6, r7, r8, r9, t0, t1, t2, t3]) rfl ⟨rfl, FZ.out.bel⟩
        · have g2 := decide_eq_false h2
          have h3 : 4611686018427387904 ≤ price := by simpa [h1, h2] using hb
          have g3 := decide_eq_true h3
          have r0 := F3.out.tri.c 0
          have q0 := F3.out.tri.f 0
          have r1 := F3.out.tri.c 1
          have q1 := F3.out.tri.f 1
          have r2 := F3.out.tri.c 2
          have q2 := F3.out.tri.f 2
          have r3 := F3.out.tri.c 3
          have q3 := F3.out.tri.f 3
          have r4 := F3.out.tri.c 4
          have q4 := F3.out.tri.f 4
          have r5 := F3.out.tri.c 5
          have q5 := F3.out.tri.f 5
          have r6 := F3.out.tri.c 6
          have q6 := F3.out.tri.f 6
          have r7 := F3.out.tri.c 7
          have q7 := F3.out.tri.f 7
          have r8 := F3.out.tri.c 8
          have q8 := F3.out.tri.f 8
          have r9 := F3.out.tri.c 9
          have q9 := F3.out.tri.f 9
          have t0 := F3.out.fou.c 0
          have u0 := F3.out.fou.f 0
          have t1 := F3.out.fou.c 1
          have u1 := F3.out.fou.f 1
          have t2 := F3.out.fou.c 2
          have u2 := F3.out.fou.f 2
          have t3 := F3.out.fou.c 3
          have u3 := F3.out.fou.f 3
          simp [zs] at r0 r1 r2 r3 r4 r5 r6 r7 r8 r9 t0 t1 t2 t3
          go_wp2_with fail
          have FZ := Lib.hid ((F3.out.put10 ⟨0, 0, 0, 0, 0, 0, 0, 0, 0, 0⟩).put4 (.int .i64 0) (.int .i64 0) (.int .i64 0) (.int .i64 0))
          change bodyPost _ _ _ _ _ (put4 (put10 _ (w.heap.size + 1 + 1) ⟨0, 0, 0, 0, 0, 0, 0, 0, 0, 0⟩) (w.heap.size + 1 + 1 + 1) (.int .i64 0) (.int .i64 0) (.int .i64 0) (.int .i64 0))
          clear r0 q0 r1 q1 r2 q2 r3 q3 r4 q4 r5 q5 r6 q6 r7 q7 r8 q8 r9 q9 t0 u0 t1 u1 t2 u2 t3 u3
          generalize put4 (put10 _ (w.heap.size + 1 + 1) ⟨0, 0, 0, 0, 0, 0, 0, 0, 0, 0⟩) (w.heap.size + 1 + 1 + 1) (.int .i64 0) (.int .i64 0) (.int .i64 0) (.int .i64 0) = V at FZ ⊢
          have r0 := FZ.out.tri.c 0
          have r1 := FZ.out.tri.c 1
          have r2 := FZ.out.tri.c 2
          have r3 := FZ.out.tri.c 3
          have r4 := FZ.out.tri.c 4
          have r5 := FZ.out.tri.c 5
          have r6 := FZ.out.tri.c 6
          have r7 := FZ.out.tri.c 7
          have r8 := FZ.out.tri.c 8
          have r9 := FZ.out.tri.c 9
          have t0 := FZ.out.fou.c 0
          have t1 := FZ.out.fou.c 1
          have t2 := FZ.out.fou.c 2
          have t3 := FZ.out.fou.c 3
          simp [sc] at r0 r1 r2 r3 r4 r5 r6 r7 r8 r9 t0 t1 t2 t3
          exact bodyPost_ret (v := .tuple #[.agg zs, .agg zt, .int .i64 2]) (by simp [results, Tryd.results9, go_sem, zs, zt, r0, r1, r2, r3, r4, r5, r6, r7, r8, r9, t0, t1, t2, t3]) rfl ⟨rfl, FZ.out.bel⟩
  · have g0 : (c == 0) = false := by simpa using h0
    have g0' : (c != 0) = true := by simpa using h0
    have r0 := F2.out.tri.c 0
    have q0 := F2.out.tri.f 0
    have r1 := F2.out.tri.c 1
    have q1 := F2.out.tri.f 1
    have r2 := F2.out.tri.c 2
    have q2 := F2.out.tri.f 2
    have r3 := F2.out.tri.c 3
    have q3 := F2.out.tri.f 3
    have r4 := F2.out.tri.c 4
    have q4 := F2.out.tri.f 4
    have r5 := F2.out.tri.c 5
    have q5 := F2.out.tri.f 5
    have r6 := F2.out.tri.c 6
    have q6 := F2.out.tri.f 6
    have r7 := F2.out.tri.c 7
    have q7 := F2.out.tri.f 7
    have r8 := F2.out.tri.c 8
    have q8 := F2.out.tri.f 8
    have r9 := F2.out.tri.c 9
    have q9 := F2.out.tri.f 9
    have t0 := F2.out.fou.c 0
    have u0 := F2.out.fou.f 0
    have t1 := F2.out.fou.c 1
    have u1 := F2.out.fou.f 1
    have t2 := F2.out.fou.c 2
    have u2 := F2.out.fou.f 2
    have t3 := F2.out.fou.c 3
    have u3 := F2.out.fou.f 3
    simp [zs] at r0 r1 r2 r3 r4 r5 r6 r7 r8 r9 t0 t1 t2 t3
    go_wp2_with fail
    have FZ := Lib.hid ((F2.out.put10 ⟨0, 0, 0, 0, 0, 0, 0, 0, 0, 0⟩).put4 (.int .i64 0) (.int .i64 0) (.int .i64 0) (.int .i64 0))
    change bodyPost _ _ _ _ _ (put4 (put10 _ (w.heap.size + 1 + 1) ⟨0, 0, 0, 0, 0, 0, 0, 0, 0, 0⟩) (w.heap.size + 1 + 1 + 1) (.int .i64 0) (.int .i64 0) (.int .i64 0) (.int .i64 0))
    clear r0 q0 r1 q1 r2 q2 r3 q3 r4 q4 r5 q5 r6 q6 r7 q7 r8 q8 r9 q9 t0 u0 t1 u1 t2 u2 t3 u3
    generalize put4 (put10 _ (w.heap.size + 1 + 1) ⟨0, 0, 0, 0, 0, 0, 0, 0, 0, 0⟩) (w.heap.size + 1 + 1 + 1) (.int .i64 0) (.int .i64 0) (.int .i64 0) (.int .i64 0) = V at FZ ⊢
    have r0 := FZ.out.tri.c 0
    have r1 := FZ.out.tri.c 1
    have r2 := FZ.out.tri.c 2
    have r3 := FZ.out.tri.c 3
    have r4 := FZ.out.tri.c 4
    have r5 := FZ.out.tri.c 5
    have r6 := FZ.out.tri.c 6
    have r7 := FZ.out.tri.c 7
    have r8 := FZ.out.tri.c 8
    have r9 := FZ.out.tri.c 9
    have t0 := FZ.out.fou.c 0
    have t1 := FZ.out.fou.c 1
    have t2 := FZ.out.fou.c 2
    have t3 := FZ.out.fou.c 3
    simp [sc] at r0 r1 r2 r3 r4 r5 r6 r7 r8 r9 t0 t1 t2 t3
    exact bodyPost_ret (v := .tuple #[.agg zs, .agg zt, .int .i64 2]) (by simp [results, Tryd.results9, go_sem, zs, zt, r0, r1, r2, r3, r4, r5, r6, r7, r8, r9, t0, t1, t2, t3]) rfl ⟨rfl, FZ.out.bel⟩
set_option maxRecDepth 100000 in
set_option maxHeartbeats 4000000 in
theorem change_none (k : Nat) (x : Su) (on plan price i f n en wh p : Int) (w : World) (T : Tab w) (hck : ckF k x = some 0) (hd : subs_day.f on = some true) (h1 : plan ≠ 0) (h2 : 0 ≤ price) (h3 : price < 4611686018427387904)
    (hl : subs_last.f x.id x.cu x.pl x.st x.an x.ev x.pr x.bi x.si x.en on = some (i, f, n, en, wh, p, false)) :
    Calls Tryd.prog 9 #[.agg (sc x), .int .i64 on, .agg #[.int .u64 plan, .int .i64 price]] w fun e w' => e = .returned (.tuple #[.agg zs, .agg zt, .int .i64 9]) ∧ Below w.heap.size w w' := by
  have HP := Lib.hid (fun w (T : Tab w) => subs_Check.calls k x.id x.cu x.pl x.st x.an x.ev x.pr x.bi x.si x.en 0 w (Aside0.mk T) hck)
  have HD := Lib.hid (fun w => subs_day.calls on true w hd)
  have HL := Lib.hid (fun w (T : Tab w) => subs_last.calls x.id x.cu x.pl x.st x.an x.ev x.pr x.bi x.si x.en on i f n en wh p false w (Aside0.mk T) hl)
  have HT := Lib.hid T
  clear T hck hd hl
  have F1 := Lib.hid (F4.new w (sc x) #[.int .u64 plan, .int .i64 price] zs zt 26 28 26 30)
  unfold sc zt at F1
  unfold sc
  go_enter Tryd.func9, Tryd.ntmps9
  go_wp2_with fail
  refine (HP.out _ (tabB HT.out (by have := F1.out.bel; unfold zs at this; exact this))).mono ?_
  rintro e w1 ⟨rfl, B1⟩
  have F2 := Lib.hid (F1.out.all (by unfold zs; exact B1))
  clear B1 F1
  go_wp2_with fail
  refine (HD.out _).mono ?_
  rintro e w2 ⟨rfl, D2⟩
  have F3 := Lib.hid (F2.out.all D2.below)
  clear D2 F2
  have o0 := F3.out.two.c 0
  have o1 := F3.out.two.c 1
  have s0 := F3.out.one.c 0
  have s1 := F3.out.one.c 1
  have s2 := F3.out.one.c 2
  have s3 := F3.out.one.c 3
  have s4 := F3.out.one.c 4
  have s5 := F3.out.one.c 5
  have s6 := F3.out.one.c 6
  have s7 := F3.out.one.c 7
  have s8 := F3.out.one.c 8
  have s9 := F3.out.one.c 9
  simp at o0 o1 s0 s1 s2 s3 s4 s5 s6 s7 s8 s9
  have g1 : (plan == 0) = false := by simpa using h1
  have g2 : decide (price < 0) = false := decide_eq_false (by omega)
  have g3 : decide (4611686018427387904 ≤ price) = false := decide_eq_false (by omega)
  go_wp2_with fail
  refine (HL.out _ (tabB HT.out F3.out.bel)).mono ?_
  rintro e w3 ⟨rfl, B3⟩
  have F4 := Lib.hid (F3.out.all B3)
  clear B3 F3 o0 o1 s0 s1 s2 s3 s4 s5 s6 s7 s8 s9 g1 g2 g3
  go_upto_region 5 with fail
  have F5 := F4.out.alloc (.cells #[.int .i64 i, .int .i64 f, .int .i64 n, .int .i64 en, .int .i64 wh, .int .i64 p] 68)
  clear F4
  generalize w3.alloc _ = w4 at F5 ⊢
  have F5 := Lib.hid F5
  have r0 := F5.out.tri.c 0
  have q0 := F5.out.tri.f 0
  have r1 := F5.out.tri.c 1
  have q1 := F5.out.tri.f 1
  have r2 := F5.out.tri.c 2
  have q2 := F5.out.tri.f 2
  have r3 := F5.out.tri.c 3
  have q3 := F5.out.tri.f 3
  have r4 := F5.out.tri.c 4
  have q4 := F5.out.tri.f 4
  have r5 := F5.out.tri.c 5
  have q5 := F5.out.tri.f 5
  have r6 := F5.out.tri.c 6
  have q6 := F5.out.tri.f 6
  have r7 := F5.out.tri.c 7
  have q7 := F5.out.tri.f 7
  have r8 := F5.out.tri.c 8
  have q8 := F5.out.tri.f 8
  have r9 := F5.out.tri.c 9
  have q9 := F5.out.tri.f 9
  have t0 := F5.out.fou.c 0
  have u0 := F5.out.fou.f 0
  have t1 := F5.out.fou.c 1
  have u1 := F5.out.fou.f 1
  have t2 := F5.out.fou.c 2
  have u2 := F5.out.fou.f 2
  have t3 := F5.out.fou.c 3
  have u3 := F5.out.fou.f 3
  simp [zs] at r0 r1 r2 r3 r4 r5 r6 r7 r8 r9 t0 t1 t2 t3
  go_wp2_with fail
  have FZ := Lib.hid ((F5.out.put10 ⟨0, 0, 0, 0, 0, 0, 0, 0, 0, 0⟩).put4 (.int .i64 0) (.int .i64 0) (.int .i64 0) (.int .i64 0))
  change bodyPost _ _ _ _ _ (put4 (put10 _ (w.heap.size + 1 + 1) ⟨0, 0, 0, 0, 0, 0, 0, 0, 0, 0⟩) (w.heap.size + 1 + 1 + 1) (.int .i64 0) (.int .i64 0) (.int .i64 0) (.int .i64 0))
  clear r0 q0 r1 q1 r2 q2 r3 q3 r4 q4 r5 q5 r6 q6 r7 q7 r8 q8 r9 q9 t0 u0 t1 u1 t2 u2 t3 u3
  generalize put4 (put10 _ (w.heap.size + 1 + 1) ⟨0, 0, 0, 0, 0, 0, 0, 0, 0, 0⟩) (w.heap.size + 1 + 1 + 1) (.int .i64 0) (.int .i64 0) (.int .i64 0) (.int .i64 0) = V at FZ ⊢
  have r0 := FZ.out.tri.c 0
  have r1 := FZ.out.tri.c 1
  have r2 := FZ.out.tri.c 2
  have r3 := FZ.out.tri.c 3
  have r4 := FZ.out.tri.c 4
  have r5 := FZ.out.tri.c 5
  have r6 := FZ.out.tri.c 6
  have r7 := FZ.out.tri.c 7
  have r8 := FZ.out.tri.c 8
  have r9 := FZ.out.tri.c 9
  have t0 := FZ.out.fou.c 0
  have t1 := FZ.out.fou.c 1
  have t2 := FZ.out.fou.c 2
  have t3 := FZ.out.fou.c 3
  simp [sc] at r0 r1 r2 r3 r4 r5 r6 r7 r8 r9 t0 t1 t2 t3
  exact bodyPost_ret (v := .tuple #[.agg zs, .agg zt, .int .i64 9]) (by simp [results, Tryd.results9, go_sem, zs, zt, r0, r1, r2, r3, r4, r5, r6, r7, r8, r9, t0, t1, t2, t3]) rfl ⟨rfl, FZ.out.bel⟩
end Go.Proofs.YtibkbimhedoafaaDoor.psub

-- HYB
namespace Go.Proofs.YtibkbimhedoafaaDoor.psub
open Go.RowKit Go.Proofs.YtibkbimhedoafaaDoor.base Go.Shelf Sb
open Go.Proofs.YtibkbimhedoafaaDoor.PH (subs_Check.f subs_Check.calls subs_day.f subs_day.calls subs_last.f subs_last.calls subs_period_on.f subs_period_on.calls)
open Go.Proofs.YtibkbimhedoafaaDoor.civ (Tab)
open Go.Proofs.YtibkbimhedoafaaDoorW.PrintWords (blk_grown blk_alloc blk_new blk_cell blk_frozen blk_far blk_set blk_drew below_drew1 Aside0)
set_option linter.unusedSimpArgs false
attribute [local go_sem] Oper.semAt_some min2_int min_two
/-- Three blocks, and what lay ahead of them. -/
structure F3 (w : World) (c1 c2 c3 : Array Value) (t1 t2 t3 : TypeId) (W : World) : Prop where
  one : Bl w.heap.size c1 t1 W
  two : Bl (w.heap.size + 1) c2 t2 W
  tri : Bl (w.heap.size + 1 + 1) c3 t3 W
  bel : Below w.heap.size w W
section
variable {w W V : World} {c1 c2 c3 : Array Value} {t1 t2 t3 : TypeId}
theorem F3.new (w : World) (c1 c2 c3 : Array Value) (t1 t2 t3 : TypeId) : F3 w c1 c2 c3 t1 t2 t3 (((w.alloc (.cells c1 t1 (0, 0))).alloc (.cells c2 t2 (0, 0))).alloc (.cells c3 t3 (0, 0))) := by
  have f1 := World.alloc_heap_new w (.cells c1 t1 (0, 0))
  have f2 := World.alloc_heap_new (w.alloc (.cells c1 t1 (0, 0))) (.cells c2 t2 (0, 0))
  have f3 := World.alloc_heap_new ((w.alloc (.cells c1 t1 (0, 0))).alloc (.cells c2 t2 (0, 0))) (.cells c3 t3 (0, 0))
  simp only [World.size_alloc] at f2 f3
  exact ⟨(Below.heap_alloc _ _ _ (by simp; omega)).trans ((Below.heap_alloc _ _ _ (by simp)).trans f1), (Below.heap_alloc _ _ _ (by simp)).trans f2, f3, ((Below.refl _ w).alloc (Nat.le_refl _) _ |>.alloc (by simp) _).alloc (by simp; omega) _⟩
theorem F3.all (h : F3 w c1 c2 c3 t1 t2 t3 W) (hB : Below W.heap.size W V) : F3 w c1 c2 c3 t1 t2 t3 V := ⟨h.one.all hB, h.two.all hB, h.tri.all hB, h.bel.trans (hB.mono h.bel.size)⟩
theorem F3.alloc (h : F3 w c1 c2 c3 t1 t2 t3 W) (o : Obj) : F3 w c1 c2 c3 t1 t2 t3 (W.alloc o) := ⟨h.one.alloc o, h.two.alloc o, h.tri.alloc o, h.bel.alloc h.bel.size o⟩
theorem F3.drew (h : F3 w c1 c2 c3 t1 t2 t3 W) : F3 w c1 c2 c3 t1 t2 t3 W.drew := ⟨h.one, h.two, h.tri, h.bel.drew⟩
theorem F3.put4 {z0 z1 z2 z3 : Value} (h : F3 w c1 c2 #[z0, z1, z2, z3] t1 t2 t3 W) (v0 v1 v2 v3 : Value) : F3 w c1 c2 #[v0, v1, v2, v3] t1 t2 t3 (put4 W (w.heap.size + 1 + 1) v0 v1 v2 v3) :=
  ⟨h.one.put4 (by omega) _ _ _ _, h.two.put4 (by omega) _ _ _ _, by
    have := blk_set (blk_set (blk_set (blk_set h.tri 0 v0) 1 v1) 2 v2) 3 v3
    simpa [psub.put4, Bl] using this, (((h.bel.setCell (by simp; omega) _).setCell (by simp; omega) _).setCell (by simp; omega) _).setCell (by simp; omega) _⟩
theorem F3.setO {d : Array Value} (h : F3 w c1 c2 c3 t1 t2 t3 W) (i : Nat) (v : Value) (hd : c1.setIfInBounds i v = d) : F3 w d c2 c3 t1 t2 t3 (W.setCell ⟨w.heap.size, i, none⟩ v) :=
  ⟨by rw [← hd]; exact blk_set h.one i v, h.two.far (by omega) _ _, h.tri.far (by omega) _ _, h.bel.setCell (by simp) _⟩
theorem F3.put10 (h : F3 w c1 zs c3 t1 t2 t3 W) (y : Su) : F3 w c1 (sc y) c3 t1 t2 t3 (put10 W (w.heap.size + 1) y) :=
  ⟨(put10_heap _ _ _ _ (by omega)).trans h.one, put10_self _ _ _ _ h.two, (put10_heap _ _ _ _ (by omega)).trans h.tri, put10_below h.bel _ _ (by omega)⟩
end
set_option maxRecDepth 100000 in
set_option maxHeartbeats 4000000 in
theorem cancel_arg (k : Nat) (x : Su) (on c : Int) (at_ d : Bool) (w : World) (T : Tab w) (hck : ckF k x = some c) (hd : subs_day.f on = some d) (hb : c ≠ 0 ∨ d = false) :
    Calls Tryd.prog 12 #[.agg (sc x), .int .i64 on, .bool at_] w fun e w' => e = .returned (.tuple #[.agg zs, .agg zt, .int .i64 2]) ∧ Below w.heap.size w w' := by
  have Hhb := Lib.hid hb
  clear hb
  have HP := Lib.hid (fun w (T : Tab w) => subs_Check.calls k x.id x.cu x.pl x.st x.an x.ev x.pr x.bi x.si x.en c w (Aside0.mk T) hck)
  have HD := Lib.hid (fun w => subs_day.calls on d w hd)
  have HT := Lib.hid T
  clear T hck hd
  have F1 := Lib.hid (F3.new w (sc x) zs zt 26 26 30)
  unfold sc at F1
  unfold sc
  go_enter Tryd.func12, Tryd.ntmps12
  go_wp2_with fail
  refine (HP.out _ (tabB HT.out (by have := F1.out.bel; unfold zs zt at this; exact this))).mono ?_
  rintro e w1 ⟨rfl, B1⟩
  have F2 := Lib.hid (F1.out.all (by unfold zs zt; exact B1))
  clear B1 F1
  have hb := Hhb.out
  by_cases h0 : c = 0
  · subst h0
    go_wp2_with fail
    refine (HD.out _).mono ?_
    rintro e w2 ⟨rfl, D2⟩
    have F3 := Lib.hid (F2.out.all D2.below)
    clear D2 F2
    obtain rfl : d = false := by simpa using hb
    have r0 := F3.out.two.c 0
    have q0 := F3.out.two.f 0
    have r1 := F3.out.two.c 1
    have q1 := F3.out.two.f 1
    have r2 := F3.out.two.c 2
    have q2 := F3.out.two.f 2
    have r3 := F3.out.two.c 3
    have q3 := F3.out.two.f 3
    have r4 := F3.out.two.c 4
    have q4 := F3.out.two.f 4
    have r5 := F3.out.two.c 5
    have q5 := F3.out.two.f 5
    have r6 := F3.out.two.c 6
    have q6 := F3.out.two.f 6
    have r7 := F3.out.two.c 7
    have q7 := F3.out.two.f 7
    have r8 := F3.out.two.c 8
    have q8 := F3.out.two.f 8
    have r9 := F3.out.two.c 9
    have q9 := F3.out.two.f 9
    have t0 := F3.out.tri.c 0
    have u0 := F3.out.tri.f 0
    have t1 := F3.out.tri.c 1
    have u1 := F3.out.tri.f 1
    have t2 := F3.out.tri.c 2
    have u2 := F3.out.tri.f 2
    have t3 := F3.out.tri.c 3
    have u3 := F3.out.tri.f 3
    simp [zs, zt] at r0 r1 r2 r3 r4 r5 r6 r7 r8 r9 t0 t1 t2 t3
    go_wp2_with fail
    have FZ := Lib.hid ((F3.out.put10 ⟨0, 0, 0, 0, 0, 0, 0, 0, 0, 0⟩).put4 (.int .i64 0) (.int .i64 0) (.int .i64 0) (.int .i64 0))
    change bodyPost _ _ _ _ _ (put4 (put10 _ (w.heap.size + 1) ⟨0, 0, 0, 0, 0, 0, 0, 0, 0, 0⟩) (w.heap.size + 1 + 1) (.int .i64 0) (.int .i64 0) (.int .i64 0) (.int .i64 0))
    clear r0 q0 r1 q1 r2 q2 r3 q3 r4 q4 r5 q5 r6 q6 r7 q7 r8 q8 r9 q9 t0 u0 t1 u1 t2 u2 t3 u3
    generalize put4 (put10 _ (w.heap.size + 1) ⟨0, 0, 0, 0, 0, 0, 0, 0, 0, 0⟩) (w.heap.size + 1 + 1) (.int .i64 0) (.int .i64 0) (.int .i64 0) (.int .i64 0) = V at FZ ⊢
    have r0 := FZ.out.two.c 0
    have r1 := FZ.out.two.c 1
    have r2 := FZ.out.two.c 2
    have r3 := FZ.out.two.c 3
    have r4 := FZ.out.two.c 4
    have r5 := FZ.out.two.c 5
    have r6 := FZ.out.two.c 6
    have r7 := FZ.out.two.c 7
    have r8 := FZ.out.two.c 8
    have r9 := FZ.out.two.c 9
    have t0 := FZ.out.tri.c 0
    have t1 := FZ.out.tri.c 1
    have t2 := FZ.out.tri.c 2
    have t3 := FZ.out.tri.c 3
    simp [sc] at r0 r1 r2 r3 r4 r5 r6 r7 r8 r9 t0 t1 t2 t3
    exact bodyPost_ret (v := .tuple #[.agg zs, .agg #[.int .i64 0, .int .i64 0, .int .i64 0, .int .i64 0], .int .i64 2]) (by simp [results, Tryd.results12, go_sem, zs, r0, r1, r2, r3, r4, r5, r6, r7, r8, r9, t0, t1, t2, t3]) rfl ⟨rfl, FZ.out.bel⟩
  · have g0 : (c == 0) = false := by simpa using h0
    have g0' : (c != 0) = true := by simpa using h0
    have r0 := F2.out.two.c 0
    have q0 := F2.out.two.f 0
    have r1 := F2.out.two.c 1
    have q1 := F2.out.two.f 1
    have r2 := F2.out.two.c 2
    have q2 := F2.out.two.f 2
    have r3 := F2.out.two.c 3
    have q3 := F2.out.two.f 3
    have r4 := F2.out.two.c 4
    have q4 := F2.out.two.f 4
    have r5 := F2.out.two.c 5
    have q5 := F2.out.two.f 5
    have r6 := F2.out.two.c 6
    have q6 := F2.out.two.f 6
    have r7 := F2.out.two.c 7
    have q7 := F2.out.two.f 7
    have r8 := F2.out.two.c 8
    have q8 := F2.out.two.f 8
    have r9 := F2.out.two.c 9
    have q9 := F2.out.two.f 9
    have t0 := F2.out.tri.c 0
    have u0 := F2.out.tri.f 0
    have t1 := F2.out.tri.c 1
    have u1 := F2.out.tri.f 1
    have t2 := F2.out.tri.c 2
    have u2 := F2.out.tri.f 2
    have t3 := F2.out.tri.c 3
    have u3 := F2.out.tri.f 3
    simp [zs, zt] at r0 r1 r2 r3 r4 r5 r6 r7 r8 r9 t0 t1 t2 t3
    go_wp2_with fail
    have FZ := Lib.hid ((F2.out.put10 ⟨0, 0, 0, 0, 0, 0, 0, 0, 0, 0⟩).put4 (.int .i64 0) (.int .i64 0) (.int .i64 0) (.int .i64 0))
    change bodyPost _ _ _ _ _ (put4 (put10 _ (w.heap.size + 1) ⟨0, 0, 0, 0, 0, 0, 0, 0, 0, 0⟩) (w.heap.size + 1 + 1) (.int .i64 0) (.int .i64 0) (.int .i64 0) (.int .i64 0))
    clear r0 q0 r1 q1 r2 q2 r3 q3 r4 q4 r5 q5 r6 q6 r7 q7 r8 q8 r9 q9 t0 u0 t1 u1 t2 u2 t3 u3
    generalize put4 (put10 _ (w.heap.size + 1) ⟨0, 0, 0, 0, 0, 0, 0, 0, 0, 0⟩) (w.heap.size + 1 + 1) (.int .i64 0) (.int .i64 0) (.int .i64 0) (.int .i64 0) = V at FZ ⊢
    have r0 := FZ.out.two.c 0
    have r1 := FZ.out.two.c 1
    have r2 := FZ.out.two.c 2
    have r3 := FZ.out.two.c 3
    have r4 := FZ.out.two.c 4
    have r5 := FZ.out.two.c 5
    have r6 := FZ.out.two.c 6
    have r7 := FZ.out.two.c 7
    have r8 := FZ.out.two.c 8
    have r9 := FZ.out.two.c 9
    have t0 := FZ.out.tri.c 0
    have t1 := FZ.out.tri.c 1
    have t2 := FZ.out.tri.c 2
    have t3 := FZ.out.tri.c 3
    simp [sc] at r0 r1 r2 r3 r4 r5 r6 r7 r8 r9 t0 t1 t2 t3
    exact bodyPost_ret (v := .tuple #[.agg zs, .agg #[.int .i64 0, .int .i64 0, .int .i64 0, .int .i64 0], .int .i64 2]) (by simp [results, Tryd.results12, go_sem, zs, r0, r1, r2, r3, r4, r5, r6, r7, r8, r9, t0, t1, t2, t3]) rfl ⟨rfl, FZ.out.bel⟩
set_option maxRecDepth 100000 in
set_option maxHeartbeats 4000000 in
theorem cancel_state (k : Nat) (x : Su) (on : Int) (at_ : Bool) (w : World) (T : Tab w) (hck : ckF k x = some 0) (hd : subs_day.f on = some true) (hb : x.en ≠ 0 ∨ on < x.st ∨ at_ = true ∧ on < x.si) :
    Calls Tryd.prog 12 #[.agg (sc x), .int .i64 on, .bool at_] w fun e w' => e = .returned (.tuple #[.agg zs, .agg zt, .int .i64 9]) ∧ Below w.heap.size w w' := by
  have Hhb := Lib.hid hb
  clear hb
  have HP := Lib.hid (fun w (T : Tab w) => subs_Check.calls k x.id x.cu x.pl x.st x.an x.ev x.pr x.bi x.si x.en 0 w (Aside0.mk T) hck)
  have HD := Lib.hid (fun w => subs_day.calls on true w hd)
  have HT := Lib.hid T
  clear T hck hd
  have F1 := Lib.hid (F3.new w (sc x) zs zt 26 26 30)
  unfold sc at F1
  unfold sc
  go_enter Tryd.func12, Tryd.ntmps12
  go_wp2_with fail
  refine (HP.out _ (tabB HT.out (by have := F1.out.bel; unfold zs zt at this; exact this))).mono ?_
  rintro e w1 ⟨rfl, B1⟩
  have F2 := Lib.hid (F1.out.all (by unfold zs zt; exact B1))
  clear B1 F1
  go_wp2_with fail
  refine (HD.out _).mono ?_
  rintro e w2 ⟨rfl, D2⟩
  have F3 := Lib.hid (F2.out.all D2.below)
  clear D2 F2
  have s3 := F3.out.one.c 3
  have s8 := F3.out.one.c 8
  have s9 := F3.out.one.c 9
  simp at s3 s8 s9
  have hb := Hhb.out
  by_cases h0 : x.en = 0
  · have g0 : (x.en == 0) = true := by simpa using h0
    have g0' : (x.en != 0) = false := by simpa using h0
    by_cases h1 : on < x.st
    · have g1 := decide_eq_true h1
      have r0 := F3.out.two.c 0
      have q0 := F3.out.two.f 0
      have r1 := F3.out.two.c 1
      have q1 := F3.out.two.f 1
      have r2 := F3.out.two.c 2
      have q2 := F3.out.two.f 2
      have r3 := F3.out.two.c 3
      have q3 := F3.out.two.f 3
      have r4 := F3.out.two.c 4
      have q4 := F3.out.two.f 4
      have r5 := F3.out.two.c 5
      have q5 := F3.out.two.f 5
      have r6 := F3.out.two.c 6
      have q6 := F3.out.two.f 6
      have r7 := F3.out.two.c 7
      have q7 := F3.out.two.f 7
      have r8 := F3.out.two.c 8
      have q8 := F3.out.two.f 8
      have r9 := F3.out.two.c 9
      have q9 := F3.out.two.f 9
      have t0 := F3.out.tri.c 0
      have u0 := F3.out.tri.f 0
      have t1 := F3.out.tri.c 1
      have u1 := F3.out.tri.f 1
      have t2 := F3.out.tri.c 2
      have u2 := F3.out.tri.f 2
      have t3 := F3.out.tri.c 3
      have u3 := F3.out.tri.f 3
      simp [zs, zt] at r0 r1 r2 r3 r4 r5 r6 r7 r8 r9 t0 t1 t2 t3
      go_wp2_with fail
      have FZ := Lib.hid ((F3.out.put10 ⟨0, 0, 0, 0, 0, 0, 0, 0, 0, 0⟩).put4 (.int .i64 0) (.int .i64 0) (.int .i64 0) (.int .i64 0))
      change bodyPost _ _ _ _ _ (put4 (put10 _ (w.heap.size + 1) ⟨0, 0, 0, 0, 0, 0, 0, 0, 0, 0⟩) (w.heap.size + 1 + 1) (.int .i64 0) (.int .i64 0) (.int .i64 0) (.int .i64 0))
      clear r0 q0 r1 q1 r2 q2 r3 q3 r4 q4 r5 q5 r6 q6 r7 q7 r8 q8 r9 q9 t0 u0 t1 u1 t2 u2 t3 u3
      generalize put4 (put10 _ (w.heap.size + 1) ⟨0, 0, 0, 0, 0, 0, 0, 0, 0, 0⟩) (w.heap.size + 1 + 1) (.int .i64 0) (.int .i64 0) (.int .i64 0) (.int .i64 0) = V at FZ ⊢
      have r0 := FZ.out.two.c 0
      have r1 := FZ.out.two.c 1
      have r2 := FZ.out.two.c 2
      have r3 := FZ.out.two.c 3
      have r4 := FZ.out.two.c 4
      have r5 := FZ.out.two.c 5
      have r6 := FZ.out.two.c 6
      have r7 := FZ.out.two.c 7
      have r8 := FZ.out.two.c 8
      have r9 := FZ.out.two.c 9
      have t0 := FZ.out.tri.c 0
      have t1 := FZ.out.tri.c 1
      have t2 := FZ.out.tri.c 2
      have t3 := FZ.out.tri.c 3
      simp [sc] at r0 r1 r2 r3 r4 r5 r6 r7 r8 r9 t0 t1 t2 t3
      exact bodyPost_ret (v := .tuple #[.agg zs, .agg #[.int .i64 0, .int .i64 0, .int .i64 0, .int .i64 0], .int .i64 9]) (by simp [results, Tryd.results12, go_sem, zs, r0, r1, r2, r3, r4, r5, r6, r7, r8, r9, t0, t1, t2, t3]) rfl ⟨rfl, FZ.out.bel⟩
    · have g1 := decide_eq_false h1
      have h2 : at_ = true ∧ on < x.si := by simpa [h0, h1] using hb
      obtain ⟨rfl, h2⟩ := h2
      have g2 := decide_eq_true h2
      have r0 := F3.out.two.c 0
      have q0 := F3.out.two.f 0
      have r1 := F3.out.two.c 1
      have q1 := F3.out.two.f 1
      have r2 := F3.out.two.c 2
      have q2 := F3.out.two.f 2
      have r3 := F3.out.two.c 3
      have q3 := F3.out.two.f 3
      have r4 := F3.out.two.c 4
      have q4 := F3.out.two.f 4
      have r5 := F3.out.two.c 5
      have q5 := F3.out.two.f 5
      have r6 := F3.out.two.c 6
      have q6 := F3.out.two.f 6
      have r7 := F3.out.two.c 7
      have q7 := F3.out.two.f 7
      have r8 := F3.out.two.c 8
      have q8 := F3.out.two.f 8
      have r9 := F3.out.two.c 9
      have q9 := F3.out.two.f 9
      have t0 := F3.out.tri.c 0
      have u0 := F3.out.tri.f 0
      have t1 := F3.out.tri.c 1
      have u1 := F3.out.tri.f 1
      have t2 := F3.out.tri.c 2
      have u2 := F3.out.tri.f 2
      have t3 := F3.out.tri.c 3
      have u3 := F3.out.tri.f 3
      simp [zs, zt] at r0 r1 r2 r3 r4 r5 r6 r7 r8 r9 t0 t1 t2 t3
      go_wp2_with fail
      have FZ := Lib.hid ((F3.out.put10 ⟨0, 0, 0, 0, 0, 0, 0, 0, 0, 0⟩).put4 (.int .i64 0) (.int .i64 0) (.int .i64 0) (.int .i64 0))
      change bodyPost _ _ _ _ _ (put4 (put10 _ (w.heap.size + 1) ⟨0, 0, 0, 0, 0, 0, 0, 0, 0, 0⟩) (w.heap.size + 1 + 1) (.int .i64 0) (.int .i64 0) (.int .i64 0) (.int .i64 0))
      clear r0 q0 r1 q1 r2 q2 r3 q3 r4 q4 r5 q5 r6 q6 r7 q7 r8 q8 r9 q9 t0 u0 t1 u1 t2 u2 t3 u3
      generalize put4 (put10 _ (w.heap.size + 1) ⟨0, 0, 0, 0, 0, 0, 0, 0, 0, 0⟩) (w.heap.size + 1 + 1) (.int .i64 0) (.int .i64 0) (.int .i64 0) (.int .i64 0) = V at FZ ⊢
      have r0 := FZ.out.two.c 0
      have r1 := FZ.out.two.c 1
      have r2 := FZ.out.two.c 2
      have r3 := FZ.out.two.c 3
      have r4 := FZ.out.two.c 4
      have r5 := FZ.out.two.c 5
      have r6 := FZ.out.two.c 6
      have r7 := FZ.out.two.c 7
      have r8 := FZ.out.two.c 8
      have r9 := FZ.out.two.c 9
      have t0 := FZ.out.tri.c 0
      have t1 := FZ.out.tri.c 1
      have t2 := FZ.out.tri.c 2
      have t3 := FZ.out.tri.c 3
      simp [sc] at r0 r1 r2 r3 r4 r5 r6 r7 r8 r9 t0 t1 t2 t3
      exact bodyPost_ret (v := .tuple #[.agg zs, .agg #[.int .i64 0, .int .i64 0, .int .i64 0, .int .i64 0], .int .i64 9]) (by simp [results, Tryd.results12, go_sem, zs, r0, r1, r2, r3, r4, r5, r6, r7, r8, r9, t0, t1, t2, t3]) rfl ⟨rfl, FZ.out.bel⟩
  · have g0 : (x.en == 0) = false := by simpa using h0
    have g0' : (x.en != 0) = true := by simpa using h0
    have r0 := F3.out.two.c 0
    have q0 := F3.out.two.f 0
    have r1 := F3.out.two.c 1
    have q1 := F3.out.two.f 1
    have r2 := F3.out.two.c 2
    have q2 := F3.out.two.f 2
    have r3 := F3.out.two.c 3
    have q3 := F3.out.two.f 3
    have r4 := F3.out.two.c 4
    have q4 := F3.out.two.f 4
    have r5 := F3.out.two.c 5
    have q5 := F3.out.two.f 5
    have r6 := F3.out.two.c 6
    have q6 := F3.out.two.f 6
    have r7 := F3.out.two.c 7
    have q7 := F3.out.two.f 7
    have r8 := F3.out.two.c 8
    have q8 := F3.out.two.f 8
    have r9 := F3.out.two.c 9
    have q9 := F3.out.two.f 9
    have t0 := F3.out.tri.c 0
    have u0 := F3.out.tri.f 0
    have t1 := F3.out.tri.c 1
    have u1 := F3.out.tri.f 1
    have t2 := F3.out.tri.c 2
    have u2 := F3.out.tri.f 2
    have t3 := F3.out.tri.c 3
    have u3 := F3.out.tri.f 3
    simp [zs, zt] at r0 r1 r2 r3 r4 r5 r6 r7 r8 r9 t0 t1 t2 t3
    go_wp2_with fail
    have FZ := Lib.hid ((F3.out.put10 ⟨0, 0, 0, 0, 0, 0, 0, 0, 0, 0⟩).put4 (.int .i64 0) (.int .i64 0) (.int .i64 0) (.int .i64 0))
    change bodyPost _ _ _ _ _ (put4 (put10 _ (w.heap.size + 1) ⟨0, 0, 0, 0, 0, 0, 0, 0, 0, 0⟩) (w.heap.size + 1 + 1) (.int .i64 0) (.int .i64 0) (.int .i64 0) (.int .i64 0))
    clear r0 q0 r1 q1 r2 q2 r3 q3 r4 q4 r5 q5 r6 q6 r7 q7 r8 q8 r9 q9 t0 u0 t1 u1 t2 u2 t3 u3
    generalize put4 (put10 _ (w.heap.size + 1) ⟨0, 0, 0, 0, 0, 0, 0, 0, 0, 0⟩) (w.heap.size + 1 + 1) (.int .i64 0) (.int .i64 0) (.int .i64 0) (.int .i64 0) = V at FZ ⊢
    have r0 := FZ.out.two.c 0
    have r1 := FZ.out.two.c 1
    have r2 := FZ.out.two.c 2
    have r3 := FZ.out.two.c 3
    have r4 := FZ.out.two.c 4
    have r5 := FZ.out.two.c 5
    have r6 := FZ.out.two.c 6
    have r7 := FZ.out.two.c 7
    have r8 := FZ.out.two.c 8
    have r9 := FZ.out.two.c 9
    have t0 := FZ.out.tri.c 0
    have t1 := FZ.out.tri.c 1
    have t2 := FZ.out.tri.c 2
    have t3 := FZ.out.tri.c 3
    simp [sc] at r0 r1 r2 r3 r4 r5 r6 r7 r8 r9 t0 t1 t2 t3
    exact bodyPost_ret (v := .tuple #[.agg zs, .agg #[.int .i64 0, .int .i64 0, .int .i64 0, .int .i64 0], .int .i64 9]) (by simp [results, Tryd.results12, go_sem, zs, r0, r1, r2, r3, r4, r5, r6, r7, r8, r9, t0, t1, t2, t3]) rfl ⟨rfl, FZ.out.bel⟩
set_option maxRecDepth 100000 in
set_option maxHeartbeats 4000000 in
theorem cancel_find (k : Nat) (x : Su) (on i f n er : Int) (at_ : Bool) (w : World) (T : Tab w) (hck : ckF k x = some 0) (hd : subs_day.f on = some true) (h0 : x.en = 0) (h1 : x.st ≤ on) (h2 : at_ = true → x.si ≤ on) (hf : ∀ w, Tab w → Calls Tryd.prog 31 #[.agg #[.int .i64 x.st, .int .i64 x.an, .int .i64 x.ev], .int .i64 on] w fun e w' => e = .returned (.tuple #[.int .i64 i, .int .i64 f, .int .i64 n, .int .i64 er]) ∧ Below w.heap.size w w') (he : er ≠ 0) :
    Calls Tryd.prog 12 #[.agg (sc x), .int .i64 on, .bool at_] w fun e w' => e = .returned (.tuple #[.agg zs, .agg zt, .int .i64 er]) ∧ Below w.heap.size w w' := by
  have Hh0 := Lib.hid h0
  have Hh1 := Lib.hid h1
  have Hh2 := Lib.hid h2
  have Hhe := Lib.hid he
  clear h0 h1 h2 he
  have HP := Lib.hid (fun w (T : Tab w) => subs_Check.calls k x.id x.cu x.pl x.st x.an x.ev x.pr x.bi x.si x.en 0 w (Aside0.mk T) hck)
  have HD := Lib.hid (fun w => subs_day.calls on true w hd)
  have HF := Lib.hid hf
  have HT := Lib.hid T
  clear T hck hd hf
  have F1 := Lib.hid (F3.new w (sc x) zs zt 26 26 30)
  unfold sc at F1
  unfold sc
  go_enter Tryd.func12, Tryd.ntmps12
  go_wp2_with fail
  refine (HP.out _ (tabB HT.out (by have := F1.out.bel; unfold zs zt at this; exact this))).mono ?_
  rintro e w1 ⟨rfl, B1⟩
  have F2 := Lib.hid (F1.out.all (by unfold zs zt; exact B1))
  clear B1 F1
  go_wp2_with fail
  refine (HD.out _).mono ?_
  rintro e w2 ⟨rfl, D2⟩
  have F3 := Lib.hid (F2.out.all D2.below)
  clear D2 F2
  have s3 := F3.out.one.c 3
  have s4 := F3.out.one.c 4
  have s5 := F3.out.one.c 5
  have s8 := F3.out.one.c 8
  have s9 := F3.out.one.c 9
  simp at s3 s4 s5 s8 s9
  have h0 := Hh0.out
  have h1 := Hh1.out
  have h2 := Hh2.out
  have he := Hhe.out
  have g0 : (x.en == 0) = true := by simpa using h0
  have g0' : (x.en != 0) = false := by simpa using h0
  have g1 : decide (on < x.st) = false := decide_eq_false (by omega)
  have ge : (er == 0) = false := by simpa using he
  have ge' : (er != 0) = true := by simpa using he
  clear h0 h1 h2 he
  cases at_ with
  | false =>
    go_wp2_with fail
    refine (HF.out _ (tabB HT.out F3.out.bel)).mono ?_
    rintro e w3 ⟨rfl, B3⟩
    have F4 := Lib.hid (F3.out.all B3)
    clear B3 F3 s3 s4 s5 s8 s9
    have r0 := F4.out.two.c 0
    have q0 := F4.out.two.f 0
    have r1 := F4.out.two.c 1
    have q1 := F4.out.two.f 1
    have r2 := F4.out.two.c 2
    have q2 := F4.out.two.f 2
    have r3 := F4.out.two.c 3
    have q3 := F4.out.two.f 3
    have r4 := F4.out.two.c 4
    have q4 := F4.out.two.f 4
    have r5 := F4.out.two.c 5
    have q5 := F4.out.two.f 5
    have r6 := F4.out.two.c 6
    have q6 := F4.out.two.f 6
    have r7 := F4.out.two.c 7
    have q7 := F4.out.two.f 7
    have r8 := F4.out.two.c 8
    have q8 := F4.out.two.f 8
    have r9 := F4.out.two.c 9
    have q9 := F4.out.two.f 9
    have t0 := F4.out.tri.c 0
    have u0 := F4.out.tri.f 0
    have t1 := F4.out.tri.c 1
    have u1 := F4.out.tri.f 1
    have t2 := F4.out.tri.c 2
    have u2 := F4.out.tri.f 2
    have t3 := F4.out.tri.c 3
    have u3 := F4.out.tri.f 3
    simp [zs, zt] at r0 r1 r2 r3 r4 r5 r6 r7 r8 r9 t0 t1 t2 t3
    go_wp2_with fail
    have FZ := Lib.hid ((F4.out.put10 ⟨0, 0, 0, 0, 0, 0, 0, 0, 0, 0⟩).put4 (.int .i64 0) (.int .i64 0) (.int .i64 0) (.int .i64 0))
    change bodyPost _ _ _ _ _ (put4 (put10 _ (w.heap.size + 1) ⟨0, 0, 0, 0, 0, 0, 0, 0, 0, 0⟩) (w.heap.size + 1 + 1) (.int .i64 0) (.int .i64 0) (.int .i64 0) (.int .i64 0))
    clear r0 q0 r1 q1 r2 q2 r3 q3 r4 q4 r5 q5 r6 q6 r7 q7 r8 q8 r9 q9 t0 u0 t1 u1 t2 u2 t3 u3
    generalize put4 (put10 _ (w.heap.size + 1) ⟨0, 0, 0, 0, 0, 0, 0, 0, 0, 0⟩) (w.heap.size + 1 + 1) (.int .i64 0) (.int .i64 0) (.int .i64 0) (.int .i64 0) = V at FZ ⊢
    have r0 := FZ.out.two.c 0
    have r1 := FZ.out.two.c 1
    have r2 := FZ.out.two.c 2
    have r3 := FZ.out.two.c 3
    have r4 := FZ.out.two.c 4
    have r5 := FZ.out.two.c 5
    have r6 := FZ.out.two.c 6
    have r7 := FZ.out.two.c 7
    have r8 := FZ.out.two.c 8
    have r9 := FZ.out.two.c 9
    have t0 := FZ.out.tri.c 0
    have t1 := FZ.out.tri.c 1
    have t2 := FZ.out.tri.c 2
    have t3 := FZ.out.tri.c 3
    simp [sc] at r0 r1 r2 r3 r4 r5 r6 r7 r8 r9 t0 t1 t2 t3
    exact bodyPost_ret (v := .tuple #[.agg zs, .agg #[.int .i64 0, .int .i64 0, .int .i64 0, .int .i64 0], .int .i64 er]) (by simp [results, Tryd.results12, go_sem, zs, r0, r1, r2, r3, r4, r5, r6, r7, r8, r9, t0, t1, t2, t3]) rfl ⟨rfl, FZ.out.bel⟩
  | true =>
    have g2 : decide (on < x.si) = false := decide_eq_false (by have := Hh2.out rfl; omega)
    go_wp2_with fail
    refine (HF.out _ (tabB HT.out F3.out.bel)).mono ?_
    rintro e w3 ⟨rfl, B3⟩
    have F4 := Lib.hid (F3.out.all B3)
    clear B3 F3 s3 s4 s5 s8 s9
    have r0 := F4.out.two.c 0
    have q0 := F4.out.two.f 0
    have r1 := F4.out.two.c 1
    have q1 := F4.out.two.f 1
    have r2 := F4.out.two.c 2
    have q2 := F4.out.two.f 2
    have r3 := F4.out.two.c 3
    have q3 := F4.out.two.f 3
    have r4 := F4.out.two.c 4
    have q4 := F4.out.two.f 4
    have r5 := F4.out.two.c 5
    have q5 := F4.out.two.f 5
    have r6 := F4.out.two.c 6
    have q6 := F4.out.two.f 6
    have r7 := F4.out.two.c 7
    have q7 := F4.out.two.f 7
    have r8 := F4.out.two.c 8
    have q8 := F4.out.two.f 8
    have r9 := F4.out.two.c 9
    have q9 := F4.out.two.f 9
    have t0 := F4.out.tri.c 0
    have u0 := F4.out.tri.f 0
    have t1 := F4.out.tri.c 1
    have u1 := F4.out.tri.f 1
    have t2 := F4.out.tri.c 2
    have u2 := F4.out.tri.f 2
    have t3 := F4.out.tri.c 3
    have u3 := F4.out.tri.f 3
    simp [zs, zt] at r0 r1 r2 r3 r4 r5 r6 r7 r8 r9 t0 t1 t2 t3
    go_wp2_with fail
    have FZ := Lib.hid ((F4.out.put10 ⟨0, 0, 0, 0, 0, 0, 0, 0, 0, 0⟩).put4 (.int .i64 0) (.int .i64 0) (.int .i64 0) (.int .i64 0))
    change bodyPost _ _ _ _ _ (put4 (put10 _ (w.heap.size + 1) ⟨0, 0, 0, 0, 0, 0, 0, 0, 0, 0⟩) (w.heap.size + 1 + 1) (.int .i64 0) (.int .i64 0) (.int .i64 0) (.int .i64 0))
    clear r0 q0 r1 q1 r2 q2 r3 q3 r4 q4 r5 q5 r6 q6 r7 q7 r8 q8 r9 q9 t0 u0 t1 u1 t2 u2 t3 u3
    generalize put4 (put10 _ (w.heap.size + 1) ⟨0, 0, 0, 0, 0, 0, 0, 0, 0, 0⟩) (w.heap.size + 1 + 1) (.int .i64 0) (.int .i64 0) (.int .i64 0) (.int .i64 0) = V at FZ ⊢
    have r0 := FZ.out.two.c 0
    have r1 := FZ.out.two.c 1
    have r2 := FZ.out.two.c 2
    have r3 := FZ.out.two.c 3
    have r4 := FZ.out.two.c 4
    have r5 := FZ.out.two.c 5
    have r6 := FZ.out.two.c 6
    have r7 := FZ.out.two.c 7
    have r8 := FZ.out.two.c 8
    have r9 := FZ.out.two.c 9
    have t0 := FZ.out.tri.c 0
    have t1 := FZ.out.tri.c 1
    have t2 := FZ.out.tri.c 2
    have t3 := FZ.out.tri.c 3
    simp [sc] at r0 r1 r2 r3 r4 r5 r6 r7 r8 r9 t0 t1 t2 t3
    exact bodyPost_ret (v := .tuple #[.agg zs, .agg #[.int .i64 0, .int .i64 0, .int .i64 0, .int .i64 0], .int .i64 er]) (by simp [results, Tryd.results12, go_sem, zs, r0, r1, r2, r3, r4, r5, r6, r7, r8, r9, t0, t1, t2, t3]) rfl ⟨rfl, FZ.out.bel⟩
set_option maxRecDepth 100000 in
set_option maxHeartbeats 4000000 in
theorem cancel_ahead (k : Nat) (x : Su) (on i f n : Int) (at_ : Bool) (w : World) (T : Tab w) (hck : ckF k x = some 0) (hd : subs_day.f on = some true) (h0 : x.en = 0) (h1 : x.st ≤ on) (h2 : at_ = true → x.si ≤ on) (hf : ∀ w, Tab w → Calls Tryd.prog 31 #[.agg #[.int .i64 x.st, .int .i64 x.an, .int .i64 x.ev], .int .i64 on] w fun e w' => e = .returned (.tuple #[.int .i64 i, .int .i64 f, .int .i64 n, .int .i64 0]) ∧ Below w.heap.size w w') (hi : 0 ≤ i) (hi2 : i ≤ 200000) (hb : i + 1 < x.bi) :
    Calls Tryd.prog 12 #[.agg (sc x), .int .i64 on, .bool at_] w fun e w' => e = .returned (.tuple #[.agg zs, .agg zt, .int .i64 9]) ∧ Below w.heap.size w w' := by
  have Hh0 := Lib.hid h0
  have Hh1 := Lib.hid h1
  have Hh2 := Lib.hid h2
  have Hhb := Lib.hid hb
  clear h0 h1 h2 hb
  have HP := Lib.hid (fun w (T : Tab w) => subs_Check.calls k x.id x.cu x.pl x.st x.an x.ev x.pr x.bi x.si x.en 0 w (Aside0.mk T) hck)
  have HD := Lib.hid (fun w => subs_day.calls on true w hd)
  have HF := Lib.hid hf
  have HT := Lib.hid T
  clear T hck hd hf
  have F1 := Lib.hid (F3.new w (sc x) zs zt 26 26 30)
  unfold sc at F1
  unfold sc
  go_enter Tryd.func12, Tryd.ntmps12
  go_wp2_with fail
  refine (HP.out _ (tabB HT.out (by have := F1.out.bel; unfold zs zt at this; exact this))).mono ?_
  rintro e w1 ⟨rfl, B1⟩
  have F2 := Lib.hid (F1.out.all (by unfold zs zt; exact B1))
  clear B1 F1
  go_wp2_with fail
  refine (HD.out _).mono ?_
  rintro e w2 ⟨rfl, D2⟩
  have F3 := Lib.hid (F2.out.all D2.below)
  clear D2 F2
  have s3 := F3.out.one.c 3
  have s4 := F3.out.one.c 4
  have s5 := F3.out.one.c 5
  have s8 := F3.out.one.c 8
  have s9 := F3.out.one.c 9
  simp at s3 s4 s5 s8 s9
  have h0 := Hh0.out
  have h1 := Hh1.out
  have h2 := Hh2.out
  have hb := Hhb.out
  have g0 : (x.en == 0) = true := by simpa using h0
  have g0' : (x.en != 0) = false := by simpa using h0
  have g1 : decide (on < x.st) = false := decide_eq_false (by omega)
  have gb : decide (i + 1 < x.bi) = true := decide_eq_true hb
  clear h0 h1 h2 hb
  cases at_ with
  | false =>
    go_wp2_with fail
    refine (HF.out _ (tabB HT.out F3.out.bel)).mono ?_
    rintro e w3 ⟨rfl, B3⟩
    have F4 := Lib.hid (F3.out.all B3)
    clear B3 F3 s3 s4 s5 s8 s9
    have s7 := F4.out.one.c 7
    simp at s7
    have r0 := F4.out.two.c 0
    have q0 := F4.out.two.f 0
    have r1 := F4.out.two.c 1
    have q1 := F4.out.two.f 1
    have r2 := F4.out.two.c 2
    have q2 := F4.out.two.f 2
    have r3 := F4.out.two.c 3
    have q3 := F4.out.two.f 3
    have r4 := F4.out.two.c 4
    have q4 := F4.out.two.f 4
    have r5 := F4.out.two.c 5
    have q5 := F4.out.two.f 5
    have r6 := F4.out.two.c 6
    have q6 := F4.out.two.f 6
    have r7 := F4.out.two.c 7
    have q7 := F4.out.two.f 7
    have r8 := F4.out.two.c 8
    have q8 := F4.out.two.f 8
    have r9 := F4.out.two.c 9
    have q9 := F4.out.two.f 9
    have t0 := F4.out.tri.c 0
    have u0 := F4.out.tri.f 0
    have t1 := F4.out.tri.c 1
    have u1 := F4.out.tri.f 1
    have t2 := F4.out.tri.c 2
    have u2 := F4.out.tri.f 2
    have t3 := F4.out.tri.c 3
    have u3 := F4.out.tri.f 3
    simp [zs, zt] at r0 r1 r2 r3 r4 r5 r6 r7 r8 r9 t0 t1 t2 t3
    go_wp2_with fail
    have FZ := Lib.hid ((F4.out.put10 ⟨0, 0, 0, 0, 0, 0, 0, 0, 0, 0⟩).put4 (.int .i64 0) (.int .i64 0) (.int .i64 0) (.int .i64 0))
    change bodyPost _ _ _ _ _ (put4 (put10 _ (w.heap.size + 1) ⟨0, 0, 0, 0, 0, 0, 0, 0, 0, 0⟩) (w.heap.size + 1 + 1) (.int .i64 0) (.int .i64 0) (.int .i64 0) (.int .i64 0))
    clear r0 q0 r1 q1 r2 q2 r3 q3 r4 q4 r5 q5 r6 q6 r7 q7 r8 q8 r9 q9 t0 u0 t1 u1 t2 u2 t3 u3
    generalize put4 (put10 _ (w.heap.size + 1) ⟨0, 0, 0, 0, 0, 0, 0, 0, 0, 0⟩) (w.heap.size + 1 + 1) (.int .i64 0) (.int .i64 0) (.int .i64 0) (.int .i64 0) = V at FZ ⊢
    have r0 := FZ.out.two.c 0
    have r1 := FZ.out.two.c 1
    have r2 := FZ.out.two.c 2
    have r3 := FZ.out.two.c 3
    have r4 := FZ.out.two.c 4
    have r5 := FZ.out.two.c 5
    have r6 := FZ.out.two.c 6
    have r7 := FZ.out.two.c 7
    have r8 := FZ.out.two.c 8
    have r9 := FZ.out.two.c 9
    have t0 := FZ.out.tri.c 0
    have t1 := FZ.out.tri.c 1
    have t2 := FZ.out.tri.c 2
    have t3 := FZ.out.tri.c 3
    simp [sc] at r0 r1 r2 r3 r4 r5 r6 r7 r8 r9 t0 t1 t2 t3
    exact bodyPost_ret (v := .tuple #[.agg zs, .agg #[.int .i64 0, .int .i64 0, .int .i64 0, .int .i64 0], .int .i64 9]) (by simp [results, Tryd.results12, go_sem, zs, r0, r1, r2, r3, r4, r5, r6, r7, r8, r9, t0, t1, t2, t3]) rfl ⟨rfl, FZ.out.bel⟩
  | true =>
    have g2 : decide (on < x.si) = false := decide_eq_false (by have := Hh2.out rfl; omega)
    go_wp2_with fail
    refine (HF.out _ (tabB HT.out F3.out.bel)).mono ?_
    rintro e w3 ⟨rfl, B3⟩
    have F4 := Lib.hid (F3.out.all B3)
    clear B3 F3 s3 s4 s5 s8 s9
    have s7 := F4.out.one.c 7
    simp at s7
    have r0 := F4.out.two.c 0
    have q0 := F4.out.two.f 0
    have r1 := F4.out.two.c 1
    have q1 := F4.out.two.f 1
    have r2 := F4.out.two.c 2
    have q2 := F4.out.two.f 2
    have r3 := F4.out.two.c 3
    have q3 := F4.out.two.f 3
    have r4 := F4.out.two.c 4
    have q4 := F4.out.two.f 4
    have r5 := F4.out.two.c 5
    have q5 := F4.out.two.f 5
    have r6 := F4.out.two.c 6
    have q6 := F4.out.two.f 6
    have r7 := F4.out.two.c 7
    have q7 := F4.out.two.f 7
    have r8 := F4.out.two.c 8
    have q8 := F4.out.two.f 8
    have r9 := F4.out.two.c 9
    have q9 := F4.out.two.f 9
    have t0 := F4.out.tri.c 0
    have u0 := F4.out.tri.f 0
    have t1 := F4.out.tri.c 1
    have u1 := F4.out.tri.f 1
    have t2 := F4.out.tri.c 2
    have u2 := F4.out.tri.f 2
    have t3 := F4.out.tri.c 3
    have u3 := F4.out.tri.f 3
    simp [zs, zt] at r0 r1 r2 r3 r4 r5 r6 r7 r8 r9 t0 t1 t2 t3
    go_wp2_with fail
    have FZ := Lib.hid ((F4.out.put10 ⟨0, 0, 0, 0, 0, 0, 0, 0, 0, 0⟩).put4 (.int .i64 0) (.int .i64 0) (.int .i64 0) (.int .i64 0))
    change bodyPost _ _ _ _ _ (put4 (put10 _ (w.heap.size + 1) ⟨0, 0, 0, 0, 0, 0, 0, 0, 0, 0⟩) (w.heap.size + 1 + 1) (.int .i64 0) (.int .i64 0) (.int .i64 0) (.int .i64 0))
    clear r0 q0 r1 q1 r2 q2 r3 q3 r4 q4 r5 q5 r6 q6 r7 q7 r8 q8 r9 q9 t0 u0 t1 u1 t2 u2 t3 u3
    generalize put4 (put10 _ (w.heap.size + 1) ⟨0, 0, 0, 0, 0, 0, 0, 0, 0, 0⟩) (w.heap.size + 1 + 1) (.int .i64 0) (.int .i64 0) (.int .i64 0) (.int .i64 0) = V at FZ ⊢
    have r0 := FZ.out.two.c 0
    have r1 := FZ.out.two.c 1
    have r2 := FZ.out.two.c 2
    have r3 := FZ.out.two.c 3
    have r4 := FZ.out.two.c 4
    have r5 := FZ.out.two.c 5
    have r6 := FZ.out.two.c 6
    have r7 := FZ.out.two.c 7
    have r8 := FZ.out.two.c 8
    have r9 := FZ.out.two.c 9
    have t0 := FZ.out.tri.c 0
    have t1 := FZ.out.tri.c 1
    have t2 := FZ.out.tri.c 2
    have t3 := FZ.out.tri.c 3
    simp [sc] at r0 r1 r2 r3 r4 r5 r6 r7 r8 r9 t0 t1 t2 t3
    exact bodyPost_ret (v := .tuple #[.agg zs, .agg #[.int .i64 0, .int .i64 0, .int .i64 0, .int .i64 0], .int .i64 9]) (by simp [results, Tryd.results12, go_sem, zs, r0, r1, r2, r3, r4, r5, r6, r7, r8, r9, t0, t1, t2, t3]) rfl ⟨rfl, FZ.out.bel⟩
set_option maxRecDepth 100000 in
set_option maxHeartbeats 4000000 in
theorem cancel_later (k : Nat) (x : Su) (on i f n : Int) (w : World) (T : Tab w) (hck : ckF k x = some 0) (hd : subs_day.f on = some true) (h0 : x.en = 0) (h1 : x.st ≤ on) (hf : ∀ w, Tab w → Calls Tryd.prog 31 #[.agg #[.int .i64 x.st, .int .i64 x.an, .int .i64 x.ev], .int .i64 on] w fun e w' => e = .returned (.tuple #[.int .i64 i, .int .i64 f, .int .i64 n, .int .i64 0]) ∧ Below w.heap.size w w') (hi : 0 ≤ i) (hi2 : i ≤ 200000) (hb : ¬ i + 1 < x.bi) :
    Calls Tryd.prog 12 #[.agg (sc x), .int .i64 on, .bool false] w fun e w' => e = .returned (.tuple #[.agg (sc { x with en := n }), .agg zt, .int .i64 0]) ∧ Below w.heap.size w w' := by
  have Hh0 := Lib.hid h0
  have Hh1 := Lib.hid h1
  have Hhb := Lib.hid hb
  clear h0 h1 hb
  have HP := Lib.hid (fun w (T : Tab w) => subs_Check.calls k x.id x.cu x.pl x.st x.an x.ev x.pr x.bi x.si x.en 0 w (Aside0.mk T) hck)
  have HD := Lib.hid (fun w => subs_day.calls on true w hd)
  have HF := Lib.hid hf
  have HT := Lib.hid T
  clear T hck hd hf
  have F1 := Lib.hid (F3.new w (sc x) zs zt 26 26 30)
  unfold sc at F1
  unfold sc
  go_enter Tryd.func12, Tryd.ntmps12
  go_wp2_with fail
  refine (HP.out _ (tabB HT.out (by have := F1.out.bel; unfold zs zt at this; exact this))).mono ?_
  rintro e w1 ⟨rfl, B1⟩
  have F2 := Lib.hid (F1.out.all (by unfold zs zt; exact B1))
  clear B1 F1
  go_wp2_with fail
  refine (HD.out _).mono ?_
  rintro e w2 ⟨rfl, D2⟩
  have F3 := Lib.hid (F2.out.all D2.below)
  clear D2 F2
  have s3 := F3.out.one.c 3
  have s4 := F3.out.one.c 4
  have s5 := F3.out.one.c 5
  have s8 := F3.out.one.c 8
  have s9 := F3.out.one.c 9
  simp at s3 s4 s5 s8 s9
  have h0 := Hh0.out
  have h1 := Hh1.out
  have hb := Hhb.out
  have g0 : (x.en == 0) = true := by simpa using h0
  have g0' : (x.en != 0) = false := by simpa using h0
  have g1 : decide (on < x.st) = false := decide_eq_false (by omega)
  have gb : decide (i + 1 < x.bi) = false := decide_eq_false (by omega)
  clear h0 h1 hb
  go_wp2_with fail
  refine (HF.out _ (tabB HT.out F3.out.bel)).mono ?_
  rintro e w3 ⟨rfl, B3⟩
  have F4 := Lib.hid (F3.out.all B3)
  clear B3 F3 s3 s4 s5 s8 s9
  have s7 := F4.out.one.c 7
  have s9 := F4.out.one.c 9
  have v9 := F4.out.one.f 9
  simp at s7 s9
  go_upto_region 12 with fail
  have F5 := F4.out.setO 9 (.int .i64 n) rfl
  simp only [List.setIfInBounds_toArray, List.set_cons_zero, List.set_cons_succ] at F5
  clear F4 s7 s9 v9
  generalize w3.setCell _ _ = w4 at F5 ⊢
  have F5 := Lib.hid F5
  have s0 := F5.out.one.c 0
  have s1 := F5.out.one.c 1
  have s2 := F5.out.one.c 2
  have s3 := F5.out.one.c 3
  have s4 := F5.out.one.c 4
  have s5 := F5.out.one.c 5
  have s6 := F5.out.one.c 6
  have s7 := F5.out.one.c 7
  have s8 := F5.out.one.c 8
  have s9 := F5.out.one.c 9
  simp at s0 s1 s2 s3 s4 s5 s6 s7 s8 s9
  have r0 := F5.out.two.c 0
  have q0 := F5.out.two.f 0
  have r1 := F5.out.two.c 1
  have q1 := F5.out.two.f 1
  have r2 := F5.out.two.c 2
  have q2 := F5.out.two.f 2
  have r3 := F5.out.two.c 3
  have q3 := F5.out.two.f 3
  have r4 := F5.out.two.c 4
  have q4 := F5.out.two.f 4
  have r5 := F5.out.two.c 5
  have q5 := F5.out.two.f 5
  have r6 := F5.out.two.c 6
  have q6 := F5.out.two.f 6
  have r7 := F5.out.two.c 7
  have q7 := F5.out.two.f 7
  have r8 := F5.out.two.c 8
  have q8 := F5.out.two.f 8
  have r9 := F5.out.two.c 9
  have q9 := F5.out.two.f 9
  have t0 := F5.out.tri.c 0
  have u0 := F5.out.tri.f 0
  have t1 := F5.out.tri.c 1
  have u1 := F5.out.tri.f 1
  have t2 := F5.out.tri.c 2
  have u2 := F5.out.tri.f 2
  have t3 := F5.out.tri.c 3
  have u3 := F5.out.tri.f 3
  simp [zs, zt] at r0 r1 r2 r3 r4 r5 r6 r7 r8 r9 t0 t1 t2 t3
  go_wp2_with fail
  have FZ := Lib.hid ((F5.out.put10 { x with en := n }).put4 (.int .i64 0) (.int .i64 0) (.int .i64 0) (.int .i64 0))
  change bodyPost _ _ _ _ _ (put4 (put10 _ (w.heap.size + 1) { x with en := n }) (w.heap.size + 1 + 1) (.int .i64 0) (.int .i64 0) (.int .i64 0) (.int .i64 0))
  clear r0 q0 r1 q1 r2 q2 r3 q3 r4 q4 r5 q5 r6 q6 r7 q7 r8 q8 r9 q9 t0 u0 t1 u1 t2 u2 t3 u3
  generalize put4 (put10 _ (w.heap.size + 1) { x with en := n }) (w.heap.size + 1 + 1) (.int .i64 0) (.int .i64 0) (.int .i64 0) (.int .i64 0) = V at FZ ⊢
  have r0 := FZ.out.two.c 0
  have r1 := FZ.out.two.c 1
  have r2 := FZ.out.two.c 2
  have r3 := FZ.out.two.c 3
  have r4 := FZ.out.two.c 4
  have r5 := FZ.out.two.c 5
  have r6 := FZ.out.two.c 6
  have r7 := FZ.out.two.c 7
  have r8 := FZ.out.two.c 8
  have r9 := FZ.out.two.c 9
  have t0 := FZ.out.tri.c 0
  have t1 := FZ.out.tri.c 1
  have t2 := FZ.out.tri.c 2
  have t3 := FZ.out.tri.c 3
  simp [sc] at r0 r1 r2 r3 r4 r5 r6 r7 r8 r9 t0 t1 t2 t3
  exact bodyPost_ret (v := .tuple #[.agg #[.int .u64 x.id, .int .u64 x.cu, .int .u64 x.pl, .int .i64 x.st, .int .i64 x.an, .int .i64 x.ev, .int .i64 x.pr, .int .i64 x.bi, .int .i64 x.si, .int .i64 n], .agg #[.int .i64 0, .int .i64 0, .int .i64 0, .int .i64 0], .int .i64 0]) (by simp [results, Tryd.results12, go_sem, zs, r0, r1, r2, r3, r4, r5, r6, r7, r8, r9, t0, t1, t2, t3]) rfl ⟨rfl, FZ.out.bel⟩
set_option maxRecDepth 100000 in
set_option maxHeartbeats 4000000 in
theorem cancel_none (k : Nat) (x : Su) (on i f n pi pf pn pe pw pp : Int) (w : World) (T : Tab w) (hck : ckF k x = some 0) (hd : subs_day.f on = some true) (h0 : x.en = 0) (h1 : x.st ≤ on) (h2 : x.si ≤ on) (hf : ∀ w, Tab w → Calls Tryd.prog 31 #[.agg #[.int .i64 x.st, .int .i64 x.an, .int .i64 x.ev], .int .i64 on] w fun e w' => e = .returned (.tuple #[.int .i64 i, .int .i64 f, .int .i64 n, .int .i64 0]) ∧ Below w.heap.size w w') (hi : 0 ≤ i) (hi2 : i ≤ 200000) (hb : ¬ i + 1 < x.bi) (hl : subs_last.f x.id x.cu x.pl x.st x.an x.ev x.pr x.bi x.si x.en on = some (pi, pf, pn, pe, pw, pp, false)) :
    Calls Tryd.prog 12 #[.agg (sc x), .int .i64 on, .bool true] w fun e w' => e = .returned (.tuple #[.agg (sc { x with en := on }), .agg zt, .int .i64 0]) ∧ Below w.heap.size w w' := by
  have HL := Lib.hid (fun w (T : Tab w) => subs_last.calls x.id x.cu x.pl x.st x.an x.ev x.pr x.bi x.si x.en on pi pf pn pe pw pp false w (Aside0.mk T) hl)
  clear hl
  have Hh0 := Lib.hid h0
  have Hh1 := Lib.hid h1
  have Hh2 := Lib.hid h2
  have Hhb := Lib.hid hb
  clear h0 h1 h2 hb
  have HP := Lib.hid (fun w (T : Tab w) => subs_Check.calls k x.id x.cu x.pl x.st x.an x.ev x.pr x.bi x.si x.en 0 w (Aside0.mk T) hck)
  have HD := Lib.hid (fun w => subs_day.calls on true w hd)
  have HF := Lib.hid hf
  have HT := Lib.hid T
  clear T hck hd hf
  have F1 := Lib.hid (F3.new w (sc x) zs zt 26 26 30)
  unfold sc at F1
  unfold sc
  go_enter Tryd.func12, Tryd.ntmps12
  go_wp2_with fail
  refine (HP.out _ (tabB HT.out (by have := F1.out.bel; unfold zs zt at this; exact this))).mono ?_
  rintro e w1 ⟨rfl, B1⟩
  have F2 := Lib.hid (F1.out.all (by unfold zs zt; exact B1))
  clear B1 F1
  go_wp2_with fail
  refine (HD.out _).mono ?_
  rintro e w2 ⟨rfl, D2⟩
  have F3 := Lib.hid (F2.out.all D2.below)
  clear D2 F2
  have s3 := F3.out.one.c 3
  have s4 := F3.out.one.c 4
  have s5 := F3.out.one.c 5
  have s8 := F3.out.one.c 8
  have s9 := F3.out.one.c 9
  simp at s3 s4 s5 s8 s9
  have h0 := Hh0.out
  have h1 := Hh1.out
  have h2 := Hh2.out
  have hb := Hhb.out
  have g0 : (x.en == 0) = true := by simpa using h0
  have g0' : (x.en != 0) = false := by simpa using h0
  have g1 : decide (on < x.st) = false := decide_eq_false (by omega)
  have gb : decide (i + 1 < x.bi) = false := decide_eq_false (by omega)
  have g2 : decide (on < x.si) = false := decide_eq_false (by omega)
  clear h0 h1 h2 hb
  go_wp2_with fail
  refine (HF.out _ (tabB HT.out F3.out.bel)).mono ?_
  rintro e w3 ⟨rfl, B3⟩
  have F4 := Lib.hid (F3.out.all B3)
  clear B3 F3 s3 s4 s5 s8 s9
  have s0 := F4.out.one.c 0
  have s1 := F4.out.one.c 1
  have s2 := F4.out.one.c 2
  have s3 := F4.out.one.c 3
  have s4 := F4.out.one.c 4
  have s5 := F4.out.one.c 5
  have s6 := F4.out.one.c 6
  have s7 := F4.out.one.c 7
  have s8 := F4.out.one.c 8
  have s9 := F4.out.one.c 9
  simp at s0 s1 s2 s3 s4 s5 s6 s7 s8 s9
  go_wp2_with fail
  refine (HL.out _ (tabB HT.out F4.out.bel)).mono ?_
  rintro e w4 ⟨rfl, B4⟩
  have F5 := Lib.hid (F4.out.all B4)
  clear B4 F4 s0 s1 s2 s3 s4 s5 s6 s7 s8 s9
  go_upto_region 16 with fail
  have F6 := F5.out.alloc (.cells #[.int .i64 pi, .int .i64 pf, .int .i64 pn, .int .i64 pe, .int .i64 pw, .int .i64 pp] 68)
  clear F5
  generalize w4.alloc _ = w5 at F6 ⊢
  have F6 := Lib.hid F6
  have s9 := F6.out.one.c 9
  have v9 := F6.out.one.f 9
  simp at s9
  go_upto_region 17 with fail
  have F7 := F6.out.setO 9 (.int .i64 on) rfl
  simp only [List.setIfInBounds_toArray, List.set_cons_zero, List.set_cons_succ] at F7
  clear F6 s9 v9
  generalize w5.setCell _ _ = w6 at F7 ⊢
  have F7 := Lib.hid F7
  have s0 := F7.out.one.c 0
  have s1 := F7.out.one.c 1
  have s2 := F7.out.one.c 2
  have s3 := F7.out.one.c 3
  have s4 := F7.out.one.c 4
  have s5 := F7.out.one.c 5
  have s6 := F7.out.one.c 6
  have s7 := F7.out.one.c 7
  have s8 := F7.out.one.c 8
  have s9 := F7.out.one.c 9
  simp at s0 s1 s2 s3 s4 s5 s6 s7 s8 s9
  have r0 := F7.out.two.c 0
  have q0 := F7.out.two.f 0
  have r1 := F7.out.two.c 1
  have q1 := F7.out.two.f 1
  have r2 := F7.out.two.c 2
  have q2 := F7.out.two.f 2
  have r3 := F7.out.two.c 3
  have q3 := F7.out.two.f 3
  have r4 := F7.out.two.c 4
  have q4 := F7.out.two.f 4
  have r5 := F7.out.two.c 5
  have q5 := F7.out.two.f 5
  have r6 := F7.out.two.c 6
  have q6 := F7.out.two.f 6
  have r7 := F7.out.two.c 7
  have q7 := F7.out.two.f 7
  have r8 := F7.out.two.c 8
  have q8 := F7.out.two.f 8
  have r9 := F7.out.two.c 9
  have q9 := F7.out.two.f 9
  have t0 := F7.out.tri.c 0
  have u0 := F7.out.tri.f 0
  have t1 := F7.out.tri.c 1
  have u1 := F7.out.tri.f 1
  have t2 := F7.out.tri.c 2
  have u2 := F7.out.tri.f 2
  have t3 := F7.out.tri.c 3
  have u3 := F7.out.tri.f 3
  simp [zs, zt] at r0 r1 r2 r3 r4 r5 r6 r7 r8 r9 t0 t1 t2 t3
  go_wp2
  go_region
  have FZ := Lib.hid (((F7.out.put10 { x with en := on }).put4 (.int .i64 0) (.int .i64 0) (.int .i64 0) (.int .i64 0)).drew)
  change Exit.then _ _ _ _ ((put4 (put10 _ (w.heap.size + 1) { x with en := on }) (w.heap.size + 1 + 1) (.int .i64 0) (.int .i64 0) (.int .i64 0) (.int .i64 0)).drew)
  clear r0 q0 r1 q1 r2 q2 r3 q3 r4 q4 r5 q5 r6 q6 r7 q7 r8 q8 r9 q9 t0 u0 t1 u1 t2 u2 t3 u3
  generalize (put4 (put10 _ (w.heap.size + 1) { x with en := on }) (w.heap.size + 1 + 1) (.int .i64 0) (.int .i64 0) (.int .i64 0) (.int .i64 0)).drew = V at FZ ⊢
  have r0 := FZ.out.two.c 0
  have r1 := FZ.out.two.c 1
  have r2 := FZ.out.two.c 2
  have r3 := FZ.out.two.c 3
  have r4 := FZ.out.two.c 4
  have r5 := FZ.out.two.c 5
  have r6 := FZ.out.two.c 6
  have r7 := FZ.out.two.c 7
  have r8 := FZ.out.two.c 8
  have r9 := FZ.out.two.c 9
  have t0 := FZ.out.tri.c 0
  have t1 := FZ.out.tri.c 1
  have t2 := FZ.out.tri.c 2
  have t3 := FZ.out.tri.c 3
  simp [sc] at r0 r1 r2 r3 r4 r5 r6 r7 r8 r9 t0 t1 t2 t3
  go_wp2
  exact bodyPost_ret (v := .tuple #[.agg #[.int .u64 x.id, .int .u64 x.cu, .int .u64 x.pl, .int .i64 x.st, .int .i64 x.an, .int .i64 x.ev, .int .i64 x.pr, .int .i64 x.bi, .int .i64 x.si, .int .i64 on], .agg #[.int .i64 0, .int .i64 0, .int .i64 0, .int .i64 0], .int .i64 0]) (by simp [results, Tryd.results12, go_sem, zs, r0, r1, r2, r3, r4, r5, r6, r7, r8, r9, t0, t1, t2, t3]) rfl ⟨rfl, FZ.out.bel⟩
set_option maxRecDepth 100000 in
set_option maxHeartbeats 4000000 in
theorem cancel_in (k : Nat) (x : Su) (on i f n pi pf pn pe pw pp cr : Int) (w : World) (T : Tab w) (hck : ckF k x = some 0) (hd : subs_day.f on = some true) (h0 : x.en = 0) (h1 : x.st ≤ on) (h2 : x.si ≤ on) (hf : ∀ w, Tab w → Calls Tryd.prog 31 #[.agg #[.int .i64 x.st, .int .i64 x.an, .int .i64 x.ev], .int .i64 on] w fun e w' => e = .returned (.tuple #[.int .i64 i, .int .i64 f, .int .i64 n, .int .i64 0]) ∧ Below w.heap.size w w') (hi : 0 ≤ i) (hi2 : i ≤ 200000) (hb : ¬ i + 1 < x.bi) (hl : subs_last.f x.id x.cu x.pl x.st x.an x.ev x.pr x.bi x.si x.en on = some (pi, pf, pn, pe, pw, pp, true)) (hcr : subs_period_on.f pi pf pn pe pw pp on pn = some cr) :
    Calls Tryd.prog 12 #[.agg (sc x), .int .i64 on, .bool true] w fun e w' => e = .returned (.tuple #[.agg (sc { x with en := on }), .agg #[.int .i64 on, .int .i64 pn, .int .i64 cr, .int .i64 0], .int .i64 0]) ∧ Below w.heap.size w w' := by
  have HL := Lib.hid (fun w (T : Tab w) => subs_last.calls x.id x.cu x.pl x.st x.an x.ev x.pr x.bi x.si x.en on pi pf pn pe pw pp true w (Aside0.mk T) hl)
  have HA := Lib.hid (fun w => subs_period_on.calls pi pf pn pe pw pp on pn cr w hcr)
  clear hl hcr
  have Hh0 := Lib.hid h0
  have Hh1 := Lib.hid h1
  have Hh2 := Lib.hid h2
  have Hhb := Lib.hid hb
  clear h0 h1 h2 hb
  have HP := Lib.hid (fun w (T : Tab w) => subs_Check.calls k x.id x.cu x.pl x.st x.an x.ev x.pr x.bi x.si x.en 0 w (Aside0.mk T) hck)
  have HD := Lib.hid (fun w => subs_day.calls on true w hd)
  have HF := Lib.hid hf
  have HT := Lib.hid T
  clear T hck hd hf
  have F1 := Lib.hid (F3.new w (sc x) zs zt 26 26 30)
  unfold sc at F1
  unfold sc
  go_enter Tryd.func12, Tryd.ntmps12
  go_wp2_with fail
  refine (HP.out _ (tabB HT.out (by have := F1.out.bel; unfold zs zt at this; exact this))).mono ?_
  rintro e w1 ⟨rfl, B1⟩
  have F2 := Lib.hid (F1.out.all (by unfold zs zt; exact B1))
  clear B1 F1
  go_wp2_with fail
  refine (HD.out _).mono ?_
  rintro e w2 ⟨rfl, D2⟩
  have F3 := Lib.hid (F2.out.all D2.below)
  clear D2 F2
  have s3 := F3.out.one.c 3
  have s4 := F3.out.one.c 4
  have s5 := F3.out.one.c 5
  have s8 := F3.out.one.c 8
  have s9 := F3.out.one.c 9
  simp at s3 s4 s5 s8 s9
  have h0 := Hh0.out
  have h1 := Hh1.out
  have h2 := Hh2.out
  have hb := Hhb.out
  have g0 : (x.en == 0) = true := by simpa using h0
  have g0' : (x.en != 0) = false := by simpa using h0
  have g1 : decide (on < x.st) = false := decide_eq_false (by omega)
  have gb : decide (i + 1 < x.bi) = false := decide_eq_false (by omega)
  have g2 : decide (on < x.si) = false := decide_eq_false (by omega)
  clear h0 h1 h2 hb
  go_wp2_with fail
  refine (HF.out _ (tabB HT.out F3.out.bel)).mono ?_
  rintro e w3 ⟨rfl, B3⟩
  have F4 := Lib.hid (F3.out.all B3)
  clear B3 F3 s3 s4 s5 s8 s9
  have s0 := F4.out.one.c 0
  have s1 := F4.out.one.c 1
  have s2 := F4.out.one.c 2
  have s3 := F4.out.one.c 3
  have s4 := F4.out.one.c 4
  have s5 := F4.out.one.c 5
  have s6 := F4.out.one.c 6
  have s7 := F4.out.one.c 7
  have s8 := F4.out.one.c 8
  have s9 := F4.out.one.c 9
  simp at s0 s1 s2 s3 s4 s5 s6 s7 s8 s9
  go_wp2_with fail
  refine (HL.out _ (tabB HT.out F4.out.bel)).mono ?_
  rintro e w4 ⟨rfl, B4⟩
  have F5 := Lib.hid (F4.out.all B4)
  clear B4 F4 s0 s1 s2 s3 s4 s5 s6 s7 s8 s9
  go_upto_region 15 with fail
  have P6 : Bl w4.heap.size #[.int .i64 pi, .int .i64 pf, .int .i64 pn, .int .i64 pe, .int .i64 pw, .int .i64 pp] 68 (w4.alloc (.cells #[.int .i64 pi, .int .i64 pf, .int .i64 pn, .int .i64 pe, .int .i64 pw, .int .i64 pp] 68)) := World.alloc_heap_new w4 _
  have F6 := F5.out.alloc (.cells #[.int .i64 pi, .int .i64 pf, .int .i64 pn, .int .i64 pe, .int .i64 pw, .int .i64 pp] 68)
  have hg := F5.out.tri.lt
  clear F5
  generalize w4.alloc _ = w5 at F6 P6 ⊢
  generalize w4.heap.size = g at hg P6 ⊢
  have HNE := Lib.hid (show g ≠ w.heap.size + 1 + 1 by omega)
  have F6 := Lib.hid F6.drew
  have P6 := Lib.hid (show Bl _ _ _ w5.drew from P6)
  go_region_held3 (fun w' => Bl g #[.int .i64 pi, .int .i64 pf, .int .i64 pn, .int .i64 pe, .int .i64 pw, .int .i64 pp] 68 w' ∧ w'.cell? ⟨g, 0, none⟩ = some (.int .i64 pi) ∧ w'.cell? ⟨g, 1, none⟩ = some (.int .i64 pf) ∧ w'.cell? ⟨g, 2, none⟩ = some (.int .i64 pn) ∧ w'.cell? ⟨g, 3, none⟩ = some (.int .i64 pe) ∧ w'.cell? ⟨g, 4, none⟩ = some (.int .i64 pw) ∧ w'.cell? ⟨g, 5, none⟩ = some (.int .i64 pp))
    (first
      | exact six P6.out
      | exact six P7.out
      | exact six ((((P7.out.far HNE.out 0 _).far HNE.out 1 _).far HNE.out 2 _).far HNE.out 3 _))
    (first
      | (go_at_call 26; refine (HA.out _).mono ?_; rintro e w6 ⟨rfl, B6⟩; have P7 := Lib.hid (P6.out.all B6); have F7 := Lib.hid (F6.out.all B6); have u0 := F7.out.tri.f 0; have t0 := F7.out.tri.c 0; have u1 := F7.out.tri.f 1; have t1 := F7.out.tri.c 1; have u2 := F7.out.tri.f 2; have t2 := F7.out.tri.c 2; have u3 := F7.out.tri.f 3; have t3 := F7.out.tri.c 3; simp [zt] at t0 t1 t2 t3; clear B6))
  change Exit.then _ _ _ _ (put4 w6 (w.heap.size + 1 + 1) (.int .i64 on) (.int .i64 pn) (.int .i64 cr) (.int .i64 0))
  have F8 := Lib.hid (F7.out.put4 (.int .i64 on) (.int .i64 pn) (.int .i64 cr) (.int .i64 0))
  clear t0 t1 t2 t3 u0 u1 u2 u3 F7 P7 P6 F6
  generalize put4 w6 (w.heap.size + 1 + 1) (.int .i64 on) (.int .i64 pn) (.int .i64 cr) (.int .i64 0) = w7 at F8 ⊢
  have s9 := F8.out.one.c 9
  have v9 := F8.out.one.f 9
  simp at s9
  go_upto_region 17 with fail
  have F9 := F8.out.setO 9 (.int .i64 on) rfl
  simp only [List.setIfInBounds_toArray, List.set_cons_zero, List.set_cons_succ] at F9
  clear F8 s9 v9
  generalize w7.setCell _ _ = w8 at F9 ⊢
  have F9 := Lib.hid F9
  have s0 := F9.out.one.c 0
  have s1 := F9.out.one.c 1
  have s2 := F9.out.one.c 2
  have s3 := F9.out.one.c 3
  have s4 := F9.out.one.c 4
  have s5 := F9.out.one.c 5
  have s6 := F9.out.one.c 6
  have s7 := F9.out.one.c 7
  have s8 := F9.out.one.c 8
  have s9 := F9.out.one.c 9
  simp at s0 s1 s2 s3 s4 s5 s6 s7 s8 s9
  have r0 := F9.out.two.c 0
  have q0 := F9.out.two.f 0
  have r1 := F9.out.two.c 1
  have q1 := F9.out.two.f 1
  have r2 := F9.out.two.c 2
  have q2 := F9.out.two.f 2
  have r3 := F9.out.two.c 3
  have q3 := F9.out.two.f 3
  have r4 := F9.out.two.c 4
  have q4 := F9.out.two.f 4
  have r5 := F9.out.two.c 5
  have q5 := F9.out.two.f 5
  have r6 := F9.out.two.c 6
  have q6 := F9.out.two.f 6
  have r7 := F9.out.two.c 7
  have q7 := F9.out.two.f 7
  have r8 := F9.out.two.c 8
  have q8 := F9.out.two.f 8
  have r9 := F9.out.two.c 9
  have q9 := F9.out.two.f 9
  have t0 := F9.out.tri.c 0
  have u0 := F9.out.tri.f 0
  have t1 := F9.out.tri.c 1
  have u1 := F9.out.tri.f 1
  have t2 := F9.out.tri.c 2
  have u2 := F9.out.tri.f 2
  have t3 := F9.out.tri.c 3
  have u3 := F9.out.tri.f 3
  simp [zs, zt] at r0 r1 r2 r3 r4 r5 r6 r7 r8 r9 t0 t1 t2 t3
  go_wp2
  go_region
  have FZ := Lib.hid (((F9.out.put10 { x with en := on }).put4 (.int .i64 on) (.int .i64 pn) (.int .i64 cr) (.int .i64 0)).drew)
  change Exit.then _ _ _ _ ((put4 (put10 _ (w.heap.size + 1) { x with en := on }) (w.heap.size + 1 + 1) (.int .i64 on) (.int .i64 pn) (.int .i64 cr) (.int .i64 0)).drew)
  clear r0 q0 r1 q1 r2 q2 r3 q3 r4 q4 r5 q5 r6 q6 r7 q7 r8 q8 r9 q9 t0 u0 t1 u1 t2 u2 t3 u3
  generalize (put4 (put10 _ (w.heap.size + 1) { x with en := on }) (w.heap.size + 1 + 1) (.int .i64 on) (.int .i64 pn) (.int .i64 cr) (.int .i64 0)).drew = V at FZ ⊢
  have r0 := FZ.out.two.c 0
  have r1 := FZ.out.two.c 1
  have r2 := FZ.out.two.c 2
  have r3 := FZ.out.two.c 3
  have r4 := FZ.out.two.c 4
  have r5 := FZ.out.two.c 5
  have r6 := FZ.out.two.c 6
  have r7 := FZ.out.two.c 7
  have r8 := FZ.out.two.c 8
  have r9 := FZ.out.two.c 9
  have t0 := FZ.out.tri.c 0
  have t1 := FZ.out.tri.c 1
  have t2 := FZ.out.tri.c 2
  have t3 := FZ.out.tri.c 3
  simp [sc] at r0 r1 r2 r3 r4 r5 r6 r7 r8 r9 t0 t1 t2 t3
  go_wp2
  exact bodyPost_ret (v := .tuple #[.agg #[.int .u64 x.id, .int .u64 x.cu, .int .u64 x.pl, .int .i64 x.st, .int .i64 x.an, .int .i64 x.ev, .int .i64 x.pr, .int .i64 x.bi, .int .i64 x.si, .int .i64 on], .agg #[.int .i64 on, .int .i64 pn, .int .i64 cr, .int .i64 0], .int .i64 0]) (by simp [results, Tryd.results12, go_sem, zs, r0, r1, r2, r3, r4, r5, r6, r7, r8, r9, t0, t1, t2, t3]) rfl ⟨rfl, FZ.out.bel⟩
end Go.Proofs.YtibkbimhedoafaaDoor.psub

-- HYB
namespace Go.Proofs.YtibkbimhedoafaaDoor.PH
open Go.RowKit Go.Proofs.YtibkbimhedoafaaDoorW.PrintWords Sb
noncomputable def subs_Change.f (a0_0 a0_1 a0_2 a0_3 a0_4 a0_5 a0_6 a0_7 a0_8 a0_9 a1 a2_0 a2_1 : Int) : Option (Int × Int × Int × Int × Int × Int × Int × Int × Int × Int × Int × Int × Int × Int × Int) :=
  (psub.ckF 1 ⟨a0_0, a0_1, a0_2, a0_3, a0_4, a0_5, a0_6, a0_7, a0_8, a0_9⟩).bind fun c => (subs_day.f a1).bind fun d =>
    if c ≠ 0 ∨ d = false ∨ a2_0 = 0 ∨ a2_1 < 0 ∨ 4611686018427387904 ≤ a2_1 then some (0, 0, 0, 0, 0, 0, 0, 0, 0, 0, 0, 0, 0, 0, 2)
    else (subs_last.f a0_0 a0_1 a0_2 a0_3 a0_4 a0_5 a0_6 a0_7 a0_8 a0_9 a1).bind fun p => if p.2.2.2.2.2.2 = false then some (0, 0, 0, 0, 0, 0, 0, 0, 0, 0, 0, 0, 0, 0, 9)
      else (subs_period_on.f p.1 p.2.1 p.2.2.1 p.2.2.2.1 p.2.2.2.2.1 p.2.2.2.2.2.1 a1 p.2.2.2.1).bind fun cr => (subs_period_on.f p.1 p.2.1 p.2.2.1 p.2.2.2.1 p.2.2.2.2.1 a2_1 a1 p.2.2.2.1).bind fun ch => some (a0_0, a0_1, a2_0, a0_3, a0_4, a0_5, a2_1, a0_7, a1, a0_9, a1, p.2.2.2.1, cr, ch, 0)
theorem subs_Change.calls (a0_0 a0_1 a0_2 a0_3 a0_4 a0_5 a0_6 a0_7 a0_8 a0_9 a1 a2_0 a2_1 : Int) (r1 r2 r3 r4 r5 r6 r7 r8 r9 r10 r11 r12 r13 r14 r15 : Int) (w : World) (HTab : Aside0 (Tab w)) (h : subs_Change.f a0_0 a0_1 a0_2 a0_3 a0_4 a0_5 a0_6 a0_7 a0_8 a0_9 a1 a2_0 a2_1 = some (r1, r2, r3, r4, r5, r6, r7, r8, r9, r10, r11, r12, r13, r14, r15)) :
    Calls Tryd.prog 9 #[.agg #[.int .u64 a0_0, .int .u64 a0_1, .int .u64 a0_2, .int .i64 a0_3, .int .i64 a0_4, .int .i64 a0_5, .int .i64 a0_6, .int .i64 a0_7, .int .i64 a0_8, .int .i64 a0_9], .int .i64 a1, .agg #[.int .u64 a2_0, .int .i64 a2_1]] w fun e w' => e = .returned (.tuple #[.agg #[.int .u64 r1, .int .u64 r2, .int .u64 r3, .int .i64 r4, .int .i64 r5, .int .i64 r6, .int .i64 r7, .int .i64 r8, .int .i64 r9, .int .i64 r10], .agg #[.int .i64 r11, .int .i64 r12, .int .i64 r13, .int .i64 r14], .int .i64 r15]) ∧ Below w.heap.size w w' := by
  unfold subs_Change.f at h
  replace h := Option.bind_eq_some_iff.mp h
  obtain ⟨c, hc, h⟩ := h
  replace h := Option.bind_eq_some_iff.mp h
  obtain ⟨d, hd, h⟩ := h
  by_cases hb : c ≠ 0 ∨ d = false ∨ a2_0 = 0 ∨ a2_1 < 0 ∨ 4611686018427387904 ≤ a2_1
  · rw [if_pos hb] at h
    simp only [Option.some.injEq, Prod.mk.injEq] at h
    obtain ⟨rfl, rfl, rfl, rfl, rfl, rfl, rfl, rfl, rfl, rfl, rfl, rfl, rfl, rfl, rfl⟩ := h
    exact psub.change_arg 1 ⟨a0_0, a0_1, a0_2, a0_3, a0_4, a0_5, a0_6, a0_7, a0_8, a0_9⟩ a1 a2_0 a2_1 c d w HTab.out hc hd hb
  · rw [if_neg hb] at h
    obtain rfl : c = 0 := if q : c = 0 then q else absurd (.inl q) hb
    obtain rfl : d = true := by
      cases d
      · exact absurd (.inr (.inl rfl)) hb
      · rfl
    have h1 : a2_0 ≠ 0 := fun q => hb (.inr (.inr (.inl q)))
    have h2 : 0 ≤ a2_1 := if q : a2_1 < 0 then absurd (.inr (.inr (.inr (.inl q)))) hb else by omega
    have h3 : a2_1 < 4611686018427387904 := if q : 4611686018427387904 ≤ a2_1 then absurd (.inr (.inr (.inr (.inr q)))) hb else by omega
    replace h := Option.bind_eq_some_iff.mp h
    obtain ⟨⟨i, f, n, en, wh, p, l⟩, hl, h⟩ := h
    simp only [] at h
    cases l with
    | false =>
      rw [if_pos rfl] at h
      simp only [Option.some.injEq, Prod.mk.injEq] at h
      obtain ⟨rfl, rfl, rfl, rfl, rfl, rfl, rfl, rfl, rfl, rfl, rfl, rfl, rfl, rfl, rfl⟩ := h
      exact psub.change_none 1 ⟨a0_0, a0_1, a0_2, a0_3, a0_4, a0_5, a0_6, a0_7, a0_8, a0_9⟩ a1 a2_0 a2_1 i f n en wh p w HTab.out hc hd h1 h2 h3 hl
    | true =>
      rw [if_neg (by decide)] at h
      replace h := Option.bind_eq_some_iff.mp h
      obtain ⟨cr, hcr, h⟩ := h
      replace h := Option.bind_eq_some_iff.mp h
      obtain ⟨ch, hch, h⟩ := h
      simp only [Option.some.injEq, Prod.mk.injEq] at h
      obtain ⟨rfl, rfl, rfl, rfl, rfl, rfl, rfl, rfl, rfl, rfl, rfl, rfl, rfl, rfl, rfl⟩ := h
      exact psub.change_main 1 ⟨a0_0, a0_1, a0_2, a0_3, a0_4, a0_5, a0_6, a0_7, a0_8, a0_9⟩ a1 a2_0 a2_1 i f n en wh p cr ch w HTab.out hc hd h1 h2 h3 hl hcr hch
noncomputable def subs_Cancel.f (a0_0 a0_1 a0_2 a0_3 a0_4 a0_5 a0_6 a0_7 a0_8 a0_9 a1 : Int) (a2 : Bool) : Option (Int × Int × Int × Int × Int × Int × Int × Int × Int × Int × Int × Int × Int × Int × Int) :=
  (psub.ckF 1 ⟨a0_0, a0_1, a0_2, a0_3, a0_4, a0_5, a0_6, a0_7, a0_8, a0_9⟩).bind fun c => (subs_day.f a1).bind fun d =>
    if c ≠ 0 ∨ d = false then some (0, 0, 0, 0, 0, 0, 0, 0, 0, 0, 0, 0, 0, 0, 2)
    else if a0_9 ≠ 0 ∨ a1 < a0_3 ∨ a2 = true ∧ a1 < a0_8 then some (0, 0, 0, 0, 0, 0, 0, 0, 0, 0, 0, 0, 0, 0, 9)
    else (anchor_Find.f a0_3 a0_4 a0_5 a1).bind fun q => if q.2.2.2 ≠ 0 then some (0, 0, 0, 0, 0, 0, 0, 0, 0, 0, 0, 0, 0, 0, q.2.2.2)
      else if q.1 + 1 < a0_7 then some (0, 0, 0, 0, 0, 0, 0, 0, 0, 0, 0, 0, 0, 0, 9)
      else if a2 = false then some (a0_0, a0_1, a0_2, a0_3, a0_4, a0_5, a0_6, a0_7, a0_8, q.2.2.1, 0, 0, 0, 0, 0)
      else (subs_last.f a0_0 a0_1 a0_2 a0_3 a0_4 a0_5 a0_6 a0_7 a0_8 a0_9 a1).bind fun p => if p.2.2.2.2.2.2 = false then some (a0_0, a0_1, a0_2, a0_3, a0_4, a0_5, a0_6, a0_7, a0_8, a1, 0, 0, 0, 0, 0)
        else (subs_period_on.f p.1 p.2.1 p.2.2.1 p.2.2.2.1 p.2.2.2.2.1 p.2.2.2.2.2.1 a1 p.2.2.1).bind fun cr => some (a0_0, a0_1, a0_2, a0_3, a0_4, a0_5, a0_6, a0_7, a0_8, a1, a1, p.2.2.1, cr, 0, 0)
theorem find_bd {s a E d i f n e : Int} (h : anchor_Find.f s a E d = some (i, f, n, e)) : 0 ≤ i ∧ i ≤ 200000 := by
  simp only [anchor_Find.f, Option.some.injEq, Prod.mk.injEq] at h
  obtain ⟨rfl, _⟩ := h
  unfold An.fV
  split
  · rename_i q
    unfold An.fIn at q
    simp at q
    have ho : An.ok s a E = true := by have := q.1.1; unfold An.fOk at this; simp at this; exact this.1.1
    have := An.top_bd ho
    have : 0 ≤ An.fk s a E d := by unfold An.fk; omega
    omega
  · omega
theorem subs_Cancel.calls (a0_0 a0_1 a0_2 a0_3 a0_4 a0_5 a0_6 a0_7 a0_8 a0_9 a1 : Int) (a2 : Bool) (r1 r2 r3 r4 r5 r6 r7 r8 r9 r10 r11 r12 r13 r14 r15 : Int) (w : World) (HTab : Aside0 (Tab w)) (h : subs_Cancel.f a0_0 a0_1 a0_2 a0_3 a0_4 a0_5 a0_6 a0_7 a0_8 a0_9 a1 a2 = some (r1, r2, r3, r4, r5, r6, r7, r8, r9, r10, r11, r12, r13, r14, r15)) :
    Calls Tryd.prog 12 #[.agg #[.int .u64 a0_0, .int .u64 a0_1, .int .u64 a0_2, .int .i64 a0_3, .int .i64 a0_4, .int .i64 a0_5, .int .i64 a0_6, .int .i64 a0_7, .int .i64 a0_8, .int .i64 a0_9], .int .i64 a1, .bool a2] w fun e w' => e = .returned (.tuple #[.agg #[.int .u64 r1, .int .u64 r2, .int .u64 r3, .int .i64 r4, .int .i64 r5, .int .i64 r6, .int .i64 r7, .int .i64 r8, .int .i64 r9, .int .i64 r10], .agg #[.int .i64 r11, .int .i64 r12, .int .i64 r13, .int .i64 r14], .int .i64 r15]) ∧ Below w.heap.size w w' := by
  unfold subs_Cancel.f at h
  replace h := Option.bind_eq_some_iff.mp h
  obtain ⟨c, hc, h⟩ := h
  replace h := Option.bind_eq_some_iff.mp h
  obtain ⟨d, hd, h⟩ := h
  by_cases hb : c ≠ 0 ∨ d = false
  · rw [if_pos hb] at h
    simp only [Option.some.injEq, Prod.mk.injEq] at h
    obtain ⟨rfl, rfl, rfl, rfl, rfl, rfl, rfl, rfl, rfl, rfl, rfl, rfl, rfl, rfl, rfl⟩ := h
    exact psub.cancel_arg 1 ⟨a0_0, a0_1, a0_2, a0_3, a0_4, a0_5, a0_6, a0_7, a0_8, a0_9⟩ a1 c a2 d w HTab.out hc hd hb
  · rw [if_neg hb] at h
    obtain rfl : c = 0 := if q : c = 0 then q else absurd (.inl q) hb
    obtain rfl : d = true := by
      cases d
      · exact absurd (.inr rfl) hb
      · rfl
    by_cases hs : a0_9 ≠ 0 ∨ a1 < a0_3 ∨ a2 = true ∧ a1 < a0_8
    · rw [if_pos hs] at h
      simp only [Option.some.injEq, Prod.mk.injEq] at h
      obtain ⟨rfl, rfl, rfl, rfl, rfl, rfl, rfl, rfl, rfl, rfl, rfl, rfl, rfl, rfl, rfl⟩ := h
      exact psub.cancel_state 1 ⟨a0_0, a0_1, a0_2, a0_3, a0_4, a0_5, a0_6, a0_7, a0_8, a0_9⟩ a1 a2 w HTab.out hc hd hs
    · rw [if_neg hs] at h
      have h0 : a0_9 = 0 := if q : a0_9 = 0 then q else absurd (.inl q) hs
      have h1 : a0_3 ≤ a1 := if q : a1 < a0_3 then absurd (.inr (.inl q)) hs else by omega
      have h2 : a2 = true → a0_8 ≤ a1 := fun g => if q : a1 < a0_8 then absurd (.inr (.inr ⟨g, q⟩)) hs else by omega
      replace h := Option.bind_eq_some_iff.mp h
      obtain ⟨⟨i, f, n, er⟩, hf, h⟩ := h
      simp only [] at h
      have hF : ∀ w, Tab w → _ := fun w T => anchor_Find.calls a0_3 a0_4 a0_5 a1 i f n er w ⟨T⟩ hf
      have hi := find_bd hf
      by_cases he : er ≠ 0
      · rw [if_pos he] at h
        simp only [Option.some.injEq, Prod.mk.injEq] at h
        obtain ⟨rfl, rfl, rfl, rfl, rfl, rfl, rfl, rfl, rfl, rfl, rfl, rfl, rfl, rfl, rfl⟩ := h
        exact psub.cancel_find 1 ⟨a0_0, a0_1, a0_2, a0_3, a0_4, a0_5, a0_6, a0_7, a0_8, a0_9⟩ a1 i f n er a2 w HTab.out hc hd h0 h1 h2 hF he
      · rw [if_neg he] at h
        obtain rfl : er = 0 := if q : er = 0 then q else absurd q he
        by_cases hg : i + 1 < a0_7
        · rw [if_pos hg] at h
          simp only [Option.some.injEq, Prod.mk.injEq] at h
          obtain ⟨rfl, rfl, rfl, rfl, rfl, rfl, rfl, rfl, rfl, rfl, rfl, rfl, rfl, rfl, rfl⟩ := h
          exact psub.cancel_ahead 1 ⟨a0_0, a0_1, a0_2, a0_3, a0_4, a0_5, a0_6, a0_7, a0_8, a0_9⟩ a1 i f n a2 w HTab.out hc hd h0 h1 h2 hF hi.1 hi.2 hg
        · rw [if_neg hg] at h
          cases a2 with
          | false =>
            rw [if_pos rfl] at h
            simp only [Option.some.injEq, Prod.mk.injEq] at h
            obtain ⟨rfl, rfl, rfl, rfl, rfl, rfl, rfl, rfl, rfl, rfl, rfl, rfl, rfl, rfl, rfl⟩ := h
            exact psub.cancel_later 1 ⟨a0_0, a0_1, a0_2, a0_3, a0_4, a0_5, a0_6, a0_7, a0_8, a0_9⟩ a1 i f n w HTab.out hc hd h0 h1 hF hi.1 hi.2 hg
          | true =>
            rw [if_neg (by decide)] at h
            replace h := Option.bind_eq_some_iff.mp h
            obtain ⟨⟨pi, pf, pn, pe, pw, pp, l⟩, hl, h⟩ := h
            simp only [] at h
            cases l with
            | false =>
              rw [if_pos rfl] at h
              simp only [Option.some.injEq, Prod.mk.injEq] at h
              obtain ⟨rfl, rfl, rfl, rfl, rfl, rfl, rfl, rfl, rfl, rfl, rfl, rfl, rfl, rfl, rfl⟩ := h
              exact psub.cancel_none 1 ⟨a0_0, a0_1, a0_2, a0_3, a0_4, a0_5, a0_6, a0_7, a0_8, a0_9⟩ a1 i f n pi pf pn pe pw pp w HTab.out hc hd h0 h1 (h2 rfl) hF hi.1 hi.2 hg hl
            | true =>
              rw [if_neg (by decide)] at h
              replace h := Option.bind_eq_some_iff.mp h
              obtain ⟨cr, hcr, h⟩ := h
              simp only [Option.some.injEq, Prod.mk.injEq] at h
              obtain ⟨rfl, rfl, rfl, rfl, rfl, rfl, rfl, rfl, rfl, rfl, rfl, rfl, rfl, rfl, rfl⟩ := h
              exact psub.cancel_in 1 ⟨a0_0, a0_1, a0_2, a0_3, a0_4, a0_5, a0_6, a0_7, a0_8, a0_9⟩ a1 i f n pi pf pn pe pw pp cr w HTab.out hc hd h0 h1 (h2 rfl) hF hi.1 hi.2 hg hl hcr
end Go.Proofs.YtibkbimhedoafaaDoor.PH

