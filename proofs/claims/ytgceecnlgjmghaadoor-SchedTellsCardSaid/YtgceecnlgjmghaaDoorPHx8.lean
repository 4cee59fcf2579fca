/- What the functions of this part answer: their contracts, printed by a program of this session (wip/gen/hybrid.py) out of the translation. No conditions. -/
import Derived.Test.YtgceecnlgjmghaaDoorPHx0
import Derived.Test.YtgceecnlgjmghaaDoorPHx3
import Derived.Test.YtgceecnlgjmghaaDoorPHx7
noncomputable section
namespace Go.Proofs.YtgceecnlgjmghaaDoor.PH

open Go.RowKit Go.Proofs.YtgceecnlgjmghaaDoorW.PrintWords Go.Proofs.YtgceecnlgjmghaaDoorW.PrintLast Go.Proofs.YtgceecnlgjmghaaDoorW.PrintMore
attribute [local go_sem] max2_int min2_int max_two min_two max_three min_three max_four min_four   -- for this text's walks alone
set_option linter.unusedVariables false
set_option linter.unusedSimpArgs false

/-! ### quittanceref28_Cut: function 15 -/
abbrev qe0 : Array Bool := #[false, false, false, false, false, false, false, false, false, false, false, false, false, false]
abbrev qe1 : Array Bool := #[true, false, false, false, false, false, false, false, false, false, false, false, false, false]
abbrev qe2 : Array Bool := #[true, false, true, false, false, false, false, false, false, false, false, false, false, false]
abbrev qe3 : Array Bool := #[true, false, true, true, false, false, false, false, false, false, false, false, false, false]
abbrev qe4 : Array Bool := #[true, false, true, true, false, true, false, false, false, false, false, false, false, false]
abbrev qe5 : Array Bool := #[true, false, true, true, false, true, false, false, false, true, false, false, false, false]
abbrev qe6 : Array Bool := #[true, true, true, true, false, true, false, false, false, true, false, false, false, false]
abbrev qe7 : Array Bool := #[true, true, true, true, true, true, false, false, false, true, false, false, false, false]
abbrev qe8 : Array Bool := #[true, true, true, true, true, true, true, false, false, true, false, false, false, false]
abbrev qe9 : Array Bool := #[true, true, true, true, true, true, true, true, false, true, false, false, false, false]
abbrev qe10 : Array Bool := #[true, true, true, true, true, true, true, true, true, true, false, false, false, false]
abbrev qe11 : Array Bool := #[true, true, true, true, true, true, true, true, true, true, true, false, false, false]
abbrev qe12 : Array Bool := #[true, true, true, true, true, true, true, true, true, true, true, true, false, false]
abbrev qe13 : Array Bool := #[true, true, true, true, true, true, true, true, true, true, true, true, true, false]
abbrev qe14 : Array Bool := #[true, true, true, true, true, true, true, true, true, true, true, true, true, true]
theorem qex {α : Type} (l : List α) (i : Nat) (a : α) : l.toArray.setIfInBounds i a = (l.set i a).toArray := List.setIfInBounds_toArray ..
theorem qey {α : Type} (x : α) (l : List α) (a : α) : (x :: l).set 0 a = a :: l := List.set_cons_zero ..
theorem qez {α : Type} (x : α) (l : List α) (n : Nat) (a : α) : (x :: l).set (n + 1) a = x :: l.set n a := List.set_cons_succ ..
mutual
def quittanceref28_Cut.j0 : Nat → Int → Bool → Int → Int → Int → Int → List (S61) → Option (Int × Int × Int × Int × (List (S61)) × Int)
 | 0, _, _, _, _, _, _, _ => none
 | k + 1, x1, x14, x140000, x140001, x140002, x140003, x140004 => if x14 = true then (some (0, 0, 0, 0, ([] : List (S61)), 2)) else ((quittanceref28_Left.f k x140000 x140001 x140002 x140003 x140004).bind fun t142 => (if x1 > t142 then (quittanceref28_Cut.j1 k x1 true x140000 x140001 x140002 x140003 x140004) else (quittanceref28_Cut.j1 k x1 (decide (x140002 ≥ 1000000)) x140000 x140001 x140002 x140003 x140004)))
def quittanceref28_Cut.j1 : Nat → Int → Bool → Int → Int → Int → Int → List (S61) → Option (Int × Int × Int × Int × (List (S61)) × Int)
 | 0, _, _, _, _, _, _, _ => none
 | k + 1, x1, x24, x140000, x140001, x140002, x140003, x140004 => if x24 = true then (some (0, 0, 0, 0, ([] : List (S61)), 9)) else ((some (([] : List (S61)) : List (S61))).bind fun y143 => (if y143.length + x140004.length < 5864062014805 then ((some (y143 ++ x140004 : List (S61))).bind fun y146 => (quittanceref28_Cut.l0 k x1 (wrap64 ((y146.length : Int) - 1)) x140000 x140001 (wrap64 (x140002 + 1)) x140003 y146)) else (none)))
def quittanceref28_Cut.l0 : Nat → Int → Int → Int → Int → Int → Int → List (S61) → Option (Int × Int × Int × Int × (List (S61)) × Int)
 | 0, _, _, _, _, _, _, _ => none
 | k + 1, x1, x6, x140000, x140001, x140002, x140003, x140004 => if x1 > 0 then (if 0 ≤ x6 then (if x6 < (x140004.length : Int) then (if (rd_T61 x140004 x6).f2 = true then (quittanceref28_Cut.l0 k x1 (wrap64 (x6 - 1)) x140000 x140001 x140002 x140003 x140004) else (quittanceref28_Cut.l0 k (wrap64 (x1 - (mn x1 ((rd_T61 x140004 x6).f1)))) (wrap64 (x6 - 1)) x140000 x140001 x140002 x140003 (x140004.set (x6 : Int).toNat (⟨(rd_T61 x140004 x6).f0, wrap64 (((rd_T61 x140004 x6).f1) - (mn x1 ((rd_T61 x140004 x6).f1))), (rd_T61 x140004 x6).f2⟩ : S61)))) else (none)) else (none)) else (some (x140000, x140001, x140002, x140003, x140004, 0))
end
def quittanceref28_Cut.f (k : Nat) (a0_0 : Int) (a0_1 : Int) (a0_2 : Int) (a0_3 : Int) (l0_4 : List (S61)) (a1 : Int) : Option (Int × Int × Int × Int × (List (S61)) × Int) := (quittanceref28_Check.f k a0_0 a0_1 a0_2 a0_3 l0_4).bind fun t141 => (if t141 = 0 then (quittanceref28_Cut.j0 k a1 (decide (a1 < 1)) a0_0 a0_1 a0_2 a0_3 l0_4) else (quittanceref28_Cut.j0 k a1 true a0_0 a0_1 a0_2 a0_3 l0_4))
theorem quittanceref28_Cut.mono_l : ∀ k, (∀ y0 y1 y2 y3 y4 y5 y6, LeO (quittanceref28_Cut.j0 k y0 y1 y2 y3 y4 y5 y6) (quittanceref28_Cut.j0 (k + 1) y0 y1 y2 y3 y4 y5 y6)) ∧ (∀ y0 y1 y2 y3 y4 y5 y6, LeO (quittanceref28_Cut.j1 k y0 y1 y2 y3 y4 y5 y6) (quittanceref28_Cut.j1 (k + 1) y0 y1 y2 y3 y4 y5 y6)) ∧ (∀ y0 y1 y2 y3 y4 y5 y6, LeO (quittanceref28_Cut.l0 k y0 y1 y2 y3 y4 y5 y6) (quittanceref28_Cut.l0 (k + 1) y0 y1 y2 y3 y4 y5 y6))
 | 0 => ⟨fun _ _ _ _ _ _ _ r h => by simp [quittanceref28_Cut.j0] at h, fun _ _ _ _ _ _ _ r h => by simp [quittanceref28_Cut.j1] at h, fun _ _ _ _ _ _ _ r h => by simp [quittanceref28_Cut.l0] at h⟩
 | k + 1 => by
  obtain ⟨ih0, ih1, ih2⟩ := quittanceref28_Cut.mono_l k
  refine ⟨?_, ?_, ?_⟩
  ·intro y0 y1 y2 y3 y4 y5 y6
   unfold quittanceref28_Cut.j0
   repeat' first
   | (with_reducible exact ih0 _ _ _ _ _ _ _)
   | (with_reducible exact ih1 _ _ _ _ _ _ _)
   | (with_reducible exact ih2 _ _ _ _ _ _ _)
   | (with_reducible exact quittanceref28_Check.mono _ _ _ _ _ _)
   | (with_reducible exact quittanceref28_Left.mono _ _ _ _ _ _)
   | (with_reducible exact LeO.refl _)
   | (with_reducible exact LeO.none _)
   | (with_reducible refine LeO.ite ?_ ?_)
   | (with_reducible refine LeO.bind ?_ (fun _ => ?_))
   | exact ih0 _ _ _ _ _ _ _
   | exact ih1 _ _ _ _ _ _ _
   | exact ih2 _ _ _ _ _ _ _
   | exact quittanceref28_Check.mono _ _ _ _ _ _
   | exact quittanceref28_Left.mono _ _ _ _ _ _
   | exact LeO.none _
   | refine LeO.ite ?_ ?_
   | refine LeO.bind ?_ (fun _ => ?_)
  ·intro y0 y1 y2 y3 y4 y5 y6
   unfold quittanceref28_Cut.j1
   repeat' first
   | (with_reducible exact ih0 _ _ _ _ _ _ _)
   | (with_reducible exact ih1 _ _ _ _ _ _ _)
   | (with_reducible exact ih2 _ _ _ _ _ _ _)
   | (with_reducible exact quittanceref28_Check.mono _ _ _ _ _ _)
   | (with_reducible exact quittanceref28_Left.mono _ _ _ _ _ _)
   | (with_reducible exact LeO.refl _)
   | (with_reducible exact LeO.none _)
   | (with_reducible refine LeO.ite ?_ ?_)
   | (with_reducible refine LeO.bind ?_ (fun _ => ?_))
   | exact ih0 _ _ _ _ _ _ _
   | exact ih1 _ _ _ _ _ _ _
   | exact ih2 _ _ _ _ _ _ _
   | exact quittanceref28_Check.mono _ _ _ _ _ _
   | exact quittanceref28_Left.mono _ _ _ _ _ _
   | exact LeO.none _
   | refine LeO.ite ?_ ?_
   | refine LeO.bind ?_ (fun _ => ?_)
  ·intro y0 y1 y2 y3 y4 y5 y6
   unfold quittanceref28_Cut.l0
   repeat' first
   | (with_reducible exact ih0 _ _ _ _ _ _ _)
   | (with_reducible exact ih1 _ _ _ _ _ _ _)
   | (with_reducible exact ih2 _ _ _ _ _ _ _)
   | (with_reducible exact quittanceref28_Check.mono _ _ _ _ _ _)
   | (with_reducible exact quittanceref28_Left.mono _ _ _ _ _ _)
   | (with_reducible exact LeO.refl _)
   | (with_reducible exact LeO.none _)
   | (with_reducible refine LeO.ite ?_ ?_)
   | (with_reducible refine LeO.bind ?_ (fun _ => ?_))
   | exact ih0 _ _ _ _ _ _ _
   | exact ih1 _ _ _ _ _ _ _
   | exact ih2 _ _ _ _ _ _ _
   | exact quittanceref28_Check.mono _ _ _ _ _ _
   | exact quittanceref28_Left.mono _ _ _ _ _ _
   | exact LeO.none _
   | refine LeO.ite ?_ ?_
   | refine LeO.bind ?_ (fun _ => ?_)
theorem quittanceref28_Cut.mono : ∀ a0 a1 a2 a3 a4 a5 k, LeO (quittanceref28_Cut.f k a0 a1 a2 a3 a4 a5) (quittanceref28_Cut.f (k + 1) a0 a1 a2 a3 a4 a5) := by
 intro a0 a1 a2 a3 a4 a5 k
 obtain ⟨ih0, ih1, ih2⟩ := quittanceref28_Cut.mono_l k
 unfold quittanceref28_Cut.f
 repeat' first
   | (with_reducible exact ih0 _ _ _ _ _ _ _)
   | (with_reducible exact ih1 _ _ _ _ _ _ _)
   | (with_reducible exact ih2 _ _ _ _ _ _ _)
   | (with_reducible exact quittanceref28_Check.mono _ _ _ _ _ _)
   | (with_reducible exact quittanceref28_Left.mono _ _ _ _ _ _)
   | (with_reducible exact LeO.refl _)
   | (with_reducible exact LeO.none _)
   | (with_reducible refine LeO.ite ?_ ?_)
   | (with_reducible refine LeO.bind ?_ (fun _ => ?_))
   | exact ih0 _ _ _ _ _ _ _
   | exact ih1 _ _ _ _ _ _ _
   | exact ih2 _ _ _ _ _ _ _
   | exact quittanceref28_Check.mono _ _ _ _ _ _
   | exact quittanceref28_Left.mono _ _ _ _ _ _
   | exact LeO.none _
   | refine LeO.ite ?_ ?_
   | refine LeO.bind ?_ (fun _ => ?_)
def quittanceref28_Cut.T12 : Bool × List (List Nat × List Nat) := (true, [([], []), ([0], [0]), ([], []), ([], []), ([3], [3]), ([], []), ([4, 5], [4, 5]), ([6], [6]), ([7], [7]), ([], []), ([8, 9], [8, 9]), ([1, 2, 0, 1, 2, 3, 4, 5, 6, 7, 8, 9, 10], [1, 2]), ([11, 0, 1, 2, 3, 4, 5, 6, 7, 8, 9, 10], [11]), ([12, 10, 0, 1, 2, 3, 4, 5, 6, 7, 8, 9, 10], [10, 12])])
def quittanceref28_Cut.B12 : List Nat := [0, 1, 0, 0, 8, 0, 56, 120, 248, 0, 1016, 2047, 4095, 8191]
theorem quittanceref28_Cut.tab12 : rtab .any (opsOf Tryd.f15 12) = quittanceref28_Cut.T12 := by kernel_rfl
theorem quittanceref28_Cut.bits12 : waitsOk quittanceref28_Cut.T12.2 quittanceref28_Cut.B12 = true := by kernel_rfl
set_option maxHeartbeats 8000000 in
set_option maxRecDepth 100000 in
theorem quittanceref28_Cut.calls (k : Nat) (a0_0 : Int) (a0_1 : Int) (a0_2 : Int) (a0_3 : Int) (A0_4 : Option Addr) (c0_4 : Nat) (l0_4 : List (S61)) (a1 : Int) (r1 : Int) (r2 : Int) (r3 : Int) (r4 : Int) (r5 : List (S61)) (r6 : Int) (w : World) (hr0_4 : Kd.C k61 w A0_4 l0_4.length l0_4) (hc0_4 : l0_4.length ≤ c0_4) (h : quittanceref28_Cut.f k a0_0 a0_1 a0_2 a0_3 l0_4 a1 = some (r1, r2, r3, r4, r5, r6)) :
  Calls Tryd.prog 15 #[.agg #[.int .u64 a0_0, .int .u64 a0_1, .int .i64 a0_2, .int .u8 a0_3, .slice A0_4 l0_4.length c0_4], .int .i64 a1] w fun e w' => ∃ v4_ : Value, e = .returned (.tuple #[.agg #[.int .u64 r1, .int .u64 r2, .int .i64 r3, .int .u8 r4, v4_], .int .i64 r6]) ∧ Kd.R k61 61 w' w.heap.size (fun _ => True) v4_ r5 ∧ Below w.heap.size w w' := by
 have hu25 := Tryd.underlying25
 have HR0_4 := Aside0.mk hr0_4
 have HC0_4 := Aside0.mk hc0_4
 clear hr0_4 hc0_4
 have HB := Aside0.mk (Below.refl w.heap.size w)
 have H : ((quittanceref28_Check.f k a0_0 a0_1 a0_2 a0_3 l0_4).bind fun t141 => (if t141 = 0 then (quittanceref28_Cut.j0 k a1 (decide (a1 < 1)) a0_0 a0_1 a0_2 a0_3 l0_4) else (quittanceref28_Cut.j0 k a1 true a0_0 a0_1 a0_2 a0_3 l0_4))) = some (r1, r2, r3, r4, r5, r6) := h
 clear h
 have HC3 := Aside0.mk H
 clear H
 go_enter Tryd.func15, Tryd.ntmps15
 go_upto_region 1 with (first | ((with_reducible refine gate_dst (N := 2) rfl ?_); refine box_event ?hg (N := 2) ?hd (cs := #[.int .u64 a0_0, .int .u64 a0_1, .int .i64 a0_2, .int .u8 a0_3, .slice A0_4 l0_4.length c0_4]) (t := 25) ?hr ?_; (case hd => rfl); (case hg => rfl); (case hr => first | (go_simp; done) | (go_simp; rfl)); intro gb139 hg w4 hbox hb; have n0_ := Aside0.mk (below_step (by repeat (first | (with_reducible first | exact HB.out | apply below_alloc | apply pw_below_drewN | apply below_drew1) | exact HB.out)) hb); have n1_ := Aside0.mk (hbox); have n2_ := Aside0.mk ((by rw [hg]; exact (below_size (by repeat (first | (with_reducible first | exact HB.out | apply below_alloc | apply pw_below_drewN | apply below_drew1) | exact HB.out))) : w.heap.size ≤ gb139)); have n3_ := Aside0.mk ((by rw [hg]; exact (below_size (by repeat (first | (with_reducible first | exact HB.out | apply below_alloc | apply pw_below_drewN | apply below_drew1) | exact HB.out))) : w.heap.size ≤ gb139)); clear HB; have HB := n0_; have BK139 := n1_; have GW139 := n2_; have GE139 := n3_; clear n0_ n1_ n2_ n3_; clear hb hbox hg) | ((with_reducible refine gate_dst (N := 4) rfl ?_); refine box_event ?hg (N := 4) ?hd (cs := #[.int .u64 0, .int .u64 0, .int .i64 0, .int .u8 0, .slice none 0 0]) (t := 25) ?hr ?_; (case hd => rfl); (case hg => rfl); (case hr => first | (go_simp; done) | (go_simp; rfl)); intro gb140 hg w5 hbox hb; have n0_ := Aside0.mk (blk_below (g := gb139) (o := .cells #[.int .u64 a0_0, .int .u64 a0_1, .int .i64 a0_2, .int .u8 a0_3, .slice A0_4 l0_4.length c0_4] 25 (0, 0)) (by (with_reducible repeat (first | refine blk_drewN ?_ _ | refine blk_drew ?_ | refine blk_alloc ?_ _)); exact BK139.out) hb); have n1_ := Aside0.mk (below_step (by repeat (first | (with_reducible first | exact HB.out | apply below_alloc | apply pw_below_drewN | apply below_drew1 | refine below_set ?_ GE139.out) | exact HB.out)) hb); have n2_ := Aside0.mk (hbox); have n3_ := Aside0.mk ((by rw [hg]; exact (below_size (by repeat (first | (with_reducible first | exact HB.out | apply below_alloc | apply pw_below_drewN | apply below_drew1 | refine below_set ?_ GE139.out) | exact HB.out))) : w.heap.size ≤ gb140)); have n4_ := Aside0.mk ((by rw [hg]; exact (below_size (by repeat (first | (with_reducible first | exact HB.out | apply below_alloc | apply pw_below_drewN | apply below_drew1 | refine below_set ?_ GE139.out) | exact HB.out))) : w.heap.size ≤ gb140)); have n5_ := Aside0.mk ((by rw [hg]; exact Nat.ne_of_lt (blk_lt (g := gb139) (o := .cells #[.int .u64 a0_0, .int .u64 a0_1, .int .i64 a0_2, .int .u8 a0_3, .slice A0_4 l0_4.length c0_4] 25 (0, 0)) (by (with_reducible repeat (first | refine blk_drewN ?_ _ | refine blk_drew ?_ | refine blk_alloc ?_ _)); exact BK139.out)) : gb139 ≠ gb140)); have n6_ := Aside0.mk ((by rw [hg]; exact Nat.ne_of_gt (blk_lt (g := gb139) (o := .cells #[.int .u64 a0_0, .int .u64 a0_1, .int .i64 a0_2, .int .u8 a0_3, .slice A0_4 l0_4.length c0_4] 25 (0, 0)) (by (with_reducible repeat (first | refine blk_drewN ?_ _ | refine blk_drew ?_ | refine blk_alloc ?_ _)); exact BK139.out)) : gb140 ≠ gb139)); clear BK139; clear HB; have BK139 := n0_; have HB := n1_; have BK140 := n2_; have GW140 := n3_; have GE140 := n4_; have NB139_140 := n5_; have NB140_139 := n6_; clear n0_ n1_ n2_ n3_ n4_ n5_ n6_; clear hb hbox hg))
 (try simp only [Act.put, List.setIfInBounds_toArray, List.set_cons_zero, List.set_cons_succ])
 go_cut [14] (fun v14 wc => ∃ (kq : Nat) (x14_2 : Bool), v14 = .bool x14_2 ∧ Aside0 (quittanceref28_Cut.j0 kq a1 x14_2 a0_0 a0_1 a0_2 a0_3 l0_4 = some (r1, r2, r3, r4, r5, r6)) ∧ Aside0 (kq ≤ k) ∧ Aside0 (wc.heap[gb139]? = some (.cells #[.int .u64 a0_0, .int .u64 a0_1, .int .i64 a0_2, .int .u8 a0_3, (.slice A0_4 l0_4.length c0_4)] 25 (0, 0))) ∧ Aside0 (wc.heap[gb140]? = some (.cells #[.int .u64 0, .int .u64 0, .int .i64 0, .int .u8 0, (.slice none 0 0)] 25 (0, 0))) ∧ Aside0 (Below w.heap.size w wc))
 case first =>
  have H := HC3.out
  clear HC3
  replace H := Option.bind_eq_some_iff.mp H
  obtain ⟨t141, A60, H⟩ := H
  replace H : (if t141 = 0 then (quittanceref28_Cut.j0 k a1 (decide (a1 < 1)) a0_0 a0_1 a0_2 a0_3 l0_4) else (quittanceref28_Cut.j0 k a1 true a0_0 a0_1 a0_2 a0_3 l0_4)) = some (r1, r2, r3, r4, r5, r6) := H
  have A6 := Aside0.mk A60
  clear A60
  by_cases c7 : t141 = 0
  ·rw [if_pos c7] at H
   have c7b0 : (t141 == 0) = true := beq_iff_eq.mpr c7
   have c7b1 : (t141 != 0) = false := bne_eq_false_iff_eq.mpr c7
   clear c7
   (first | rw [c7b0] | (simp only [i64_w, i32_w]; rw [c7b0]) | skip)
   have H' := Aside0.mk H
   clear H
   have hnb8 := NB139_140.out
   have hnc8 := NB140_139.out
   have hcz9_0 : w5.cell? ⟨gb139, 0, none⟩ = some (.int .u64 a0_0) := (blk_cell BK139.out 0).trans rfl
   have hcz9_1 : w5.cell? ⟨gb139, 1, none⟩ = some (.int .u64 a0_1) := (blk_cell BK139.out 1).trans rfl
   have hcz9_2 : w5.cell? ⟨gb139, 2, none⟩ = some (.int .i64 a0_2) := (blk_cell BK139.out 2).trans rfl
   have hcz9_3 : w5.cell? ⟨gb139, 3, none⟩ = some (.int .u8 a0_3) := (blk_cell BK139.out 3).trans rfl
   have hcz9_4 : w5.cell? ⟨gb139, 4, none⟩ = some (.slice A0_4 l0_4.length c0_4) := (blk_cell BK139.out 4).trans rfl
   have hfz9_0 := blk_frozen BK139.out 0
   have hfz9_1 := blk_frozen BK139.out 1
   have hfz9_2 := blk_frozen BK139.out 2
   have hfz9_3 := blk_frozen BK139.out 3
   have hfz9_4 := blk_frozen BK139.out 4
   go_wp2_with (first | ((with_reducible refine gate_callee (f := 20) rfl ?_); refine goesL_ (some 9) rfl rfl Tryd.func20 (by kernel_rfl) rfl #[.agg #[.int .u64 a0_0, .int .u64 a0_1, .int .i64 a0_2, .int .u8 a0_3, .slice A0_4 l0_4.length c0_4]] rfl (by (try simp only [List.map_toArray, List.map_cons, List.map_nil]); first | done | rfl | (simp only [List.length_drop, List.length_take]; rfl)) ?_; (with_reducible refine (quittanceref28_Check.calls k a0_0 a0_1 a0_2 a0_3 _ _ l0_4 t141 _ ?side1 ?side2 A6.out).mono ?_); (case side1 => repeat (first | exact (Kd.C_below HR0_4.out HB.out) | (with_reducible refine Kd.C_alloc ?_ _) | (with_reducible refine Kd.C_drewN ?_ _) | (with_reducible refine Kd.C_drew ?_))); (case side2 => exact HC0_4.out); rintro e w10 ⟨rfl, hb⟩; refine ⟨_, rfl, ?_⟩; have n0_ := Aside0.mk (blk_below (g := gb139) (o := .cells #[.int .u64 a0_0, .int .u64 a0_1, .int .i64 a0_2, .int .u8 a0_3, .slice A0_4 l0_4.length c0_4] 25 (0, 0)) (by (with_reducible repeat (first | refine blk_drewN ?_ _ | refine blk_drew ?_ | refine blk_alloc ?_ _)); exact BK139.out) hb); have n1_ := Aside0.mk (blk_below (g := gb140) (o := .cells #[.int .u64 0, .int .u64 0, .int .i64 0, .int .u8 0, .slice none 0 0] 25 (0, 0)) (by (with_reducible repeat (first | refine blk_drewN ?_ _ | refine blk_drew ?_ | refine blk_alloc ?_ _)); exact BK140.out) hb); have n2_ := Aside0.mk (below_step (by repeat (first | (with_reducible first | exact HB.out | apply below_alloc | apply pw_below_drewN | apply below_drew1 | refine below_set ?_ GE139.out | refine below_set ?_ GE140.out) | exact HB.out)) hb); clear BK139; clear BK140; clear HB; have BK139 := n0_; have BK140 := n1_; have HB := n2_; clear n0_ n1_ n2_; (try clear hb); (try clear hb2); (try clear hk); (try clear hi)))
   go_meet
   case rel => exact ⟨_, (decide (a1 < 1)), (by first | rfl | (simp; done) | (simp [*]; done)), H', ⟨by first | omega | exact Nat.le_refl _⟩, ⟨by (with_reducible repeat (first | refine blk_drewN ?_ _ | refine blk_drew ?_ | refine blk_alloc ?_ _)); exact BK139.out⟩, ⟨by (with_reducible repeat (first | refine blk_drewN ?_ _ | refine blk_drew ?_ | refine blk_alloc ?_ _)); exact BK140.out⟩, ⟨by repeat (first | (with_reducible first | exact HB.out | apply below_alloc | apply pw_below_drewN | apply below_drew1 | refine below_set ?_ GE139.out | refine below_set ?_ GE140.out) | exact HB.out)⟩⟩
  ·rw [if_neg c7] at H
   have c7b0 : (t141 == 0) = false := beq_eq_false_iff_ne.mpr c7
   have c7b1 : (t141 != 0) = true := bne_iff_ne.mpr c7
   (first | rw [c7b0] | (simp only [i64_w, i32_w]; rw [c7b0]) | skip)
   have H' := Aside0.mk H
   clear H
   have hnb11 := NB139_140.out
   have hnc11 := NB140_139.out
   have hcz12_0 : w5.cell? ⟨gb139, 0, none⟩ = some (.int .u64 a0_0) := (blk_cell BK139.out 0).trans rfl
   have hcz12_1 : w5.cell? ⟨gb139, 1, none⟩ = some (.int .u64 a0_1) := (blk_cell BK139.out 1).trans rfl
   have hcz12_2 : w5.cell? ⟨gb139, 2, none⟩ = some (.int .i64 a0_2) := (blk_cell BK139.out 2).trans rfl
   have hcz12_3 : w5.cell? ⟨gb139, 3, none⟩ = some (.int .u8 a0_3) := (blk_cell BK139.out 3).trans rfl
   have hcz12_4 : w5.cell? ⟨gb139, 4, none⟩ = some (.slice A0_4 l0_4.length c0_4) := (blk_cell BK139.out 4).trans rfl
   have hfz12_0 := blk_frozen BK139.out 0
   have hfz12_1 := blk_frozen BK139.out 1
   have hfz12_2 := blk_frozen BK139.out 2
   have hfz12_3 := blk_frozen BK139.out 3
   have hfz12_4 := blk_frozen BK139.out 4
   go_wp2_with (first | ((with_reducible refine gate_callee (f := 20) rfl ?_); refine goesL_ (some 9) rfl rfl Tryd.func20 (by kernel_rfl) rfl #[.agg #[.int .u64 a0_0, .int .u64 a0_1, .int .i64 a0_2, .int .u8 a0_3, .slice A0_4 l0_4.length c0_4]] rfl (by (try simp only [List.map_toArray, List.map_cons, List.map_nil]); first | done | rfl | (simp only [List.length_drop, List.length_take]; rfl)) ?_; (with_reducible refine (quittanceref28_Check.calls k a0_0 a0_1 a0_2 a0_3 _ _ l0_4 t141 _ ?side1 ?side2 A6.out).mono ?_); (case side1 => repeat (first | exact (Kd.C_below HR0_4.out HB.out) | (with_reducible refine Kd.C_alloc ?_ _) | (with_reducible refine Kd.C_drewN ?_ _) | (with_reducible refine Kd.C_drew ?_))); (case side2 => exact HC0_4.out); rintro e w13 ⟨rfl, hb⟩; refine ⟨_, rfl, ?_⟩; have n0_ := Aside0.mk (blk_below (g := gb139) (o := .cells #[.int .u64 a0_0, .int .u64 a0_1, .int .i64 a0_2, .int .u8 a0_3, .slice A0_4 l0_4.length c0_4] 25 (0, 0)) (by (with_reducible repeat (first | refine blk_drewN ?_ _ | refine blk_drew ?_ | refine blk_alloc ?_ _)); exact BK139.out) hb); have n1_ := Aside0.mk (blk_below (g := gb140) (o := .cells #[.int .u64 0, .int .u64 0, .int .i64 0, .int .u8 0, .slice none 0 0] 25 (0, 0)) (by (with_reducible repeat (first | refine blk_drewN ?_ _ | refine blk_drew ?_ | refine blk_alloc ?_ _)); exact BK140.out) hb); have n2_ := Aside0.mk (below_step (by repeat (first | (with_reducible first | exact HB.out | apply below_alloc | apply pw_below_drewN | apply below_drew1 | refine below_set ?_ GE139.out | refine below_set ?_ GE140.out) | exact HB.out)) hb); clear BK139; clear BK140; clear HB; have BK139 := n0_; have BK140 := n1_; have HB := n2_; clear n0_ n1_ n2_; (try clear hb); (try clear hb2); (try clear hk); (try clear hi)))
   go_meet
   case rel => exact ⟨_, (true), (by first | rfl | (simp; done) | (simp [*]; done)), H', ⟨by first | omega | exact Nat.le_refl _⟩, ⟨by (with_reducible repeat (first | refine blk_drewN ?_ _ | refine blk_drew ?_ | refine blk_alloc ?_ _)); exact BK139.out⟩, ⟨by (with_reducible repeat (first | refine blk_drewN ?_ _ | refine blk_drew ?_ | refine blk_alloc ?_ _)); exact BK140.out⟩, ⟨by repeat (first | (with_reducible first | exact HB.out | apply below_alloc | apply pw_below_drewN | apply below_drew1 | refine below_set ?_ GE139.out | refine below_set ?_ GE140.out) | exact HB.out)⟩⟩
 case rest =>
  clear HC3
  try clear c1
  try clear c2
  try clear p2
  try clear c7
  try clear c7b0
  try clear c7b1
  try clear c8
  try clear c11
  try clear hcz12_0
  try clear hcz12_1
  try clear hcz12_2
  try clear hcz12_3
  try clear hcz12_4
  try clear hcz9_0
  try clear hcz9_1
  try clear hcz9_2
  try clear hcz9_3
  try clear hcz9_4
  try clear hfz12_0
  try clear hfz12_1
  try clear hfz12_2
  try clear hfz12_3
  try clear hfz12_4
  try clear hfz9_0
  try clear hfz9_1
  try clear hfz9_2
  try clear hfz9_3
  try clear hfz9_4
  obtain ⟨kq, x14_2, rfl, HA, HJ2, BK139, BK140, HB⟩ := hcut
  cases kq with
  | zero => exact absurd HA.out (by simp [quittanceref28_Cut.j0])
  | succ kj2 =>
   have H := HA.out
   clear HA
   simp only [quittanceref28_Cut.j0] at H
   by_cases c14 : x14_2 = true
   ·subst c14
    have H1 : (some (0, 0, 0, 0, ([] : List (S61)), 2)) = some (r1, r2, r3, r4, r5, r6) := by rw [if_pos rfl] at H; exact H
    clear H
    have H := H1
    clear H1
    simp only [Option.some.injEq, Prod.mk.injEq] at H
    obtain ⟨rfl, rfl, rfl, rfl, rfl, rfl⟩ := H
    have hnb15 := NB140_139.out
    have hnc15 := NB139_140.out
    have hcz16_0 : wc.cell? ⟨gb140, 0, none⟩ = some (.int .u64 0) := (blk_cell BK140.out 0).trans rfl
    have hcz16_1 : wc.cell? ⟨gb140, 1, none⟩ = some (.int .u64 0) := (blk_cell BK140.out 1).trans rfl
    have hcz16_2 : wc.cell? ⟨gb140, 2, none⟩ = some (.int .i64 0) := (blk_cell BK140.out 2).trans rfl
    have hcz16_3 : wc.cell? ⟨gb140, 3, none⟩ = some (.int .u8 0) := (blk_cell BK140.out 3).trans rfl
    have hcz16_4 : wc.cell? ⟨gb140, 4, none⟩ = some (.slice none 0 0) := (blk_cell BK140.out 4).trans rfl
    have hfz16_0 := blk_frozen BK140.out 0
    have hfz16_1 := blk_frozen BK140.out 1
    have hfz16_2 := blk_frozen BK140.out 2
    have hfz16_3 := blk_frozen BK140.out 3
    have hfz16_4 := blk_frozen BK140.out 4
    go_wp2
    refine bodyPost_ret (results_ct rfl _ _ gb140 25 #[.int .u64 0, .int .u64 0, .int .i64 0, .int .u8 0, .slice none 0 0] (0, 0) _ rfl (by (with_reducible repeat (first | refine blk_drewN ?_ _ | refine blk_drew ?_ | refine blk_alloc ?_ _)); refine blk_put (cs := #[.int .u64 0, .int .u64 0, .int .i64 0, .int .u8 0, .slice none 0 0]) ?_ 4 _ rfl; (with_reducible repeat (first | refine blk_drewN ?_ _ | refine blk_drew ?_ | refine blk_alloc ?_ _)); refine blk_put (cs := #[.int .u64 0, .int .u64 0, .int .i64 0, .int .u8 0, .slice none 0 0]) ?_ 3 _ rfl; (with_reducible repeat (first | refine blk_drewN ?_ _ | refine blk_drew ?_ | refine blk_alloc ?_ _)); refine blk_put (cs := #[.int .u64 0, .int .u64 0, .int .i64 0, .int .u8 0, .slice none 0 0]) ?_ 2 _ rfl; (with_reducible repeat (first | refine blk_drewN ?_ _ | refine blk_drew ?_ | refine blk_alloc ?_ _)); refine blk_put (cs := #[.int .u64 0, .int .u64 0, .int .i64 0, .int .u8 0, .slice none 0 0]) ?_ 1 _ rfl; (with_reducible repeat (first | refine blk_drewN ?_ _ | refine blk_drew ?_ | refine blk_alloc ?_ _)); refine blk_put (cs := #[.int .u64 0, .int .u64 0, .int .i64 0, .int .u8 0, .slice none 0 0]) ?_ 0 _ rfl; (with_reducible repeat (first | refine blk_drewN ?_ _ | refine blk_drew ?_ | refine blk_alloc ?_ _)); exact BK140.out) Tryd.underlying25 rfl (by kernel_rfl)) rfl ?_
    exact ⟨_, by first | rfl | (simp [errW_none, errW_some] <;> rfl) | (simp [*, errW_none, errW_some] <;> rfl), by first | exact Kd.R_nil _ _ _ _ _ | exact Kd.N_nil _ _ _ _ _ | exact Kd.V_nil _ _ _ _ _ | exact Kd.Q_nil _ _ _ _ _ | exact Kd.S_nil _ _ _ _ _, by repeat (first | (with_reducible first | exact HB.out | apply below_alloc | apply pw_below_drewN | apply below_drew1 | refine below_set ?_ GE139.out | refine below_set ?_ GE140.out) | exact HB.out)⟩
   ·replace c14 := Bool.eq_false_iff.mpr c14
    subst c14
    have H1 : ((quittanceref28_Left.f kj2 a0_0 a0_1 a0_2 a0_3 l0_4).bind fun t142 => (if a1 > t142 then (quittanceref28_Cut.j1 kj2 a1 true a0_0 a0_1 a0_2 a0_3 l0_4) else (quittanceref28_Cut.j1 kj2 a1 (decide (a0_2 ≥ 1000000)) a0_0 a0_1 a0_2 a0_3 l0_4))) = some (r1, r2, r3, r4, r5, r6) := by rw [if_neg (show ¬ (false = true) by decide)] at H; exact H
    clear H
    have H := H1
    clear H1
    have HC17 := Aside0.mk H
    clear H
    go_upto_region 3 with (fail)
    go_cut [24] (fun v24 wc => ∃ (kq : Nat) (x24_16 : Bool), v24 = .bool x24_16 ∧ Aside0 (quittanceref28_Cut.j1 kq a1 x24_16 a0_0 a0_1 a0_2 a0_3 l0_4 = some (r1, r2, r3, r4, r5, r6)) ∧ Aside0 (kq ≤ kj2) ∧ Aside0 (wc.heap[gb139]? = some (.cells #[.int .u64 a0_0, .int .u64 a0_1, .int .i64 a0_2, .int .u8 a0_3, (.slice A0_4 l0_4.length c0_4)] 25 (0, 0))) ∧ Aside0 (wc.heap[gb140]? = some (.cells #[.int .u64 0, .int .u64 0, .int .i64 0, .int .u8 0, (.slice none 0 0)] 25 (0, 0))) ∧ Aside0 (Below w.heap.size w wc))
    case first =>
     have H := HC17.out
     clear HC17
     replace H := Option.bind_eq_some_iff.mp H
     obtain ⟨t142, A180, H⟩ := H
     replace H : (if a1 > t142 then (quittanceref28_Cut.j1 kj2 a1 true a0_0 a0_1 a0_2 a0_3 l0_4) else (quittanceref28_Cut.j1 kj2 a1 (decide (a0_2 ≥ 1000000)) a0_0 a0_1 a0_2 a0_3 l0_4)) = some (r1, r2, r3, r4, r5, r6) := H
     have A18 := Aside0.mk A180
     clear A180
     by_cases c19 : a1 > t142
     ·rw [if_pos c19] at H
      have c19b0 : decide (t142 < a1) = true := decide_eq_true c19
      clear c19
      (first | rw [c19b0] | (simp only [i64_w, i32_w]; rw [c19b0]) | skip)
      have H' := Aside0.mk H
      clear H
      have hnb20 := NB139_140.out
      have hnc20 := NB140_139.out
      have hcz21_0 : wc.cell? ⟨gb139, 0, none⟩ = some (.int .u64 a0_0) := (blk_cell BK139.out 0).trans rfl
      have hcz21_1 : wc.cell? ⟨gb139, 1, none⟩ = some (.int .u64 a0_1) := (blk_cell BK139.out 1).trans rfl
      have hcz21_2 : wc.cell? ⟨gb139, 2, none⟩ = some (.int .i64 a0_2) := (blk_cell BK139.out 2).trans rfl
      have hcz21_3 : wc.cell? ⟨gb139, 3, none⟩ = some (.int .u8 a0_3) := (blk_cell BK139.out 3).trans rfl
      have hcz21_4 : wc.cell? ⟨gb139, 4, none⟩ = some (.slice A0_4 l0_4.length c0_4) := (blk_cell BK139.out 4).trans rfl
      have hfz21_0 := blk_frozen BK139.out 0
      have hfz21_1 := blk_frozen BK139.out 1
      have hfz21_2 := blk_frozen BK139.out 2
      have hfz21_3 := blk_frozen BK139.out 3
      have hfz21_4 := blk_frozen BK139.out 4
      go_wp2_with (first | ((with_reducible refine gate_callee (f := 18) rfl ?_); refine goesL_ (some 18) rfl rfl Tryd.func18 (by kernel_rfl) rfl #[.agg #[.int .u64 a0_0, .int .u64 a0_1, .int .i64 a0_2, .int .u8 a0_3, .slice A0_4 l0_4.length c0_4]] rfl (by (try simp only [List.map_toArray, List.map_cons, List.map_nil]); first | done | rfl | (simp only [List.length_drop, List.length_take]; rfl)) ?_; (with_reducible refine (quittanceref28_Left.calls kj2 a0_0 a0_1 a0_2 a0_3 _ _ l0_4 t142 _ ?side1 ?side2 A18.out).mono ?_); (case side1 => repeat (first | exact (Kd.C_below HR0_4.out HB.out) | (with_reducible refine Kd.C_alloc ?_ _) | (with_reducible refine Kd.C_drewN ?_ _) | (with_reducible refine Kd.C_drew ?_))); (case side2 => exact HC0_4.out); rintro e w22 ⟨rfl, hb⟩; refine ⟨_, rfl, ?_⟩; have n0_ := Aside0.mk (blk_below (g := gb139) (o := .cells #[.int .u64 a0_0, .int .u64 a0_1, .int .i64 a0_2, .int .u8 a0_3, .slice A0_4 l0_4.length c0_4] 25 (0, 0)) (by (with_reducible repeat (first | refine blk_drewN ?_ _ | refine blk_drew ?_ | refine blk_alloc ?_ _)); exact BK139.out) hb); have n1_ := Aside0.mk (blk_below (g := gb140) (o := .cells #[.int .u64 0, .int .u64 0, .int .i64 0, .int .u8 0, .slice none 0 0] 25 (0, 0)) (by (with_reducible repeat (first | refine blk_drewN ?_ _ | refine blk_drew ?_ | refine blk_alloc ?_ _)); exact BK140.out) hb); have n2_ := Aside0.mk (below_step (by repeat (first | (with_reducible first | exact HB.out | apply below_alloc | apply pw_below_drewN | apply below_drew1 | refine below_set ?_ GE139.out | refine below_set ?_ GE140.out) | exact HB.out)) hb); clear BK139; clear BK140; clear HB; have BK139 := n0_; have BK140 := n1_; have HB := n2_; clear n0_ n1_ n2_; (try clear hb); (try clear hb2); (try clear hk); (try clear hi)))
      go_meet
      case rel => exact ⟨_, (true), (by first | rfl | (simp; done) | (simp [*]; done)), H', ⟨by have := HJ2.out; first | omega | exact Nat.le_refl _⟩, ⟨by (with_reducible repeat (first | refine blk_drewN ?_ _ | refine blk_drew ?_ | refine blk_alloc ?_ _)); exact BK139.out⟩, ⟨by (with_reducible repeat (first | refine blk_drewN ?_ _ | refine blk_drew ?_ | refine blk_alloc ?_ _)); exact BK140.out⟩, ⟨by repeat (first | (with_reducible first | exact HB.out | apply below_alloc | apply pw_below_drewN | apply below_drew1 | refine below_set ?_ GE139.out | refine below_set ?_ GE140.out) | exact HB.out)⟩⟩
     ·rw [if_neg c19] at H
      have c19b0 : decide (t142 < a1) = false := decide_eq_false c19
      clear c19
      (first | rw [c19b0] | (simp only [i64_w, i32_w]; rw [c19b0]) | skip)
      have H' := Aside0.mk H
      clear H
      have hnb23 := NB139_140.out
      have hnc23 := NB140_139.out
      have hcz24_0 : wc.cell? ⟨gb139, 0, none⟩ = some (.int .u64 a0_0) := (blk_cell BK139.out 0).trans rfl
      have hcz24_1 : wc.cell? ⟨gb139, 1, none⟩ = some (.int .u64 a0_1) := (blk_cell BK139.out 1).trans rfl
      have hcz24_2 : wc.cell? ⟨gb139, 2, none⟩ = some (.int .i64 a0_2) := (blk_cell BK139.out 2).trans rfl
      have hcz24_3 : wc.cell? ⟨gb139, 3, none⟩ = some (.int .u8 a0_3) := (blk_cell BK139.out 3).trans rfl
      have hcz24_4 : wc.cell? ⟨gb139, 4, none⟩ = some (.slice A0_4 l0_4.length c0_4) := (blk_cell BK139.out 4).trans rfl
      have hfz24_0 := blk_frozen BK139.out 0
      have hfz24_1 := blk_frozen BK139.out 1
      have hfz24_2 := blk_frozen BK139.out 2
      have hfz24_3 := blk_frozen BK139.out 3
      have hfz24_4 := blk_frozen BK139.out 4
      go_wp2_with (first | ((with_reducible refine gate_callee (f := 18) rfl ?_); refine goesL_ (some 18) rfl rfl Tryd.func18 (by kernel_rfl) rfl #[.agg #[.int .u64 a0_0, .int .u64 a0_1, .int .i64 a0_2, .int .u8 a0_3, .slice A0_4 l0_4.length c0_4]] rfl (by (try simp only [List.map_toArray, List.map_cons, List.map_nil]); first | done | rfl | (simp only [List.length_drop, List.length_take]; rfl)) ?_; (with_reducible refine (quittanceref28_Left.calls kj2 a0_0 a0_1 a0_2 a0_3 _ _ l0_4 t142 _ ?side1 ?side2 A18.out).mono ?_); (case side1 => repeat (first | exact (Kd.C_below HR0_4.out HB.out) | (with_reducible refine Kd.C_alloc ?_ _) | (with_reducible refine Kd.C_drewN ?_ _) | (with_reducible refine Kd.C_drew ?_))); (case side2 => exact HC0_4.out); rintro e w25 ⟨rfl, hb⟩; refine ⟨_, rfl, ?_⟩; have n0_ := Aside0.mk (blk_below (g := gb139) (o := .cells #[.int .u64 a0_0, .int .u64 a0_1, .int .i64 a0_2, .int .u8 a0_3, .slice A0_4 l0_4.length c0_4] 25 (0, 0)) (by (with_reducible repeat (first | refine blk_drewN ?_ _ | refine blk_drew ?_ | refine blk_alloc ?_ _)); exact BK139.out) hb); have n1_ := Aside0.mk (blk_below (g := gb140) (o := .cells #[.int .u64 0, .int .u64 0, .int .i64 0, .int .u8 0, .slice none 0 0] 25 (0, 0)) (by (with_reducible repeat (first | refine blk_drewN ?_ _ | refine blk_drew ?_ | refine blk_alloc ?_ _)); exact BK140.out) hb); have n2_ := Aside0.mk (below_step (by repeat (first | (with_reducible first | exact HB.out | apply below_alloc | apply pw_below_drewN | apply below_drew1 | refine below_set ?_ GE139.out | refine below_set ?_ GE140.out) | exact HB.out)) hb); clear BK139; clear BK140; clear HB; have BK139 := n0_; have BK140 := n1_; have HB := n2_; clear n0_ n1_ n2_; (try clear hb); (try clear hb2); (try clear hk); (try clear hi); have hcz26_0 : w25.cell? ⟨gb139, 0, none⟩ = some (.int .u64 a0_0) := (blk_cell BK139.out 0).trans rfl; have hcz26_1 : w25.cell? ⟨gb139, 1, none⟩ = some (.int .u64 a0_1) := (blk_cell BK139.out 1).trans rfl; have hcz26_2 : w25.cell? ⟨gb139, 2, none⟩ = some (.int .i64 a0_2) := (blk_cell BK139.out 2).trans rfl; have hcz26_3 : w25.cell? ⟨gb139, 3, none⟩ = some (.int .u8 a0_3) := (blk_cell BK139.out 3).trans rfl; have hcz26_4 : w25.cell? ⟨gb139, 4, none⟩ = some (.slice A0_4 l0_4.length c0_4) := (blk_cell BK139.out 4).trans rfl; have hfz26_0 := blk_frozen BK139.out 0; have hfz26_1 := blk_frozen BK139.out 1; have hfz26_2 := blk_frozen BK139.out 2; have hfz26_3 := blk_frozen BK139.out 3; have hfz26_4 := blk_frozen BK139.out 4))
      go_meet
      case rel => exact ⟨_, (decide (a0_2 ≥ 1000000)), (by first | rfl | (simp; done) | (simp [*]; done)), H', ⟨by have := HJ2.out; first | omega | exact Nat.le_refl _⟩, ⟨by (with_reducible repeat (first | refine blk_drewN ?_ _ | refine blk_drew ?_ | refine blk_alloc ?_ _)); exact BK139.out⟩, ⟨by (with_reducible repeat (first | refine blk_drewN ?_ _ | refine blk_drew ?_ | refine blk_alloc ?_ _)); exact BK140.out⟩, ⟨by repeat (first | (with_reducible first | exact HB.out | apply below_alloc | apply pw_below_drewN | apply below_drew1 | refine below_set ?_ GE139.out | refine below_set ?_ GE140.out) | exact HB.out)⟩⟩
    case rest =>
     clear HC17
     try clear c1
     try clear c2
     try clear p2
     try clear c7
     try clear c7b0
     try clear c7b1
     try clear c8
     try clear c11
     try clear c14
     try clear c15
     try clear c18
     try clear c19
     try clear c19b0
     try clear c20
     try clear c23
     try clear hcz12_0
     try clear hcz12_1
     try clear hcz12_2
     try clear hcz12_3
     try clear hcz12_4
     try clear hcz16_0
     try clear hcz16_1
     try clear hcz16_2
     try clear hcz16_3
     try clear hcz16_4
     try clear hcz21_0
     try clear hcz21_1
     try clear hcz21_2
     try clear hcz21_3
     try clear hcz21_4
     try clear hcz24_0
     try clear hcz24_1
     try clear hcz24_2
     try clear hcz24_3
     try clear hcz24_4
     try clear hcz26_0
     try clear hcz26_1
     try clear hcz26_2
     try clear hcz26_3
     try clear hcz26_4
     try clear hcz9_0
     try clear hcz9_1
     try clear hcz9_2
     try clear hcz9_3
     try clear hcz9_4
     try clear hfz12_0
     try clear hfz12_1
     try clear hfz12_2
     try clear hfz12_3
     try clear hfz12_4
     try clear hfz16_0
     try clear hfz16_1
     try clear hfz16_2
     try clear hfz16_3
     try clear hfz16_4
     try clear hfz21_0
     try clear hfz21_1
     try clear hfz21_2
     try clear hfz21_3
     try clear hfz21_4
     try clear hfz24_0
     try clear hfz24_1
     try clear hfz24_2
     try clear hfz24_3
     try clear hfz24_4
     try clear hfz26_0
     try clear hfz26_1
     try clear hfz26_2
     try clear hfz26_3
     try clear hfz26_4
     try clear hfz9_0
     try clear hfz9_1
     try clear hfz9_2
     try clear hfz9_3
     try clear hfz9_4
     try clear p2
     obtain ⟨kq, x24_16, rfl, HA, HJ16, BK139, BK140, HB⟩ := hcut
     cases kq with
     | zero => exact absurd HA.out (by simp [quittanceref28_Cut.j1])
     | succ kj16 =>
      have H := HA.out
      clear HA
      simp only [quittanceref28_Cut.j1] at H
      by_cases c27 : x24_16 = true
      ·subst c27
       have H1 : (some (0, 0, 0, 0, ([] : List (S61)), 9)) = some (r1, r2, r3, r4, r5, r6) := by rw [if_pos rfl] at H; exact H
       clear H
       have H := H1
       clear H1
       simp only [Option.some.injEq, Prod.mk.injEq] at H
       obtain ⟨rfl, rfl, rfl, rfl, rfl, rfl⟩ := H
       have hnb28 := NB140_139.out
       have hnc28 := NB139_140.out
       have hcz29_0 : wc.cell? ⟨gb140, 0, none⟩ = some (.int .u64 0) := (blk_cell BK140.out 0).trans rfl
       have hcz29_1 : wc.cell? ⟨gb140, 1, none⟩ = some (.int .u64 0) := (blk_cell BK140.out 1).trans rfl
       have hcz29_2 : wc.cell? ⟨gb140, 2, none⟩ = some (.int .i64 0) := (blk_cell BK140.out 2).trans rfl
       have hcz29_3 : wc.cell? ⟨gb140, 3, none⟩ = some (.int .u8 0) := (blk_cell BK140.out 3).trans rfl
       have hcz29_4 : wc.cell? ⟨gb140, 4, none⟩ = some (.slice none 0 0) := (blk_cell BK140.out 4).trans rfl
       have hfz29_0 := blk_frozen BK140.out 0
       have hfz29_1 := blk_frozen BK140.out 1
       have hfz29_2 := blk_frozen BK140.out 2
       have hfz29_3 := blk_frozen BK140.out 3
       have hfz29_4 := blk_frozen BK140.out 4
       go_wp2
       refine bodyPost_ret (results_ct rfl _ _ gb140 25 #[.int .u64 0, .int .u64 0, .int .i64 0, .int .u8 0, .slice none 0 0] (0, 0) _ rfl (by (with_reducible repeat (first | refine blk_drewN ?_ _ | refine blk_drew ?_ | refine blk_alloc ?_ _)); refine blk_put (cs := #[.int .u64 0, .int .u64 0, .int .i64 0, .int .u8 0, .slice none 0 0]) ?_ 4 _ rfl; (with_reducible repeat (first | refine blk_drewN ?_ _ | refine blk_drew ?_ | refine blk_alloc ?_ _)); refine blk_put (cs := #[.int .u64 0, .int .u64 0, .int .i64 0, .int .u8 0, .slice none 0 0]) ?_ 3 _ rfl; (with_reducible repeat (first | refine blk_drewN ?_ _ | refine blk_drew ?_ | refine blk_alloc ?_ _)); refine blk_put (cs := #[.int .u64 0, .int .u64 0, .int .i64 0, .int .u8 0, .slice none 0 0]) ?_ 2 _ rfl; (with_reducible repeat (first | refine blk_drewN ?_ _ | refine blk_drew ?_ | refine blk_alloc ?_ _)); refine blk_put (cs := #[.int .u64 0, .int .u64 0, .int .i64 0, .int .u8 0, .slice none 0 0]) ?_ 1 _ rfl; (with_reducible repeat (first | refine blk_drewN ?_ _ | refine blk_drew ?_ | refine blk_alloc ?_ _)); refine blk_put (cs := #[.int .u64 0, .int .u64 0, .int .i64 0, .int .u8 0, .slice none 0 0]) ?_ 0 _ rfl; (with_reducible repeat (first | refine blk_drewN ?_ _ | refine blk_drew ?_ | refine blk_alloc ?_ _)); exact BK140.out) Tryd.underlying25 rfl (by kernel_rfl)) rfl ?_
       exact ⟨_, by first | rfl | (simp [errW_none, errW_some] <;> rfl) | (simp [*, errW_none, errW_some] <;> rfl), by first | exact Kd.R_nil _ _ _ _ _ | exact Kd.N_nil _ _ _ _ _ | exact Kd.V_nil _ _ _ _ _ | exact Kd.Q_nil _ _ _ _ _ | exact Kd.S_nil _ _ _ _ _, by repeat (first | (with_reducible first | exact HB.out | apply below_alloc | apply pw_below_drewN | apply below_drew1 | refine below_set ?_ GE139.out | refine below_set ?_ GE140.out) | exact HB.out)⟩
      ·replace c27 := Bool.eq_false_iff.mpr c27
       subst c27
       have H1 : ((some (([] : List (S61)) : List (S61))).bind fun y143 => (if y143.length + l0_4.length < 5864062014805 then ((some (y143 ++ l0_4 : List (S61))).bind fun y146 => (quittanceref28_Cut.l0 kj16 a1 (wrap64 ((y146.length : Int) - 1)) a0_0 a0_1 (wrap64 (a0_2 + 1)) a0_3 y146)) else (none))) = some (r1, r2, r3, r4, r5, r6) := by rw [if_neg (show ¬ (false = true) by decide)] at H; exact H
       clear H
       have H := H1
       clear H1
       obtain ⟨y143, hy143⟩ : ∃ y_ : List (S61), y_ = (([] : List (S61))) := ⟨_, rfl⟩
       replace H : (if y143.length + l0_4.length < 5864062014805 then ((some (y143 ++ l0_4 : List (S61))).bind fun y146 => (quittanceref28_Cut.l0 kj16 a1 (wrap64 ((y146.length : Int) - 1)) a0_0 a0_1 (wrap64 (a0_2 + 1)) a0_3 y146)) else (none)) = some (r1, r2, r3, r4, r5, r6) := by first | (rw [hy143]; with_reducible exact H) | (have H2_ := (Option.bind_some _ _).symm.trans H; rw [hy143]; with_reducible exact H2_) | (have H2_ := (Option.bind_some _ _).symm.trans H; with_reducible exact H2_) | with_reducible exact H | (rw [hy143]; exact H) | exact H
       have Ny143 := Aside0.mk hy143
       clear hy143
       by_cases c30 : y143.length + l0_4.length < 5864062014805
       ·as_aux_lemma =>
        rw [if_pos c30] at H
        have LMc30 := Aside0.mk c30
        clear c30
        obtain ⟨y146, hy146⟩ : ∃ y_ : List (S61), y_ = (y143 ++ l0_4) := ⟨_, rfl⟩
        replace H : (quittanceref28_Cut.l0 kj16 a1 (wrap64 ((y146.length : Int) - 1)) a0_0 a0_1 (wrap64 (a0_2 + 1)) a0_3 y146) = some (r1, r2, r3, r4, r5, r6) := by first | (rw [hy146]; with_reducible exact H) | (have H2_ := (Option.bind_some _ _).symm.trans H; rw [hy146]; with_reducible exact H2_) | (have H2_ := (Option.bind_some _ _).symm.trans H; with_reducible exact H2_) | with_reducible exact H | (rw [hy146]; exact H) | exact H
        have Ny146 := Aside0.mk hy146
        clear hy146
        have H' := Aside0.mk H
        clear H
        go_wp2_with (first | ((with_reducible refine gate_dst (N := 26) rfl ?_); refine Kd.R_lit k61 _ 61 ?hg (N := 26) ?hd (xs := ([] : List (S61))) (inner := []) (ok := fun _ => True) (okp := fun _ => True) ?hr ?hp (fun _ hk => hk) trivial (Below.refl _ _) (Nat.le_refl _) (by simp) ?_; (case hd => rfl); (case hg => rfl); (case hr => first | (go_simp; done) | (go_simp; rfl)); (case hp => exact (Reps.none _ _)); intro v144 w31 ho32 hb hg_ hnew_; clear hg_ hnew_; (first | rw [← Ny143.out] at ho32 | (simp only [Int.reduceToNat] at ho32; rw [← Ny143.out] at ho32)); have n0_ := Aside0.mk (Kd.R_lower ho32 (below_size (by repeat (first | (with_reducible first | exact HB.out | apply below_alloc | apply pw_below_drewN | apply below_drew1 | refine below_set ?_ GE139.out | refine below_set ?_ GE140.out) | exact HB.out)))); have n1_ := Aside0.mk (blk_below (g := gb139) (o := .cells #[.int .u64 a0_0, .int .u64 a0_1, .int .i64 a0_2, .int .u8 a0_3, .slice A0_4 l0_4.length c0_4] 25 (0, 0)) (by (with_reducible repeat (first | refine blk_drewN ?_ _ | refine blk_drew ?_ | refine blk_alloc ?_ _)); exact BK139.out) hb); have n2_ := Aside0.mk (blk_below (g := gb140) (o := .cells #[.int .u64 0, .int .u64 0, .int .i64 0, .int .u8 0, .slice none 0 0] 25 (0, 0)) (by (with_reducible repeat (first | refine blk_drewN ?_ _ | refine blk_drew ?_ | refine blk_alloc ?_ _)); exact BK140.out) hb); have n3_ := Aside0.mk (below_step (by repeat (first | (with_reducible first | exact HB.out | apply below_alloc | apply pw_below_drewN | apply below_drew1 | refine below_set ?_ GE139.out | refine below_set ?_ GE140.out) | exact HB.out)) hb); clear BK139; clear BK140; clear HB; have HO145 := n0_; have BK139 := n1_; have BK140 := n2_; have HB := n3_; clear n0_ n1_ n2_ n3_; clear hb ho32; have hnb33 := NB139_140.out; have hnc33 := NB140_139.out; have hcz34_0 : w31.cell? ⟨gb139, 0, none⟩ = some (.int .u64 a0_0) := (blk_cell BK139.out 0).trans rfl; have hcz34_1 : w31.cell? ⟨gb139, 1, none⟩ = some (.int .u64 a0_1) := (blk_cell BK139.out 1).trans rfl; have hcz34_2 : w31.cell? ⟨gb139, 2, none⟩ = some (.int .i64 a0_2) := (blk_cell BK139.out 2).trans rfl; have hcz34_3 : w31.cell? ⟨gb139, 3, none⟩ = some (.int .u8 a0_3) := (blk_cell BK139.out 3).trans rfl; have hcz34_4 : w31.cell? ⟨gb139, 4, none⟩ = some (.slice A0_4 l0_4.length c0_4) := (blk_cell BK139.out 4).trans rfl; have hfz34_0 := blk_frozen BK139.out 0; have hfz34_1 := blk_frozen BK139.out 1; have hfz34_2 := blk_frozen BK139.out 2; have hfz34_3 := blk_frozen BK139.out 3; have hfz34_4 := blk_frozen BK139.out 4) | ((with_reducible refine gate_builtin (b := .append) (xs := #[.tmp 26, .tmp 28]) rfl ?_); at_builtin; refine Kd.R_append_rows k61 (w0 := w) w.heap.size rfl (.tmp 26) (.tmp 28) 23 61 (.agg #[(.int .i64 0), (.int .i64 0), (.bool false)]) 24 rfl Tryd.underlying23 info61 rfl (by decide) (by omega) v144 y143 l0_4 _ _ _ (fun _ => True) (fun _ => False) rfl rfl ?aO ?aR (fun _ _ h => h) (fun _ h => h.elim) ?aF ?aB ?aS ?aL ?_; (case aR => repeat (first | exact (Kd.C_below HR0_4.out HB.out) | (with_reducible refine Kd.C_alloc ?_ _) | (with_reducible refine Kd.C_drewN ?_ _) | (with_reducible refine Kd.C_drew ?_))); (case aB => exact (by repeat (first | (with_reducible first | exact HB.out | apply below_alloc | apply pw_below_drewN | apply below_drew1 | refine below_set ?_ GE139.out | refine below_set ?_ GE140.out) | exact HB.out))); (case aF => exact (fun _ _ => trivial)); (case aO => exact (by (with_reducible repeat (first | apply Kd.R_alloc | apply Kd.R_drewN | apply Kd.R_drew)); exact HO145.out)); (case aS => exact (below_size (by repeat (first | (with_reducible first | exact HB.out | apply below_alloc | apply pw_below_drewN | apply below_drew1 | refine below_set ?_ GE139.out | refine below_set ?_ GE140.out) | exact HB.out)))); (case aL => have := LMc30.out; omega); intro v147 w35 ho hb hg hat; rw [← Ny146.out] at ho; have n0_ := Aside0.mk (blk_grown (g := gb139) (o := .cells #[.int .u64 a0_0, .int .u64 a0_1, .int .i64 a0_2, .int .u8 a0_3, .slice A0_4 l0_4.length c0_4] 25 (0, 0)) (by (with_reducible repeat (first | refine blk_drewN ?_ _ | refine blk_drew ?_ | refine blk_alloc ?_ _)); exact BK139.out) hg (Kd.R_ne HO145.out BK139.out (by decide))); have n1_ := Aside0.mk (blk_grown (g := gb140) (o := .cells #[.int .u64 0, .int .u64 0, .int .i64 0, .int .u8 0, .slice none 0 0] 25 (0, 0)) (by (with_reducible repeat (first | refine blk_drewN ?_ _ | refine blk_drew ?_ | refine blk_alloc ?_ _)); exact BK140.out) hg (Kd.R_ne HO145.out BK140.out (by decide))); have n2_ := Aside0.mk (hb); have n3_ := Aside0.mk (ho); clear BK139; clear BK140; clear HB; clear HO145; have BK139 := n0_; have BK140 := n1_; have HB := n2_; have HO148 := n3_; clear n0_ n1_ n2_ n3_; clear ho hb hg hat; obtain ⟨Ao36, co36, eo36⟩ := Kd.R_slice HO148.out; subst eo36; have hcz37_0 : w35.cell? ⟨gb139, 0, none⟩ = some (.int .u64 a0_0) := (blk_cell BK139.out 0).trans rfl; have hcz37_1 : w35.cell? ⟨gb139, 1, none⟩ = some (.int .u64 a0_1) := (blk_cell BK139.out 1).trans rfl; have hcz37_2 : w35.cell? ⟨gb139, 2, none⟩ = some (.int .i64 a0_2) := (blk_cell BK139.out 2).trans rfl; have hcz37_3 : w35.cell? ⟨gb139, 3, none⟩ = some (.int .u8 a0_3) := (blk_cell BK139.out 3).trans rfl; have hcz37_4 : w35.cell? ⟨gb139, 4, none⟩ = some (.slice A0_4 l0_4.length c0_4) := (blk_cell BK139.out 4).trans rfl; have hfz37_0 := blk_frozen BK139.out 0; have hfz37_1 := blk_frozen BK139.out 1; have hfz37_2 := blk_frozen BK139.out 2; have hfz37_3 := blk_frozen BK139.out 3; have hfz37_4 := blk_frozen BK139.out 4))
        go_loopg [1, 6] kj16 (fun kq v1 v6 w' => ∃ (x1_3 : Int) (x6_3 : Int) (x140004_3 : List (S61)) (u140004 : Value), v1 = .int .i64 x1_3 ∧ v6 = .int .i64 x6_3 ∧ Aside0 (quittanceref28_Cut.l0 kq x1_3 x6_3 a0_0 a0_1 (wrap64 (a0_2 + 1)) a0_3 x140004_3 = some (r1, r2, r3, r4, r5, r6)) ∧ Aside0 (kq ≤ kj16) ∧ Aside0 (Kd.R k61 61 w' w.heap.size (fun _ => True) u140004 x140004_3) ∧ Aside0 (w'.heap[gb139]? = some (.cells #[.int .u64 a0_0, .int .u64 a0_1, .int .i64 (wrap64 (a0_2 + 1)), .int .u8 a0_3, u140004] 25 (0, 0))) ∧ Aside0 (w'.heap[gb140]? = some (.cells #[.int .u64 0, .int .u64 0, .int .i64 0, .int .u8 0, (.slice none 0 0)] 25 (0, 0))) ∧ Aside0 (Below w.heap.size w w'))
        case atStart => exact ⟨(a1), (wrap64 ((y146.length : Int) - 1)), (y146), (.slice Ao36 y146.length co36), (by first | rfl | (simp; done) | (simp [*]; done)), (by first | rfl | (simp; done) | (simp [*]; done)), H', ⟨Nat.le_refl _⟩, ⟨by (with_reducible repeat (first | apply Kd.R_alloc | apply Kd.R_drewN | apply Kd.R_drew)); exact Kd.R_mono (Kd.R_far (p := ⟨gb139, 2, none⟩) (Kd.R_far (p := ⟨gb139, 4, none⟩) (Kd.R_types HO148.out BK139.out (by decide)) (fun _ hk => hk.2) (.slice Ao36 y146.length co36)) (fun _ hk => hk.2) (.int .i64 (wrap64 (a0_2 + 1)))) (fun _ hk => trivial)⟩, ⟨by (with_reducible repeat (first | refine blk_drewN ?_ _ | refine blk_drew ?_ | refine blk_alloc ?_ _)); refine blk_put (cs := #[.int .u64 a0_0, .int .u64 a0_1, .int .i64 a0_2, .int .u8 a0_3, .slice Ao36 y146.length co36]) ?_ 2 _ rfl; (with_reducible repeat (first | refine blk_drewN ?_ _ | refine blk_drew ?_ | refine blk_alloc ?_ _)); refine blk_put (cs := #[.int .u64 a0_0, .int .u64 a0_1, .int .i64 a0_2, .int .u8 a0_3, .slice A0_4 l0_4.length c0_4]) ?_ 4 _ rfl; (with_reducible repeat (first | refine blk_drewN ?_ _ | refine blk_drew ?_ | refine blk_alloc ?_ _)); exact BK139.out⟩, ⟨by (with_reducible repeat (first | refine blk_drewN ?_ _ | refine blk_drew ?_ | refine blk_alloc ?_ _)); refine blk_far ?_ NB140_139.out _; (with_reducible repeat (first | refine blk_drewN ?_ _ | refine blk_drew ?_ | refine blk_alloc ?_ _)); refine blk_far ?_ NB140_139.out _; (with_reducible repeat (first | refine blk_drewN ?_ _ | refine blk_drew ?_ | refine blk_alloc ?_ _)); exact BK140.out⟩, ⟨by repeat (first | (with_reducible first | exact HB.out | apply below_alloc | apply pw_below_drewN | apply below_drew1 | refine below_set ?_ GE139.out | refine below_set ?_ GE140.out) | exact HB.out)⟩⟩
        case round =>
         clear H'
         try clear c1
         try clear c2
         try clear p2
         try clear c3
         try clear p6
         try clear c7
         try clear c7b0
         try clear c7b1
         try clear c8
         try clear c11
         try clear c14
         try clear c15
         try clear c18
         try clear c19
         try clear c19b0
         try clear c20
         try clear c23
         try clear c27
         try clear c28
         try clear c30
         try clear c33
         try clear hcz12_0
         try clear hcz12_1
         try clear hcz12_2
         try clear hcz12_3
         try clear hcz12_4
         try clear hcz16_0
         try clear hcz16_1
         try clear hcz16_2
         try clear hcz16_3
         try clear hcz16_4
         try clear hcz21_0
         try clear hcz21_1
         try clear hcz21_2
         try clear hcz21_3
         try clear hcz21_4
         try clear hcz24_0
         try clear hcz24_1
         try clear hcz24_2
         try clear hcz24_3
         try clear hcz24_4
         try clear hcz26_0
         try clear hcz26_1
         try clear hcz26_2
         try clear hcz26_3
         try clear hcz26_4
         try clear hcz29_0
         try clear hcz29_1
         try clear hcz29_2
         try clear hcz29_3
         try clear hcz29_4
         try clear hcz34_0
         try clear hcz34_1
         try clear hcz34_2
         try clear hcz34_3
         try clear hcz34_4
         try clear hcz37_0
         try clear hcz37_1
         try clear hcz37_2
         try clear hcz37_3
         try clear hcz37_4
         try clear hcz9_0
         try clear hcz9_1
         try clear hcz9_2
         try clear hcz9_3
         try clear hcz9_4
         try clear hfz12_0
         try clear hfz12_1
         try clear hfz12_2
         try clear hfz12_3
         try clear hfz12_4
         try clear hfz16_0
         try clear hfz16_1
         try clear hfz16_2
         try clear hfz16_3
         try clear hfz16_4
         try clear hfz21_0
         try clear hfz21_1
         try clear hfz21_2
         try clear hfz21_3
         try clear hfz21_4
         try clear hfz24_0
         try clear hfz24_1
         try clear hfz24_2
         try clear hfz24_3
         try clear hfz24_4
         try clear hfz26_0
         try clear hfz26_1
         try clear hfz26_2
         try clear hfz26_3
         try clear hfz26_4
         try clear hfz29_0
         try clear hfz29_1
         try clear hfz29_2
         try clear hfz29_3
         try clear hfz29_4
         try clear hfz34_0
         try clear hfz34_1
         try clear hfz34_2
         try clear hfz34_3
         try clear hfz34_4
         try clear hfz37_0
         try clear hfz37_1
         try clear hfz37_2
         try clear hfz37_3
         try clear hfz37_4
         try clear hfz9_0
         try clear hfz9_1
         try clear hfz9_2
         try clear hfz9_3
         try clear hfz9_4
         try clear p2
         obtain ⟨x1_3, x6_3, x140004_3, u140004, rfl, rfl, HA, HK3, HO_140004, BK139, BK140, HB⟩ := hrel
         cases gk with
         | zero => exact absurd HA.out (by simp [quittanceref28_Cut.l0])
         | succ k3 =>
          have H := HA.out
          clear HA
          simp only [quittanceref28_Cut.l0] at H
          by_cases c38 : x1_3 > 0
          ·as_aux_lemma =>
           rw [if_pos c38] at H
           have c38b0 : decide (0 < x1_3) = true := decide_eq_true c38
           clear c38
           by_cases c39 : 0 ≤ x6_3
           ·as_aux_lemma =>
            rw [if_pos c39] at H
            have c39b0 : decide (0 ≤ x6_3) = true := decide_eq_true c39
            clear c39
            by_cases c40 : x6_3 < (x140004_3.length : Int)
            ·as_aux_lemma =>
             rw [if_pos c40] at H
             have c40b0 : decide (x6_3 < (x140004_3.length : Int)) = true := decide_eq_true c40
             clear c40
             obtain ⟨bq41, hbq41⟩ : ∃ b_ : Bool, b_ = ((rd_T61 x140004_3 x6_3).f2) := ⟨_, rfl⟩
             replace H : (if bq41 = true then (quittanceref28_Cut.l0 k3 x1_3 (wrap64 (x6_3 - 1)) a0_0 a0_1 (wrap64 (a0_2 + 1)) a0_3 x140004_3) else (quittanceref28_Cut.l0 k3 (wrap64 (x1_3 - (mn x1_3 ((rd_T61 x140004_3 x6_3).f1)))) (wrap64 (x6_3 - 1)) a0_0 a0_1 (wrap64 (a0_2 + 1)) a0_3 (x140004_3.set (x6_3 : Int).toNat (⟨(rd_T61 x140004_3 x6_3).f0, wrap64 (((rd_T61 x140004_3 x6_3).f1) - (mn x1_3 ((rd_T61 x140004_3 x6_3).f1))), bq41⟩ : S61)))) = some (r1, r2, r3, r4, r5, r6) := by rw [← hbq41] at H; exact H
             have Nbq41 := Aside0.mk hbq41
             clear hbq41
             by_cases c42 : bq41 = true
             ·subst c42
              have H1 : (quittanceref28_Cut.l0 k3 x1_3 (wrap64 (x6_3 - 1)) a0_0 a0_1 (wrap64 (a0_2 + 1)) a0_3 x140004_3) = some (r1, r2, r3, r4, r5, r6) := by rw [if_pos rfl] at H; exact H
              clear H
              have H := H1
              clear H1
              have H' := Aside0.mk H
              clear H
              have hnb43 := NB139_140.out
              have hnc43 := NB140_139.out
              have hcz44_0 : wr.cell? ⟨gb139, 0, none⟩ = some (.int .u64 a0_0) := (blk_cell BK139.out 0).trans rfl
              have hcz44_1 : wr.cell? ⟨gb139, 1, none⟩ = some (.int .u64 a0_1) := (blk_cell BK139.out 1).trans rfl
              have hcz44_2 : wr.cell? ⟨gb139, 2, none⟩ = some (.int .i64 (wrap64 (a0_2 + 1))) := (blk_cell BK139.out 2).trans rfl
              have hcz44_3 : wr.cell? ⟨gb139, 3, none⟩ = some (.int .u8 a0_3) := (blk_cell BK139.out 3).trans rfl
              have hcz44_4 : wr.cell? ⟨gb139, 4, none⟩ = some (u140004) := (blk_cell BK139.out 4).trans rfl
              have hfz44_0 := blk_frozen BK139.out 0
              have hfz44_1 := blk_frozen BK139.out 1
              have hfz44_2 := blk_frozen BK139.out 2
              have hfz44_3 := blk_frozen BK139.out 3
              have hfz44_4 := blk_frozen BK139.out 4
              obtain ⟨Ao45, co45, eo45⟩ := Kd.R_slice HO_140004.out
              subst eo45
              have p149 : 0 ≤ (x6_3 : Int) := of_decide_eq_true (by first | (with_reducible assumption) | assumption)
              have q149 : x6_3 < (x140004_3.length : Int) := of_decide_eq_true (by first | (with_reducible assumption) | assumption)
              obtain ⟨ad149, e149, hx149_0, hx149_1, hx149_2⟩ := at_T61 (Kd.R_reads' HO_140004.out).2.2 x6_3 p149 q149
              (try rw [← Nbq41.out] at hx149_2)
              cases e149
              replace p149 := eq_true p149
              replace q149 := eq_true q149
              go_wp2
              go_roundg k3
              case measure => have := HJ2.out; have := HJ16.out; have := HK3.out; omega
              case rel => exact ⟨(x1_3), (wrap64 (x6_3 - 1)), (x140004_3), (.slice (some ad149) x140004_3.length co45), (by first | rfl | (simp; done) | (simp [*]; done)), (by first | rfl | (simp; done) | (simp [*]; done)), H', ⟨by have := HJ2.out; have := HJ16.out; have := HK3.out; omega⟩, ⟨by (with_reducible repeat (first | apply Kd.R_alloc | apply Kd.R_drewN | apply Kd.R_drew)); exact HO_140004.out⟩, ⟨by (with_reducible repeat (first | refine blk_drewN ?_ _ | refine blk_drew ?_ | refine blk_alloc ?_ _)); exact BK139.out⟩, ⟨by (with_reducible repeat (first | refine blk_drewN ?_ _ | refine blk_drew ?_ | refine blk_alloc ?_ _)); exact BK140.out⟩, ⟨by repeat (first | (with_reducible first | exact HB.out | apply below_alloc | apply pw_below_drewN | apply below_drew1 | refine below_set ?_ GE139.out | refine below_set ?_ GE140.out) | exact HB.out)⟩⟩
             ·replace c42 := Bool.eq_false_iff.mpr c42
              subst c42
              have H1 : (quittanceref28_Cut.l0 k3 (wrap64 (x1_3 - (mn x1_3 ((rd_T61 x140004_3 x6_3).f1)))) (wrap64 (x6_3 - 1)) a0_0 a0_1 (wrap64 (a0_2 + 1)) a0_3 (x140004_3.set (x6_3 : Int).toNat (⟨(rd_T61 x140004_3 x6_3).f0, wrap64 (((rd_T61 x140004_3 x6_3).f1) - (mn x1_3 ((rd_T61 x140004_3 x6_3).f1))), false⟩ : S61))) = some (r1, r2, r3, r4, r5, r6) := by rw [if_neg (show ¬ (false = true) by decide)] at H; exact H
              clear H
              have H := H1
              clear H1
              obtain ⟨ji46, hji46⟩ : ∃ j_ : Int, (mn x1_3 ((rd_T61 x140004_3 x6_3).f1)) = j_ := ⟨_, rfl⟩
              replace H : (quittanceref28_Cut.l0 k3 (wrap64 (x1_3 - (ji46))) (wrap64 (x6_3 - 1)) a0_0 a0_1 (wrap64 (a0_2 + 1)) a0_3 (x140004_3.set (x6_3 : Int).toNat (⟨(rd_T61 x140004_3 x6_3).f0, wrap64 (((rd_T61 x140004_3 x6_3).f1) - (ji46)), false⟩ : S61))) = some (r1, r2, r3, r4, r5, r6) := by first | (rw [hji46] at H; exact H) | (simp only [hji46] at H ⊢; exact H)
              have hji46_ : (if ((rd_T61 x140004_3 x6_3).f1) < x1_3 then ((rd_T61 x140004_3 x6_3).f1) else x1_3) = ji46 := hji46
              obtain ⟨y152, hy152⟩ : ∃ y_ : List (S61), y_ = (x140004_3.set (x6_3 : Int).toNat (⟨(rd_T61 x140004_3 x6_3).f0, wrap64 (((rd_T61 x140004_3 x6_3).f1) - (ji46)), false⟩ : S61)) := ⟨_, rfl⟩
              replace H : (quittanceref28_Cut.l0 k3 (wrap64 (x1_3 - (ji46))) (wrap64 (x6_3 - 1)) a0_0 a0_1 (wrap64 (a0_2 + 1)) a0_3 y152) = some (r1, r2, r3, r4, r5, r6) := by first | (rw [hy152]; with_reducible exact H) | (have H2_ := (Option.bind_some _ _).symm.trans H; rw [hy152]; with_reducible exact H2_) | (have H2_ := (Option.bind_some _ _).symm.trans H; with_reducible exact H2_) | with_reducible exact H | (rw [hy152]; exact H) | exact H
              have Ny152 := Aside0.mk hy152
              clear hy152
              have H' := Aside0.mk H
              clear H
              have hnb48 := NB139_140.out
              have hnc48 := NB140_139.out
              have hcz49_0 : wr.cell? ⟨gb139, 0, none⟩ = some (.int .u64 a0_0) := (blk_cell BK139.out 0).trans rfl
              have hcz49_1 : wr.cell? ⟨gb139, 1, none⟩ = some (.int .u64 a0_1) := (blk_cell BK139.out 1).trans rfl
              have hcz49_2 : wr.cell? ⟨gb139, 2, none⟩ = some (.int .i64 (wrap64 (a0_2 + 1))) := (blk_cell BK139.out 2).trans rfl
              have hcz49_3 : wr.cell? ⟨gb139, 3, none⟩ = some (.int .u8 a0_3) := (blk_cell BK139.out 3).trans rfl
              have hcz49_4 : wr.cell? ⟨gb139, 4, none⟩ = some (u140004) := (blk_cell BK139.out 4).trans rfl
              have hfz49_0 := blk_frozen BK139.out 0
              have hfz49_1 := blk_frozen BK139.out 1
              have hfz49_2 := blk_frozen BK139.out 2
              have hfz49_3 := blk_frozen BK139.out 3
              have hfz49_4 := blk_frozen BK139.out 4
              obtain ⟨Ao50, co50, eo50⟩ := Kd.R_slice HO_140004.out
              subst eo50
              have p149 : 0 ≤ (x6_3 : Int) := of_decide_eq_true (by first | (with_reducible assumption) | assumption)
              have q149 : x6_3 < (x140004_3.length : Int) := of_decide_eq_true (by first | (with_reducible assumption) | assumption)
              obtain ⟨ad149, e149, hx149_0, hx149_1, hx149_2⟩ := at_T61 (Kd.R_reads' HO_140004.out).2.2 x6_3 p149 q149
              (try rw [← Nbq41.out] at hx149_2)
              cases e149
              replace p149 := eq_true p149
              replace q149 := eq_true q149
              have p150 : 0 ≤ (x6_3 : Int) := of_decide_eq_true (by first | (with_reducible assumption) | assumption)
              have q150 : x6_3 < (x140004_3.length : Int) := of_decide_eq_true (by first | (with_reducible assumption) | assumption)
              obtain ⟨ad150, e150, hx150_0, hx150_1, hx150_2⟩ := at_T61 (Kd.R_reads' HO_140004.out).2.2 x6_3 p150 q150
              (try rw [← Nbq41.out] at hx150_2)
              obtain rfl : ad149 = ad150 := (by injection e150)
              replace p150 := eq_true p150
              replace q150 := eq_true q150
              try go_wp2
              have n0_ := Aside0.mk (Kd.R_drew HO_140004.out)
              have n1_ := Aside0.mk (blk_drew BK139.out)
              have n2_ := Aside0.mk (blk_drew BK140.out)
              have n3_ := Aside0.mk (below_drew1 HB.out)
              clear HO_140004
              clear BK139
              clear BK140
              clear HB
              have HO_140004 := n0_
              have BK139 := n1_
              have BK140 := n2_
              have HB := n3_
              clear n0_ n1_ n2_ n3_
              have p151 : 0 ≤ (x6_3 : Int) := of_decide_eq_true (by first | (with_reducible assumption) | assumption)
              have q151 : x6_3 < (x140004_3.length : Int) := of_decide_eq_true (by first | (with_reducible assumption) | assumption)
              obtain ⟨ad151, e151, hx151_0, hx151_1, hx151_2⟩ := at_T61 (Kd.R_reads' HO_140004.out).2.2 x6_3 p151 q151
              (try rw [← Nbq41.out] at hx151_2)
              obtain rfl : ad149 = ad151 := (by injection e151)
              replace p151 := eq_true p151
              replace q151 := eq_true q151
              have p47 : 0 ≤ (x6_3 : Int) := of_decide_eq_true (by first | (with_reducible assumption) | assumption)
              have q47 : (x6_3 : Int) < ((x140004_3.length : Int) : Int) := of_decide_eq_true (by first | (with_reducible assumption) | assumption)
              obtain ⟨go47, co47, eo47, gb47, gl47, cl47, HG47⟩ := Kd.R_form HO_140004.out (by omega)
              (first | cases eo47 | (injection eo47 with ea_ en_ ec_; (first | subst ea_ | (injection ea_ with ea_; subst ea_)); subst ec_; clear en_))
              have GB47 := Aside0.mk gb47
              have GG47 := Aside0.mk HG47
              clear gb47 gl47 HG47
              (first | simp only [add_plain] at hx149_0 | skip)
              (first | simp only [add_plain] at hx149_1 | skip)
              (first | simp only [add_plain] at hx149_2 | skip)
              (first | simp only [add_plain] at hx150_0 | skip)
              (first | simp only [add_plain] at hx150_1 | skip)
              (first | simp only [add_plain] at hx150_2 | skip)
              (first | simp only [add_plain] at hx151_0 | skip)
              (first | simp only [add_plain] at hx151_1 | skip)
              (first | simp only [add_plain] at hx151_2 | skip)
              obtain ⟨ce47, hcl47, hM47, hcc47, hfr47⟩ := Kd.R_elem HO_140004.out z61 (x6_3 : Int) p47 q47
              obtain rfl := k61_openM hM47
              have hx47_0 : World.cell? _ ⟨go47, (x6_3 : Int).toNat * 3, none⟩ = some (.int .i64 ((rd_T61 x140004_3 x6_3).f0)) := hcc47 0 _ rfl
              have hx47_1 : World.cell? _ ⟨go47, (x6_3 : Int).toNat * 3 + 1, none⟩ = some (.int .i64 ((rd_T61 x140004_3 x6_3).f1)) := hcc47 1 _ rfl
              have hx47_2 : World.cell? _ ⟨go47, (x6_3 : Int).toNat * 3 + 2, none⟩ = some (.bool ((rd_T61 x140004_3 x6_3).f2)) := hcc47 2 _ rfl
              have hf47_0 : World.frozen? _ ⟨go47, (x6_3 : Int).toNat * 3, none⟩ = false := hfr47 0
              have hf47_1 : World.frozen? _ ⟨go47, (x6_3 : Int).toNat * 3 + 1, none⟩ = false := hfr47 1
              have hf47_2 : World.frozen? _ ⟨go47, (x6_3 : Int).toNat * 3 + 2, none⟩ = false := hfr47 2
              clear hcl47 hcc47 hfr47 hM47
              replace p47 := eq_true p47
              replace q47 := eq_true q47
              obtain ⟨ce52, hcl52, hM52, hcc52, hfr52⟩ := Kd.R_elem HO_140004.out z61 (x6_3 : Int) (of_decide_eq_true (by first | (with_reducible assumption) | assumption)) (by have h_ : (x6_3 : Int) < ((x140004_3.length : Int) : Int) := of_decide_eq_true (by first | (with_reducible assumption) | assumption); first | exact h_ | (have e_ := (Kd.R_reads' HO_140004.out).1; omega) | simpa using h_)
              obtain rfl := k61_openM hM52
              have HP52 := (Kd.R_seg HO_140004.out (x6_3 : Int) (of_decide_eq_true (by first | (with_reducible assumption) | assumption)) (by have h_ : (x6_3 : Int) < ((x140004_3.length : Int) : Int) := of_decide_eq_true (by first | (with_reducible assumption) | assumption); first | exact h_ | (have e_ := (Kd.R_reads' HO_140004.out).1; omega) | simpa using h_) (seg := [.int .i64 (wrap64 (((rd_T61 x140004_3 x6_3).f1) - (ji46)))]) (j := 1) hcl52 hcc52 (show 2 ≤ 3 from by decide) (x' := (⟨(rd_T61 x140004_3 x6_3).f0, wrap64 (((rd_T61 x140004_3 x6_3).f1) - (ji46)), false⟩ : S61)) (by first | exact (k61_mkM _ _ _ (⟨(rd_T61 x140004_3 x6_3).f0, wrap64 (((rd_T61 x140004_3 x6_3).f1) - (ji46)), false⟩ : S61)) | (rw [Nbq41.out]; exact k61_mkM _ _ _ (⟨(rd_T61 x140004_3 x6_3).f0, wrap64 (((rd_T61 x140004_3 x6_3).f1) - (ji46)), _⟩ : S61))) (fun _ hk => hk)).1
              rw [← Ny152.out] at HP52
              have HQ52 := Aside0.mk HP52
              clear hcl52 hcc52 hfr52 hM52 HP52
              refine start_ (n := 14) (S := fun w' => w'.cell? ⟨gb139, 0, none⟩ = some (.int .u64 a0_0) ∧ w'.cell? ⟨gb139, 1, none⟩ = some (.int .u64 a0_1) ∧ w'.cell? ⟨gb139, 2, none⟩ = some (.int .i64 (wrap64 (a0_2 + 1))) ∧ w'.cell? ⟨gb139, 3, none⟩ = some (.int .u8 a0_3) ∧ w'.cell? ⟨gb139, 4, none⟩ = some (.slice (some ⟨go47, 0, none⟩) x140004_3.length co50) ∧ w'.cell? ⟨go47, ((x6_3).toNat * 3), none⟩ = some (.int .i64 ((rd_T61 x140004_3 x6_3).f0)) ∧ w'.cell? ⟨go47, ((x6_3).toNat * 3) + 1, none⟩ = some (.int .i64 ((rd_T61 x140004_3 x6_3).f1)) ∧ w'.cell? ⟨go47, ((x6_3).toNat * 3) + 2, none⟩ = some (.bool (false))) (ds := [13]) qe0 (by kernel_rfl) rfl rfl ⟨(blk_cell BK139.out 0).trans rfl, (blk_cell BK139.out 1).trans rfl, (blk_cell BK139.out 2).trans rfl, (blk_cell BK139.out 3).trans rfl, (blk_cell BK139.out 4).trans rfl, hx151_0, hx151_1, hx151_2⟩ (fun hHeld => ?_); refine with_tabW quittanceref28_Cut.tab12 quittanceref28_Cut.bits12 (fun HT_ HW_ => ?_)
              generalize wr.drew = w51 at HO_140004 BK139 BK140 HB GG47 HQ52 hf47_0 hf47_1 hf47_2 hx149_0 hx149_1 hx149_2 hx150_0 hx150_1 hx150_2 hx151_0 hx151_1 hx151_2 hx47_0 hx47_1 hx47_2 hHeld ⊢
              refine pure_ (i := 0) (N := some 57) (v := ?_) (a' := ?_) qe1 rfl rfl (any_of HT_.out (by kernel_rfl)) (fun _ _ _ h => h) (Or.inl ⟨by rfl, ?_⟩) ?_ ?_; rotate_left
              ·intro w'; go_simp; with_reducible rfl
              rotate_left
              ·simp only [Act.put, qex, qey, qez, i64_w, i32_w]; rfl
              refine pure_ (i := 2) (N := some 59) (v := ?_) (a' := ?_) qe2 rfl rfl (any_of HT_.out (by kernel_rfl)) (fun _ _ _ h => h) (Or.inl ⟨by rfl, ?_⟩) ?_ ?_; rotate_left
              ·intro w'; go_simp; with_reducible rfl
              rotate_left
              ·simp only [Act.put, qex, qey, qez, i64_w, i32_w]; rfl
              refine pure_ (i := 3) (N := some 60) (v := ?_) (a' := ?_) qe3 rfl rfl (any_of HT_.out (by kernel_rfl)) (fun _ _ _ h => h) (Or.inl ⟨by rfl, ?_⟩) ?_ ?_; rotate_left
              ·intro w'; go_simp; with_reducible rfl
              rotate_left
              ·simp only [Act.put, qex, qey, qez, i64_w, i32_w]; rfl
              refine pure_ (i := 5) (N := some 62) (v := ?_) (a' := ?_) qe4 rfl rfl (any_of HT_.out (by kernel_rfl)) (fun _ _ _ h => h) (Or.inl ⟨by rfl, ?_⟩) ?_ ?_; rotate_left
              ·intro w'; go_simp; with_reducible rfl
              rotate_left
              ·simp only [Act.put, qex, qey, qez, i64_w, i32_w]; rfl
              refine pure_ (i := 9) (N := some 66) (v := ?_) (a' := ?_) qe5 rfl rfl (any_of HT_.out (by kernel_rfl)) (fun _ _ _ h => h) (Or.inl ⟨by rfl, ?_⟩) ?_ ?_; rotate_left
              ·intro w'; go_simp; with_reducible rfl
              rotate_left
              ·simp only [Act.put, qex, qey, qez, i64_w, i32_w]; rfl
              refine take_ (i := 1) (N := some 58) (v := ?_) (a' := ?_) qe6 rfl rfl (take_ofW HT_.out HW_.out (by kernel_rfl)) (fun _ _ _ h => h) (Or.inl ⟨by rfl, ?_⟩) hHeld ?_ ?_; rotate_left
              ·rintro w' ⟨s0, s1, s2, s3, s4, s5, s6, s7⟩; go_simp; with_reducible rfl
              rotate_left
              ·simp only [Act.put, qex, qey, qez, i64_w, i32_w]; rfl
              refine take_ (i := 4) (N := some 61) (v := ?_) (a' := ?_) qe7 rfl rfl (take_ofW HT_.out HW_.out (by kernel_rfl)) (fun _ _ _ h => h) (Or.inl ⟨by rfl, ?_⟩) hHeld ?_ ?_; rotate_left
              ·rintro w' ⟨s0, s1, s2, s3, s4, s5, s6, s7⟩; go_simp; with_reducible rfl
              rotate_left
              ·simp only [Act.put, qex, qey, qez, i64_w, i32_w]; rfl
              refine pure_ (i := 6) (N := some 63) (v := ?_) (a' := ?_) qe8 rfl rfl (any_of HT_.out (by kernel_rfl)) (fun _ _ _ h => h) (Or.inl ⟨by rfl, ?_⟩) ?_ ?_; rotate_left
              ·intro w'; go_simp; with_reducible rfl
              rotate_left
              ·simp only [Act.put, qex, qey, qez, i64_w, i32_w]; rfl
              refine pure_ (i := 7) (N := some 64) (v := ?_) (a' := ?_) qe9 rfl rfl (any_of HT_.out (by kernel_rfl)) (fun _ _ _ h => h) (Or.inl ⟨by rfl, ?_⟩) ?_ ?_; rotate_left
              ·intro w'; go_simp; with_reducible rfl
              rotate_left
              ·simp only [Act.put, qex, qey, qez, i64_w, i32_w]; rfl
              refine take_ (i := 8) (N := some 65) (v := ?_) (a' := ?_) qe10 rfl rfl (take_ofW HT_.out HW_.out (by kernel_rfl)) (fun _ _ _ h => h) (Or.inl ⟨by rfl, ?_⟩) hHeld ?_ ?_; rotate_left
              ·rintro w' ⟨s0, s1, s2, s3, s4, s5, s6, s7⟩; go_simp; with_reducible rfl
              rotate_left
              ·simp only [Act.put, qex, qey, qez, i64_w, i32_w]; rfl
              refine pure_ (i := 10) (N := some 67) (v := ?_) (a' := ?_) qe11 rfl rfl (any_of HT_.out (by kernel_rfl)) (fun _ _ _ h => h) (Or.inl ⟨by rfl, ?_⟩) ?_ ?_; rotate_left
              ·intro w'; go_simp; with_reducible rfl
              rotate_left
              ·simp only [Act.put, qex, qey, qez, i64_w, i32_w]; rfl
              refine pure_ (i := 11) (N := some 68) (v := ?_) (a' := ?_) qe12 rfl rfl (any_of HT_.out (by kernel_rfl)) (fun _ _ _ h => h) (Or.inl ⟨by rfl, ?_⟩) ?_ ?_; rotate_left
              ·intro w'; go_simp; with_reducible rfl
              rotate_left
              ·simp only [Act.put, qex, qey, qez, i64_w, i32_w]; rfl
              refine pure_ (i := 12) (N := some 69) (v := ?_) (a' := ?_) qe13 rfl rfl (any_of HT_.out (by kernel_rfl)) (fun _ _ _ h => h) (Or.inl ⟨by rfl, ?_⟩) ?_ ?_; rotate_left
              ·intro w'; go_simp; with_reducible rfl
              rotate_left
              ·simp only [Act.put, qex, qey, qez, i64_w, i32_w]; rfl
              refine last_ (i := 13) (N := none) qe14 rfl rfl (one_of HT_.out (by kernel_rfl)) (by decide) (fun K hK => ?_)
              refine skip_ (w1 := ?_) (by rfl) rfl ?_ ?_
              rotate_left
              ·go_simp; rfl
              refine hK.out _ _ ?_
              clear hK K
              refine done_ (done_of HT_.out (by kernel_rfl)) ?_
              try go_wp2
              go_roundg k3
              case measure => have := HJ2.out; have := HJ16.out; have := HK3.out; omega
              case rel => exact ⟨(wrap64 (x1_3 - (ji46))), (wrap64 (x6_3 - 1)), (y152), (.slice (some ⟨go47, 0, none⟩) x140004_3.length co50), (by first | rfl | (simp; done) | (simp only [← hji46] <;> (first | rfl | simp)) | (simp [*]; done)), (by first | rfl | (simp; done) | (simp [*]; done)), H', ⟨by have := HJ2.out; have := HJ16.out; have := HK3.out; omega⟩, ⟨by (with_reducible repeat (first | apply Kd.R_alloc | apply Kd.R_drewN | apply Kd.R_drew)); exact HQ52.out⟩, ⟨by (with_reducible repeat (first | refine blk_drewN ?_ _ | refine blk_drew ?_ | refine blk_alloc ?_ _)); refine blk_far ?_ (by have h_ := Kd.R_ne HO_140004.out BK139.out (by decide); intro e_; exact h_ (by rw [e_]; rfl)) _; (with_reducible repeat (first | refine blk_drewN ?_ _ | refine blk_drew ?_ | refine blk_alloc ?_ _)); exact BK139.out⟩, ⟨by (with_reducible repeat (first | refine blk_drewN ?_ _ | refine blk_drew ?_ | refine blk_alloc ?_ _)); refine blk_far ?_ (by have h_ := Kd.R_ne HO_140004.out BK140.out (by decide); intro e_; exact h_ (by rw [e_]; rfl)) _; (with_reducible repeat (first | refine blk_drewN ?_ _ | refine blk_drew ?_ | refine blk_alloc ?_ _)); exact BK140.out⟩, ⟨by repeat (first | (with_reducible first | exact HB.out | apply below_alloc | apply pw_below_drewN | apply below_drew1 | refine below_set ?_ GB47.out | refine below_set ?_ GE139.out | refine below_set ?_ GE140.out) | exact HB.out)⟩⟩
            ·rw [if_neg c40] at H
             exact absurd H (by simp)
           ·rw [if_neg c39] at H
            exact absurd H (by simp)
          ·as_aux_lemma =>
           rw [if_neg c38] at H
           have c38b0 : decide (0 < x1_3) = false := decide_eq_false c38
           clear c38
           simp only [Option.some.injEq, Prod.mk.injEq] at H
           obtain ⟨rfl, rfl, rfl, rfl, rfl, rfl⟩ := H
           have hnb53 := NB139_140.out
           have hnc53 := NB140_139.out
           have hcz54_0 : wr.cell? ⟨gb139, 0, none⟩ = some (.int .u64 a0_0) := (blk_cell BK139.out 0).trans rfl
           have hcz54_1 : wr.cell? ⟨gb139, 1, none⟩ = some (.int .u64 a0_1) := (blk_cell BK139.out 1).trans rfl
           have hcz54_2 : wr.cell? ⟨gb139, 2, none⟩ = some (.int .i64 (wrap64 (a0_2 + 1))) := (blk_cell BK139.out 2).trans rfl
           have hcz54_3 : wr.cell? ⟨gb139, 3, none⟩ = some (.int .u8 a0_3) := (blk_cell BK139.out 3).trans rfl
           have hcz54_4 : wr.cell? ⟨gb139, 4, none⟩ = some (u140004) := (blk_cell BK139.out 4).trans rfl
           have hfz54_0 := blk_frozen BK139.out 0
           have hfz54_1 := blk_frozen BK139.out 1
           have hfz54_2 := blk_frozen BK139.out 2
           have hfz54_3 := blk_frozen BK139.out 3
           have hfz54_4 := blk_frozen BK139.out 4
           have hcz55_0 : wr.cell? ⟨gb140, 0, none⟩ = some (.int .u64 0) := (blk_cell BK140.out 0).trans rfl
           have hcz55_1 : wr.cell? ⟨gb140, 1, none⟩ = some (.int .u64 0) := (blk_cell BK140.out 1).trans rfl
           have hcz55_2 : wr.cell? ⟨gb140, 2, none⟩ = some (.int .i64 0) := (blk_cell BK140.out 2).trans rfl
           have hcz55_3 : wr.cell? ⟨gb140, 3, none⟩ = some (.int .u8 0) := (blk_cell BK140.out 3).trans rfl
           have hcz55_4 : wr.cell? ⟨gb140, 4, none⟩ = some (.slice none 0 0) := (blk_cell BK140.out 4).trans rfl
           have hfz55_0 := blk_frozen BK140.out 0
           have hfz55_1 := blk_frozen BK140.out 1
           have hfz55_2 := blk_frozen BK140.out 2
           have hfz55_3 := blk_frozen BK140.out 3
           have hfz55_4 := blk_frozen BK140.out 4
           obtain ⟨Ao56, co56, eo56⟩ := Kd.R_slice HO_140004.out
           subst eo56
           go_wp2
           refine bodyPost_ret (results_ct rfl _ _ gb140 25 #[.int .u64 a0_0, .int .u64 a0_1, .int .i64 (wrap64 (a0_2 + 1)), .int .u8 a0_3, .slice Ao56 x140004_3.length co56] (0, 0) _ rfl (by (with_reducible repeat (first | refine blk_drewN ?_ _ | refine blk_drew ?_ | refine blk_alloc ?_ _)); refine blk_put (cs := #[.int .u64 a0_0, .int .u64 a0_1, .int .i64 (wrap64 (a0_2 + 1)), .int .u8 a0_3, .slice none 0 0]) ?_ 4 _ rfl; (with_reducible repeat (first | refine blk_drewN ?_ _ | refine blk_drew ?_ | refine blk_alloc ?_ _)); refine blk_put (cs := #[.int .u64 a0_0, .int .u64 a0_1, .int .i64 (wrap64 (a0_2 + 1)), .int .u8 0, .slice none 0 0]) ?_ 3 _ rfl; (with_reducible repeat (first | refine blk_drewN ?_ _ | refine blk_drew ?_ | refine blk_alloc ?_ _)); refine blk_put (cs := #[.int .u64 a0_0, .int .u64 a0_1, .int .i64 0, .int .u8 0, .slice none 0 0]) ?_ 2 _ rfl; (with_reducible repeat (first | refine blk_drewN ?_ _ | refine blk_drew ?_ | refine blk_alloc ?_ _)); refine blk_put (cs := #[.int .u64 a0_0, .int .u64 0, .int .i64 0, .int .u8 0, .slice none 0 0]) ?_ 1 _ rfl; (with_reducible repeat (first | refine blk_drewN ?_ _ | refine blk_drew ?_ | refine blk_alloc ?_ _)); refine blk_put (cs := #[.int .u64 0, .int .u64 0, .int .i64 0, .int .u8 0, .slice none 0 0]) ?_ 0 _ rfl; (with_reducible repeat (first | refine blk_drewN ?_ _ | refine blk_drew ?_ | refine blk_alloc ?_ _)); exact BK140.out) Tryd.underlying25 rfl (by kernel_rfl)) rfl ?_
           exact ⟨_, by first | rfl | (simp [errW_none, errW_some] <;> rfl) | (simp [*, errW_none, errW_some] <;> rfl), by (with_reducible repeat (first | apply Kd.R_alloc | apply Kd.R_drewN | apply Kd.R_drew)); exact Kd.R_mono (Kd.R_far (p := ⟨gb140, 4, none⟩) (Kd.R_far (p := ⟨gb140, 3, none⟩) (Kd.R_far (p := ⟨gb140, 2, none⟩) (Kd.R_far (p := ⟨gb140, 1, none⟩) (Kd.R_far (p := ⟨gb140, 0, none⟩) (Kd.R_types HO_140004.out BK140.out (by decide)) (fun _ hk => hk.2) (.int .u64 a0_0)) (fun _ hk => hk.2) (.int .u64 a0_1)) (fun _ hk => hk.2) (.int .i64 (wrap64 (a0_2 + 1)))) (fun _ hk => hk.2) (.int .u8 a0_3)) (fun _ hk => hk.2) (.slice Ao56 x140004_3.length co56)) (fun _ hk => trivial), by repeat (first | (with_reducible first | exact HB.out | apply below_alloc | apply pw_below_drewN | apply below_drew1 | refine below_set ?_ GE139.out | refine below_set ?_ GE140.out) | exact HB.out)⟩
       ·rw [if_neg c30] at H
        exact absurd H (by simp)

end Go.Proofs.YtgceecnlgjmghaaDoor.PH
