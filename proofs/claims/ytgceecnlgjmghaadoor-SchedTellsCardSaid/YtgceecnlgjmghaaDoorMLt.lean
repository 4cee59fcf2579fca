/- SchedTells, walked on the way where both sides answer alike. The table of the days ahead of months holds its numbers. The statement SchedTells, walked and joined with its numbers. The table of the days ahead of months holds its numbers. -/
import Derived.Test.YtgceecnlgjmghaaDoorMHd
import Derived.Test.YtgceecnlgjmghaaDoorPHx8
import Derived.Test.YtgceecnlgjmghaaDoorPHx6
import Derived.Test.YtgceecnlgjmghaaDoorPHx4
import Derived.Test.YtgceecnlgjmghaaDoorPHx9
import Derived.Test.YtgceecnlgjmghaaDoorPHx2
import Derived.Test.YtgceecnlgjmghaaDoorMPu
namespace Go.Proofs.YtgceecnlgjmghaaDoor.h28
open Go.RowKit Go.Proofs.YtgceecnlgjmghaaDoor.base Go.Proofs.YtgceecnlgjmghaaDoorW.PrintWords Go.Proofs.YtgceecnlgjmghaaDoor.sch
open Go.Proofs.YtgceecnlgjmghaaDoor.civ (Tab)
abbrev Bx3 (V : World) (g : Nat) (x y z : Int) : Prop := V.heap[g]? = some (.cells #[.int .i64 x, .int .i64 y, .int .i64 z] 27 (0, 0))
abbrev K (wr V : World) : Prop := Below wr.heap.size wr V
section
variable {wr V X : World} {g : Nat}
theorem K.all (h : K wr V) (hB : Below V.heap.size V X) : K wr X := h.trans (hB.mono h.size)
theorem K.al (h : K wr V) (o : Obj) : K wr (V.alloc o) := Below.alloc h h.size o
theorem K.undr (h : K wr V.drew) : K wr V := ⟨h.os, h.tape, h.output, h.size, h.block⟩
theorem K.dr (h : K wr V) : K wr V.drew := Below.drew h
end
set_option maxRecDepth 100000 in
set_option maxHeartbeats 2000000 in
theorem tells_is (k : Nat) (w : World) (T : Tab w) (a0 a1 a2 a3 : Int) (A : Option Addr) (c : Nat) (l lp lq lr : List Sl) (at_ m n p_0 p_1 p_2 p_3 q_0 q_1 q_2 q_3 r_0 r_1 r_2 r_3 ep eq nq er L E : Int) (hC : Csl w A l) (hc : l.length ≤ c) (hg : PH.quittancelaw28_great.f a0 a1 a2 a3 l = some false)
  (hp : PH.sched_Reach.f a0 a1 a2 a3 l at_ m = some (p_0, p_1, p_2, p_3, lp, ep)) (gp : PH.quittanceref28_Reach.f k a0 a1 a2 a3 l at_ m = some (p_0, p_1, p_2, p_3, lp, ep)) (sp : PH.quittanceref28_Same.f k p_0 p_1 p_2 p_3 lp p_0 p_1 p_2 p_3 lp = some true)
  (hq : PH.sched_Take.f a0 a1 a2 a3 l m = some (q_0, q_1, q_2, q_3, lq, nq, eq)) (gq : PH.quittanceref28_Take.f k a0 a1 a2 a3 l m = some (q_0, q_1, q_2, q_3, lq, nq, eq)) (sq : PH.quittanceref28_Same.f k q_0 q_1 q_2 q_3 lq q_0 q_1 q_2 q_3 lq = some true)
  (hr : PH.sched_Cut.f a0 a1 a2 a3 l n = some (r_0, r_1, r_2, r_3, lr, er)) (gr : PH.quittanceref28_Cut.f k a0 a1 a2 a3 l n = some (r_0, r_1, r_2, r_3, lr, er)) (sr : PH.quittanceref28_Same.f k r_0 r_1 r_2 r_3 lr r_0 r_1 r_2 r_3 lr = some true)
  (hL : PH.sched_Left.f a0 a1 a2 a3 l = some L) (gL : PH.quittanceref28_Left.f k a0 a1 a2 a3 l = some L) (hE : PH.sched_Check.f a0 a1 a2 a3 l = some E) (gE : PH.quittanceref28_Check.f k a0 a1 a2 a3 l = some E) :
  Calls Tryd.prog 3 #[.agg #[.int .u64 a0, .int .u64 a1, .int .i64 a2, .int .u8 a3, .slice A l.length c], .agg #[.int .i64 at_, .int .i64 m, .int .i64 n]] w fun e w' => e = .returned (.bool true) ∧ Below w.heap.size w w' := by
 have HT := Lib.hid T
 have HG := Lib.hid hg
 have HHL := Lib.hid (And.intro hL gL)
 have HHE := Lib.hid (And.intro hE gE)
 have HHp := Lib.hid (And.intro hp (And.intro gp sp))
 have HHq := Lib.hid (And.intro hq (And.intro gq sq))
 have HHr := Lib.hid (And.intro hr (And.intro gr sr))
 have HCC := Lib.hid (And.intro hC hc)
 clear T hg hL gL hE gE hC hc hp gp sp hq gq sq hr gr sr
 go_enter Tryd.func3, Tryd.ntmps3
 go_upto_region 1 with fail
 have q1 : Var (w.alloc (.cells #[.int .u64 a0, .int .u64 a1, .int .i64 a2, .int .u8 a3, .slice A l.length c] 25)) w.heap.size a0 a1 a2 a3 l A c := Var.new HCC.out.2 HCC.out.1
 have q2 := q1.all ((Below.refl _ _).alloc (Nat.le_refl _) (.cells #[.int .i64 at_, .int .i64 m, .int .i64 n] 27))
 have q3 : Bx3 ((w.alloc (.cells #[.int .u64 a0, .int .u64 a1, .int .i64 a2, .int .u8 a3, .slice A l.length c] 25)).alloc (.cells #[.int .i64 at_, .int .i64 m, .int .i64 n] 27)) (w.heap.size + 1) at_ m n := by
  have := World.alloc_heap_new (w.alloc (.cells #[.int .u64 a0, .int .u64 a1, .int .i64 a2, .int .u8 a3, .slice A l.length c] 25)) (.cells #[.int .i64 at_, .int .i64 m, .int .i64 n] 27)
  rwa [World.size_alloc] at this
 have q4 := below_al (below_al (Below.refl w.heap.size w) (.cells #[.int .u64 a0, .int .u64 a1, .int .i64 a2, .int .u8 a3, .slice A l.length c] 25)) (.cells #[.int .i64 at_, .int .i64 m, .int .i64 n] 27)
 generalize (w.alloc (.cells #[.int .u64 a0, .int .u64 a1, .int .i64 a2, .int .u8 a3, .slice A l.length c] 25)).alloc (.cells #[.int .i64 at_, .int .i64 m, .int .i64 n] 27) = w2 at q2 q3 q4 ⊢
 generalize hg2 : w.heap.size = g2 at q2 q3 ⊢
 generalize w.heap.size + 1 = g3 at q3 ⊢
 have HV2 := Lib.hid q2
 have HB3 := Lib.hid q3
 have HW := Lib.hid q4
 clear q1 q2 q3 q4 HCC
 obtain ⟨c0, c1, c2, c3, c4⟩ := HV2.out.cells
 have x0 := (blk_cell HB3.out 0).trans rfl
 have x1 := (blk_cell HB3.out 1).trans rfl
 have x2 := (blk_cell HB3.out 2).trans rfl
 simp only [List.getElem?_toArray, List.getElem?_cons_zero, List.getElem?_cons_succ] at x0 x1 x2
 go_wp2_with fail
 refine (PH.quittancelaw28_great.calls a0 a1 a2 a3 A c l false _ HV2.out.row HV2.out.le HG.out).mono ?_
 rintro e w3 ⟨rfl, hB⟩
 clear c0 c1 c2 c3 c4 x0 x1 x2
 replace HV2 := Lib.hid (HV2.out.all hB)
 replace HB3 := Lib.hid ((hB.block _ (blk_lt HB3.out)).trans HB3.out)
 replace HW := Lib.hid (below_all HW.out HW.out.size hB)
 clear hB
 obtain ⟨c0, c1, c2, c3, c4⟩ := HV2.out.cells
 have x0 := (blk_cell HB3.out 0).trans rfl
 have x1 := (blk_cell HB3.out 1).trans rfl
 have x2 := (blk_cell HB3.out 2).trans rfl
 simp only [List.getElem?_toArray, List.getElem?_cons_zero, List.getElem?_cons_succ] at x0 x1 x2
 go_wp2_with fail
 refine (PH.sched_Reach.calls a0 a1 a2 a3 A c l at_ m _ _ _ _ _ _ _ HV2.out.row HV2.out.le HHp.out.1).mono ?_
 rintro e w13 ⟨v, rfl, hR, hB⟩
 obtain ⟨A3, k3, rfl, hc, hC⟩ := Kd.R_reads hR
 clear hR
 clear c0 c1 c2 c3 c4 x0 x1 x2
 replace HV2 := Lib.hid (HV2.out.all hB)
 replace HB3 := Lib.hid ((hB.block _ (blk_lt HB3.out)).trans HB3.out)
 replace HW := Lib.hid (below_all HW.out HW.out.size hB)
 clear hB
 go_upto_region 4 with fail
 have qn : Var (w13.alloc (.cells #[.int .u64 p_0, .int .u64 p_1, .int .i64 p_2, .int .u8 p_3, .slice A3 lp.length k3] 25)) w13.heap.size p_0 p_1 p_2 p_3 lp A3 k3 := Var.new hc hC
 have qb := (Below.refl w13.heap.size w13).alloc (Nat.le_refl _) (.cells #[.int .u64 p_0, .int .u64 p_1, .int .i64 p_2, .int .u8 p_3, .slice A3 lp.length k3] 25)
 replace HV2 := Lib.hid (HV2.out.all qb)
 replace HB3 := Lib.hid ((qb.block _ (blk_lt HB3.out)).trans HB3.out)
 replace HW := Lib.hid (below_all HW.out HW.out.size qb)
 have HV3p := Lib.hid qn
 clear qn qb hc hC
 generalize w13.alloc (.cells #[.int .u64 p_0, .int .u64 p_1, .int .i64 p_2, .int .u8 p_3, .slice A3 lp.length k3] 25) = w33 at HV2 HB3 HV3p HW ⊢
 generalize w13.heap.size = g3p at HV3p ⊢
 obtain ⟨c0, c1, c2, c3, c4⟩ := HV2.out.cells
 have x0 := (blk_cell HB3.out 0).trans rfl
 have x1 := (blk_cell HB3.out 1).trans rfl
 have x2 := (blk_cell HB3.out 2).trans rfl
 simp only [List.getElem?_toArray, List.getElem?_cons_zero, List.getElem?_cons_succ] at x0 x1 x2
 go_wp2_with fail
 refine (PH.quittanceref28_Reach.calls k a0 a1 a2 a3 A c l at_ m _ _ _ _ _ _ _ HV2.out.row HV2.out.le HHp.out.2.1).mono ?_
 rintro e w14 ⟨v, rfl, hR, hB⟩
 obtain ⟨A4, k4, rfl, hc, hC⟩ := Kd.R_reads hR
 clear hR
 clear c0 c1 c2 c3 c4 x0 x1 x2
 replace HV2 := Lib.hid (HV2.out.all hB)
 replace HB3 := Lib.hid ((hB.block _ (blk_lt HB3.out)).trans HB3.out)
 replace HV3p := Lib.hid (HV3p.out.all hB)
 replace HW := Lib.hid (below_all HW.out HW.out.size hB)
 clear hB
 go_upto_region 5 with fail
 have qn : Var (w14.alloc (.cells #[.int .u64 p_0, .int .u64 p_1, .int .i64 p_2, .int .u8 p_3, .slice A4 lp.length k4] 25)) w14.heap.size p_0 p_1 p_2 p_3 lp A4 k4 := Var.new hc hC
 have qb := (Below.refl w14.heap.size w14).alloc (Nat.le_refl _) (.cells #[.int .u64 p_0, .int .u64 p_1, .int .i64 p_2, .int .u8 p_3, .slice A4 lp.length k4] 25)
 replace HV2 := Lib.hid (HV2.out.all qb)
 replace HB3 := Lib.hid ((qb.block _ (blk_lt HB3.out)).trans HB3.out)
 replace HV3p := Lib.hid (HV3p.out.all qb)
 replace HW := Lib.hid (below_all HW.out HW.out.size qb)
 have HV4p := Lib.hid qn
 clear qn qb hc hC
 generalize w14.alloc (.cells #[.int .u64 p_0, .int .u64 p_1, .int .i64 p_2, .int .u8 p_3, .slice A4 lp.length k4] 25) = w34 at HV2 HB3 HV3p HV4p HW ⊢
 generalize w14.heap.size = g4p at HV4p ⊢
 obtain ⟨c0, c1, c2, c3, c4⟩ := HV2.out.cells
 have x0 := (blk_cell HB3.out 0).trans rfl
 have x1 := (blk_cell HB3.out 1).trans rfl
 have x2 := (blk_cell HB3.out 2).trans rfl
 simp only [List.getElem?_toArray, List.getElem?_cons_zero, List.getElem?_cons_succ] at x0 x1 x2
 go_wp2_with fail
 refine (PH.sched_Take.calls a0 a1 a2 a3 A c l m _ _ _ _ _ _ _ _ HV2.out.row HV2.out.le HHq.out.1).mono ?_
 rintro e w15 ⟨v, rfl, hR, hB⟩
 obtain ⟨A5, k5, rfl, hc, hC⟩ := Kd.R_reads hR
 clear hR
 clear c0 c1 c2 c3 c4 x0 x1 x2
 replace HV2 := Lib.hid (HV2.out.all hB)
 replace HB3 := Lib.hid ((hB.block _ (blk_lt HB3.out)).trans HB3.out)
 replace HV3p := Lib.hid (HV3p.out.all hB)
 replace HV4p := Lib.hid (HV4p.out.all hB)
 replace HW := Lib.hid (below_all HW.out HW.out.size hB)
 clear hB
 go_upto_region 6 with fail
 have qn : Var (w15.alloc (.cells #[.int .u64 q_0, .int .u64 q_1, .int .i64 q_2, .int .u8 q_3, .slice A5 lq.length k5] 25)) w15.heap.size q_0 q_1 q_2 q_3 lq A5 k5 := Var.new hc hC
 have qb := (Below.refl w15.heap.size w15).alloc (Nat.le_refl _) (.cells #[.int .u64 q_0, .int .u64 q_1, .int .i64 q_2, .int .u8 q_3, .slice A5 lq.length k5] 25)
 replace HV2 := Lib.hid (HV2.out.all qb)
 replace HB3 := Lib.hid ((qb.block _ (blk_lt HB3.out)).trans HB3.out)
 replace HV3p := Lib.hid (HV3p.out.all qb)
 replace HV4p := Lib.hid (HV4p.out.all qb)
 replace HW := Lib.hid (below_all HW.out HW.out.size qb)
 have HV5q := Lib.hid qn
 clear qn qb hc hC
 generalize w15.alloc (.cells #[.int .u64 q_0, .int .u64 q_1, .int .i64 q_2, .int .u8 q_3, .slice A5 lq.length k5] 25) = w35 at HV2 HB3 HV3p HV4p HV5q HW ⊢
 generalize w15.heap.size = g5q at HV5q ⊢
 obtain ⟨c0, c1, c2, c3, c4⟩ := HV2.out.cells
 have x0 := (blk_cell HB3.out 0).trans rfl
 have x1 := (blk_cell HB3.out 1).trans rfl
 have x2 := (blk_cell HB3.out 2).trans rfl
 simp only [List.getElem?_toArray, List.getElem?_cons_zero, List.getElem?_cons_succ] at x0 x1 x2
 go_wp2_with fail
 refine (PH.quittanceref28_Take.calls k a0 a1 a2 a3 A c l m _ _ _ _ _ _ _ _ HV2.out.row HV2.out.le HHq.out.2.1).mono ?_
 rintro e w16 ⟨v, rfl, hR, hB⟩
 obtain ⟨A6, k6, rfl, hc, hC⟩ := Kd.R_reads hR
 clear hR
 clear c0 c1 c2 c3 c4 x0 x1 x2
 replace HV2 := Lib.hid (HV2.out.all hB)
 replace HB3 := Lib.hid ((hB.block _ (blk_lt HB3.out)).trans HB3.out)
 replace HV3p := Lib.hid (HV3p.out.all hB)
 replace HV4p := Lib.hid (HV4p.out.all hB)
 replace HV5q := Lib.hid (HV5q.out.all hB)
 replace HW := Lib.hid (below_all HW.out HW.out.size hB)
 clear hB
 go_upto_region 7 with fail
 have qn : Var (w16.alloc (.cells #[.int .u64 q_0, .int .u64 q_1, .int .i64 q_2, .int .u8 q_3, .slice A6 lq.length k6] 25)) w16.heap.size q_0 q_1 q_2 q_3 lq A6 k6 := Var.new hc hC
 have qb := (Below.refl w16.heap.size w16).alloc (Nat.le_refl _) (.cells #[.int .u64 q_0, .int .u64 q_1, .int .i64 q_2, .int .u8 q_3, .slice A6 lq.length k6] 25)
 replace HV2 := Lib.hid (HV2.out.all qb)
 replace HB3 := Lib.hid ((qb.block _ (blk_lt HB3.out)).trans HB3.out)
 replace HV3p := Lib.hid (HV3p.out.all qb)
 replace HV4p := Lib.hid (HV4p.out.all qb)
 replace HV5q := Lib.hid (HV5q.out.all qb)
 replace HW := Lib.hid (below_all HW.out HW.out.size qb)
 have HV6q := Lib.hid qn
 clear qn qb hc hC
 generalize w16.alloc (.cells #[.int .u64 q_0, .int .u64 q_1, .int .i64 q_2, .int .u8 q_3, .slice A6 lq.length k6] 25) = w36 at HV2 HB3 HV3p HV4p HV5q HV6q HW ⊢
 generalize w16.heap.size = g6q at HV6q ⊢
 obtain ⟨c0, c1, c2, c3, c4⟩ := HV2.out.cells
 have x0 := (blk_cell HB3.out 0).trans rfl
 have x1 := (blk_cell HB3.out 1).trans rfl
 have x2 := (blk_cell HB3.out 2).trans rfl
 simp only [List.getElem?_toArray, List.getElem?_cons_zero, List.getElem?_cons_succ] at x0 x1 x2
 go_wp2_with fail
 refine (PH.sched_Cut.calls a0 a1 a2 a3 A c l n _ _ _ _ _ _ _ HV2.out.row HV2.out.le HHr.out.1).mono ?_
 rintro e w17 ⟨v, rfl, hR, hB⟩
 obtain ⟨A7, k7, rfl, hc, hC⟩ := Kd.R_reads hR
 clear hR
 clear c0 c1 c2 c3 c4 x0 x1 x2
 replace HV2 := Lib.hid (HV2.out.all hB)
 replace HB3 := Lib.hid ((hB.block _ (blk_lt HB3.out)).trans HB3.out)
 replace HV3p := Lib.hid (HV3p.out.all hB)
 replace HV4p := Lib.hid (HV4p.out.all hB)
 replace HV5q := Lib.hid (HV5q.out.all hB)
 replace HV6q := Lib.hid (HV6q.out.all hB)
 replace HW := Lib.hid (below_all HW.out HW.out.size hB)
 clear hB
 go_upto_region 8 with fail
 have qn : Var (w17.alloc (.cells #[.int .u64 r_0, .int .u64 r_1, .int .i64 r_2, .int .u8 r_3, .slice A7 lr.length k7] 25)) w17.heap.size r_0 r_1 r_2 r_3 lr A7 k7 := Var.new hc hC
 have qb := (Below.refl w17.heap.size w17).alloc (Nat.le_refl _) (.cells #[.int .u64 r_0, .int .u64 r_1, .int .i64 r_2, .int .u8 r_3, .slice A7 lr.length k7] 25)
 replace HV2 := Lib.hid (HV2.out.all qb)
 replace HB3 := Lib.hid ((qb.block _ (blk_lt HB3.out)).trans HB3.out)
 replace HV3p := Lib.hid (HV3p.out.all qb)
 replace HV4p := Lib.hid (HV4p.out.all qb)
 replace HV5q := Lib.hid (HV5q.out.all qb)
 replace HV6q := Lib.hid (HV6q.out.all qb)
 replace HW := Lib.hid (below_all HW.out HW.out.size qb)
 have HV7r := Lib.hid qn
 clear qn qb hc hC
 generalize w17.alloc (.cells #[.int .u64 r_0, .int .u64 r_1, .int .i64 r_2, .int .u8 r_3, .slice A7 lr.length k7] 25) = w37 at HV2 HB3 HV3p HV4p HV5q HV6q HV7r HW ⊢
 generalize w17.heap.size = g7r at HV7r ⊢
 obtain ⟨c0, c1, c2, c3, c4⟩ := HV2.out.cells
 have x0 := (blk_cell HB3.out 0).trans rfl
 have x1 := (blk_cell HB3.out 1).trans rfl
 have x2 := (blk_cell HB3.out 2).trans rfl
 simp only [List.getElem?_toArray, List.getElem?_cons_zero, List.getElem?_cons_succ] at x0 x1 x2
 go_wp2_with fail
 refine (PH.quittanceref28_Cut.calls k a0 a1 a2 a3 A c l n _ _ _ _ _ _ _ HV2.out.row HV2.out.le HHr.out.2.1).mono ?_
 rintro e w18 ⟨v, rfl, hR, hB⟩
 obtain ⟨A8, k8, rfl, hc, hC⟩ := Kd.R_reads hR
 clear hR
 clear c0 c1 c2 c3 c4 x0 x1 x2
 replace HV2 := Lib.hid (HV2.out.all hB)
 replace HB3 := Lib.hid ((hB.block _ (blk_lt HB3.out)).trans HB3.out)
 replace HV3p := Lib.hid (HV3p.out.all hB)
 replace HV4p := Lib.hid (HV4p.out.all hB)
 replace HV5q := Lib.hid (HV5q.out.all hB)
 replace HV6q := Lib.hid (HV6q.out.all hB)
 replace HV7r := Lib.hid (HV7r.out.all hB)
 replace HW := Lib.hid (below_all HW.out HW.out.size hB)
 clear hB
 go_upto_region 9 with fail
 have qn : Var (w18.alloc (.cells #[.int .u64 r_0, .int .u64 r_1, .int .i64 r_2, .int .u8 r_3, .slice A8 lr.length k8] 25)) w18.heap.size r_0 r_1 r_2 r_3 lr A8 k8 := Var.new hc hC
 have qb := (Below.refl w18.heap.size w18).alloc (Nat.le_refl _) (.cells #[.int .u64 r_0, .int .u64 r_1, .int .i64 r_2, .int .u8 r_3, .slice A8 lr.length k8] 25)
 replace HV2 := Lib.hid (HV2.out.all qb)
 replace HB3 := Lib.hid ((qb.block _ (blk_lt HB3.out)).trans HB3.out)
 replace HV3p := Lib.hid (HV3p.out.all qb)
 replace HV4p := Lib.hid (HV4p.out.all qb)
 replace HV5q := Lib.hid (HV5q.out.all qb)
 replace HV6q := Lib.hid (HV6q.out.all qb)
 replace HV7r := Lib.hid (HV7r.out.all qb)
 replace HW := Lib.hid (below_all HW.out HW.out.size qb)
 have HV8r := Lib.hid qn
 clear qn qb hc hC
 generalize w18.alloc (.cells #[.int .u64 r_0, .int .u64 r_1, .int .i64 r_2, .int .u8 r_3, .slice A8 lr.length k8] 25) = w38 at HV2 HB3 HV3p HV4p HV5q HV6q HV7r HV8r HW ⊢
 generalize w18.heap.size = g8r at HV8r ⊢
 have KK := Lib.hid (show K w38 w38.drew from K.dr (Below.refl _ _))
 have HV2x0 : ∀ V : World, K w38 V → V.cell? ⟨g2, 0, none⟩ = some (.int .u64 a0) := fun V h => (HV2.out.all h).cells.1
 have HV2x1 : ∀ V : World, K w38 V → V.cell? ⟨g2, 1, none⟩ = some (.int .u64 a1) := fun V h => (HV2.out.all h).cells.2.1
 have HV2x2 : ∀ V : World, K w38 V → V.cell? ⟨g2, 2, none⟩ = some (.int .i64 a2) := fun V h => (HV2.out.all h).cells.2.2.1
 have HV2x3 : ∀ V : World, K w38 V → V.cell? ⟨g2, 3, none⟩ = some (.int .u8 a3) := fun V h => (HV2.out.all h).cells.2.2.2.1
 have HV2x4 : ∀ V : World, K w38 V → V.cell? ⟨g2, 4, none⟩ = some (.slice A l.length c) := fun V h => (HV2.out.all h).cells.2.2.2.2
 have HV3px0 : ∀ V : World, K w38 V → V.cell? ⟨g3p, 0, none⟩ = some (.int .u64 p_0) := fun V h => (HV3p.out.all h).cells.1
 have HV3px1 : ∀ V : World, K w38 V → V.cell? ⟨g3p, 1, none⟩ = some (.int .u64 p_1) := fun V h => (HV3p.out.all h).cells.2.1
 have HV3px2 : ∀ V : World, K w38 V → V.cell? ⟨g3p, 2, none⟩ = some (.int .i64 p_2) := fun V h => (HV3p.out.all h).cells.2.2.1
 have HV3px3 : ∀ V : World, K w38 V → V.cell? ⟨g3p, 3, none⟩ = some (.int .u8 p_3) := fun V h => (HV3p.out.all h).cells.2.2.2.1
 have HV3px4 : ∀ V : World, K w38 V → V.cell? ⟨g3p, 4, none⟩ = some (.slice A3 lp.length k3) := fun V h => (HV3p.out.all h).cells.2.2.2.2
 have HV4px0 : ∀ V : World, K w38 V → V.cell? ⟨g4p, 0, none⟩ = some (.int .u64 p_0) := fun V h => (HV4p.out.all h).cells.1
 have HV4px1 : ∀ V : World, K w38 V → V.cell? ⟨g4p, 1, none⟩ = some (.int .u64 p_1) := fun V h => (HV4p.out.all h).cells.2.1
 have HV4px2 : ∀ V : World, K w38 V → V.cell? ⟨g4p, 2, none⟩ = some (.int .i64 p_2) := fun V h => (HV4p.out.all h).cells.2.2.1
 have HV4px3 : ∀ V : World, K w38 V → V.cell? ⟨g4p, 3, none⟩ = some (.int .u8 p_3) := fun V h => (HV4p.out.all h).cells.2.2.2.1
 have HV4px4 : ∀ V : World, K w38 V → V.cell? ⟨g4p, 4, none⟩ = some (.slice A4 lp.length k4) := fun V h => (HV4p.out.all h).cells.2.2.2.2
 have HV5qx0 : ∀ V : World, K w38 V → V.cell? ⟨g5q, 0, none⟩ = some (.int .u64 q_0) := fun V h => (HV5q.out.all h).cells.1
 have HV5qx1 : ∀ V : World, K w38 V → V.cell? ⟨g5q, 1, none⟩ = some (.int .u64 q_1) := fun V h => (HV5q.out.all h).cells.2.1
 have HV5qx2 : ∀ V : World, K w38 V → V.cell? ⟨g5q, 2, none⟩ = some (.int .i64 q_2) := fun V h => (HV5q.out.all h).cells.2.2.1
 have HV5qx3 : ∀ V : World, K w38 V → V.cell? ⟨g5q, 3, none⟩ = some (.int .u8 q_3) := fun V h => (HV5q.out.all h).cells.2.2.2.1
 have HV5qx4 : ∀ V : World, K w38 V → V.cell? ⟨g5q, 4, none⟩ = some (.slice A5 lq.length k5) := fun V h => (HV5q.out.all h).cells.2.2.2.2
 have HV6qx0 : ∀ V : World, K w38 V → V.cell? ⟨g6q, 0, none⟩ = some (.int .u64 q_0) := fun V h => (HV6q.out.all h).cells.1
 have HV6qx1 : ∀ V : World, K w38 V → V.cell? ⟨g6q, 1, none⟩ = some (.int .u64 q_1) := fun V h => (HV6q.out.all h).cells.2.1
 have HV6qx2 : ∀ V : World, K w38 V → V.cell? ⟨g6q, 2, none⟩ = some (.int .i64 q_2) := fun V h => (HV6q.out.all h).cells.2.2.1
 have HV6qx3 : ∀ V : World, K w38 V → V.cell? ⟨g6q, 3, none⟩ = some (.int .u8 q_3) := fun V h => (HV6q.out.all h).cells.2.2.2.1
 have HV6qx4 : ∀ V : World, K w38 V → V.cell? ⟨g6q, 4, none⟩ = some (.slice A6 lq.length k6) := fun V h => (HV6q.out.all h).cells.2.2.2.2
 have HV7rx0 : ∀ V : World, K w38 V → V.cell? ⟨g7r, 0, none⟩ = some (.int .u64 r_0) := fun V h => (HV7r.out.all h).cells.1
 have HV7rx1 : ∀ V : World, K w38 V → V.cell? ⟨g7r, 1, none⟩ = some (.int .u64 r_1) := fun V h => (HV7r.out.all h).cells.2.1
 have HV7rx2 : ∀ V : World, K w38 V → V.cell? ⟨g7r, 2, none⟩ = some (.int .i64 r_2) := fun V h => (HV7r.out.all h).cells.2.2.1
 have HV7rx3 : ∀ V : World, K w38 V → V.cell? ⟨g7r, 3, none⟩ = some (.int .u8 r_3) := fun V h => (HV7r.out.all h).cells.2.2.2.1
 have HV7rx4 : ∀ V : World, K w38 V → V.cell? ⟨g7r, 4, none⟩ = some (.slice A7 lr.length k7) := fun V h => (HV7r.out.all h).cells.2.2.2.2
 have HV8rx0 : ∀ V : World, K w38 V → V.cell? ⟨g8r, 0, none⟩ = some (.int .u64 r_0) := fun V h => (HV8r.out.all h).cells.1
 have HV8rx1 : ∀ V : World, K w38 V → V.cell? ⟨g8r, 1, none⟩ = some (.int .u64 r_1) := fun V h => (HV8r.out.all h).cells.2.1
 have HV8rx2 : ∀ V : World, K w38 V → V.cell? ⟨g8r, 2, none⟩ = some (.int .i64 r_2) := fun V h => (HV8r.out.all h).cells.2.2.1
 have HV8rx3 : ∀ V : World, K w38 V → V.cell? ⟨g8r, 3, none⟩ = some (.int .u8 r_3) := fun V h => (HV8r.out.all h).cells.2.2.2.1
 have HV8rx4 : ∀ V : World, K w38 V → V.cell? ⟨g8r, 4, none⟩ = some (.slice A8 lr.length k8) := fun V h => (HV8r.out.all h).cells.2.2.2.2
 go_region_held3 (fun w' => K w38 w')
  (first
   | with_reducible exact KK.out
   | with_reducible exact K5
   | (go_split_ands; with_reducible (repeat (first | assumption | exact K5))))
  (first
   | (go_at_call 16; go_split_ands; (first | (with_reducible refine (PH.quittanceref28_Same.calls k p_0 p_1 p_2 p_3 A3 k3 lp p_0 p_1 p_2 p_3 A4 k4 lp true _ (Kd.C_below HV3p.out.row (by assumption)) HV3p.out.le (Kd.C_below HV4p.out.row (by assumption)) HV4p.out.le HHp.out.2.2).mono ?_) | (with_reducible refine (PH.quittanceref28_Same.calls k q_0 q_1 q_2 q_3 A5 k5 lq q_0 q_1 q_2 q_3 A6 k6 lq true _ (Kd.C_below HV5q.out.row (by assumption)) HV5q.out.le (Kd.C_below HV6q.out.row (by assumption)) HV6q.out.le HHq.out.2.2).mono ?_) | (with_reducible refine (PH.quittanceref28_Same.calls k r_0 r_1 r_2 r_3 A7 k7 lr r_0 r_1 r_2 r_3 A8 k8 lr true _ (Kd.C_below HV7r.out.row (by assumption)) HV7r.out.le (Kd.C_below HV8r.out.row (by assumption)) HV8r.out.le HHr.out.2.2).mono ?_)); rintro e w5 ⟨rfl, B5⟩; have K5 := K.all (by assumption) B5)
   | (go_at_call 17; go_split_ands; with_reducible refine (PH.sched_Left.calls a0 a1 a2 a3 A c l _ _ (Kd.C_below HV2.out.row (by assumption)) HV2.out.le HHL.out.1).mono ?_; rintro e w5 ⟨rfl, B5⟩; have K5 := K.all (by assumption) B5)
   | (go_at_call 18; go_split_ands; with_reducible refine (PH.quittanceref28_Left.calls k a0 a1 a2 a3 A c l _ _ (Kd.C_below HV2.out.row (by assumption)) HV2.out.le HHL.out.2).mono ?_; rintro e w5 ⟨rfl, B5⟩; have K5 := K.all (by assumption) B5)
   | (go_at_call 19; go_split_ands; with_reducible refine (PH.sched_Check.calls a0 a1 a2 a3 A c l _ _ (Kd.C_below HV2.out.row (by assumption)) HV2.out.le HHE.out.1).mono ?_; rintro e w5 ⟨rfl, B5⟩; have K5 := K.all (by assumption) B5)
   | (go_at_call 20; go_split_ands; with_reducible refine (PH.quittanceref28_Check.calls k a0 a1 a2 a3 A c l _ _ (Kd.C_below HV2.out.row (by assumption)) HV2.out.le HHE.out.2).mono ?_; rintro e w5 ⟨rfl, B5⟩; have K5 := K.all (by assumption) B5)
   | (go_at_call 9; go_split_ands; with_reducible refine (head_any _ (PH.tab_below HT.out (below_all HW.out HW.out.size (by assumption)) (PH.tab_lt HT.out))).mono ?_; rintro e w5 ⟨rfl, B5⟩; have K5 := K.all (by assumption) B5))
 all_goals
  go_wp2
  go_ret
  exact ⟨rfl, below_all HW.out HW.out.size (by assumption)⟩
end Go.Proofs.YtgceecnlgjmghaaDoor.h28

namespace Go.Proofs.YtgceecnlgjmghaaDoor.h28
open Go.RowKit Go.Proofs.YtgceecnlgjmghaaDoor.base Go.Proofs.YtgceecnlgjmghaaDoorW.PrintWords Go.Proofs.YtgceecnlgjmghaaDoor.sch Go.Proofs.YtgceecnlgjmghaaDoor.pu28
open Go.Proofs.YtgceecnlgjmghaaDoor.civ (Tab)
set_option maxRecDepth 100000 in
set_option maxHeartbeats 500000 in
theorem tells_great (w : World) (T : Tab w) (a0 a1 a2 a3 : Int) (A : Option Addr) (c : Nat) (l : List Sl) (at_ m n : Int) (hC : Csl w A l) (hc : l.length ≤ c) (hg : PH.quittancelaw28_great.f a0 a1 a2 a3 l = some true) :
  Calls Tryd.prog 3 #[.agg #[.int .u64 a0, .int .u64 a1, .int .i64 a2, .int .u8 a3, .slice A l.length c], .agg #[.int .i64 at_, .int .i64 m, .int .i64 n]] w fun e w' => e = .returned (.bool true) ∧ Below w.heap.size w w' := by
 have HT := Lib.hid T
 have HG := Lib.hid hg
 have HCC := Lib.hid (And.intro hC hc)
 clear T hg hC hc
 go_enter Tryd.func3, Tryd.ntmps3
 go_upto_region 1 with fail
 have q1 : Var (w.alloc (.cells #[.int .u64 a0, .int .u64 a1, .int .i64 a2, .int .u8 a3, .slice A l.length c] 25)) w.heap.size a0 a1 a2 a3 l A c := Var.new HCC.out.2 HCC.out.1
 have q2 := q1.all ((Below.refl _ _).alloc (Nat.le_refl _) (.cells #[.int .i64 at_, .int .i64 m, .int .i64 n] 27))
 have q4 := below_al (below_al (Below.refl w.heap.size w) (.cells #[.int .u64 a0, .int .u64 a1, .int .i64 a2, .int .u8 a3, .slice A l.length c] 25)) (.cells #[.int .i64 at_, .int .i64 m, .int .i64 n] 27)
 generalize (w.alloc (.cells #[.int .u64 a0, .int .u64 a1, .int .i64 a2, .int .u8 a3, .slice A l.length c] 25)).alloc (.cells #[.int .i64 at_, .int .i64 m, .int .i64 n] 27) = w2 at q2 q4 ⊢
 generalize hg2 : w.heap.size = g2 at q2 ⊢
 have HV2 := Lib.hid q2
 have HW := Lib.hid q4
 clear q1 q2 q4 HCC
 obtain ⟨c0, c1, c2, c3, c4⟩ := HV2.out.cells
 go_wp2_with fail
 refine (PH.quittancelaw28_great.calls a0 a1 a2 a3 A c l true _ HV2.out.row HV2.out.le HG.out).mono ?_
 rintro e w3 ⟨rfl, hB⟩
 clear c0 c1 c2 c3 c4
 replace HW := Lib.hid (below_all HW.out HW.out.size hB)
 clear hB
 go_wp2_with fail
 refine (head_any _ (PH.tab_below HT.out (hg2 ▸ HW.out) (PH.tab_lt HT.out))).mono ?_
 rintro e w4 ⟨rfl, hB⟩
 replace HW := Lib.hid (below_all HW.out HW.out.size hB)
 clear hB
 go_wp2
 go_ret
 exact ⟨rfl, hg2 ▸ HW.out⟩
theorem great_is (a0 a1 a2 a3 : Int) (l : List Sl) : PH.quittancelaw28_great.f a0 a1 a2 a3 l = some true ∨ (PH.quittancelaw28_great.f a0 a1 a2 a3 l = some false ∧ l.length ≤ 4200) := by
 unfold PH.quittancelaw28_great.f
 by_cases h1 : (l.length : Int) > 4200
 ·rw [decide_eq_true h1]
  left
  split
  ·split <;> rfl
  ·rfl
 ·rw [decide_eq_false h1]
  by_cases h2 : (l.length : Int) > 60
  ·rw [if_pos h2]
   by_cases h3 : (l.length : Int) ≤ 4096
   ·rw [if_pos h3]; exact .inl rfl
   ·rw [if_neg h3]; exact .inr ⟨rfl, by omega⟩
  ·rw [if_neg h2]; exact .inr ⟨rfl, by omega⟩
theorem reach_some (a0 a1 a2 a3 : Int) (l : List Sl) (at_ m : Int) : ∃ p0 p1 p2 p3 lp e, PH.sched_Reach.f a0 a1 a2 a3 l at_ m = some (p0, p1, p2, p3, lp, e) ∧ lp.length ≤ l.length := by
 unfold PH.sched_Reach.f
 split
 ·exact ⟨_, _, _, _, _, _, rfl, by simp [rchL]⟩
 ·exact ⟨_, _, _, _, _, _, rfl, by simp⟩
theorem take_some (a0 a1 a2 a3 : Int) (l : List Sl) (m : Int) : ∃ p0 p1 p2 p3 lp n e, PH.sched_Take.f a0 a1 a2 a3 l m = some (p0, p1, p2, p3, lp, n, e) ∧ lp.length ≤ l.length := by
 unfold PH.sched_Take.f
 split
 ·exact ⟨_, _, _, _, _, _, _, rfl, by simp [tkL]⟩
 ·exact ⟨_, _, _, _, _, _, _, rfl, by simp⟩
theorem cut_some (a0 a1 a2 a3 : Int) (l : List Sl) (m : Int) : ∃ p0 p1 p2 p3 lp e, PH.sched_Cut.f a0 a1 a2 a3 l m = some (p0, p1, p2, p3, lp, e) ∧ lp.length ≤ l.length := by
 unfold PH.sched_Cut.f
 split
 ·split
  ·exact ⟨_, _, _, _, _, _, rfl, by simp⟩
  ·exact ⟨_, _, _, _, _, _, rfl, by rw [cutP_len]; exact Nat.le_refl _⟩
 ·exact ⟨_, _, _, _, _, _, rfl, by simp⟩
theorem schedTells (a0 a1 a2 a3 : Int) (A : Option Addr) (c : Nat) (l : List Sl) (at_ m n : Int) (w : World) (T : Tab w) (hc : l.length ≤ c) (hC : Csl w A l) :
  Calls Tryd.prog 3 #[.agg #[.int .u64 a0, .int .u64 a1, .int .i64 a2, .int .u8 a3, .slice A l.length c], .agg #[.int .i64 at_, .int .i64 m, .int .i64 n]] w fun e w' => e = .returned (.bool true) ∧ Below w.heap.size w w' := by
 rcases great_is a0 a1 a2 a3 l with hg | ⟨hg, hn⟩
 ·exact tells_great w T a0 a1 a2 a3 A c l at_ m n hC hc hg
 ·obtain ⟨p0, p1, p2, p3, lp, ep, hp, np⟩ := reach_some a0 a1 a2 a3 l at_ m
  obtain ⟨q0, q1, q2, q3, lq, nq, eq, hq, nq'⟩ := take_some a0 a1 a2 a3 l m
  obtain ⟨r0, r1, r2, r3, lr, er, hr, nr⟩ := cut_some a0 a1 a2 a3 l n
  exact tells_is 9000 w T a0 a1 a2 a3 A c l lp lq lr at_ m n p0 p1 p2 p3 q0 q1 q2 q3 r0 r1 r2 r3 ep eq nq er (lft a0 a2 a3 l) (chk a0 a2 a3 l) hC hc hg
   hp ((reach_is a0 a1 a2 a3 l at_ m hn 9000 (by omega)).trans hp) (same_is p0 p1 p2 p3 lp (by omega) 9000 (by omega))
   hq ((take_is a0 a1 a2 a3 m l hn 9000 (by omega)).trans hq) (same_is q0 q1 q2 q3 lq (by omega) 9000 (by omega))
   hr ((cut_is a0 a1 a2 a3 n l hn 9000 (by omega)).trans hr) (same_is r0 r1 r2 r3 lr (by omega) 9000 (by omega))
   rfl (left_is a0 a1 a2 a3 l hn 9000 (by omega)) rfl (check_is a0 a1 a2 a3 l hn 9000 (by omega))
end Go.Proofs.YtgceecnlgjmghaaDoor.h28

