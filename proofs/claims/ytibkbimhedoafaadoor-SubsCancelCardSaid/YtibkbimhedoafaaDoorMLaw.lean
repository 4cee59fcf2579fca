/- Chapter 23, as numbers: what a change and an end are: the two sides alike. No conditions but that numbers are of 64 bits. The statements SubsChange and SubsCancel, walked where both sides answer alike. The table of the days ahead of months holds its numbers. The statements SubsChange and SubsCancel return true, whatever comes in. The table of the days ahead of months holds its numbers. -/
import Derived.Test.YtibkbimhedoafaaDoorMPure
import Derived.Test.YtibkbimhedoafaaDoorPRefD
import Derived.Test.YtibkbimhedoafaaDoorPSubH
import Derived.Test.YtibkbimhedoafaaDoorPHead23
import Derived.Test.YtibkbimhedoafaaDoorPHx1
import Derived.Test.YtibkbimhedoafaaDoorPHx2
import Derived.Deep.QuietTactic
import Derived.BigQuiet
namespace Go.Proofs.YtibkbimhedoafaaDoor.PH
open Go.RowKit Go.Proofs.YtibkbimhedoafaaDoorW.PrintWords Go.Proofs.YtibkbimhedoafaaDoorW.PrintLast Sb An Cv
theorem kk1 : 239982 ≤ KK := by unfold KK; omega
theorem ckF_eq (x : Su) : psub.ckF 1 x = some (ckV x) := check23 0 x
theorem change_same (x : Su) (on plan price : Int) : ∃ (y : Su) (t0 t1 t2 t3 er : Int),
    subs_Change.f x.id x.cu x.pl x.st x.an x.ev x.pr x.bi x.si x.en on plan price = some (y.id, y.cu, y.pl, y.st, y.an, y.ev, y.pr, y.bi, y.si, y.en, t0, t1, t2, t3, er) ∧
    quittanceref23_Change.f x.id x.cu x.pl x.st x.an x.ev x.pr x.bi x.si x.en on plan price = some (y.id, y.cu, y.pl, y.st, y.an, y.ev, y.pr, y.bi, y.si, y.en, t0, t1, t2, t3, er) := by
  unfold subs_Change.f quittanceref23_Change.f
  rw [ckF_eq, rcheck23 KK kk1 x, sday_f, rday_f]
  simp only [Option.bind_some]
  by_cases hb : ckV x ≠ 0 ∨ okD on = false ∨ plan = 0 ∨ price < 0 ∨ 4611686018427387904 ≤ price
  · rw [if_pos hb, if_pos hb]
    exact ⟨⟨0, 0, 0, 0, 0, 0, 0, 0, 0, 0⟩, 0, 0, 0, 0, 2, rfl, rfl⟩
  rw [if_neg hb, if_neg hb]
  have hc : ckB x = true := by
    cases h : ckB x with
    | true => rfl
    | false => exact absurd (.inl (by simp [ckV, h])) hb
  have c := ckB_t hc
  have hd : okD on = true := by
    cases h : okD on with
    | true => rfl
    | false => exact absurd (.inr (.inl h)) hb
  have hp : 0 ≤ price ∧ price < 4611686018427387904 := ⟨if q : price < 0 then absurd (.inr (.inr (.inr (.inl q)))) hb else by omega, if q : 4611686018427387904 ≤ price then absurd (.inr (.inr (.inr (.inr q)))) hb else by omega⟩
  by_cases h0 : x.bi = 0
  · obtain ⟨e1, e2⟩ := last_none x h0 on KK
    rw [e1, e2]
    simp only [Option.bind_some, if_true]
    exact ⟨⟨0, 0, 0, 0, 0, 0, 0, 0, 0, 0⟩, 0, 0, 0, 0, 9, rfl, rfl⟩
  · have hb1 : 1 ≤ x.bi := by have := c.b0; omega
    obtain ⟨e1, e2⟩ := last_some x c hb1 on KK (by have := kk1; omega)
    rw [e1, e2]
    simp only [Option.bind_some]
    cases hi : psub.inP x (x.bi - 1) on with
    | false =>
      rw [if_pos rfl, if_pos rfl]
      exact ⟨⟨0, 0, 0, 0, 0, 0, 0, 0, 0, 0⟩, 0, 0, 0, 0, 9, rfl, rfl⟩
    | true =>
      rw [if_neg (by decide), if_neg (by decide)]
      have g := in_bd c.ok (i := x.bi - 1) (by omega) (by have := c.tp; omega) hi
      have ho := ok_t (show An.ok x.st x.an x.ev = true from c.ok)
      rw [end_f]
      simp only [Option.bind_some]
      unfold wh
      rw [on_s x ⟨g.1, g.2.1⟩ ⟨g.2.2.1, by omega⟩ ⟨by omega, by omega⟩, on_s x ⟨g.1, g.2.1⟩ ⟨g.2.2.1, by omega⟩ ⟨by omega, by omega⟩]
      rw [on_r KK (by have := kk1; omega) x ⟨ho.2.2.1, ho.2.2.2⟩ ⟨g.1, g.2.1⟩ ⟨g.2.2.1, by omega⟩ ⟨by omega, by omega⟩ ⟨c.p0, c.p1⟩, on_r KK (by have := kk1; omega) x ⟨ho.2.2.1, ho.2.2.2⟩ ⟨g.1, g.2.1⟩ ⟨g.2.2.1, by omega⟩ ⟨by omega, by omega⟩ hp]
      simp only [Option.bind_some]
      exact ⟨⟨x.id, x.cu, plan, x.st, x.an, x.ev, price, x.bi, on, x.en⟩, _, _, _, _, _, rfl, rfl⟩
theorem cancel_same (x : Su) (on : Int) (at_ : Bool) : ∃ (y : Su) (t0 t1 t2 t3 er : Int),
    subs_Cancel.f x.id x.cu x.pl x.st x.an x.ev x.pr x.bi x.si x.en on at_ = some (y.id, y.cu, y.pl, y.st, y.an, y.ev, y.pr, y.bi, y.si, y.en, t0, t1, t2, t3, er) ∧
    quittanceref23_Cancel.f x.id x.cu x.pl x.st x.an x.ev x.pr x.bi x.si x.en on at_ = some (y.id, y.cu, y.pl, y.st, y.an, y.ev, y.pr, y.bi, y.si, y.en, t0, t1, t2, t3, er) := by
  unfold subs_Cancel.f quittanceref23_Cancel.f
  rw [ckF_eq, rcheck23 KK kk1 x, sday_f, rday_f]
  simp only [Option.bind_some]
  by_cases hb : ckV x ≠ 0 ∨ okD on = false
  · rw [if_pos hb, if_pos hb]
    exact ⟨⟨0, 0, 0, 0, 0, 0, 0, 0, 0, 0⟩, 0, 0, 0, 0, 2, rfl, rfl⟩
  rw [if_neg hb, if_neg hb]
  have hc : ckB x = true := by
    cases h : ckB x with
    | true => rfl
    | false => exact absurd (.inl (by simp [ckV, h])) hb
  have c := ckB_t hc
  have hd : okD on = true := by
    cases h : okD on with
    | true => rfl
    | false => exact absurd (.inr h) hb
  by_cases hs : x.en ≠ 0 ∨ on < x.st ∨ at_ = true ∧ on < x.si
  · rw [if_pos hs, if_pos hs]
    exact ⟨⟨0, 0, 0, 0, 0, 0, 0, 0, 0, 0⟩, 0, 0, 0, 0, 9, rfl, rfl⟩
  rw [if_neg hs, if_neg hs]
  have h0 : x.en = 0 := if q : x.en = 0 then q else absurd (.inl q) hs
  have h1 : x.st ≤ on := if q : on < x.st then absurd (.inr (.inl q)) hs else by omega
  have h2 : at_ = true → x.si ≤ on := fun g => if q : on < x.si then absurd (.inr (.inr ⟨g, q⟩)) hs else by omega
  have hF := ref_find x.st x.an x.ev on KK (by have := kk1; omega)
  have hok : An.ok x.st x.an x.ev = true := c.ok
  have hfo : fOk x.st x.an x.ev on = true := by unfold okD at hd; unfold fOk; simp at hd; simp [hok, hd]
  rw [hF]
  unfold anchor_Find.f
  simp only [Option.bind_some]
  cases hin : fIn x.st x.an x.ev on with
  | false =>
    have e : fE x.st x.an x.ev on = 7 := by simp [fE, hfo, hin]
    rw [e, if_pos (show (7 : Int) ≠ 0 by decide), if_pos (show (7 : Int) ≠ 0 by decide)]
    exact ⟨⟨0, 0, 0, 0, 0, 0, 0, 0, 0, 0⟩, 0, 0, 0, 0, 7, rfl, rfl⟩
  | true =>
    have e : fE x.st x.an x.ev on = 0 := by simp [fE, hfo, hin]
    have ev : ∀ z, fV x.st x.an x.ev on z = z := fun z => by simp [fV, hin]
    simp only [e, ev]
    have hin' := hin
    unfold fIn at hin'
    simp at hin'
    obtain ⟨⟨_, hst⟩, hk1⟩ := hin'
    obtain ⟨k0', k1, k2, k3⟩ := fk_spec hok hst
    generalize hk : fk x.st x.an x.ev on = K at *
    have tb := top_bd hok
    have hK : on < B x.st x.an x.ev (K + 1) := k3 (K + 1) (by omega) hk1
    rw [if_neg (show ¬ ((0 : Int) ≠ 0) by decide), if_neg (show ¬ ((0 : Int) ≠ 0) by decide), if_neg (show ¬ ¬ (0 ≤ K ∧ K ≤ 200000) by omega)]
    by_cases hg : K + 1 < x.bi
    · rw [if_pos hg, if_pos hg]
      exact ⟨⟨0, 0, 0, 0, 0, 0, 0, 0, 0, 0⟩, 0, 0, 0, 0, 9, rfl, rfl⟩
    rw [if_neg hg, if_neg hg]
    cases at_ with
    | false =>
      rw [if_pos rfl, if_pos rfl]
      exact ⟨⟨x.id, x.cu, x.pl, x.st, x.an, x.ev, x.pr, x.bi, x.si, B x.st x.an x.ev (K + 1)⟩, 0, 0, 0, 0, 0, rfl, rfl⟩
    | true =>
      rw [if_neg (by decide), if_neg (by decide)]
      by_cases hz : x.bi = 0
      · rw [(last_none x hz on KK).1, if_neg (by omega)]
        simp only [Option.bind_some, if_true]
        exact ⟨⟨x.id, x.cu, x.pl, x.st, x.an, x.ev, x.pr, x.bi, x.si, on⟩, 0, 0, 0, 0, 0, rfl, rfl⟩
      · have hb1 : 1 ≤ x.bi := by have := c.b0; omega
        rw [(last_some x c hb1 on KK (by have := kk1; omega)).1]
        simp only [Option.bind_some]
        have hn : nx x (x.bi - 1) = B x.st x.an x.ev x.bi := by unfold nx; rw [Int.sub_add_cancel]
        have hee : ee x (x.bi - 1) = B x.st x.an x.ev x.bi := by unfold ee; rw [if_pos h0, hn]
        by_cases hq : x.bi = K + 1
        · have hin2 : psub.inP x (x.bi - 1) on = true := by
            unfold psub.inP
            rw [hee]
            have e1 : fr x (x.bi - 1) = B x.st x.an x.ev K := by unfold fr; rw [hq, Int.add_sub_cancel]
            rw [e1, hq]
            simp [k2, hK, h2 rfl]
          have g := in_bd c.ok (i := x.bi - 1) (by omega) (by have := c.tp; omega) hin2
          have ho := ok_t hok
          rw [hin2, if_neg (by decide), if_pos hq, hn, ← hq]
          have g1 : 1 ≤ B x.st x.an x.ev x.bi ∧ B x.st x.an x.ev x.bi ≤ 3652059 := by rw [← hn]; exact ⟨g.1, g.2.1⟩
          have ew : wh x (x.bi - 1) = B x.st x.an x.ev x.bi - fst0 x (B x.st x.an x.ev x.bi) := by unfold wh; rw [hn]
          rw [ew, on_s x g1 ⟨g.2.2.1, by omega⟩ g1, on_r KK (by have := kk1; omega) x ⟨ho.2.2.1, ho.2.2.2⟩ g1 ⟨g.2.2.1, by omega⟩ g1 ⟨c.p0, c.p1⟩]
          simp only [Option.bind_some]
          exact ⟨⟨x.id, x.cu, x.pl, x.st, x.an, x.ev, x.pr, x.bi, x.si, on⟩, _, _, _, _, _, rfl, rfl⟩
        · have hin2 : psub.inP x (x.bi - 1) on = false := by
            unfold psub.inP
            rw [hee]
            have := B_mono hok (i := x.bi) (j := K) (by omega) (by omega) k1
            rw [decide_eq_false (show ¬ on < B x.st x.an x.ev x.bi by omega)]
            simp
          rw [hin2, if_pos rfl, if_neg hq]
          exact ⟨⟨x.id, x.cu, x.pl, x.st, x.an, x.ev, x.pr, x.bi, x.si, on⟩, 0, 0, 0, 0, 0, rfl, rfl⟩
end Go.Proofs.YtibkbimhedoafaaDoor.PH

namespace Go.Proofs.YtibkbimhedoafaaDoor.law23
open Go.RowKit Go.Proofs.YtibkbimhedoafaaDoor.base Go.Shelf Sb
open Go.Proofs.YtibkbimhedoafaaDoor.psub
open Go.Proofs.YtibkbimhedoafaaDoor.civ (Tab)
open Go.Proofs.YtibkbimhedoafaaDoorW.PrintWords (blk_cell blk_frozen blk_far blk_set Aside0)
set_option linter.unusedSimpArgs false
attribute [local go_sem high] PH.eqA26 PH.eqA30
theorem Bl.newE {b : Nat} (W : World) (cs : Array Value) (t : TypeId) (hb : b = W.heap.size) : Bl b cs t (W.alloc (.cells cs t)) := by subst hb; exact World.alloc_heap_new W _
set_option maxRecDepth 100000 in
set_option maxHeartbeats 4000000 in
theorem change_law (x y : Su) (on plan price t0 t1 t2 t3 er : Int) (w : World) (T : Tab w) (h1 : PH.subs_Change.f x.id x.cu x.pl x.st x.an x.ev x.pr x.bi x.si x.en on plan price = some (y.id, y.cu, y.pl, y.st, y.an, y.ev, y.pr, y.bi, y.si, y.en, t0, t1, t2, t3, er)) (h2 : PH.quittanceref23_Change.f x.id x.cu x.pl x.st x.an x.ev x.pr x.bi x.si x.en on plan price = some (y.id, y.cu, y.pl, y.st, y.an, y.ev, y.pr, y.bi, y.si, y.en, t0, t1, t2, t3, er)) :
    Calls Tryd.prog 3 #[.agg (sc x), .int .i64 on, .agg #[.int .u64 plan, .int .i64 price]] w fun e w' => e = .returned (.bool true) ∧ Below w.heap.size w w' := by
  have HC := Lib.hid (fun w (T : Tab w) => PH.subs_Change.calls x.id x.cu x.pl x.st x.an x.ev x.pr x.bi x.si x.en on plan price y.id y.cu y.pl y.st y.an y.ev y.pr y.bi y.si y.en t0 t1 t2 t3 er w (Aside0.mk T) h1)
  have HR := Lib.hid (fun w => PH.quittanceref23_Change.calls x.id x.cu x.pl x.st x.an x.ev x.pr x.bi x.si x.en on plan price y.id y.cu y.pl y.st y.an y.ev y.pr y.bi y.si y.en t0 t1 t2 t3 er w h2)
  have HH := Lib.hid (fun w (T : Tab w) => PH.quittancelaw23_head.calls true w (Aside0.mk T) rfl)
  have HT := Lib.hid T
  clear T h1 h2
  have f1 : Bl w.heap.size (sc x) 26 ((w.alloc (.cells (sc x) 26)).alloc (.cells #[.int .u64 plan, .int .i64 price] 28)) := Bl.alloc (World.alloc_heap_new w _) _
  have f2 : Bl (w.heap.size + 1) #[.int .u64 plan, .int .i64 price] 28 ((w.alloc (.cells (sc x) 26)).alloc (.cells #[.int .u64 plan, .int .i64 price] 28)) := Bl.newE _ _ _ (by simp)
  have f3 : Below w.heap.size w ((w.alloc (.cells (sc x) 26)).alloc (.cells #[.int .u64 plan, .int .i64 price] 28)) := ((Below.refl _ w).alloc (Nat.le_refl _) _).alloc (by simp) _
  unfold sc at f1 f2 f3
  unfold sc
  go_enter Tryd.func3, Tryd.ntmps3
  have F := Lib.hid (And.intro f1 (And.intro f2 f3))
  clear f1 f2 f3
  go_wp2_with fail
  refine (HC.out _ (tabB HT.out F.out.2.2)).mono ?_
  rintro e w1 ⟨rfl, B1⟩
  have g1 := F.out.1.all B1
  have g2 := F.out.2.1.all B1
  have g3 := F.out.2.2.trans (B1.mono F.out.2.2.size)
  have l1 := g2.lt
  clear B1 F
  go_upto_region 2 with fail
  have k1 := (g1.alloc (.cells (sc y) 26)).alloc (.cells #[.int .i64 t0, .int .i64 t1, .int .i64 t2, .int .i64 t3] 30)
  have k2 := (g2.alloc (.cells (sc y) 26)).alloc (.cells #[.int .i64 t0, .int .i64 t1, .int .i64 t2, .int .i64 t3] 30)
  have k3 := (g3.alloc g3.size (.cells (sc y) 26)).alloc (g3.alloc g3.size _).size (.cells #[.int .i64 t0, .int .i64 t1, .int .i64 t2, .int .i64 t3] 30)
  have k4 : Bl w1.heap.size (sc y) 26 ((w1.alloc (.cells (sc y) 26)).alloc (.cells #[.int .i64 t0, .int .i64 t1, .int .i64 t2, .int .i64 t3] 30)) := Bl.alloc (World.alloc_heap_new w1 _) _
  have k5 : Bl (w1.heap.size + 1) #[.int .i64 t0, .int .i64 t1, .int .i64 t2, .int .i64 t3] 30 ((w1.alloc (.cells (sc y) 26)).alloc (.cells #[.int .i64 t0, .int .i64 t1, .int .i64 t2, .int .i64 t3] 30)) := Bl.newE _ _ _ (by simp)
  unfold sc at k1 k2 k3 k4 k5
  clear g1 g2 g3
  generalize World.alloc (World.alloc w1 _) _ = w2 at k1 k2 k3 k4 k5 ⊢
  generalize w1.heap.size = ga at l1 k4 k5 ⊢
  have s0 := k1.c 0
  have s1 := k1.c 1
  have s2 := k1.c 2
  have s3 := k1.c 3
  have s4 := k1.c 4
  have s5 := k1.c 5
  have s6 := k1.c 6
  have s7 := k1.c 7
  have s8 := k1.c 8
  have s9 := k1.c 9
  have p0 := k2.c 0
  have p1 := k2.c 1
  simp at s0 s1 s2 s3 s4 s5 s6 s7 s8 s9 p0 p1
  have K := Lib.hid (And.intro k1 (And.intro k3 (And.intro k4 k5)))
  clear k1 k2 k3 k4 k5
  go_wp2_with fail
  refine (HR.out _).mono ?_
  rintro e w3 ⟨rfl, B3⟩
  have m4 := K.out.2.2.1.all B3
  have m5 := K.out.2.2.2.all B3
  have m3 := K.out.2.1.trans (B3.mono K.out.2.1.size)
  clear B3 K s0 s1 s2 s3 s4 s5 s6 s7 s8 s9 p0 p1
  go_upto_region 3 with fail
  have n4 := (m4.alloc (.cells (sc y) 26)).alloc (.cells #[.int .i64 t0, .int .i64 t1, .int .i64 t2, .int .i64 t3] 30)
  have n5 := (m5.alloc (.cells (sc y) 26)).alloc (.cells #[.int .i64 t0, .int .i64 t1, .int .i64 t2, .int .i64 t3] 30)
  have n3 := (m3.alloc m3.size (.cells (sc y) 26)).alloc (m3.alloc m3.size _).size (.cells #[.int .i64 t0, .int .i64 t1, .int .i64 t2, .int .i64 t3] 30)
  have n6 : Bl w3.heap.size (sc y) 26 ((w3.alloc (.cells (sc y) 26)).alloc (.cells #[.int .i64 t0, .int .i64 t1, .int .i64 t2, .int .i64 t3] 30)) := Bl.alloc (World.alloc_heap_new w3 _) _
  have n7 : Bl (w3.heap.size + 1) #[.int .i64 t0, .int .i64 t1, .int .i64 t2, .int .i64 t3] 30 ((w3.alloc (.cells (sc y) 26)).alloc (.cells #[.int .i64 t0, .int .i64 t1, .int .i64 t2, .int .i64 t3] 30)) := Bl.newE _ _ _ (by simp)
  unfold sc at n4 n5 n3 n6 n7
  clear m4 m5 m3
  generalize World.alloc (World.alloc w3 _) _ = w4 at n4 n5 n3 n6 n7 ⊢
  generalize w3.heap.size = gb at n6 n7 ⊢
  have s0 := n4.c 0
  have s1 := n4.c 1
  have s2 := n4.c 2
  have s3 := n4.c 3
  have s4 := n4.c 4
  have s5 := n4.c 5
  have s6 := n4.c 6
  have s7 := n4.c 7
  have s8 := n4.c 8
  have s9 := n4.c 9
  have r0 := n6.c 0
  have r1 := n6.c 1
  have r2 := n6.c 2
  have r3 := n6.c 3
  have r4 := n6.c 4
  have r5 := n6.c 5
  have r6 := n6.c 6
  have r7 := n6.c 7
  have r8 := n6.c 8
  have r9 := n6.c 9
  have t0_ := n5.c 0
  have t1_ := n5.c 1
  have t2_ := n5.c 2
  have t3_ := n5.c 3
  have u0_ := n7.c 0
  have u1_ := n7.c 1
  have u2_ := n7.c 2
  have u3_ := n7.c 3
  simp at s0 r0 s1 r1 s2 r2 s3 r3 s4 r4 s5 r5 s6 r6 s7 r7 s8 r8 s9 r9 t0_ u0_ t1_ u1_ t2_ u2_ t3_ u3_
  have N := Lib.hid n3
  clear n3 n4 n5 n6 n7
  go_wp2_with fail
  refine (HH.out _ (tabB HT.out N.out)).mono ?_
  rintro e w5 ⟨rfl, B5⟩
  go_wp2
  go_ret
  exact ⟨rfl, N.out.trans (B5.mono N.out.size)⟩
set_option maxRecDepth 100000 in
set_option maxHeartbeats 4000000 in
theorem cancel_law (x y : Su) (on  t0 t1 t2 t3 er : Int) (at_ : Bool) (w : World) (T : Tab w) (h1 : PH.subs_Cancel.f x.id x.cu x.pl x.st x.an x.ev x.pr x.bi x.si x.en on at_ = some (y.id, y.cu, y.pl, y.st, y.an, y.ev, y.pr, y.bi, y.si, y.en, t0, t1, t2, t3, er)) (h2 : PH.quittanceref23_Cancel.f x.id x.cu x.pl x.st x.an x.ev x.pr x.bi x.si x.en on at_ = some (y.id, y.cu, y.pl, y.st, y.an, y.ev, y.pr, y.bi, y.si, y.en, t0, t1, t2, t3, er)) :
    Calls Tryd.prog 4 #[.agg (sc x), .int .i64 on, .bool at_] w fun e w' => e = .returned (.bool true) ∧ Below w.heap.size w w' := by
  have HC := Lib.hid (fun w (T : Tab w) => PH.subs_Cancel.calls x.id x.cu x.pl x.st x.an x.ev x.pr x.bi x.si x.en on at_ y.id y.cu y.pl y.st y.an y.ev y.pr y.bi y.si y.en t0 t1 t2 t3 er w (Aside0.mk T) h1)
  have HR := Lib.hid (fun w => PH.quittanceref23_Cancel.calls x.id x.cu x.pl x.st x.an x.ev x.pr x.bi x.si x.en on at_ y.id y.cu y.pl y.st y.an y.ev y.pr y.bi y.si y.en t0 t1 t2 t3 er w h2)
  have HH := Lib.hid (fun w (T : Tab w) => PH.quittancelaw23_head.calls true w (Aside0.mk T) rfl)
  have HT := Lib.hid T
  clear T h1 h2
  have f1 : Bl w.heap.size (sc x) 26 (w.alloc (.cells (sc x) 26)) := World.alloc_heap_new w _
  have f3 : Below w.heap.size w (w.alloc (.cells (sc x) 26)) := (Below.refl _ w).alloc (Nat.le_refl _) _
  unfold sc at f1 f3
  unfold sc
  go_enter Tryd.func4, Tryd.ntmps4
  have F := Lib.hid (And.intro f1 f3)
  clear f1 f3
  go_wp2_with fail
  refine (HC.out _ (tabB HT.out F.out.2)).mono ?_
  rintro e w1 ⟨rfl, B1⟩
  have g1 := F.out.1.all B1
  have g3 := F.out.2.trans (B1.mono F.out.2.size)
  have l1 := g1.lt
  clear B1 F
  go_upto_region 2 with fail
  have k1 := (g1.alloc (.cells (sc y) 26)).alloc (.cells #[.int .i64 t0, .int .i64 t1, .int .i64 t2, .int .i64 t3] 30)
  have k3 := (g3.alloc g3.size (.cells (sc y) 26)).alloc (g3.alloc g3.size _).size (.cells #[.int .i64 t0, .int .i64 t1, .int .i64 t2, .int .i64 t3] 30)
  have k4 : Bl w1.heap.size (sc y) 26 ((w1.alloc (.cells (sc y) 26)).alloc (.cells #[.int .i64 t0, .int .i64 t1, .int .i64 t2, .int .i64 t3] 30)) := Bl.alloc (World.alloc_heap_new w1 _) _
  have k5 : Bl (w1.heap.size + 1) #[.int .i64 t0, .int .i64 t1, .int .i64 t2, .int .i64 t3] 30 ((w1.alloc (.cells (sc y) 26)).alloc (.cells #[.int .i64 t0, .int .i64 t1, .int .i64 t2, .int .i64 t3] 30)) := Bl.newE _ _ _ (by simp)
  unfold sc at k1 k3 k4 k5
  clear g1 g3
  generalize World.alloc (World.alloc w1 _) _ = w2 at k1 k3 k4 k5 ⊢
  generalize w1.heap.size = ga at l1 k4 k5 ⊢
  have s0 := k1.c 0
  have s1 := k1.c 1
  have s2 := k1.c 2
  have s3 := k1.c 3
  have s4 := k1.c 4
  have s5 := k1.c 5
  have s6 := k1.c 6
  have s7 := k1.c 7
  have s8 := k1.c 8
  have s9 := k1.c 9
  simp at s0 s1 s2 s3 s4 s5 s6 s7 s8 s9
  have K := Lib.hid (And.intro k1 (And.intro k3 (And.intro k4 k5)))
  clear k1 k3 k4 k5
  go_wp2_with fail
  refine (HR.out _).mono ?_
  rintro e w3 ⟨rfl, B3⟩
  have m4 := K.out.2.2.1.all B3
  have m5 := K.out.2.2.2.all B3
  have m3 := K.out.2.1.trans (B3.mono K.out.2.1.size)
  clear B3 K s0 s1 s2 s3 s4 s5 s6 s7 s8 s9
  go_upto_region 3 with fail
  have n4 := (m4.alloc (.cells (sc y) 26)).alloc (.cells #[.int .i64 t0, .int .i64 t1, .int .i64 t2, .int .i64 t3] 30)
  have n5 := (m5.alloc (.cells (sc y) 26)).alloc (.cells #[.int .i64 t0, .int .i64 t1, .int .i64 t2, .int .i64 t3] 30)
  have n3 := (m3.alloc m3.size (.cells (sc y) 26)).alloc (m3.alloc m3.size _).size (.cells #[.int .i64 t0, .int .i64 t1, .int .i64 t2, .int .i64 t3] 30)
  have n6 : Bl w3.heap.size (sc y) 26 ((w3.alloc (.cells (sc y) 26)).alloc (.cells #[.int .i64 t0, .int .i64 t1, .int .i64 t2, .int .i64 t3] 30)) := Bl.alloc (World.alloc_heap_new w3 _) _
  have n7 : Bl (w3.heap.size + 1) #[.int .i64 t0, .int .i64 t1, .int .i64 t2, .int .i64 t3] 30 ((w3.alloc (.cells (sc y) 26)).alloc (.cells #[.int .i64 t0, .int .i64 t1, .int .i64 t2, .int .i64 t3] 30)) := Bl.newE _ _ _ (by simp)
  unfold sc at n4 n5 n3 n6 n7
  clear m4 m5 m3
  generalize World.alloc (World.alloc w3 _) _ = w4 at n4 n5 n3 n6 n7 ⊢
  generalize w3.heap.size = gb at n6 n7 ⊢
  have s0 := n4.c 0
  have s1 := n4.c 1
  have s2 := n4.c 2
  have s3 := n4.c 3
  have s4 := n4.c 4
  have s5 := n4.c 5
  have s6 := n4.c 6
  have s7 := n4.c 7
  have s8 := n4.c 8
  have s9 := n4.c 9
  have r0 := n6.c 0
  have r1 := n6.c 1
  have r2 := n6.c 2
  have r3 := n6.c 3
  have r4 := n6.c 4
  have r5 := n6.c 5
  have r6 := n6.c 6
  have r7 := n6.c 7
  have r8 := n6.c 8
  have r9 := n6.c 9
  have t0_ := n5.c 0
  have t1_ := n5.c 1
  have t2_ := n5.c 2
  have t3_ := n5.c 3
  have u0_ := n7.c 0
  have u1_ := n7.c 1
  have u2_ := n7.c 2
  have u3_ := n7.c 3
  simp at s0 r0 s1 r1 s2 r2 s3 r3 s4 r4 s5 r5 s6 r6 s7 r7 s8 r8 s9 r9 t0_ u0_ t1_ u1_ t2_ u2_ t3_ u3_
  have N := Lib.hid n3
  clear n3 n4 n5 n6 n7
  go_wp2_with fail
  refine (HH.out _ (tabB HT.out N.out)).mono ?_
  rintro e w5 ⟨rfl, B5⟩
  go_wp2
  go_ret
  exact ⟨rfl, N.out.trans (B5.mono N.out.size)⟩
end Go.Proofs.YtibkbimhedoafaaDoor.law23

namespace Go.Proofs.YtibkbimhedoafaaDoor.law23
open Go.RowKit Sb
open Go.Proofs.YtibkbimhedoafaaDoor.psub (sc)
open Go.Proofs.YtibkbimhedoafaaDoor.civ (Tab)
theorem subsChange (x : Su) (on plan price : Int) (w : World) (T : Tab w) : Calls Tryd.prog 3 #[.agg (sc x), .int .i64 on, .agg #[.int .u64 plan, .int .i64 price]] w fun e w' => e = .returned (.bool true) ∧ Below w.heap.size w w' := by
  obtain ⟨y, t0, t1, t2, t3, er, h1, h2⟩ := PH.change_same x on plan price
  exact change_law x y on plan price t0 t1 t2 t3 er w T h1 h2
theorem subsCancel (x : Su) (on : Int) (at_ : Bool) (w : World) (T : Tab w) : Calls Tryd.prog 4 #[.agg (sc x), .int .i64 on, .bool at_] w fun e w' => e = .returned (.bool true) ∧ Below w.heap.size w w' := by
  obtain ⟨y, t0, t1, t2, t3, er, h1, h2⟩ := PH.cancel_same x on at_
  exact cancel_law x y on t0 t1 t2 t3 er at_ w T h1 h2
end Go.Proofs.YtibkbimhedoafaaDoor.law23

