/- The statement SubsDue, walked where both sides answer alike. The table of the days ahead of months holds its numbers. -/
import Derived.Test.YtibkbimhedoafaaDoorPHead23
import Derived.Test.YtibkbimhedoafaaDoorPSubE
import Derived.Test.YtibkbimhedoafaaDoorPHx1
import Derived.Test.YtibkbimhedoafaaDoorPHx4
import Derived.Test.YtibkbimhedoafaaDoorPHx13
import Derived.Test.YtibkbimhedoafaaDoorPHx10
import Derived.Test.YtibkbimhedoafaaDoorPHx12
import Derived.Test.YtibkbimhedoafaaDoorPHx8
import Derived.Deep.QuietTactic
import Derived.Deep.RegionHeld3
import Derived.BigQuiet
namespace Go.Proofs.YtibkbimhedoafaaDoor.law23
open Go.RowKit Go.Proofs.YtibkbimhedoafaaDoor.base Go.Shelf Sb
open Go.Proofs.YtibkbimhedoafaaDoor.psub
open Go.Proofs.YtibkbimhedoafaaDoor.civ (Tab)
open Go.Proofs.YtibkbimhedoafaaDoorW.PrintWords
set_option linter.unusedSimpArgs false
attribute [local go_sem high] PH.eqA26
theorem Bl.newH {b : Nat} (W : World) (cs : Array Value) (t : TypeId) (hb : b = W.heap.size) : Bl b cs t (W.alloc (.cells cs t)) := by subst hb; exact World.alloc_heap_new W _
/-- The boxes, and what was billed, on both sides. -/
structure DI (w : World) (ga gb : Nat) (x z : Array Value) (A A2 : Option Addr) (L : List PH.S47) (W : World) : Prop where
  bx : Bl w.heap.size x 26 W
  ba : Bl ga z 26 W
  bb : Bl gb z 26 W
  bel : Below w.heap.size w W
  r1 : Kd.C PH.k47 W A L.length L
  r2 : Kd.C PH.k47 W A2 L.length L
theorem DI.all {w W V : World} {ga gb : Nat} {x z : Array Value} {A A2 : Option Addr} {L : List PH.S47} (h : DI w ga gb x z A A2 L W) (hB : Below W.heap.size W V) : DI w ga gb x z A A2 L V :=
  ⟨h.bx.all hB, h.ba.all hB, h.bb.all hB, h.bel.trans (hB.mono h.bel.size), Kd.C_below h.r1 hB, Kd.C_below h.r2 hB⟩
theorem DI.dr {w W : World} {ga gb : Nat} {x z : Array Value} {A A2 : Option Addr} {L : List PH.S47} (h : DI w ga gb x z A A2 L W) : DI w ga gb x z A A2 L W.drew := h.all (Below.refl _ _).drew
theorem DI.drN {w W : World} {ga gb : Nat} {x z : Array Value} {A A2 : Option Addr} {L : List PH.S47} (h : DI w ga gb x z A A2 L W) (n : Nat) : DI w ga gb x z A A2 L (W.drewN n) := h.all (pw_below_drewN (Below.refl _ _) n)
set_option maxRecDepth 100000 in
set_option maxHeartbeats 8000000 in
theorem due_law (x z : Su) (today most er a g c : Int) (L : List PH.S47) (w : World) (T : Tab w) (h1 : PH.subs_Due.f x.id x.cu x.pl x.st x.an x.ev x.pr x.bi x.si x.en today most = some (L, z.id, z.cu, z.pl, z.st, z.an, z.ev, z.pr, z.bi, z.si, z.en, er)) (h2 : PH.quittanceref23_Due.f 400000 x.id x.cu x.pl x.st x.an x.ev x.pr x.bi x.si x.en today most = some (L, z.id, z.cu, z.pl, z.st, z.an, z.ev, z.pr, z.bi, z.si, z.en, er))
    (h3 : PH.subs_State.f 1 x.id x.cu x.pl x.st x.an x.ev x.pr x.bi x.si x.en today = some (a, g)) (h4 : PH.quittanceref23_State.f 400000 x.id x.cu x.pl x.st x.an x.ev x.pr x.bi x.si x.en today = some (a, g)) (h5 : PH.subs_Check.f 1 x.id x.cu x.pl x.st x.an x.ev x.pr x.bi x.si x.en = some c) (h6 : PH.quittanceref23_Check.f 400000 x.id x.cu x.pl x.st x.an x.ev x.pr x.bi x.si x.en = some c) (h7 : PH.quittanceref23_Same.f 100001 L L = some true) :
    Calls Tryd.prog 6 #[.agg (sc x), .int .i64 today, .int .i64 most] w fun e w' => e = .returned (.bool true) ∧ Below w.heap.size w w' := by
  have HC := Lib.hid (fun w (T : Tab w) => PH.subs_Due.calls x.id x.cu x.pl x.st x.an x.ev x.pr x.bi x.si x.en today most L z.id z.cu z.pl z.st z.an z.ev z.pr z.bi z.si z.en er w (Aside0.mk T) h1)
  have HR := Lib.hid (fun w => PH.quittanceref23_Due.calls 400000 x.id x.cu x.pl x.st x.an x.ev x.pr x.bi x.si x.en today most L z.id z.cu z.pl z.st z.an z.ev z.pr z.bi z.si z.en er w h2)
  have HS := Lib.hid (fun w (T : Tab w) => PH.subs_State.calls 1 x.id x.cu x.pl x.st x.an x.ev x.pr x.bi x.si x.en today a g w (Aside0.mk T) h3)
  have HQ := Lib.hid (fun w => PH.quittanceref23_State.calls 400000 x.id x.cu x.pl x.st x.an x.ev x.pr x.bi x.si x.en today a g w h4)
  have HK := Lib.hid (fun w (T : Tab w) => PH.subs_Check.calls 1 x.id x.cu x.pl x.st x.an x.ev x.pr x.bi x.si x.en c w (Aside0.mk T) h5)
  have HJ := Lib.hid (fun w => PH.quittanceref23_Check.calls 400000 x.id x.cu x.pl x.st x.an x.ev x.pr x.bi x.si x.en c w h6)
  have HH := Lib.hid (fun w (T : Tab w) => PH.quittancelaw23_head.calls true w (Aside0.mk T) rfl)
  have HT := Lib.hid T
  have H7 := Lib.hid h7
  clear T h1 h2 h3 h4 h5 h6 h7
  have f1 : Bl w.heap.size (sc x) 26 (w.alloc (.cells (sc x) 26)) := World.alloc_heap_new w _
  have f3 : Below w.heap.size w (w.alloc (.cells (sc x) 26)) := (Below.refl _ w).alloc (Nat.le_refl _) _
  unfold sc at f1 f3
  unfold sc
  go_enter Tryd.func6, Tryd.ntmps6
  have F := Lib.hid (And.intro f1 f3)
  clear f1 f3
  go_wp2_with fail
  refine (HC.out _ (tabB HT.out F.out.2)).mono ?_
  rintro e w1 ⟨v, rfl, hR, B1⟩
  obtain ⟨A, cc, rfl, hcc, hC⟩ := Kd.R_reads hR
  have g1 := F.out.1.all B1
  have g3 := F.out.2.trans (B1.mono F.out.2.size)
  have l1 := g1.lt
  clear B1 F hR
  go_upto_region 2 with fail
  have k1 := g1.alloc (.cells (sc z) 26)
  have k3 := g3.alloc g3.size (.cells (sc z) 26)
  have k4 : Bl w1.heap.size (sc z) 26 (w1.alloc (.cells (sc z) 26)) := World.alloc_heap_new w1 _
  have k5 := Kd.C_below hC (below_alloc (Below.refl _ w1) (.cells (sc z) 26))
  unfold sc at k1 k3 k4 k5
  clear g1 g3 hC
  generalize World.alloc w1 _ = w2 at k1 k3 k4 k5 ⊢
  generalize w1.heap.size = ga at l1 k4 ⊢
  have p0 := k1.c 0
  have p1 := k1.c 1
  have p2 := k1.c 2
  have p3 := k1.c 3
  have p4 := k1.c 4
  have p5 := k1.c 5
  have p6 := k1.c 6
  have p7 := k1.c 7
  have p8 := k1.c 8
  have p9 := k1.c 9
  simp at p0 p1 p2 p3 p4 p5 p6 p7 p8 p9
  have K := Lib.hid (And.intro k1 (And.intro k3 (And.intro k4 k5)))
  clear k1 k3 k4 k5
  go_wp2_with fail
  refine (HR.out _).mono ?_
  rintro e w3 ⟨v, rfl, hR, B3⟩
  obtain ⟨A2, c2, rfl, hc2, hC⟩ := Kd.R_reads hR
  have g1 := K.out.1.all B3
  have g3 := K.out.2.1.trans (B3.mono K.out.2.1.size)
  have g4 := K.out.2.2.1.all B3
  have g5 := Kd.C_below K.out.2.2.2 B3
  have l2 := g4.lt
  have l3 := g1.lt
  clear B3 K hR p0 p1 p2 p3 p4 p5 p6 p7 p8 p9
  go_upto_region 3 with fail
  have m0 : DI w ga w3.heap.size (sc x) (sc z) A A2 L (w3.alloc (.cells (sc z) 26)) := ⟨g1.alloc _, g4.alloc _, World.alloc_heap_new w3 _, g3.alloc g3.size _, Kd.C_below g5 (below_alloc (Below.refl _ w3) _), Kd.C_below hC (below_alloc (Below.refl _ w3) _)⟩
  unfold sc at m0
  clear g1 g3 g4 g5 hC
  generalize World.alloc w3 _ = w4 at m0 ⊢
  generalize w3.heap.size = gb at l2 l3 m0 ⊢
  have p0 := m0.bx.c 0
  have p1 := m0.bx.c 1
  have p2 := m0.bx.c 2
  have p3 := m0.bx.c 3
  have p4 := m0.bx.c 4
  have p5 := m0.bx.c 5
  have p6 := m0.bx.c 6
  have p7 := m0.bx.c 7
  have p8 := m0.bx.c 8
  have p9 := m0.bx.c 9
  simp at p0 p1 p2 p3 p4 p5 p6 p7 p8 p9
  have M := Lib.hid m0
  clear m0
  go_wp2_with fail
  refine (HS.out _ (tabB HT.out M.out.bel)).mono ?_
  rintro e w5 ⟨rfl, B5⟩
  have m0 := M.out.all B5
  clear B5 M p0 p1 p2 p3 p4 p5 p6 p7 p8 p9
  have p0 := m0.bx.c 0
  have p1 := m0.bx.c 1
  have p2 := m0.bx.c 2
  have p3 := m0.bx.c 3
  have p4 := m0.bx.c 4
  have p5 := m0.bx.c 5
  have p6 := m0.bx.c 6
  have p7 := m0.bx.c 7
  have p8 := m0.bx.c 8
  have p9 := m0.bx.c 9
  simp at p0 p1 p2 p3 p4 p5 p6 p7 p8 p9
  have M := Lib.hid m0
  clear m0
  go_wp2_with fail
  refine (HQ.out _).mono ?_
  rintro e w6 ⟨rfl, B6⟩
  have m0 := M.out.all B6
  clear B6 M p0 p1 p2 p3 p4 p5 p6 p7 p8 p9
  go_upto_region 5 with fail
  have HW := Lib.hid m0
  have KD := Lib.hid m0.dr
  clear m0
  have hs0 : ∀ V : World, DI w ga gb #[.int .u64 x.id, .int .u64 x.cu, .int .u64 x.pl, .int .i64 x.st, .int .i64 x.an, .int .i64 x.ev, .int .i64 x.pr, .int .i64 x.bi, .int .i64 x.si, .int .i64 x.en] #[.int .u64 z.id, .int .u64 z.cu, .int .u64 z.pl, .int .i64 z.st, .int .i64 z.an, .int .i64 z.ev, .int .i64 z.pr, .int .i64 z.bi, .int .i64 z.si, .int .i64 z.en] A A2 L V → V.cell? ⟨w.heap.size, 0, none⟩ = some (.int .u64 x.id) := fun V h => h.bx.c 0
  have hs1 : ∀ V : World, DI w ga gb #[.int .u64 x.id, .int .u64 x.cu, .int .u64 x.pl, .int .i64 x.st, .int .i64 x.an, .int .i64 x.ev, .int .i64 x.pr, .int .i64 x.bi, .int .i64 x.si, .int .i64 x.en] #[.int .u64 z.id, .int .u64 z.cu, .int .u64 z.pl, .int .i64 z.st, .int .i64 z.an, .int .i64 z.ev, .int .i64 z.pr, .int .i64 z.bi, .int .i64 z.si, .int .i64 z.en] A A2 L V → V.cell? ⟨w.heap.size, 1, none⟩ = some (.int .u64 x.cu) := fun V h => h.bx.c 1
  have hs2 : ∀ V : World, DI w ga gb #[.int .u64 x.id, .int .u64 x.cu, .int .u64 x.pl, .int .i64 x.st, .int .i64 x.an, .int .i64 x.ev, .int .i64 x.pr, .int .i64 x.bi, .int .i64 x.si, .int .i64 x.en] #[.int .u64 z.id, .int .u64 z.cu, .int .u64 z.pl, .int .i64 z.st, .int .i64 z.an, .int .i64 z.ev, .int .i64 z.pr, .int .i64 z.bi, .int .i64 z.si, .int .i64 z.en] A A2 L V → V.cell? ⟨w.heap.size, 2, none⟩ = some (.int .u64 x.pl) := fun V h => h.bx.c 2
  have hs3 : ∀ V : World, DI w ga gb #[.int .u64 x.id, .int .u64 x.cu, .int .u64 x.pl, .int .i64 x.st, .int .i64 x.an, .int .i64 x.ev, .int .i64 x.pr, .int .i64 x.bi, .int .i64 x.si, .int .i64 x.en] #[.int .u64 z.id, .int .u64 z.cu, .int .u64 z.pl, .int .i64 z.st, .int .i64 z.an, .int .i64 z.ev, .int .i64 z.pr, .int .i64 z.bi, .int .i64 z.si, .int .i64 z.en] A A2 L V → V.cell? ⟨w.heap.size, 3, none⟩ = some (.int .i64 x.st) := fun V h => h.bx.c 3
  have hs4 : ∀ V : World, DI w ga gb #[.int .u64 x.id, .int .u64 x.cu, .int .u64 x.pl, .int .i64 x.st, .int .i64 x.an, .int .i64 x.ev, .int .i64 x.pr, .int .i64 x.bi, .int .i64 x.si, .int .i64 x.en] #[.int .u64 z.id, .int .u64 z.cu, .int .u64 z.pl, .int .i64 z.st, .int .i64 z.an, .int .i64 z.ev, .int .i64 z.pr, .int .i64 z.bi, .int .i64 z.si, .int .i64 z.en] A A2 L V → V.cell? ⟨w.heap.size, 4, none⟩ = some (.int .i64 x.an) := fun V h => h.bx.c 4
  have hs5 : ∀ V : World, DI w ga gb #[.int .u64 x.id, .int .u64 x.cu, .int .u64 x.pl, .int .i64 x.st, .int .i64 x.an, .int .i64 x.ev, .int .i64 x.pr, .int .i64 x.bi, .int .i64 x.si, .int .i64 x.en] #[.int .u64 z.id, .int .u64 z.cu, .int .u64 z.pl, .int .i64 z.st, .int .i64 z.an, .int .i64 z.ev, .int .i64 z.pr, .int .i64 z.bi, .int .i64 z.si, .int .i64 z.en] A A2 L V → V.cell? ⟨w.heap.size, 5, none⟩ = some (.int .i64 x.ev) := fun V h => h.bx.c 5
  have hs6 : ∀ V : World, DI w ga gb #[.int .u64 x.id, .int .u64 x.cu, .int .u64 x.pl, .int .i64 x.st, .int .i64 x.an, .int .i64 x.ev, .int .i64 x.pr, .int .i64 x.bi, .int .i64 x.si, .int .i64 x.en] #[.int .u64 z.id, .int .u64 z.cu, .int .u64 z.pl, .int .i64 z.st, .int .i64 z.an, .int .i64 z.ev, .int .i64 z.pr, .int .i64 z.bi, .int .i64 z.si, .int .i64 z.en] A A2 L V → V.cell? ⟨w.heap.size, 6, none⟩ = some (.int .i64 x.pr) := fun V h => h.bx.c 6
  have hs7 : ∀ V : World, DI w ga gb #[.int .u64 x.id, .int .u64 x.cu, .int .u64 x.pl, .int .i64 x.st, .int .i64 x.an, .int .i64 x.ev, .int .i64 x.pr, .int .i64 x.bi, .int .i64 x.si, .int .i64 x.en] #[.int .u64 z.id, .int .u64 z.cu, .int .u64 z.pl, .int .i64 z.st, .int .i64 z.an, .int .i64 z.ev, .int .i64 z.pr, .int .i64 z.bi, .int .i64 z.si, .int .i64 z.en] A A2 L V → V.cell? ⟨w.heap.size, 7, none⟩ = some (.int .i64 x.bi) := fun V h => h.bx.c 7
  have hs8 : ∀ V : World, DI w ga gb #[.int .u64 x.id, .int .u64 x.cu, .int .u64 x.pl, .int .i64 x.st, .int .i64 x.an, .int .i64 x.ev, .int .i64 x.pr, .int .i64 x.bi, .int .i64 x.si, .int .i64 x.en] #[.int .u64 z.id, .int .u64 z.cu, .int .u64 z.pl, .int .i64 z.st, .int .i64 z.an, .int .i64 z.ev, .int .i64 z.pr, .int .i64 z.bi, .int .i64 z.si, .int .i64 z.en] A A2 L V → V.cell? ⟨w.heap.size, 8, none⟩ = some (.int .i64 x.si) := fun V h => h.bx.c 8
  have hs9 : ∀ V : World, DI w ga gb #[.int .u64 x.id, .int .u64 x.cu, .int .u64 x.pl, .int .i64 x.st, .int .i64 x.an, .int .i64 x.ev, .int .i64 x.pr, .int .i64 x.bi, .int .i64 x.si, .int .i64 x.en] #[.int .u64 z.id, .int .u64 z.cu, .int .u64 z.pl, .int .i64 z.st, .int .i64 z.an, .int .i64 z.ev, .int .i64 z.pr, .int .i64 z.bi, .int .i64 z.si, .int .i64 z.en] A A2 L V → V.cell? ⟨w.heap.size, 9, none⟩ = some (.int .i64 x.en) := fun V h => h.bx.c 9
  have ha0 : ∀ V : World, DI w ga gb #[.int .u64 x.id, .int .u64 x.cu, .int .u64 x.pl, .int .i64 x.st, .int .i64 x.an, .int .i64 x.ev, .int .i64 x.pr, .int .i64 x.bi, .int .i64 x.si, .int .i64 x.en] #[.int .u64 z.id, .int .u64 z.cu, .int .u64 z.pl, .int .i64 z.st, .int .i64 z.an, .int .i64 z.ev, .int .i64 z.pr, .int .i64 z.bi, .int .i64 z.si, .int .i64 z.en] A A2 L V → V.cell? ⟨ga, 0, none⟩ = some (.int .u64 z.id) := fun V h => h.ba.c 0
  have ha1 : ∀ V : World, DI w ga gb #[.int .u64 x.id, .int .u64 x.cu, .int .u64 x.pl, .int .i64 x.st, .int .i64 x.an, .int .i64 x.ev, .int .i64 x.pr, .int .i64 x.bi, .int .i64 x.si, .int .i64 x.en] #[.int .u64 z.id, .int .u64 z.cu, .int .u64 z.pl, .int .i64 z.st, .int .i64 z.an, .int .i64 z.ev, .int .i64 z.pr, .int .i64 z.bi, .int .i64 z.si, .int .i64 z.en] A A2 L V → V.cell? ⟨ga, 1, none⟩ = some (.int .u64 z.cu) := fun V h => h.ba.c 1
  have ha2 : ∀ V : World, DI w ga gb #[.int .u64 x.id, .int .u64 x.cu, .int .u64 x.pl, .int .i64 x.st, .int .i64 x.an, .int .i64 x.ev, .int .i64 x.pr, .int .i64 x.bi, .int .i64 x.si, .int .i64 x.en] #[.int .u64 z.id, .int .u64 z.cu, .int .u64 z.pl, .int .i64 z.st, .int .i64 z.an, .int .i64 z.ev, .int .i64 z.pr, .int .i64 z.bi, .int .i64 z.si, .int .i64 z.en] A A2 L V → V.cell? ⟨ga, 2, none⟩ = some (.int .u64 z.pl) := fun V h => h.ba.c 2
  have ha3 : ∀ V : World, DI w ga gb #[.int .u64 x.id, .int .u64 x.cu, .int .u64 x.pl, .int .i64 x.st, .int .i64 x.an, .int .i64 x.ev, .int .i64 x.pr, .int .i64 x.bi, .int .i64 x.si, .int .i64 x.en] #[.int .u64 z.id, .int .u64 z.cu, .int .u64 z.pl, .int .i64 z.st, .int .i64 z.an, .int .i64 z.ev, .int .i64 z.pr, .int .i64 z.bi, .int .i64 z.si, .int .i64 z.en] A A2 L V → V.cell? ⟨ga, 3, none⟩ = some (.int .i64 z.st) := fun V h => h.ba.c 3
  have ha4 : ∀ V : World, DI w ga gb #[.int .u64 x.id, .int .u64 x.cu, .int .u64 x.pl, .int .i64 x.st, .int .i64 x.an, .int .i64 x.ev, .int .i64 x.pr, .int .i64 x.bi, .int .i64 x.si, .int .i64 x.en] #[.int .u64 z.id, .int .u64 z.cu, .int .u64 z.pl, .int .i64 z.st, .int .i64 z.an, .int .i64 z.ev, .int .i64 z.pr, .int .i64 z.bi, .int .i64 z.si, .int .i64 z.en] A A2 L V → V.cell? ⟨ga, 4, none⟩ = some (.int .i64 z.an) := fun V h => h.ba.c 4
  have ha5 : ∀ V : World, DI w ga gb #[.int .u64 x.id, .int .u64 x.cu, .int .u64 x.pl, .int .i64 x.st, .int .i64 x.an, .int .i64 x.ev, .int .i64 x.pr, .int .i64 x.bi, .int .i64 x.si, .int .i64 x.en] #[.int .u64 z.id, .int .u64 z.cu, .int .u64 z.pl, .int .i64 z.st, .int .i64 z.an, .int .i64 z.ev, .int .i64 z.pr, .int .i64 z.bi, .int .i64 z.si, .int .i64 z.en] A A2 L V → V.cell? ⟨ga, 5, none⟩ = some (.int .i64 z.ev) := fun V h => h.ba.c 5
  have ha6 : ∀ V : World, DI w ga gb #[.int .u64 x.id, .int .u64 x.cu, .int .u64 x.pl, .int .i64 x.st, .int .i64 x.an, .int .i64 x.ev, .int .i64 x.pr, .int .i64 x.bi, .int .i64 x.si, .int .i64 x.en] #[.int .u64 z.id, .int .u64 z.cu, .int .u64 z.pl, .int .i64 z.st, .int .i64 z.an, .int .i64 z.ev, .int .i64 z.pr, .int .i64 z.bi, .int .i64 z.si, .int .i64 z.en] A A2 L V → V.cell? ⟨ga, 6, none⟩ = some (.int .i64 z.pr) := fun V h => h.ba.c 6
  have ha7 : ∀ V : World, DI w ga gb #[.int .u64 x.id, .int .u64 x.cu, .int .u64 x.pl, .int .i64 x.st, .int .i64 x.an, .int .i64 x.ev, .int .i64 x.pr, .int .i64 x.bi, .int .i64 x.si, .int .i64 x.en] #[.int .u64 z.id, .int .u64 z.cu, .int .u64 z.pl, .int .i64 z.st, .int .i64 z.an, .int .i64 z.ev, .int .i64 z.pr, .int .i64 z.bi, .int .i64 z.si, .int .i64 z.en] A A2 L V → V.cell? ⟨ga, 7, none⟩ = some (.int .i64 z.bi) := fun V h => h.ba.c 7
  have ha8 : ∀ V : World, DI w ga gb #[.int .u64 x.id, .int .u64 x.cu, .int .u64 x.pl, .int .i64 x.st, .int .i64 x.an, .int .i64 x.ev, .int .i64 x.pr, .int .i64 x.bi, .int .i64 x.si, .int .i64 x.en] #[.int .u64 z.id, .int .u64 z.cu, .int .u64 z.pl, .int .i64 z.st, .int .i64 z.an, .int .i64 z.ev, .int .i64 z.pr, .int .i64 z.bi, .int .i64 z.si, .int .i64 z.en] A A2 L V → V.cell? ⟨ga, 8, none⟩ = some (.int .i64 z.si) := fun V h => h.ba.c 8
  have ha9 : ∀ V : World, DI w ga gb #[.int .u64 x.id, .int .u64 x.cu, .int .u64 x.pl, .int .i64 x.st, .int .i64 x.an, .int .i64 x.ev, .int .i64 x.pr, .int .i64 x.bi, .int .i64 x.si, .int .i64 x.en] #[.int .u64 z.id, .int .u64 z.cu, .int .u64 z.pl, .int .i64 z.st, .int .i64 z.an, .int .i64 z.ev, .int .i64 z.pr, .int .i64 z.bi, .int .i64 z.si, .int .i64 z.en] A A2 L V → V.cell? ⟨ga, 9, none⟩ = some (.int .i64 z.en) := fun V h => h.ba.c 9
  have hb0 : ∀ V : World, DI w ga gb #[.int .u64 x.id, .int .u64 x.cu, .int .u64 x.pl, .int .i64 x.st, .int .i64 x.an, .int .i64 x.ev, .int .i64 x.pr, .int .i64 x.bi, .int .i64 x.si, .int .i64 x.en] #[.int .u64 z.id, .int .u64 z.cu, .int .u64 z.pl, .int .i64 z.st, .int .i64 z.an, .int .i64 z.ev, .int .i64 z.pr, .int .i64 z.bi, .int .i64 z.si, .int .i64 z.en] A A2 L V → V.cell? ⟨gb, 0, none⟩ = some (.int .u64 z.id) := fun V h => h.bb.c 0
  have hb1 : ∀ V : World, DI w ga gb #[.int .u64 x.id, .int .u64 x.cu, .int .u64 x.pl, .int .i64 x.st, .int .i64 x.an, .int .i64 x.ev, .int .i64 x.pr, .int .i64 x.bi, .int .i64 x.si, .int .i64 x.en] #[.int .u64 z.id, .int .u64 z.cu, .int .u64 z.pl, .int .i64 z.st, .int .i64 z.an, .int .i64 z.ev, .int .i64 z.pr, .int .i64 z.bi, .int .i64 z.si, .int .i64 z.en] A A2 L V → V.cell? ⟨gb, 1, none⟩ = some (.int .u64 z.cu) := fun V h => h.bb.c 1
  have hb2 : ∀ V : World, DI w ga gb #[.int .u64 x.id, .int .u64 x.cu, .int .u64 x.pl, .int .i64 x.st, .int .i64 x.an, .int .i64 x.ev, .int .i64 x.pr, .int .i64 x.bi, .int .i64 x.si, .int .i64 x.en] #[.int .u64 z.id, .int .u64 z.cu, .int .u64 z.pl, .int .i64 z.st, .int .i64 z.an, .int .i64 z.ev, .int .i64 z.pr, .int .i64 z.bi, .int .i64 z.si, .int .i64 z.en] A A2 L V → V.cell? ⟨gb, 2, none⟩ = some (.int .u64 z.pl) := fun V h => h.bb.c 2
  have hb3 : ∀ V : World, DI w ga gb #[.int .u64 x.id, .int .u64 x.cu, .int .u64 x.pl, .int .i64 x.st, .int .i64 x.an, .int .i64 x.ev, .int .i64 x.pr, .int .i64 x.bi, .int .i64 x.si, .int .i64 x.en] #[.int .u64 z.id, .int .u64 z.cu, .int .u64 z.pl, .int .i64 z.st, .int .i64 z.an, .int .i64 z.ev, .int .i64 z.pr, .int .i64 z.bi, .int .i64 z.si, .int .i64 z.en] A A2 L V → V.cell? ⟨gb, 3, none⟩ = some (.int .i64 z.st) := fun V h => h.bb.c 3
  have hb4 : ∀ V : World, DI w ga gb #[.int .u64 x.id, .int .u64 x.cu, .int .u64 x.pl, .int .i64 x.st, .int .i64 x.an, .int .i64 x.ev, .int .i64 x.pr, .int .i64 x.bi, .int .i64 x.si, .int .i64 x.en] #[.int .u64 z.id, .int .u64 z.cu, .int .u64 z.pl, .int .i64 z.st, .int .i64 z.an, .int .i64 z.ev, .int .i64 z.pr, .int .i64 z.bi, .int .i64 z.si, .int .i64 z.en] A A2 L V → V.cell? ⟨gb, 4, none⟩ = some (.int .i64 z.an) := fun V h => h.bb.c 4
  have hb5 : ∀ V : World, DI w ga gb #[.int .u64 x.id, .int .u64 x.cu, .int .u64 x.pl, .int .i64 x.st, .int .i64 x.an, .int .i64 x.ev, .int .i64 x.pr, .int .i64 x.bi, .int .i64 x.si, .int .i64 x.en] #[.int .u64 z.id, .int .u64 z.cu, .int .u64 z.pl, .int .i64 z.st, .int .i64 z.an, .int .i64 z.ev, .int .i64 z.pr, .int .i64 z.bi, .int .i64 z.si, .int .i64 z.en] A A2 L V → V.cell? ⟨gb, 5, none⟩ = some (.int .i64 z.ev) := fun V h => h.bb.c 5
  have hb6 : ∀ V : World, DI w ga gb #[.int .u64 x.id, .int .u64 x.cu, .int .u64 x.pl, .int .i64 x.st, .int .i64 x.an, .int .i64 x.ev, .int .i64 x.pr, .int .i64 x.bi, .int .i64 x.si, .int .i64 x.en] #[.int .u64 z.id, .int .u64 z.cu, .int .u64 z.pl, .int .i64 z.st, .int .i64 z.an, .int .i64 z.ev, .int .i64 z.pr, .int .i64 z.bi, .int .i64 z.si, .int .i64 z.en] A A2 L V → V.cell? ⟨gb, 6, none⟩ = some (.int .i64 z.pr) := fun V h => h.bb.c 6
  have hb7 : ∀ V : World, DI w ga gb #[.int .u64 x.id, .int .u64 x.cu, .int .u64 x.pl, .int .i64 x.st, .int .i64 x.an, .int .i64 x.ev, .int .i64 x.pr, .int .i64 x.bi, .int .i64 x.si, .int .i64 x.en] #[.int .u64 z.id, .int .u64 z.cu, .int .u64 z.pl, .int .i64 z.st, .int .i64 z.an, .int .i64 z.ev, .int .i64 z.pr, .int .i64 z.bi, .int .i64 z.si, .int .i64 z.en] A A2 L V → V.cell? ⟨gb, 7, none⟩ = some (.int .i64 z.bi) := fun V h => h.bb.c 7
  have hb8 : ∀ V : World, DI w ga gb #[.int .u64 x.id, .int .u64 x.cu, .int .u64 x.pl, .int .i64 x.st, .int .i64 x.an, .int .i64 x.ev, .int .i64 x.pr, .int .i64 x.bi, .int .i64 x.si, .int .i64 x.en] #[.int .u64 z.id, .int .u64 z.cu, .int .u64 z.pl, .int .i64 z.st, .int .i64 z.an, .int .i64 z.ev, .int .i64 z.pr, .int .i64 z.bi, .int .i64 z.si, .int .i64 z.en] A A2 L V → V.cell? ⟨gb, 8, none⟩ = some (.int .i64 z.si) := fun V h => h.bb.c 8
  have hb9 : ∀ V : World, DI w ga gb #[.int .u64 x.id, .int .u64 x.cu, .int .u64 x.pl, .int .i64 x.st, .int .i64 x.an, .int .i64 x.ev, .int .i64 x.pr, .int .i64 x.bi, .int .i64 x.si, .int .i64 x.en] #[.int .u64 z.id, .int .u64 z.cu, .int .u64 z.pl, .int .i64 z.st, .int .i64 z.an, .int .i64 z.ev, .int .i64 z.pr, .int .i64 z.bi, .int .i64 z.si, .int .i64 z.en] A A2 L V → V.cell? ⟨gb, 9, none⟩ = some (.int .i64 z.en) := fun V h => h.bb.c 9
  go_region_held3 (fun w' => DI w ga gb #[.int .u64 x.id, .int .u64 x.cu, .int .u64 x.pl, .int .i64 x.st, .int .i64 x.an, .int .i64 x.ev, .int .i64 x.pr, .int .i64 x.bi, .int .i64 x.si, .int .i64 x.en] #[.int .u64 z.id, .int .u64 z.cu, .int .u64 z.pl, .int .i64 z.st, .int .i64 z.an, .int .i64 z.ev, .int .i64 z.pr, .int .i64 z.bi, .int .i64 z.si, .int .i64 z.en] A A2 L w')
      (first | with_reducible exact KD.out | with_reducible exact DI.drN HW.out _ | with_reducible exact K5 | (go_split_ands; with_reducible (repeat (first | assumption | exact K5 | refine DI.dr ?_ | refine DI.drN ?_ _))))
      (first
      | (go_at_call 20; go_split_ands; refine (PH.quittanceref23_Same.calls 100001 _ _ L _ _ L true _ (DI.r1 (by assumption)) hcc (DI.r2 (by assumption)) hc2 H7.out).mono ?_; rintro e w' ⟨rfl, ⟨nd, rfl⟩⟩)
      | (go_at_call 16; go_split_ands; refine (HK.out _ (tabB HT.out (DI.bel (by assumption)))).mono ?_; rintro e w7 ⟨rfl, B7⟩; have K5 := DI.all (by assumption) B7)
      | (go_at_call 21; go_split_ands; refine (HJ.out _).mono ?_; rintro e w7 ⟨rfl, B7⟩; have K5 := DI.all (by assumption) B7)
      | (go_at_call 11; go_split_ands; refine (HH.out _ (tabB HT.out (DI.bel (by assumption)))).mono ?_; rintro e w7 ⟨rfl, B7⟩; have K5 := DI.all (by assumption) B7))
  all_goals
    go_wp2
    go_ret
    exact ⟨rfl, DI.bel (by assumption)⟩
end Go.Proofs.YtibkbimhedoafaaDoor.law23
