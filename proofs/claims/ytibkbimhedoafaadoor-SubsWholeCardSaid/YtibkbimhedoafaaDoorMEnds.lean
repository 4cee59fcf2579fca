/- The statement SubsEnds, walked where its tests are true. The table of the days ahead of months holds its numbers. The statement SubsEnds returns true, whatever comes in. The table of the days ahead of months holds its numbers. The statement SubsWhole, walked where its tests are true. The table of the days ahead of months holds its numbers. The statement SubsWhole returns true, whatever comes in. The table of the days ahead of months holds its numbers. -/
import Derived.Test.YtibkbimhedoafaaDoorMSubF
import Derived.Test.YtibkbimhedoafaaDoorPHead23
import Derived.Test.YtibkbimhedoafaaDoorPHx1
import Derived.Test.YtibkbimhedoafaaDoorPHx2
import Derived.Test.YtibkbimhedoafaaDoorPHx13
import Derived.Deep.QuietTactic
import Derived.BigQuiet
import Derived.Test.YtibkbimhedoafaaDoorPure23E
import Derived.Test.YtibkbimhedoafaaDoorMSubA
import Derived.Test.YtibkbimhedoafaaDoorPHx4
import Derived.Test.YtibkbimhedoafaaDoorPHx9
namespace Go.Proofs.YtibkbimhedoafaaDoor.law23
open Go.RowKit Go.Proofs.YtibkbimhedoafaaDoor.base Go.Shelf Sb
open Go.Proofs.YtibkbimhedoafaaDoor.psub
open Go.Proofs.YtibkbimhedoafaaDoor.civ (Tab)
open Go.Proofs.YtibkbimhedoafaaDoorW.PrintWords
set_option linter.unusedSimpArgs false
attribute [local go_sem high] PH.eqA26 PH.eqA30
theorem Bl.newF {b : Nat} (W : World) (cs : Array Value) (t : TypeId) (hb : b = W.heap.size) : Bl b cs t (W.alloc (.cells cs t)) := by subst hb; exact World.alloc_heap_new W _
set_option maxRecDepth 100000 in
set_option maxHeartbeats 4000000 in
theorem ends_no (x : Su) (on er : Int) (at_ : Bool) (w : World) (T : Tab w) (h1 : PH.subs_Cancel.f x.id x.cu x.pl x.st x.an x.ev x.pr x.bi x.si x.en on at_ = some (0, 0, 0, 0, 0, 0, 0, 0, 0, 0, 0, 0, 0, 0, er)) (he : er ≠ 0) :
    Calls Tryd.prog 7 #[.agg (sc x), .int .i64 on, .bool at_] w fun e w' => e = .returned (.bool true) ∧ Below w.heap.size w w' := by
  have HC := Lib.hid (fun w (T : Tab w) => PH.subs_Cancel.calls x.id x.cu x.pl x.st x.an x.ev x.pr x.bi x.si x.en on at_ 0 0 0 0 0 0 0 0 0 0 0 0 0 0 er w (Aside0.mk T) h1)
  have HH := Lib.hid (fun w (T : Tab w) => PH.quittancelaw23_head.calls true w (Aside0.mk T) rfl)
  have HT := Lib.hid T
  have g9 : (er == 0) = false := by simpa using he
  clear T h1 he
  have f1 : Bl w.heap.size (sc x) 26 (w.alloc (.cells (sc x) 26)) := World.alloc_heap_new w _
  have f3 : Below w.heap.size w (w.alloc (.cells (sc x) 26)) := (Below.refl _ w).alloc (Nat.le_refl _) _
  unfold sc at f1 f3
  unfold sc
  go_enter Tryd.func7, Tryd.ntmps7
  have F := Lib.hid (And.intro f1 f3)
  clear f1 f3
  go_wp2_with fail
  refine (HC.out _ (tabB HT.out F.out.2)).mono ?_
  rintro e w1 ⟨rfl, B1⟩
  have g1 := F.out.1.all B1
  have g3 := F.out.2.trans (B1.mono F.out.2.size)
  have l1 := g1.lt
  clear B1 F
  go_upto_region 2 with fail
  have k4 : Bl w1.heap.size #[.int .u64 0, .int .u64 0, .int .u64 0, .int .i64 0, .int .i64 0, .int .i64 0, .int .i64 0, .int .i64 0, .int .i64 0, .int .i64 0] 26 ((w1.alloc (.cells #[.int .u64 0, .int .u64 0, .int .u64 0, .int .i64 0, .int .i64 0, .int .i64 0, .int .i64 0, .int .i64 0, .int .i64 0, .int .i64 0] 26)).alloc (.cells #[.int .i64 0, .int .i64 0, .int .i64 0, .int .i64 0] 30)) := Bl.alloc (World.alloc_heap_new w1 _) _
  have k5 : Bl (w1.heap.size + 1) #[.int .i64 0, .int .i64 0, .int .i64 0, .int .i64 0] 30 ((w1.alloc (.cells #[.int .u64 0, .int .u64 0, .int .u64 0, .int .i64 0, .int .i64 0, .int .i64 0, .int .i64 0, .int .i64 0, .int .i64 0, .int .i64 0] 26)).alloc (.cells #[.int .i64 0, .int .i64 0, .int .i64 0, .int .i64 0] 30)) := Bl.newF _ _ _ (by simp)
  have k3 := (g3.alloc g3.size (.cells #[.int .u64 0, .int .u64 0, .int .u64 0, .int .i64 0, .int .i64 0, .int .i64 0, .int .i64 0, .int .i64 0, .int .i64 0, .int .i64 0] 26)).alloc (g3.alloc g3.size _).size (.cells #[.int .i64 0, .int .i64 0, .int .i64 0, .int .i64 0] 30)
  clear g1 g3
  generalize World.alloc (World.alloc w1 _) _ = w2 at k3 k4 k5 ⊢
  generalize w1.heap.size = ga at l1 k4 k5 ⊢
  have s0 := k4.c 0
  have s1 := k4.c 1
  have s2 := k4.c 2
  have s3 := k4.c 3
  have s4 := k4.c 4
  have s5 := k4.c 5
  have s6 := k4.c 6
  have s7 := k4.c 7
  have s8 := k4.c 8
  have s9 := k4.c 9
  have u0 := k5.c 0
  have u1 := k5.c 1
  have u2 := k5.c 2
  have u3 := k5.c 3
  simp at s0 s1 s2 s3 s4 s5 s6 s7 s8 s9 u0 u1 u2 u3
  have K := Lib.hid k3
  clear k3 k4 k5
  go_wp2_with fail
  refine (HH.out _ (tabB HT.out K.out)).mono ?_
  rintro e w5 ⟨rfl, B5⟩
  go_wp2
  go_ret
  exact ⟨rfl, K.out.trans (B5.mono K.out.size)⟩
set_option maxRecDepth 100000 in
set_option maxHeartbeats 4000000 in
theorem ends_at_gt (x y z : Su) (on t0 t1 t2 : Int) (L : List PH.S47) (w : World) (T : Tab w) (h1 : PH.subs_Cancel.f x.id x.cu x.pl x.st x.an x.ev x.pr x.bi x.si x.en on true = some (y.id, y.cu, y.pl, y.st, y.an, y.ev, y.pr, y.bi, y.si, y.en, t0, t1, t2, 0, 0))
    (h2 : PH.subs_Check.f 1 y.id y.cu y.pl y.st y.an y.ev y.pr y.bi y.si y.en = some 0) (h3 : PH.subs_Cancel.f y.id y.cu y.pl y.st y.an y.ev y.pr y.bi y.si y.en on true = some (0, 0, 0, 0, 0, 0, 0, 0, 0, 0, 0, 0, 0, 0, 9)) (h4 : PH.subs_State.f 1 y.id y.cu y.pl y.st y.an y.ev y.pr y.bi y.si y.en y.en = some (3, 0))
    (h5 : PH.subs_State.f 1 y.id y.cu y.pl y.st y.an y.ev y.pr y.bi y.si y.en (wrap64 (y.en - 1)) = some (2, 0)) (e5 : y.st < y.en) (h6 : PH.subs_Due.f y.id y.cu y.pl y.st y.an y.ev y.pr y.bi y.si y.en 3652059 1000 = some (L, z.id, z.cu, z.pl, z.st, z.an, z.ev, z.pr, z.bi, z.si, z.en, 0)) (e1 : on ≤ y.en) (e2 : y.en = on) (e3 : 0 ≤ t2) (e4 : t2 ≤ x.pr) (hL : ∀ i : Int, 0 ≤ i → i < L.length → (PH.rd_T47 L i).f1 < y.en ∧ (PH.rd_T47 L i).f2 ≤ y.en) (hlen : L.length ≤ 1000) :
    Calls Tryd.prog 7 #[.agg (sc x), .int .i64 on, .bool true] w fun e w' => e = .returned (.bool true) ∧ Below w.heap.size w w' := by
  have HC := Lib.hid (fun w (T : Tab w) => PH.subs_Cancel.calls x.id x.cu x.pl x.st x.an x.ev x.pr x.bi x.si x.en on true y.id y.cu y.pl y.st y.an y.ev y.pr y.bi y.si y.en t0 t1 t2 0 0 w (Aside0.mk T) h1)
  have HK := Lib.hid (fun w (T : Tab w) => PH.subs_Check.calls 1 y.id y.cu y.pl y.st y.an y.ev y.pr y.bi y.si y.en 0 w (Aside0.mk T) h2)
  have HD := Lib.hid (fun w (T : Tab w) => PH.subs_Cancel.calls y.id y.cu y.pl y.st y.an y.ev y.pr y.bi y.si y.en on true 0 0 0 0 0 0 0 0 0 0 0 0 0 0 9 w (Aside0.mk T) h3)
  have HS := Lib.hid (fun w (T : Tab w) => PH.subs_State.calls 1 y.id y.cu y.pl y.st y.an y.ev y.pr y.bi y.si y.en y.en 3 0 w (Aside0.mk T) h4)
  have HS2 := Lib.hid (fun w (T : Tab w) => PH.subs_State.calls 1 y.id y.cu y.pl y.st y.an y.ev y.pr y.bi y.si y.en (wrap64 (y.en - 1)) 2 0 w (Aside0.mk T) h5)
  have HU := Lib.hid (fun w (T : Tab w) => PH.subs_Due.calls y.id y.cu y.pl y.st y.an y.ev y.pr y.bi y.si y.en 3652059 1000 L z.id z.cu z.pl z.st z.an z.ev z.pr z.bi z.si z.en 0 w (Aside0.mk T) h6)
  have HH := Lib.hid (fun w (T : Tab w) => PH.quittancelaw23_head.calls true w (Aside0.mk T) rfl)
  have HT := Lib.hid T
  have HL := Lib.hid hL
  have E1 := Lib.hid e1
  have E2 := Lib.hid e2
  have E4 := Lib.hid e4
  have E5 := Lib.hid e5
  have HN := Lib.hid hlen
  have E3 := Lib.hid e3
  clear T h1 h2 h3 h4 h5 h6 hL e1 e2 e4 e5 hlen e3
  have f1 : Bl w.heap.size (sc x) 26 (w.alloc (.cells (sc x) 26)) := World.alloc_heap_new w _
  have f3 : Below w.heap.size w (w.alloc (.cells (sc x) 26)) := (Below.refl _ w).alloc (Nat.le_refl _) _
  unfold sc at f1 f3
  unfold sc
  go_enter Tryd.func7, Tryd.ntmps7
  have F := Lib.hid (And.intro f1 f3)
  clear f1 f3
  go_wp2_with fail
  refine (HC.out _ (tabB HT.out F.out.2)).mono ?_
  rintro e w1 ⟨rfl, B1⟩
  have g1 := F.out.1.all B1
  have g3 := F.out.2.trans (B1.mono F.out.2.size)
  have l1 := g1.lt
  clear B1 F
  go_upto_region 2 with fail
  have k1 := (g1.alloc (.cells (sc y) 26)).alloc (.cells #[.int .i64 t0, .int .i64 t1, .int .i64 t2, .int .i64 0] 30)
  have k4 : Bl w1.heap.size (sc y) 26 ((w1.alloc (.cells (sc y) 26)).alloc (.cells #[.int .i64 t0, .int .i64 t1, .int .i64 t2, .int .i64 0] 30)) := Bl.alloc (World.alloc_heap_new w1 _) _
  have k5 : Bl (w1.heap.size + 1) #[.int .i64 t0, .int .i64 t1, .int .i64 t2, .int .i64 0] 30 ((w1.alloc (.cells (sc y) 26)).alloc (.cells #[.int .i64 t0, .int .i64 t1, .int .i64 t2, .int .i64 0] 30)) := Bl.newF _ _ _ (by simp)
  have k3 := (g3.alloc g3.size (.cells (sc y) 26)).alloc (g3.alloc g3.size _).size (.cells #[.int .i64 t0, .int .i64 t1, .int .i64 t2, .int .i64 0] 30)
  unfold sc at k1 k3 k4 k5
  clear g1 g3
  generalize World.alloc (World.alloc w1 _) _ = w2 at k1 k3 k4 k5 ⊢
  generalize w1.heap.size = ga at l1 k4 k5 ⊢
  have s0 := k4.c 0
  have s1 := k4.c 1
  have s2 := k4.c 2
  have s3 := k4.c 3
  have s4 := k4.c 4
  have s5 := k4.c 5
  have s6 := k4.c 6
  have s7 := k4.c 7
  have s8 := k4.c 8
  have s9 := k4.c 9
  simp at s0 s1 s2 s3 s4 s5 s6 s7 s8 s9
  have K := Lib.hid (And.intro k1 (And.intro k3 (And.intro k4 k5)))
  clear k1 k3 k4 k5
  go_wp2_with fail
  refine (HK.out _ (tabB HT.out K.out.2.1)).mono ?_
  rintro e w3 ⟨rfl, B3⟩
  have k1 := K.out.1.all B3
  have k3 := K.out.2.1.trans (B3.mono K.out.2.1.size)
  have k4 := K.out.2.2.1.all B3
  have k5 := K.out.2.2.2.all B3
  clear B3 K
  clear s0 s1 s2 s3 s4 s5 s6 s7 s8 s9
  have s0 := k4.c 0
  have s1 := k4.c 1
  have s2 := k4.c 2
  have s3 := k4.c 3
  have s4 := k4.c 4
  have s5 := k4.c 5
  have s6 := k4.c 6
  have s7 := k4.c 7
  have s8 := k4.c 8
  have s9 := k4.c 9
  have u0 := k5.c 0
  have u1 := k5.c 1
  have u2 := k5.c 2
  have u3 := k5.c 3
  have p6 := k1.c 6
  simp at s0 s1 s2 s3 s4 s5 s6 s7 s8 s9 u0 u1 u2 u3 p6
  have K := Lib.hid (And.intro k1 (And.intro k3 (And.intro k4 k5)))
  clear k1 k3 k4 k5
  have c1 : decide (y.en < on) = false := decide_eq_false (by have := E1.out; omega)
  have c2 : (y.en == on) = true := by simpa using E2.out
  have c2b : (y.en != on) = false := by simpa using E2.out
  have c3 : decide (t2 < 0) = false := decide_eq_false (by have := E3.out; omega)
  have c4 : decide (x.pr < t2) = false := decide_eq_false (by have := E4.out; omega)
  have c5 : decide (t2 > x.pr) = false := decide_eq_false (by have := E4.out; omega)
  go_wp2_with fail
  refine (HD.out _ (tabB HT.out K.out.2.1)).mono ?_
  rintro e w3x ⟨rfl, B3⟩
  have k1 := K.out.1.all B3
  have k3 := K.out.2.1.trans (B3.mono K.out.2.1.size)
  have k4 := K.out.2.2.1.all B3
  have k5 := K.out.2.2.2.all B3
  clear B3 K c1 c2 c4 c5 u0 u1 u2 u3 p6 c3 c2b s0 s1 s2 s3 s4 s5 s6 s7 s8 s9
  have l4 := k4.lt
  have l5 := k5.lt
  go_upto_region 7 with fail
  have m3 := (k3.alloc k3.size (.cells #[.int .u64 0, .int .u64 0, .int .u64 0, .int .i64 0, .int .i64 0, .int .i64 0, .int .i64 0, .int .i64 0, .int .i64 0, .int .i64 0] 26)).alloc (k3.alloc k3.size _).size (.cells #[.int .i64 0, .int .i64 0, .int .i64 0, .int .i64 0] 30)
  have m4 := (k4.alloc (.cells #[.int .u64 0, .int .u64 0, .int .u64 0, .int .i64 0, .int .i64 0, .int .i64 0, .int .i64 0, .int .i64 0, .int .i64 0, .int .i64 0] 26)).alloc (.cells #[.int .i64 0, .int .i64 0, .int .i64 0, .int .i64 0] 30)
  clear k1 k3 k4 k5
  generalize World.alloc (World.alloc w3x _) _ = w4 at m3 m4 ⊢
  have s0 := m4.c 0
  have s1 := m4.c 1
  have s2 := m4.c 2
  have s3 := m4.c 3
  have s4 := m4.c 4
  have s5 := m4.c 5
  have s6 := m4.c 6
  have s7 := m4.c 7
  have s8 := m4.c 8
  have s9 := m4.c 9
  simp at s0 s1 s2 s3 s4 s5 s6 s7 s8 s9
  have M := Lib.hid (And.intro m3 m4)
  clear m3 m4
  go_wp2_with fail
  refine (HS.out _ (tabB HT.out M.out.1)).mono ?_
  rintro e w5 ⟨rfl, BB⟩
  have m3 := M.out.1.trans (BB.mono M.out.1.size)
  have m4 := M.out.2.all BB
  clear BB M s0 s1 s2 s3 s4 s5 s6 s7 s8 s9
  have s0 := m4.c 0
  have s1 := m4.c 1
  have s2 := m4.c 2
  have s3 := m4.c 3
  have s4 := m4.c 4
  have s5 := m4.c 5
  have s6 := m4.c 6
  have s7 := m4.c 7
  have s8 := m4.c 8
  have s9 := m4.c 9
  simp at s0 s1 s2 s3 s4 s5 s6 s7 s8 s9
  have M := Lib.hid (And.intro m3 m4)
  clear m3 m4
  have c1 : decide (y.en > y.st) = true := decide_eq_true (by have := E5.out; omega)
  have c2 : decide (y.st < y.en) = true := decide_eq_true (by have := E5.out; omega)
  go_wp2_with fail
  refine (HS2.out _ (tabB HT.out M.out.1)).mono ?_
  rintro e w6 ⟨rfl, BB⟩
  have m3 := M.out.1.trans (BB.mono M.out.1.size)
  have m4 := M.out.2.all BB
  clear BB M s0 s1 s2 s3 s4 s5 s6 s7 s8 s9
  clear c1 c2
  have s0 := m4.c 0
  have s1 := m4.c 1
  have s2 := m4.c 2
  have s3 := m4.c 3
  have s4 := m4.c 4
  have s5 := m4.c 5
  have s6 := m4.c 6
  have s7 := m4.c 7
  have s8 := m4.c 8
  have s9 := m4.c 9
  simp at s0 s1 s2 s3 s4 s5 s6 s7 s8 s9
  have M := Lib.hid (And.intro m3 m4)
  clear m3 m4
  go_wp2_with fail
  refine (HU.out _ (tabB HT.out M.out.1)).mono ?_
  rintro e w7 ⟨v, rfl, hR, BB⟩
  obtain ⟨A, cc, rfl, hcc, hC⟩ := Kd.R_reads hR
  have m3 := M.out.1.trans (BB.mono M.out.1.size)
  have m4 := M.out.2.all BB
  have l7 := m4.lt
  clear BB hR M s0 s1 s2 s3 s4 s5 s6 s7 s8 s9
  go_upto_region 15 with fail
  have n3 := m3.alloc m3.size (.cells (sc z) 26)
  have n4 := m4.alloc (.cells (sc z) 26)
  have n5 := Kd.C_below hC (below_alloc (Below.refl _ w7) (.cells (sc z) 26))
  unfold sc at n3 n4 n5
  clear m3 m4 hC
  generalize World.alloc w7 _ = w8 at n3 n4 n5 ⊢
  have s9 := n4.c 9
  simp at s9
  have N := Lib.hid (And.intro n3 n5)
  clear n3 n4 n5
  go_wp2_with fail
  go_loopg [20] (L.length + 1) (fun kq v5 w' => ∃ (i : Int), v5 = .int .i64 i ∧ Aside0 (0 ≤ i ∧ i ≤ L.length ∧ L.length + 1 ≤ kq + i) ∧ Drawn0 w8 w')
  case atStart => exact ⟨0, rfl, ⟨by omega⟩, by repeat (first | exact Drawn0.refl _ | apply Drawn0.step)⟩
  case round =>
    obtain ⟨i, rfl, HI, ⟨m1, rfl⟩⟩ := hrel
    have hi := HI.out
    by_cases ci : i < (L.length : Int)
    · obtain ⟨k1, rfl⟩ : ∃ k1, gk = k1 + 1 := ⟨gk - 1, by omega⟩
      have q1 := HL.out i hi.1 ci
      obtain ⟨ad, rfl, hx0, hx1, hx2, hx3⟩ := PH.at_T47 N.out.2 i hi.1 ci
      have d1 : decide (i < (L.length : Int)) = true := decide_eq_true ci
      have d2 : decide (y.en ≤ (PH.rd_T47 L i).f1) = false := decide_eq_false (by omega)
      have d2' : decide ((PH.rd_T47 L i).f1 ≥ y.en) = false := decide_eq_false (by omega)
      have d3 : decide (y.en < (PH.rd_T47 L i).f2) = false := decide_eq_false (by omega)
      have d3' : decide ((PH.rd_T47 L i).f2 > y.en) = false := decide_eq_false (by omega)
      have p0 := eq_true hi.1
      have p1 := eq_true ci
      have hn := HN.out
      have ew : wrap64 (i + 1) = i + 1 := by unfold wrap64; omega
      have HI2 := Lib.hid (And.intro hi (And.intro hn ci))
      clear q1 ci
      clear hi hn HI
      go_wp2
      repeat (go_quiet (fail); try go_wp2)
      go_roundg k1
      case measure => have := HI2.out; omega
      case rel => exact ⟨wrap64 (i + 1), rfl, ⟨by rw [ew]; have := HI2.out; omega⟩, by repeat (first | exact Drawn0.refl _ | apply Drawn0.step)⟩
    · have d1 : decide (i < (L.length : Int)) = false := decide_eq_false ci
      clear ci hi
      go_wp2_with fail
      refine (HH.out _ (tabB HT.out (pw_below_drewN N.out.1 _))).mono ?_
      rintro e w9 ⟨rfl, B9⟩
      go_wp2
      go_ret
      exact ⟨rfl, (pw_below_drewN N.out.1 _).trans (B9.mono (pw_below_drewN N.out.1 _).size)⟩
set_option maxRecDepth 100000 in
set_option maxHeartbeats 4000000 in
theorem ends_at_eq (x y z : Su) (on t0 t1 t2 : Int) (L : List PH.S47) (w : World) (T : Tab w) (h1 : PH.subs_Cancel.f x.id x.cu x.pl x.st x.an x.ev x.pr x.bi x.si x.en on true = some (y.id, y.cu, y.pl, y.st, y.an, y.ev, y.pr, y.bi, y.si, y.en, t0, t1, t2, 0, 0))
    (h2 : PH.subs_Check.f 1 y.id y.cu y.pl y.st y.an y.ev y.pr y.bi y.si y.en = some 0) (h3 : PH.subs_Cancel.f y.id y.cu y.pl y.st y.an y.ev y.pr y.bi y.si y.en on true = some (0, 0, 0, 0, 0, 0, 0, 0, 0, 0, 0, 0, 0, 0, 9)) (h4 : PH.subs_State.f 1 y.id y.cu y.pl y.st y.an y.ev y.pr y.bi y.si y.en y.en = some (3, 0))
    (e5 : y.en ≤ y.st) (h6 : PH.subs_Due.f y.id y.cu y.pl y.st y.an y.ev y.pr y.bi y.si y.en 3652059 1000 = some (L, z.id, z.cu, z.pl, z.st, z.an, z.ev, z.pr, z.bi, z.si, z.en, 0)) (e1 : on ≤ y.en) (e2 : y.en = on) (e3 : 0 ≤ t2) (e4 : t2 ≤ x.pr) (hL : ∀ i : Int, 0 ≤ i → i < L.length → (PH.rd_T47 L i).f1 < y.en ∧ (PH.rd_T47 L i).f2 ≤ y.en) (hlen : L.length ≤ 1000) :
    Calls Tryd.prog 7 #[.agg (sc x), .int .i64 on, .bool true] w fun e w' => e = .returned (.bool true) ∧ Below w.heap.size w w' := by
  have HC := Lib.hid (fun w (T : Tab w) => PH.subs_Cancel.calls x.id x.cu x.pl x.st x.an x.ev x.pr x.bi x.si x.en on true y.id y.cu y.pl y.st y.an y.ev y.pr y.bi y.si y.en t0 t1 t2 0 0 w (Aside0.mk T) h1)
  have HK := Lib.hid (fun w (T : Tab w) => PH.subs_Check.calls 1 y.id y.cu y.pl y.st y.an y.ev y.pr y.bi y.si y.en 0 w (Aside0.mk T) h2)
  have HD := Lib.hid (fun w (T : Tab w) => PH.subs_Cancel.calls y.id y.cu y.pl y.st y.an y.ev y.pr y.bi y.si y.en on true 0 0 0 0 0 0 0 0 0 0 0 0 0 0 9 w (Aside0.mk T) h3)
  have HS := Lib.hid (fun w (T : Tab w) => PH.subs_State.calls 1 y.id y.cu y.pl y.st y.an y.ev y.pr y.bi y.si y.en y.en 3 0 w (Aside0.mk T) h4)
  have HU := Lib.hid (fun w (T : Tab w) => PH.subs_Due.calls y.id y.cu y.pl y.st y.an y.ev y.pr y.bi y.si y.en 3652059 1000 L z.id z.cu z.pl z.st z.an z.ev z.pr z.bi z.si z.en 0 w (Aside0.mk T) h6)
  have HH := Lib.hid (fun w (T : Tab w) => PH.quittancelaw23_head.calls true w (Aside0.mk T) rfl)
  have HT := Lib.hid T
  have HL := Lib.hid hL
  have E1 := Lib.hid e1
  have E2 := Lib.hid e2
  have E4 := Lib.hid e4
  have E5 := Lib.hid e5
  have HN := Lib.hid hlen
  have E3 := Lib.hid e3
  clear T h1 h2 h3 h4 h6 hL e1 e2 e4 e5 hlen e3
  have f1 : Bl w.heap.size (sc x) 26 (w.alloc (.cells (sc x) 26)) := World.alloc_heap_new w _
  have f3 : Below w.heap.size w (w.alloc (.cells (sc x) 26)) := (Below.refl _ w).alloc (Nat.le_refl _) _
  unfold sc at f1 f3
  unfold sc
  go_enter Tryd.func7, Tryd.ntmps7
  have F := Lib.hid (And.intro f1 f3)
  clear f1 f3
  go_wp2_with fail
  refine (HC.out _ (tabB HT.out F.out.2)).mono ?_
  rintro e w1 ⟨rfl, B1⟩
  have g1 := F.out.1.all B1
  have g3 := F.out.2.trans (B1.mono F.out.2.size)
  have l1 := g1.lt
  clear B1 F
  go_upto_region 2 with fail
  have k1 := (g1.alloc (.cells (sc y) 26)).alloc (.cells #[.int .i64 t0, .int .i64 t1, .int .i64 t2, .int .i64 0] 30)
  have k4 : Bl w1.heap.size (sc y) 26 ((w1.alloc (.cells (sc y) 26)).alloc (.cells #[.int .i64 t0, .int .i64 t1, .int .i64 t2, .int .i64 0] 30)) := Bl.alloc (World.alloc_heap_new w1 _) _
  have k5 : Bl (w1.heap.size + 1) #[.int .i64 t0, .int .i64 t1, .int .i64 t2, .int .i64 0] 30 ((w1.alloc (.cells (sc y) 26)).alloc (.cells #[.int .i64 t0, .int .i64 t1, .int .i64 t2, .int .i64 0] 30)) := Bl.newF _ _ _ (by simp)
  have k3 := (g3.alloc g3.size (.cells (sc y) 26)).alloc (g3.alloc g3.size _).size (.cells #[.int .i64 t0, .int .i64 t1, .int .i64 t2, .int .i64 0] 30)
  unfold sc at k1 k3 k4 k5
  clear g1 g3
  generalize World.alloc (World.alloc w1 _) _ = w2 at k1 k3 k4 k5 ⊢
  generalize w1.heap.size = ga at l1 k4 k5 ⊢
  have s0 := k4.c 0
  have s1 := k4.c 1
  have s2 := k4.c 2
  have s3 := k4.c 3
  have s4 := k4.c 4
  have s5 := k4.c 5
  have s6 := k4.c 6
  have s7 := k4.c 7
  have s8 := k4.c 8
  have s9 := k4.c 9
  simp at s0 s1 s2 s3 s4 s5 s6 s7 s8 s9
  have K := Lib.hid (And.intro k1 (And.intro k3 (And.intro k4 k5)))
  clear k1 k3 k4 k5
  go_wp2_with fail
  refine (HK.out _ (tabB HT.out K.out.2.1)).mono ?_
  rintro e w3 ⟨rfl, B3⟩
  have k1 := K.out.1.all B3
  have k3 := K.out.2.1.trans (B3.mono K.out.2.1.size)
  have k4 := K.out.2.2.1.all B3
  have k5 := K.out.2.2.2.all B3
  clear B3 K
  clear s0 s1 s2 s3 s4 s5 s6 s7 s8 s9
  have s0 := k4.c 0
  have s1 := k4.c 1
  have s2 := k4.c 2
  have s3 := k4.c 3
  have s4 := k4.c 4
  have s5 := k4.c 5
  have s6 := k4.c 6
  have s7 := k4.c 7
  have s8 := k4.c 8
  have s9 := k4.c 9
  have u0 := k5.c 0
  have u1 := k5.c 1
  have u2 := k5.c 2
  have u3 := k5.c 3
  have p6 := k1.c 6
  simp at s0 s1 s2 s3 s4 s5 s6 s7 s8 s9 u0 u1 u2 u3 p6
  have K := Lib.hid (And.intro k1 (And.intro k3 (And.intro k4 k5)))
  clear k1 k3 k4 k5
  have c1 : decide (y.en < on) = false := decide_eq_false (by have := E1.out; omega)
  have c2 : (y.en == on) = true := by simpa using E2.out
  have c2b : (y.en != on) = false := by simpa using E2.out
  have c3 : decide (t2 < 0) = false := decide_eq_false (by have := E3.out; omega)
  have c4 : decide (x.pr < t2) = false := decide_eq_false (by have := E4.out; omega)
  have c5 : decide (t2 > x.pr) = false := decide_eq_false (by have := E4.out; omega)
  go_wp2_with fail
  refine (HD.out _ (tabB HT.out K.out.2.1)).mono ?_
  rintro e w3x ⟨rfl, B3⟩
  have k1 := K.out.1.all B3
  have k3 := K.out.2.1.trans (B3.mono K.out.2.1.size)
  have k4 := K.out.2.2.1.all B3
  have k5 := K.out.2.2.2.all B3
  clear B3 K c1 c2 c4 c5 u0 u1 u2 u3 p6 c3 c2b s0 s1 s2 s3 s4 s5 s6 s7 s8 s9
  have l4 := k4.lt
  have l5 := k5.lt
  go_upto_region 7 with fail
  have m3 := (k3.alloc k3.size (.cells #[.int .u64 0, .int .u64 0, .int .u64 0, .int .i64 0, .int .i64 0, .int .i64 0, .int .i64 0, .int .i64 0, .int .i64 0, .int .i64 0] 26)).alloc (k3.alloc k3.size _).size (.cells #[.int .i64 0, .int .i64 0, .int .i64 0, .int .i64 0] 30)
  have m4 := (k4.alloc (.cells #[.int .u64 0, .int .u64 0, .int .u64 0, .int .i64 0, .int .i64 0, .int .i64 0, .int .i64 0, .int .i64 0, .int .i64 0, .int .i64 0] 26)).alloc (.cells #[.int .i64 0, .int .i64 0, .int .i64 0, .int .i64 0] 30)
  clear k1 k3 k4 k5
  generalize World.alloc (World.alloc w3x _) _ = w4 at m3 m4 ⊢
  have s0 := m4.c 0
  have s1 := m4.c 1
  have s2 := m4.c 2
  have s3 := m4.c 3
  have s4 := m4.c 4
  have s5 := m4.c 5
  have s6 := m4.c 6
  have s7 := m4.c 7
  have s8 := m4.c 8
  have s9 := m4.c 9
  simp at s0 s1 s2 s3 s4 s5 s6 s7 s8 s9
  have M := Lib.hid (And.intro m3 m4)
  clear m3 m4
  go_wp2_with fail
  refine (HS.out _ (tabB HT.out M.out.1)).mono ?_
  rintro e w5 ⟨rfl, BB⟩
  have m3 := M.out.1.trans (BB.mono M.out.1.size)
  have m4 := M.out.2.all BB
  clear BB M s0 s1 s2 s3 s4 s5 s6 s7 s8 s9
  have s0 := m4.c 0
  have s1 := m4.c 1
  have s2 := m4.c 2
  have s3 := m4.c 3
  have s4 := m4.c 4
  have s5 := m4.c 5
  have s6 := m4.c 6
  have s7 := m4.c 7
  have s8 := m4.c 8
  have s9 := m4.c 9
  simp at s0 s1 s2 s3 s4 s5 s6 s7 s8 s9
  have M := Lib.hid (And.intro m3 m4)
  clear m3 m4
  have c1 : decide (y.en > y.st) = false := decide_eq_false (by have := E5.out; omega)
  have c2 : decide (y.st < y.en) = false := decide_eq_false (by have := E5.out; omega)
  go_wp2_with fail
  refine (HU.out _ (tabB HT.out M.out.1)).mono ?_
  rintro e w7 ⟨v, rfl, hR, BB⟩
  obtain ⟨A, cc, rfl, hcc, hC⟩ := Kd.R_reads hR
  have m3 := M.out.1.trans (BB.mono M.out.1.size)
  have m4 := M.out.2.all BB
  have l7 := m4.lt
  clear BB hR M c1 c2 s0 s1 s2 s3 s4 s5 s6 s7 s8 s9
  go_upto_region 15 with fail
  have n3 := m3.alloc m3.size (.cells (sc z) 26)
  have n4 := m4.alloc (.cells (sc z) 26)
  have n5 := Kd.C_below hC (below_alloc (Below.refl _ w7) (.cells (sc z) 26))
  unfold sc at n3 n4 n5
  clear m3 m4 hC
  generalize World.alloc w7 _ = w8 at n3 n4 n5 ⊢
  have s9 := n4.c 9
  simp at s9
  have N := Lib.hid (And.intro n3 n5)
  clear n3 n4 n5
  go_wp2_with fail
  go_loopg [20] (L.length + 1) (fun kq v5 w' => ∃ (i : Int), v5 = .int .i64 i ∧ Aside0 (0 ≤ i ∧ i ≤ L.length ∧ L.length + 1 ≤ kq + i) ∧ Drawn0 w8 w')
  case atStart => exact ⟨0, rfl, ⟨by omega⟩, by repeat (first | exact Drawn0.refl _ | apply Drawn0.step)⟩
  case round =>
    obtain ⟨i, rfl, HI, ⟨m1, rfl⟩⟩ := hrel
    have hi := HI.out
    by_cases ci : i < (L.length : Int)
    · obtain ⟨k1, rfl⟩ : ∃ k1, gk = k1 + 1 := ⟨gk - 1, by omega⟩
      have q1 := HL.out i hi.1 ci
      obtain ⟨ad, rfl, hx0, hx1, hx2, hx3⟩ := PH.at_T47 N.out.2 i hi.1 ci
      have d1 : decide (i < (L.length : Int)) = true := decide_eq_true ci
      have d2 : decide (y.en ≤ (PH.rd_T47 L i).f1) = false := decide_eq_false (by omega)
      have d2' : decide ((PH.rd_T47 L i).f1 ≥ y.en) = false := decide_eq_false (by omega)
      have d3 : decide (y.en < (PH.rd_T47 L i).f2) = false := decide_eq_false (by omega)
      have d3' : decide ((PH.rd_T47 L i).f2 > y.en) = false := decide_eq_false (by omega)
      have p0 := eq_true hi.1
      have p1 := eq_true ci
      have hn := HN.out
      have ew : wrap64 (i + 1) = i + 1 := by unfold wrap64; omega
      have HI2 := Lib.hid (And.intro hi (And.intro hn ci))
      clear q1 ci
      clear hi hn HI
      go_wp2
      repeat (go_quiet (fail); try go_wp2)
      go_roundg k1
      case measure => have := HI2.out; omega
      case rel => exact ⟨wrap64 (i + 1), rfl, ⟨by rw [ew]; have := HI2.out; omega⟩, by repeat (first | exact Drawn0.refl _ | apply Drawn0.step)⟩
    · have d1 : decide (i < (L.length : Int)) = false := decide_eq_false ci
      clear ci hi
      go_wp2_with fail
      refine (HH.out _ (tabB HT.out (pw_below_drewN N.out.1 _))).mono ?_
      rintro e w9 ⟨rfl, B9⟩
      go_wp2
      go_ret
      exact ⟨rfl, (pw_below_drewN N.out.1 _).trans (B9.mono (pw_below_drewN N.out.1 _).size)⟩
set_option maxRecDepth 100000 in
set_option maxHeartbeats 4000000 in
theorem ends_end_gt (x y z : Su) (on : Int) (L : List PH.S47) (w : World) (T : Tab w) (h1 : PH.subs_Cancel.f x.id x.cu x.pl x.st x.an x.ev x.pr x.bi x.si x.en on false = some (y.id, y.cu, y.pl, y.st, y.an, y.ev, y.pr, y.bi, y.si, y.en, 0, 0, 0, 0, 0))
    (h2 : PH.subs_Check.f 1 y.id y.cu y.pl y.st y.an y.ev y.pr y.bi y.si y.en = some 0) (h3 : PH.subs_Cancel.f y.id y.cu y.pl y.st y.an y.ev y.pr y.bi y.si y.en on false = some (0, 0, 0, 0, 0, 0, 0, 0, 0, 0, 0, 0, 0, 0, 9)) (h4 : PH.subs_State.f 1 y.id y.cu y.pl y.st y.an y.ev y.pr y.bi y.si y.en y.en = some (3, 0))
    (h5 : PH.subs_State.f 1 y.id y.cu y.pl y.st y.an y.ev y.pr y.bi y.si y.en (wrap64 (y.en - 1)) = some (2, 0)) (e5 : y.st < y.en) (h6 : PH.subs_Due.f y.id y.cu y.pl y.st y.an y.ev y.pr y.bi y.si y.en 3652059 1000 = some (L, z.id, z.cu, z.pl, z.st, z.an, z.ev, z.pr, z.bi, z.si, z.en, 0)) (e1 : on ≤ y.en) (e2 : on < y.en) (e4 : 0 ≤ x.pr) (hL : ∀ i : Int, 0 ≤ i → i < L.length → (PH.rd_T47 L i).f1 < y.en ∧ (PH.rd_T47 L i).f2 ≤ y.en) (hlen : L.length ≤ 1000) :
    Calls Tryd.prog 7 #[.agg (sc x), .int .i64 on, .bool false] w fun e w' => e = .returned (.bool true) ∧ Below w.heap.size w w' := by
  have HC := Lib.hid (fun w (T : Tab w) => PH.subs_Cancel.calls x.id x.cu x.pl x.st x.an x.ev x.pr x.bi x.si x.en on false y.id y.cu y.pl y.st y.an y.ev y.pr y.bi y.si y.en 0 0 0 0 0 w (Aside0.mk T) h1)
  have HK := Lib.hid (fun w (T : Tab w) => PH.subs_Check.calls 1 y.id y.cu y.pl y.st y.an y.ev y.pr y.bi y.si y.en 0 w (Aside0.mk T) h2)
  have HD := Lib.hid (fun w (T : Tab w) => PH.subs_Cancel.calls y.id y.cu y.pl y.st y.an y.ev y.pr y.bi y.si y.en on false 0 0 0 0 0 0 0 0 0 0 0 0 0 0 9 w (Aside0.mk T) h3)
  have HS := Lib.hid (fun w (T : Tab w) => PH.subs_State.calls 1 y.id y.cu y.pl y.st y.an y.ev y.pr y.bi y.si y.en y.en 3 0 w (Aside0.mk T) h4)
  have HS2 := Lib.hid (fun w (T : Tab w) => PH.subs_State.calls 1 y.id y.cu y.pl y.st y.an y.ev y.pr y.bi y.si y.en (wrap64 (y.en - 1)) 2 0 w (Aside0.mk T) h5)
  have HU := Lib.hid (fun w (T : Tab w) => PH.subs_Due.calls y.id y.cu y.pl y.st y.an y.ev y.pr y.bi y.si y.en 3652059 1000 L z.id z.cu z.pl z.st z.an z.ev z.pr z.bi z.si z.en 0 w (Aside0.mk T) h6)
  have HH := Lib.hid (fun w (T : Tab w) => PH.quittancelaw23_head.calls true w (Aside0.mk T) rfl)
  have HT := Lib.hid T
  have HL := Lib.hid hL
  have E1 := Lib.hid e1
  have E2 := Lib.hid e2
  have E4 := Lib.hid e4
  have E5 := Lib.hid e5
  have HN := Lib.hid hlen
  clear T h1 h2 h3 h4 h5 h6 hL e1 e2 e4 e5 hlen
  have f1 : Bl w.heap.size (sc x) 26 (w.alloc (.cells (sc x) 26)) := World.alloc_heap_new w _
  have f3 : Below w.heap.size w (w.alloc (.cells (sc x) 26)) := (Below.refl _ w).alloc (Nat.le_refl _) _
  unfold sc at f1 f3
  unfold sc
  go_enter Tryd.func7, Tryd.ntmps7
  have F := Lib.hid (And.intro f1 f3)
  clear f1 f3
  go_wp2_with fail
  refine (HC.out _ (tabB HT.out F.out.2)).mono ?_
  rintro e w1 ⟨rfl, B1⟩
  have g1 := F.out.1.all B1
  have g3 := F.out.2.trans (B1.mono F.out.2.size)
  have l1 := g1.lt
  clear B1 F
  go_upto_region 2 with fail
  have k1 := (g1.alloc (.cells (sc y) 26)).alloc (.cells #[.int .i64 0, .int .i64 0, .int .i64 0, .int .i64 0] 30)
  have k4 : Bl w1.heap.size (sc y) 26 ((w1.alloc (.cells (sc y) 26)).alloc (.cells #[.int .i64 0, .int .i64 0, .int .i64 0, .int .i64 0] 30)) := Bl.alloc (World.alloc_heap_new w1 _) _
  have k5 : Bl (w1.heap.size + 1) #[.int .i64 0, .int .i64 0, .int .i64 0, .int .i64 0] 30 ((w1.alloc (.cells (sc y) 26)).alloc (.cells #[.int .i64 0, .int .i64 0, .int .i64 0, .int .i64 0] 30)) := Bl.newF _ _ _ (by simp)
  have k3 := (g3.alloc g3.size (.cells (sc y) 26)).alloc (g3.alloc g3.size _).size (.cells #[.int .i64 0, .int .i64 0, .int .i64 0, .int .i64 0] 30)
  unfold sc at k1 k3 k4 k5
  clear g1 g3
  generalize World.alloc (World.alloc w1 _) _ = w2 at k1 k3 k4 k5 ⊢
  generalize w1.heap.size = ga at l1 k4 k5 ⊢
  have s0 := k4.c 0
  have s1 := k4.c 1
  have s2 := k4.c 2
  have s3 := k4.c 3
  have s4 := k4.c 4
  have s5 := k4.c 5
  have s6 := k4.c 6
  have s7 := k4.c 7
  have s8 := k4.c 8
  have s9 := k4.c 9
  simp at s0 s1 s2 s3 s4 s5 s6 s7 s8 s9
  have K := Lib.hid (And.intro k1 (And.intro k3 (And.intro k4 k5)))
  clear k1 k3 k4 k5
  go_wp2_with fail
  refine (HK.out _ (tabB HT.out K.out.2.1)).mono ?_
  rintro e w3 ⟨rfl, B3⟩
  have k1 := K.out.1.all B3
  have k3 := K.out.2.1.trans (B3.mono K.out.2.1.size)
  have k4 := K.out.2.2.1.all B3
  have k5 := K.out.2.2.2.all B3
  clear B3 K
  clear s0 s1 s2 s3 s4 s5 s6 s7 s8 s9
  have s0 := k4.c 0
  have s1 := k4.c 1
  have s2 := k4.c 2
  have s3 := k4.c 3
  have s4 := k4.c 4
  have s5 := k4.c 5
  have s6 := k4.c 6
  have s7 := k4.c 7
  have s8 := k4.c 8
  have s9 := k4.c 9
  have u0 := k5.c 0
  have u1 := k5.c 1
  have u2 := k5.c 2
  have u3 := k5.c 3
  have p6 := k1.c 6
  simp at s0 s1 s2 s3 s4 s5 s6 s7 s8 s9 u0 u1 u2 u3 p6
  have K := Lib.hid (And.intro k1 (And.intro k3 (And.intro k4 k5)))
  clear k1 k3 k4 k5
  have c1 : decide (y.en < on) = false := decide_eq_false (by have := E1.out; omega)
  have c2 : decide (y.en ≤ on) = false := decide_eq_false (by have := E2.out; omega)
  have c4 : decide (x.pr < 0) = false := decide_eq_false (by have := E4.out; omega)
  have c5 : decide (0 > x.pr) = false := decide_eq_false (by have := E4.out; omega)
  go_wp2_with fail
  refine (HD.out _ (tabB HT.out K.out.2.1)).mono ?_
  rintro e w3x ⟨rfl, B3⟩
  have k1 := K.out.1.all B3
  have k3 := K.out.2.1.trans (B3.mono K.out.2.1.size)
  have k4 := K.out.2.2.1.all B3
  have k5 := K.out.2.2.2.all B3
  clear B3 K c1 c2 c4 c5 u0 u1 u2 u3 p6 s0 s1 s2 s3 s4 s5 s6 s7 s8 s9
  have l4 := k4.lt
  have l5 := k5.lt
  go_upto_region 7 with fail
  have m3 := (k3.alloc k3.size (.cells #[.int .u64 0, .int .u64 0, .int .u64 0, .int .i64 0, .int .i64 0, .int .i64 0, .int .i64 0, .int .i64 0, .int .i64 0, .int .i64 0] 26)).alloc (k3.alloc k3.size _).size (.cells #[.int .i64 0, .int .i64 0, .int .i64 0, .int .i64 0] 30)
  have m4 := (k4.alloc (.cells #[.int .u64 0, .int .u64 0, .int .u64 0, .int .i64 0, .int .i64 0, .int .i64 0, .int .i64 0, .int .i64 0, .int .i64 0, .int .i64 0] 26)).alloc (.cells #[.int .i64 0, .int .i64 0, .int .i64 0, .int .i64 0] 30)
  clear k1 k3 k4 k5
  generalize World.alloc (World.alloc w3x _) _ = w4 at m3 m4 ⊢
  have s0 := m4.c 0
  have s1 := m4.c 1
  have s2 := m4.c 2
  have s3 := m4.c 3
  have s4 := m4.c 4
  have s5 := m4.c 5
  have s6 := m4.c 6
  have s7 := m4.c 7
  have s8 := m4.c 8
  have s9 := m4.c 9
  simp at s0 s1 s2 s3 s4 s5 s6 s7 s8 s9
  have M := Lib.hid (And.intro m3 m4)
  clear m3 m4
  go_wp2_with fail
  refine (HS.out _ (tabB HT.out M.out.1)).mono ?_
  rintro e w5 ⟨rfl, BB⟩
  have m3 := M.out.1.trans (BB.mono M.out.1.size)
  have m4 := M.out.2.all BB
  clear BB M s0 s1 s2 s3 s4 s5 s6 s7 s8 s9
  have s0 := m4.c 0
  have s1 := m4.c 1
  have s2 := m4.c 2
  have s3 := m4.c 3
  have s4 := m4.c 4
  have s5 := m4.c 5
  have s6 := m4.c 6
  have s7 := m4.c 7
  have s8 := m4.c 8
  have s9 := m4.c 9
  simp at s0 s1 s2 s3 s4 s5 s6 s7 s8 s9
  have M := Lib.hid (And.intro m3 m4)
  clear m3 m4
  have c1 : decide (y.en > y.st) = true := decide_eq_true (by have := E5.out; omega)
  have c2 : decide (y.st < y.en) = true := decide_eq_true (by have := E5.out; omega)
  go_wp2_with fail
  refine (HS2.out _ (tabB HT.out M.out.1)).mono ?_
  rintro e w6 ⟨rfl, BB⟩
  have m3 := M.out.1.trans (BB.mono M.out.1.size)
  have m4 := M.out.2.all BB
  clear BB M s0 s1 s2 s3 s4 s5 s6 s7 s8 s9
  clear c1 c2
  have s0 := m4.c 0
  have s1 := m4.c 1
  have s2 := m4.c 2
  have s3 := m4.c 3
  have s4 := m4.c 4
  have s5 := m4.c 5
  have s6 := m4.c 6
  have s7 := m4.c 7
  have s8 := m4.c 8
  have s9 := m4.c 9
  simp at s0 s1 s2 s3 s4 s5 s6 s7 s8 s9
  have M := Lib.hid (And.intro m3 m4)
  clear m3 m4
  go_wp2_with fail
  refine (HU.out _ (tabB HT.out M.out.1)).mono ?_
  rintro e w7 ⟨v, rfl, hR, BB⟩
  obtain ⟨A, cc, rfl, hcc, hC⟩ := Kd.R_reads hR
  have m3 := M.out.1.trans (BB.mono M.out.1.size)
  have m4 := M.out.2.all BB
  have l7 := m4.lt
  clear BB hR M s0 s1 s2 s3 s4 s5 s6 s7 s8 s9
  go_upto_region 15 with fail
  have n3 := m3.alloc m3.size (.cells (sc z) 26)
  have n4 := m4.alloc (.cells (sc z) 26)
  have n5 := Kd.C_below hC (below_alloc (Below.refl _ w7) (.cells (sc z) 26))
  unfold sc at n3 n4 n5
  clear m3 m4 hC
  generalize World.alloc w7 _ = w8 at n3 n4 n5 ⊢
  have s9 := n4.c 9
  simp at s9
  have N := Lib.hid (And.intro n3 n5)
  clear n3 n4 n5
  go_wp2_with fail
  go_loopg [20] (L.length + 1) (fun kq v5 w' => ∃ (i : Int), v5 = .int .i64 i ∧ Aside0 (0 ≤ i ∧ i ≤ L.length ∧ L.length + 1 ≤ kq + i) ∧ Drawn0 w8 w')
  case atStart => exact ⟨0, rfl, ⟨by omega⟩, by repeat (first | exact Drawn0.refl _ | apply Drawn0.step)⟩
  case round =>
    obtain ⟨i, rfl, HI, ⟨m1, rfl⟩⟩ := hrel
    have hi := HI.out
    by_cases ci : i < (L.length : Int)
    · obtain ⟨k1, rfl⟩ : ∃ k1, gk = k1 + 1 := ⟨gk - 1, by omega⟩
      have q1 := HL.out i hi.1 ci
      obtain ⟨ad, rfl, hx0, hx1, hx2, hx3⟩ := PH.at_T47 N.out.2 i hi.1 ci
      have d1 : decide (i < (L.length : Int)) = true := decide_eq_true ci
      have d2 : decide (y.en ≤ (PH.rd_T47 L i).f1) = false := decide_eq_false (by omega)
      have d2' : decide ((PH.rd_T47 L i).f1 ≥ y.en) = false := decide_eq_false (by omega)
      have d3 : decide (y.en < (PH.rd_T47 L i).f2) = false := decide_eq_false (by omega)
      have d3' : decide ((PH.rd_T47 L i).f2 > y.en) = false := decide_eq_false (by omega)
      have p0 := eq_true hi.1
      have p1 := eq_true ci
      have hn := HN.out
      have ew : wrap64 (i + 1) = i + 1 := by unfold wrap64; omega
      have HI2 := Lib.hid (And.intro hi (And.intro hn ci))
      clear q1 ci
      clear hi hn HI
      go_wp2
      repeat (go_quiet (fail); try go_wp2)
      go_roundg k1
      case measure => have := HI2.out; omega
      case rel => exact ⟨wrap64 (i + 1), rfl, ⟨by rw [ew]; have := HI2.out; omega⟩, by repeat (first | exact Drawn0.refl _ | apply Drawn0.step)⟩
    · have d1 : decide (i < (L.length : Int)) = false := decide_eq_false ci
      clear ci hi
      go_wp2_with fail
      refine (HH.out _ (tabB HT.out (pw_below_drewN N.out.1 _))).mono ?_
      rintro e w9 ⟨rfl, B9⟩
      go_wp2
      go_ret
      exact ⟨rfl, (pw_below_drewN N.out.1 _).trans (B9.mono (pw_below_drewN N.out.1 _).size)⟩
set_option maxRecDepth 100000 in
set_option maxHeartbeats 4000000 in
theorem ends_end_eq (x y z : Su) (on : Int) (L : List PH.S47) (w : World) (T : Tab w) (h1 : PH.subs_Cancel.f x.id x.cu x.pl x.st x.an x.ev x.pr x.bi x.si x.en on false = some (y.id, y.cu, y.pl, y.st, y.an, y.ev, y.pr, y.bi, y.si, y.en, 0, 0, 0, 0, 0))
    (h2 : PH.subs_Check.f 1 y.id y.cu y.pl y.st y.an y.ev y.pr y.bi y.si y.en = some 0) (h3 : PH.subs_Cancel.f y.id y.cu y.pl y.st y.an y.ev y.pr y.bi y.si y.en on false = some (0, 0, 0, 0, 0, 0, 0, 0, 0, 0, 0, 0, 0, 0, 9)) (h4 : PH.subs_State.f 1 y.id y.cu y.pl y.st y.an y.ev y.pr y.bi y.si y.en y.en = some (3, 0))
    (e5 : y.en ≤ y.st) (h6 : PH.subs_Due.f y.id y.cu y.pl y.st y.an y.ev y.pr y.bi y.si y.en 3652059 1000 = some (L, z.id, z.cu, z.pl, z.st, z.an, z.ev, z.pr, z.bi, z.si, z.en, 0)) (e1 : on ≤ y.en) (e2 : on < y.en) (e4 : 0 ≤ x.pr) (hL : ∀ i : Int, 0 ≤ i → i < L.length → (PH.rd_T47 L i).f1 < y.en ∧ (PH.rd_T47 L i).f2 ≤ y.en) (hlen : L.length ≤ 1000) :
    Calls Tryd.prog 7 #[.agg (sc x), .int .i64 on, .bool false] w fun e w' => e = .returned (.bool true) ∧ Below w.heap.size w w' := by
  have HC := Lib.hid (fun w (T : Tab w) => PH.subs_Cancel.calls x.id x.cu x.pl x.st x.an x.ev x.pr x.bi x.si x.en on false y.id y.cu y.pl y.st y.an y.ev y.pr y.bi y.si y.en 0 0 0 0 0 w (Aside0.mk T) h1)
  have HK := Lib.hid (fun w (T : Tab w) => PH.subs_Check.calls 1 y.id y.cu y.pl y.st y.an y.ev y.pr y.bi y.si y.en 0 w (Aside0.mk T) h2)
  have HD := Lib.hid (fun w (T : Tab w) => PH.subs_Cancel.calls y.id y.cu y.pl y.st y.an y.ev y.pr y.bi y.si y.en on false 0 0 0 0 0 0 0 0 0 0 0 0 0 0 9 w (Aside0.mk T) h3)
  have HS := Lib.hid (fun w (T : Tab w) => PH.subs_State.calls 1 y.id y.cu y.pl y.st y.an y.ev y.pr y.bi y.si y.en y.en 3 0 w (Aside0.mk T) h4)
  have HU := Lib.hid (fun w (T : Tab w) => PH.subs_Due.calls y.id y.cu y.pl y.st y.an y.ev y.pr y.bi y.si y.en 3652059 1000 L z.id z.cu z.pl z.st z.an z.ev z.pr z.bi z.si z.en 0 w (Aside0.mk T) h6)
  have HH := Lib.hid (fun w (T : Tab w) => PH.quittancelaw23_head.calls true w (Aside0.mk T) rfl)
  have HT := Lib.hid T
  have HL := Lib.hid hL
  have E1 := Lib.hid e1
  have E2 := Lib.hid e2
  have E4 := Lib.hid e4
  have E5 := Lib.hid e5
  have HN := Lib.hid hlen
  clear T h1 h2 h3 h4 h6 hL e1 e2 e4 e5 hlen
  have f1 : Bl w.heap.size (sc x) 26 (w.alloc (.cells (sc x) 26)) := World.alloc_heap_new w _
  have f3 : Below w.heap.size w (w.alloc (.cells (sc x) 26)) := (Below.refl _ w).alloc (Nat.le_refl _) _
  unfold sc at f1 f3
  unfold sc
  go_enter Tryd.func7, Tryd.ntmps7
  have F := Lib.hid (And.intro f1 f3)
  clear f1 f3
  go_wp2_with fail
  refine (HC.out _ (tabB HT.out F.out.2)).mono ?_
  rintro e w1 ⟨rfl, B1⟩
  have g1 := F.out.1.all B1
  have g3 := F.out.2.trans (B1.mono F.out.2.size)
  have l1 := g1.lt
  clear B1 F
  go_upto_region 2 with fail
  have k1 := (g1.alloc (.cells (sc y) 26)).alloc (.cells #[.int .i64 0, .int .i64 0, .int .i64 0, .int .i64 0] 30)
  have k4 : Bl w1.heap.size (sc y) 26 ((w1.alloc (.cells (sc y) 26)).alloc (.cells #[.int .i64 0, .int .i64 0, .int .i64 0, .int .i64 0] 30)) := Bl.alloc (World.alloc_heap_new w1 _) _
  have k5 : Bl (w1.heap.size + 1) #[.int .i64 0, .int .i64 0, .int .i64 0, .int .i64 0] 30 ((w1.alloc (.cells (sc y) 26)).alloc (.cells #[.int .i64 0, .int .i64 0, .int .i64 0, .int .i64 0] 30)) := Bl.newF _ _ _ (by simp)
  have k3 := (g3.alloc g3.size (.cells (sc y) 26)).alloc (g3.alloc g3.size _).size (.cells #[.int .i64 0, .int .i64 0, .int .i64 0, .int .i64 0] 30)
  unfold sc at k1 k3 k4 k5
  clear g1 g3
  generalize World.alloc (World.alloc w1 _) _ = w2 at k1 k3 k4 k5 ⊢
  generalize w1.heap.size = ga at l1 k4 k5 ⊢
  have s0 := k4.c 0
  have s1 := k4.c 1
  have s2 := k4.c 2
  have s3 := k4.c 3
  have s4 := k4.c 4
  have s5 := k4.c 5
  have s6 := k4.c 6
  have s7 := k4.c 7
  have s8 := k4.c 8
  have s9 := k4.c 9
  simp at s0 s1 s2 s3 s4 s5 s6 s7 s8 s9
  have K := Lib.hid (And.intro k1 (And.intro k3 (And.intro k4 k5)))
  clear k1 k3 k4 k5
  go_wp2_with fail
  refine (HK.out _ (tabB HT.out K.out.2.1)).mono ?_
  rintro e w3 ⟨rfl, B3⟩
  have k1 := K.out.1.all B3
  have k3 := K.out.2.1.trans (B3.mono K.out.2.1.size)
  have k4 := K.out.2.2.1.all B3
  have k5 := K.out.2.2.2.all B3
  clear B3 K
  clear s0 s1 s2 s3 s4 s5 s6 s7 s8 s9
  have s0 := k4.c 0
  have s1 := k4.c 1
  have s2 := k4.c 2
  have s3 := k4.c 3
  have s4 := k4.c 4
  have s5 := k4.c 5
  have s6 := k4.c 6
  have s7 := k4.c 7
  have s8 := k4.c 8
  have s9 := k4.c 9
  have u0 := k5.c 0
  have u1 := k5.c 1
  have u2 := k5.c 2
  have u3 := k5.c 3
  have p6 := k1.c 6
  simp at s0 s1 s2 s3 s4 s5 s6 s7 s8 s9 u0 u1 u2 u3 p6
  have K := Lib.hid (And.intro k1 (And.intro k3 (And.intro k4 k5)))
  clear k1 k3 k4 k5
  have c1 : decide (y.en < on) = false := decide_eq_false (by have := E1.out; omega)
  have c2 : decide (y.en ≤ on) = false := decide_eq_false (by have := E2.out; omega)
  have c4 : decide (x.pr < 0) = false := decide_eq_false (by have := E4.out; omega)
  have c5 : decide (0 > x.pr) = false := decide_eq_false (by have := E4.out; omega)
  go_wp2_with fail
  refine (HD.out _ (tabB HT.out K.out.2.1)).mono ?_
  rintro e w3x ⟨rfl, B3⟩
  have k1 := K.out.1.all B3
  have k3 := K.out.2.1.trans (B3.mono K.out.2.1.size)
  have k4 := K.out.2.2.1.all B3
  have k5 := K.out.2.2.2.all B3
  clear B3 K c1 c2 c4 c5 u0 u1 u2 u3 p6 s0 s1 s2 s3 s4 s5 s6 s7 s8 s9
  have l4 := k4.lt
  have l5 := k5.lt
  go_upto_region 7 with fail
  have m3 := (k3.alloc k3.size (.cells #[.int .u64 0, .int .u64 0, .int .u64 0, .int .i64 0, .int .i64 0, .int .i64 0, .int .i64 0, .int .i64 0, .int .i64 0, .int .i64 0] 26)).alloc (k3.alloc k3.size _).size (.cells #[.int .i64 0, .int .i64 0, .int .i64 0, .int .i64 0] 30)
  have m4 := (k4.alloc (.cells #[.int .u64 0, .int .u64 0, .int .u64 0, .int .i64 0, .int .i64 0, .int .i64 0, .int .i64 0, .int .i64 0, .int .i64 0, .int .i64 0] 26)).alloc (.cells #[.int .i64 0, .int .i64 0, .int .i64 0, .int .i64 0] 30)
  clear k1 k3 k4 k5
  generalize World.alloc (World.alloc w3x _) _ = w4 at m3 m4 ⊢
  have s0 := m4.c 0
  have s1 := m4.c 1
  have s2 := m4.c 2
  have s3 := m4.c 3
  have s4 := m4.c 4
  have s5 := m4.c 5
  have s6 := m4.c 6
  have s7 := m4.c 7
  have s8 := m4.c 8
  have s9 := m4.c 9
  simp at s0 s1 s2 s3 s4 s5 s6 s7 s8 s9
  have M := Lib.hid (And.intro m3 m4)
  clear m3 m4
  go_wp2_with fail
  refine (HS.out _ (tabB HT.out M.out.1)).mono ?_
  rintro e w5 ⟨rfl, BB⟩
  have m3 := M.out.1.trans (BB.mono M.out.1.size)
  have m4 := M.out.2.all BB
  clear BB M s0 s1 s2 s3 s4 s5 s6 s7 s8 s9
  have s0 := m4.c 0
  have s1 := m4.c 1
  have s2 := m4.c 2
  have s3 := m4.c 3
  have s4 := m4.c 4
  have s5 := m4.c 5
  have s6 := m4.c 6
  have s7 := m4.c 7
  have s8 := m4.c 8
  have s9 := m4.c 9
  simp at s0 s1 s2 s3 s4 s5 s6 s7 s8 s9
  have M := Lib.hid (And.intro m3 m4)
  clear m3 m4
  have c1 : decide (y.en > y.st) = false := decide_eq_false (by have := E5.out; omega)
  have c2 : decide (y.st < y.en) = false := decide_eq_false (by have := E5.out; omega)
  go_wp2_with fail
  refine (HU.out _ (tabB HT.out M.out.1)).mono ?_
  rintro e w7 ⟨v, rfl, hR, BB⟩
  obtain ⟨A, cc, rfl, hcc, hC⟩ := Kd.R_reads hR
  have m3 := M.out.1.trans (BB.mono M.out.1.size)
  have m4 := M.out.2.all BB
  have l7 := m4.lt
  clear BB hR M c1 c2 s0 s1 s2 s3 s4 s5 s6 s7 s8 s9
  go_upto_region 15 with fail
  have n3 := m3.alloc m3.size (.cells (sc z) 26)
  have n4 := m4.alloc (.cells (sc z) 26)
  have n5 := Kd.C_below hC (below_alloc (Below.refl _ w7) (.cells (sc z) 26))
  unfold sc at n3 n4 n5
  clear m3 m4 hC
  generalize World.alloc w7 _ = w8 at n3 n4 n5 ⊢
  have s9 := n4.c 9
  simp at s9
  have N := Lib.hid (And.intro n3 n5)
  clear n3 n4 n5
  go_wp2_with fail
  go_loopg [20] (L.length + 1) (fun kq v5 w' => ∃ (i : Int), v5 = .int .i64 i ∧ Aside0 (0 ≤ i ∧ i ≤ L.length ∧ L.length + 1 ≤ kq + i) ∧ Drawn0 w8 w')
  case atStart => exact ⟨0, rfl, ⟨by omega⟩, by repeat (first | exact Drawn0.refl _ | apply Drawn0.step)⟩
  case round =>
    obtain ⟨i, rfl, HI, ⟨m1, rfl⟩⟩ := hrel
    have hi := HI.out
    by_cases ci : i < (L.length : Int)
    · obtain ⟨k1, rfl⟩ : ∃ k1, gk = k1 + 1 := ⟨gk - 1, by omega⟩
      have q1 := HL.out i hi.1 ci
      obtain ⟨ad, rfl, hx0, hx1, hx2, hx3⟩ := PH.at_T47 N.out.2 i hi.1 ci
      have d1 : decide (i < (L.length : Int)) = true := decide_eq_true ci
      have d2 : decide (y.en ≤ (PH.rd_T47 L i).f1) = false := decide_eq_false (by omega)
      have d2' : decide ((PH.rd_T47 L i).f1 ≥ y.en) = false := decide_eq_false (by omega)
      have d3 : decide (y.en < (PH.rd_T47 L i).f2) = false := decide_eq_false (by omega)
      have d3' : decide ((PH.rd_T47 L i).f2 > y.en) = false := decide_eq_false (by omega)
      have p0 := eq_true hi.1
      have p1 := eq_true ci
      have hn := HN.out
      have ew : wrap64 (i + 1) = i + 1 := by unfold wrap64; omega
      have HI2 := Lib.hid (And.intro hi (And.intro hn ci))
      clear q1 ci
      clear hi hn HI
      go_wp2
      repeat (go_quiet (fail); try go_wp2)
      go_roundg k1
      case measure => have := HI2.out; omega
      case rel => exact ⟨wrap64 (i + 1), rfl, ⟨by rw [ew]; have := HI2.out; omega⟩, by repeat (first | exact Drawn0.refl _ | apply Drawn0.step)⟩
    · have d1 : decide (i < (L.length : Int)) = false := decide_eq_false ci
      clear ci hi
      go_wp2_with fail
      refine (HH.out _ (tabB HT.out (pw_below_drewN N.out.1 _))).mono ?_
      rintro e w9 ⟨rfl, B9⟩
      go_wp2
      go_ret
      exact ⟨rfl, (pw_below_drewN N.out.1 _).trans (B9.mono (pw_below_drewN N.out.1 _).size)⟩
end Go.Proofs.YtibkbimhedoafaaDoor.law23

namespace Go.Proofs.YtibkbimhedoafaaDoor.PH
open Go.RowKit Go.Proofs.YtibkbimhedoafaaDoorW.PrintWords Go.Proofs.YtibkbimhedoafaaDoorW.PrintLast Sb An Cv
theorem rd_ix (f : Int → S47) (k : Int) (m : Nat) (i : Int) (h0 : 0 ≤ i) (h1 : i < m) : rd_T47 ((ix k m).map f) i = f (k + i) := by
  have hlt : i.toNat < m := by omega
  have e : ((i.toNat : Nat) : Int) = i := Int.toNat_of_nonneg h0
  unfold rd_T47 ix
  rw [List.getD_eq_getElem?_getD, List.getElem?_map, List.getElem?_map, List.getElem?_range hlt]
  simp only [Option.map_some, Option.getD_some, e]
theorem state_f (y : Su) (d : Int) (h : ckB y = true) (hd : okD d = true) : subs_State.f 1 y.id y.cu y.pl y.st y.an y.ev y.pr y.bi y.si y.en d = some (if d < y.st then 0 else if y.en = 0 then 1 else if d < y.en then 2 else 3, 0) := by
  have e : subs_Check.f 1 y.id y.cu y.pl y.st y.an y.ev y.pr y.bi y.si y.en = some (ckV y) := check23 0 y
  unfold subs_State.f
  rw [e, sday_f]
  simp only [Option.bind_some]
  rw [if_pos (by simp [ckV, h]), hd]
  simp only [subs_State.j0, Bool.not_true, Bool.false_eq_true, if_false]
  by_cases h1 : d < y.st
  · rw [if_pos h1, if_pos h1]
  rw [if_neg h1, if_neg h1]
  by_cases h2 : y.en = 0
  · rw [if_pos h2, if_pos h2]
  rw [if_neg h2, if_neg h2]
  by_cases h3 : d < y.en
  · rw [if_pos h3, if_pos h3]
  · rw [if_neg h3, if_neg h3]
end Go.Proofs.YtibkbimhedoafaaDoor.PH
namespace Go.Proofs.YtibkbimhedoafaaDoor.law23
open Go.RowKit Go.Proofs.YtibkbimhedoafaaDoor.base Go.Shelf Sb Cv
open Go.Proofs.YtibkbimhedoafaaDoor.psub
open Go.Proofs.YtibkbimhedoafaaDoor.civ (Tab)
open Go.Proofs.YtibkbimhedoafaaDoor.PH (cancel_tells due_some due_none due_then bil_of state_f rd_ix cancel_twice check23 okd_t)
theorem subsEnds (x : Su) (on : Int) (at_ : Bool) (w : World) (T : Tab w) : Calls Tryd.prog 7 #[.agg (sc x), .int .i64 on, .bool at_] w fun e w' => e = .returned (.bool true) ∧ Below w.heap.size w w' := by
  obtain ⟨y, t0, t1, t2, t3, er, h1, hh⟩ := cancel_tells x on at_
  rcases hh with ⟨he, rfl, rfl, rfl, rfl, rfl⟩ | ⟨rfl, hc, hd, hde, hst, hon, hat, hen, rfl, ht0, ht1⟩
  · exact ends_no x on er at_ w T h1 he
  · obtain ⟨m, hs, hf⟩ := due_some y 3652059 1000 hc (okD_mk (by omega) (by omega)) (by omega) (by omega)
    have hdt := okd_t hde
    have c := ckB_t hc
    have hm : m ≤ 1000 := by
      have := (due_then hc (okD_mk (by omega) (by omega) : okD 3652059 = true) (show (1 : Int) ≤ 1000 by omega) (by omega) hs).2.1
      omega
    have hlen : ((ix y.bi m).map (psub.bl y)).length = m := by rw [List.length_map, ix_len]
    have h2 : PH.subs_Check.f 1 y.id y.cu y.pl y.st y.an y.ev y.pr y.bi y.si y.en = some 0 := (check23 0 y).trans (by simp [ckV, hc])
    have h3 := cancel_twice y on at_ hc hd hde
    have h4 : PH.subs_State.f 1 y.id y.cu y.pl y.st y.an y.ev y.pr y.bi y.si y.en y.en = some (3, 0) := by
      rw [state_f y y.en hc hde, if_neg (by omega), if_neg (by omega), if_neg (by omega)]
    have h5 : y.st < y.en → PH.subs_State.f 1 y.id y.cu y.pl y.st y.an y.ev y.pr y.bi y.si y.en (wrap64 (y.en - 1)) = some (2, 0) := fun q => by
      have ho := An.ok_t (show An.ok y.st y.an y.ev = true from c.ok)
      rw [PH.w64 (by omega) (by omega), state_f y (y.en - 1) hc (okD_mk (by omega) (by omega)), if_neg (by omega), if_neg (by omega), if_pos (by omega)]
    have hL : ∀ i : Int, 0 ≤ i → i < ((ix y.bi m).map (psub.bl y)).length → (PH.rd_T47 ((ix y.bi m).map (psub.bl y)) i).f1 < y.en ∧ (PH.rd_T47 ((ix y.bi m).map (psub.bl y)) i).f2 ≤ y.en := fun i q0 q1 => by
      rw [hlen] at q1
      have hb := bil_of hc hs (j := i.toNat) (by omega)
      rw [Int.toNat_of_nonneg q0] at hb
      rw [rd_ix _ _ _ _ q0 q1]
      have := hb.en (by omega)
      exact ⟨this.1, this.2⟩
    have hl : ((ix y.bi m).map (psub.bl y)).length ≤ 1000 := by rw [hlen]; exact hm
    cases at_ with
    | true =>
      by_cases hg : y.st < y.en
      · exact ends_at_gt x y ⟨y.id, y.cu, y.pl, y.st, y.an, y.ev, y.pr, y.bi + m, y.si, y.en⟩ on t0 t1 t2 _ w T h1 h2 h3 h4 (h5 hg) hg hf hon (hat rfl) ht0 ht1 hL hl
      · exact ends_at_eq x y ⟨y.id, y.cu, y.pl, y.st, y.an, y.ev, y.pr, y.bi + m, y.si, y.en⟩ on t0 t1 t2 _ w T h1 h2 h3 h4 (by omega) hf hon (hat rfl) ht0 ht1 hL hl
    | false =>
      obtain ⟨hlt, rfl, rfl, rfl⟩ := hen rfl
      by_cases hg : y.st < y.en
      · exact ends_end_gt x y ⟨y.id, y.cu, y.pl, y.st, y.an, y.ev, y.pr, y.bi + m, y.si, y.en⟩ on _ w T h1 h2 h3 h4 (h5 hg) hg hf hon hlt ht1 hL hl
      · exact ends_end_eq x y ⟨y.id, y.cu, y.pl, y.st, y.an, y.ev, y.pr, y.bi + m, y.si, y.en⟩ on _ w T h1 h2 h3 h4 (by omega) hf hon hlt ht1 hL hl
end Go.Proofs.YtibkbimhedoafaaDoor.law23

namespace Go.Proofs.YtibkbimhedoafaaDoor.law23
open Go.RowKit Go.Proofs.YtibkbimhedoafaaDoor.base Go.Shelf Sb
open Go.Proofs.YtibkbimhedoafaaDoor.psub
open Go.Proofs.YtibkbimhedoafaaDoor.civ (Tab)
open Go.Proofs.YtibkbimhedoafaaDoorW.PrintWords
set_option linter.unusedSimpArgs false
attribute [local go_sem high] PH.eqA26
theorem Bl.newG {b : Nat} (W : World) (cs : Array Value) (t : TypeId) (hb : b = W.heap.size) : Bl b cs t (W.alloc (.cells cs t)) := by subst hb; exact World.alloc_heap_new W _
/-- The boxes, and what was billed. -/
structure WI (w : World) (g : Nat) (x z : Array Value) (A : Option Addr) (L : List PH.S47) (W : World) : Prop where
  bx : Bl w.heap.size x 26 W
  bz : Bl g z 26 W
  bel : Below w.heap.size w W
  row : Kd.C PH.k47 W A L.length L
theorem WI.all {w W V : World} {g : Nat} {x z : Array Value} {A : Option Addr} {L : List PH.S47} (h : WI w g x z A L W) (hB : Below W.heap.size W V) : WI w g x z A L V := ⟨h.bx.all hB, h.bz.all hB, h.bel.trans (hB.mono h.bel.size), Kd.C_below h.row hB⟩
set_option maxRecDepth 100000 in
set_option maxHeartbeats 4000000 in
theorem whole_no (x : Su) (today most er : Int) (w : World) (T : Tab w) (h1 : PH.subs_Due.f x.id x.cu x.pl x.st x.an x.ev x.pr x.bi x.si x.en today most = some ([], 0, 0, 0, 0, 0, 0, 0, 0, 0, 0, er)) (he : er ≠ 0) :
    Calls Tryd.prog 5 #[.agg (sc x), .int .i64 today, .int .i64 most] w fun e w' => e = .returned (.bool true) ∧ Below w.heap.size w w' := by
  have HC := Lib.hid (fun w (T : Tab w) => PH.subs_Due.calls x.id x.cu x.pl x.st x.an x.ev x.pr x.bi x.si x.en today most [] 0 0 0 0 0 0 0 0 0 0 er w (Aside0.mk T) h1)
  have HH := Lib.hid (fun w (T : Tab w) => PH.quittancelaw23_head.calls true w (Aside0.mk T) rfl)
  have HT := Lib.hid T
  have g9 : (er == 0) = false := by simpa using he
  clear T h1 he
  have f1 : Bl w.heap.size (sc x) 26 (w.alloc (.cells (sc x) 26)) := World.alloc_heap_new w _
  have f3 : Below w.heap.size w (w.alloc (.cells (sc x) 26)) := (Below.refl _ w).alloc (Nat.le_refl _) _
  unfold sc at f1 f3
  unfold sc
  go_enter Tryd.func5, Tryd.ntmps5
  have F := Lib.hid (And.intro f1 f3)
  clear f1 f3
  go_wp2_with fail
  refine (HC.out _ (tabB HT.out F.out.2)).mono ?_
  rintro e w1 ⟨v, rfl, hR, B1⟩
  obtain ⟨A, cc, rfl, hcc, hC⟩ := Kd.R_reads hR
  have g1 := F.out.1.all B1
  have g3 := F.out.2.trans (B1.mono F.out.2.size)
  have l1 := g1.lt
  clear B1 F hR
  go_upto_region 2 with fail
  have k3 := g3.alloc g3.size (.cells #[.int .u64 0, .int .u64 0, .int .u64 0, .int .i64 0, .int .i64 0, .int .i64 0, .int .i64 0, .int .i64 0, .int .i64 0, .int .i64 0] 26)
  have k4 : Bl w1.heap.size #[.int .u64 0, .int .u64 0, .int .u64 0, .int .i64 0, .int .i64 0, .int .i64 0, .int .i64 0, .int .i64 0, .int .i64 0, .int .i64 0] 26 (w1.alloc (.cells #[.int .u64 0, .int .u64 0, .int .u64 0, .int .i64 0, .int .i64 0, .int .i64 0, .int .i64 0, .int .i64 0, .int .i64 0, .int .i64 0] 26)) := World.alloc_heap_new w1 _
  clear g1 g3
  generalize World.alloc w1 _ = w2 at k3 k4 ⊢
  generalize w1.heap.size = ga at l1 k4 ⊢
  have s0 := k4.c 0
  have s1 := k4.c 1
  have s2 := k4.c 2
  have s3 := k4.c 3
  have s4 := k4.c 4
  have s5 := k4.c 5
  have s6 := k4.c 6
  have s7 := k4.c 7
  have s8 := k4.c 8
  have s9 := k4.c 9
  simp at s0 s1 s2 s3 s4 s5 s6 s7 s8 s9
  have K := Lib.hid k3
  clear k3 k4
  go_wp2_with fail
  refine (HH.out _ (tabB HT.out K.out)).mono ?_
  rintro e w5 ⟨rfl, B5⟩
  go_wp2
  go_ret
  exact ⟨rfl, K.out.trans (B5.mono K.out.size)⟩
/-- What the statement asks of a bill. -/
structure BI (x : Su) (today : Int) (L : List PH.S47) (i : Int) : Prop where
  rd : PH.rd_T47 L i = ⟨wrap64 (x.bi + i), fr x (x.bi + i), ee x (x.bi + i), onF x (x.bi + i)⟩
  bd : PH.quittanceref09_Bound.f 400000 x.st x.an x.ev (wrap64 (wrap64 (x.bi + i) + 1)) = some (nx x (x.bi + i), 0)
  ki : wrap64 (x.bi + i) = x.bi + i
  b0 : 0 ≤ x.bi
  nw : fr x (x.bi + i) ≤ today
  lo : fr x (x.bi + i) < ee x (x.bi + i)
  hi : ee x (x.bi + i) ≤ nx x (x.bi + i)
  is : ee x (x.bi + i) = nx x (x.bi + i) ∨ ee x (x.bi + i) = x.en
  a0 : 0 ≤ onF x (x.bi + i)
  a1 : onF x (x.bi + i) ≤ x.pr
  al : 0 < x.bi + i → ee x (x.bi + i) = nx x (x.bi + i) → onF x (x.bi + i) = x.pr
set_option maxRecDepth 100000 in
set_option maxHeartbeats 8000000 in
theorem whole_full (x z y : Su) (today most : Int) (L L2 : List PH.S47) (w : World) (T : Tab w) (h1 : PH.subs_Due.f x.id x.cu x.pl x.st x.an x.ev x.pr x.bi x.si x.en today most = some (L, z.id, z.cu, z.pl, z.st, z.an, z.ev, z.pr, z.bi, z.si, z.en, 0))
    (h2 : PH.subs_Check.f 1 z.id z.cu z.pl z.st z.an z.ev z.pr z.bi z.si z.en = some 0) (h3 : PH.subs_Due.f z.id z.cu z.pl z.st z.an z.ev z.pr z.bi z.si z.en today most = some (L2, y.id, y.cu, y.pl, y.st, y.an, y.ev, y.pr, y.bi, y.si, y.en, 0)) (h4 : PH.quittanceref09_Bound.f 400000 x.st x.an x.ev x.bi = some (fr x x.bi, 0))
    (hL : ∀ i : Int, 0 ≤ i → i < L.length → BI x today L i) (hz : wrap64 (x.bi + L.length) = z.bi) (hm : (L.length : Int) = most) (hlen : L.length ≤ 1000) :
    Calls Tryd.prog 5 #[.agg (sc x), .int .i64 today, .int .i64 most] w fun e w' => e = .returned (.bool true) ∧ Below w.heap.size w w' := by
  have HC := Lib.hid (fun w (T : Tab w) => PH.subs_Due.calls x.id x.cu x.pl x.st x.an x.ev x.pr x.bi x.si x.en today most L z.id z.cu z.pl z.st z.an z.ev z.pr z.bi z.si z.en 0 w (Aside0.mk T) h1)
  have HK := Lib.hid (fun w (T : Tab w) => PH.subs_Check.calls 1 z.id z.cu z.pl z.st z.an z.ev z.pr z.bi z.si z.en 0 w (Aside0.mk T) h2)
  have HD := Lib.hid (fun w (T : Tab w) => PH.subs_Due.calls z.id z.cu z.pl z.st z.an z.ev z.pr z.bi z.si z.en today most L2 y.id y.cu y.pl y.st y.an y.ev y.pr y.bi y.si y.en 0 w (Aside0.mk T) h3)
  have HB := Lib.hid (fun w => PH.quittanceref09_Bound.calls 400000 x.st x.an x.ev x.bi _ _ w h4)
  have HH := Lib.hid (fun w (T : Tab w) => PH.quittancelaw23_head.calls true w (Aside0.mk T) rfl)
  have HT := Lib.hid T
  have HL := Lib.hid hL
  have HZ := Lib.hid hz
  have HM := Lib.hid hm
  have HN := Lib.hid hlen
  clear T h1 h2 h3 h4 hL hz hm hlen
  have f1 : Bl w.heap.size (sc x) 26 (w.alloc (.cells (sc x) 26)) := World.alloc_heap_new w _
  have f3 : Below w.heap.size w (w.alloc (.cells (sc x) 26)) := (Below.refl _ w).alloc (Nat.le_refl _) _
  unfold sc at f1 f3
  unfold sc
  go_enter Tryd.func5, Tryd.ntmps5
  have F := Lib.hid (And.intro f1 f3)
  clear f1 f3
  go_wp2_with fail
  refine (HC.out _ (tabB HT.out F.out.2)).mono ?_
  rintro e w1 ⟨v, rfl, hR, B1⟩
  obtain ⟨A, cc, rfl, hcc, hC⟩ := Kd.R_reads hR
  have g1 := F.out.1.all B1
  have g3 := F.out.2.trans (B1.mono F.out.2.size)
  have l1 := g1.lt
  clear B1 F hR
  go_upto_region 2 with fail
  have n0 : WI w w1.heap.size (sc x) (sc z) A L (w1.alloc (.cells (sc z) 26)) := ⟨g1.alloc _, World.alloc_heap_new w1 _, g3.alloc g3.size _, Kd.C_below hC (below_alloc (Below.refl _ w1) _)⟩
  unfold sc at n0
  clear g1 g3 hC
  generalize World.alloc w1 _ = w2 at n0 ⊢
  generalize w1.heap.size = ga at l1 n0 ⊢
  have N := Lib.hid n0
  clear n0
  have p0 := N.out.bx.c 0
  have p1 := N.out.bx.c 1
  have p2 := N.out.bx.c 2
  have p3 := N.out.bx.c 3
  have p4 := N.out.bx.c 4
  have p5 := N.out.bx.c 5
  have p6 := N.out.bx.c 6
  have p7 := N.out.bx.c 7
  have p8 := N.out.bx.c 8
  have p9 := N.out.bx.c 9
  simp at p0 p1 p2 p3 p4 p5 p6 p7 p8 p9
  go_wp2_with fail
  refine (HB.out _).mono ?_
  rintro e w3 ⟨rfl, B3⟩
  have n0 := N.out.all B3
  clear B3 N p0 p1 p2 p3 p4 p5 p6 p7 p8 p9
  have N := Lib.hid n0
  clear n0
  go_wp2_with fail
  go_loopg [10, 12] (L.length + 1) (fun kq v10 v12 w' => ∃ (i : Int), v10 = .int .i64 (fr x (x.bi + i)) ∧ v12 = .int .i64 i ∧ Aside0 (0 ≤ i ∧ i ≤ L.length ∧ L.length + 1 ≤ kq + i) ∧ Aside0 (WI w ga (sc x) (sc z) A L w'))
  case atStart => exact ⟨0, by rw [Int.add_zero], rfl, ⟨by omega⟩, ⟨N.out.all (by repeat (first | exact Below.refl _ _ | apply Below.drew))⟩⟩
  case round =>
    obtain ⟨i, rfl, rfl, HI, HW⟩ := hrel
    have n0 := HW.out
    unfold sc at n0
    clear N HW
    have N := Lib.hid n0
    clear n0
    have hi := HI.out
    by_cases ci : i < (L.length : Int)
    · obtain ⟨k1, rfl⟩ : ∃ k1, gk = k1 + 1 := ⟨gk - 1, by omega⟩
      have bi := HL.out i hi.1 ci
      have d1 : decide (i < (L.length : Int)) = true := decide_eq_true ci
      have hn := HN.out
      have ew : wrap64 (i + 1) = i + 1 := by unfold wrap64; omega
      have EW := Lib.hid ew
      clear ew
      have HI2 := Lib.hid (And.intro hi (And.intro hn ci))
      have BI_ := Lib.hid bi
      clear hi hn HI ci bi
      have p0 := N.out.bx.c 0
      have p1 := N.out.bx.c 1
      have p2 := N.out.bx.c 2
      have p3 := N.out.bx.c 3
      have p4 := N.out.bx.c 4
      have p5 := N.out.bx.c 5
      have p6 := N.out.bx.c 6
      have p7 := N.out.bx.c 7
      have p8 := N.out.bx.c 8
      have p9 := N.out.bx.c 9
      simp at p0 p1 p2 p3 p4 p5 p6 p7 p8 p9
      go_wp2_with fail
      refine (PH.quittanceref09_Bound.calls 400000 x.st x.an x.ev _ _ _ _ BI_.out.bd).mono ?_
      rintro e w4 ⟨rfl, B4⟩
      have n0 := N.out.all B4
      clear B4 N p0 p1 p2 p3 p4 p5 p6 p7 p8 p9
      have l4 := n0.bx.lt
      obtain ⟨ad, rfl, hx0, hx1, hx2, hx3⟩ := PH.at_T47 n0.row i HI2.out.1.1 HI2.out.2.2
      rw [BI_.out.rd] at hx0 hx1 hx2 hx3
      simp only [] at hx0 hx1 hx2 hx3
      have q0 := eq_true HI2.out.1.1
      have q1 := eq_true HI2.out.2.2
      go_upto_region 10 with fail
      have n1 := n0.all (below_alloc (Below.refl _ w4) (.cells #[.int .i64 (wrap64 (x.bi + i)), .int .i64 (fr x (x.bi + i)), .int .i64 (ee x (x.bi + i)), .int .i64 (onF x (x.bi + i))] 47))
      have b0 : Bl w4.heap.size #[.int .i64 (wrap64 (x.bi + i)), .int .i64 (fr x (x.bi + i)), .int .i64 (ee x (x.bi + i)), .int .i64 (onF x (x.bi + i))] 47 (w4.alloc (.cells #[.int .i64 (wrap64 (x.bi + i)), .int .i64 (fr x (x.bi + i)), .int .i64 (ee x (x.bi + i)), .int .i64 (onF x (x.bi + i))] 47)) := World.alloc_heap_new w4 _
      clear hx0 hx1 hx2 hx3 n0 q0 q1
      generalize World.alloc w4 _ = w5 at n1 b0 ⊢
      generalize w4.heap.size = gb at b0 l4 ⊢
      have N := Lib.hid n1
      clear n1
      have p0 := N.out.bx.c 0
      have p1 := N.out.bx.c 1
      have p2 := N.out.bx.c 2
      have p3 := N.out.bx.c 3
      have p4 := N.out.bx.c 4
      have p5 := N.out.bx.c 5
      have p6 := N.out.bx.c 6
      have p7 := N.out.bx.c 7
      have p8 := N.out.bx.c 8
      have p9 := N.out.bx.c 9
      have c0 := b0.c 0
      have c1 := b0.c 1
      have c2 := b0.c 2
      have c3 := b0.c 3
      simp at p0 p1 p2 p3 p4 p5 p6 p7 p8 p9 c0 c1 c2 c3
      clear b0
      have bb := BI_.out
      have e0 : (wrap64 (x.bi + i) == wrap64 (x.bi + i)) = true := beq_self_eq_true _
      obtain ⟨_, _, ki, b0, nw, lo, hi, is, a0, a1, al⟩ := bb
      have gaa : decide (fr x (x.bi + i) > today) = false := decide_eq_false (by omega)
      have gab : decide (today < fr x (x.bi + i)) = false := decide_eq_false (by omega)
      have gba : decide (ee x (x.bi + i) > nx x (x.bi + i)) = false := decide_eq_false (by omega)
      have gbb : decide (nx x (x.bi + i) < ee x (x.bi + i)) = false := decide_eq_false (by omega)
      have gc : decide (ee x (x.bi + i) ≤ fr x (x.bi + i)) = false := decide_eq_false (by omega)
      have gd : decide (onF x (x.bi + i) < 0) = false := decide_eq_false (by omega)
      have gea : decide (onF x (x.bi + i) > x.pr) = false := decide_eq_false (by omega)
      have geb : decide (x.pr < onF x (x.bi + i)) = false := decide_eq_false (by omega)
      by_cases h1 : ee x (x.bi + i) = nx x (x.bi + i)
      · have gf : (ee x (x.bi + i) == nx x (x.bi + i)) = true := by simpa using h1
        have gf2 : (ee x (x.bi + i) != nx x (x.bi + i)) = false := by simpa using h1
        by_cases h2 : 0 < x.bi + i
        · have gg : (onF x (x.bi + i) == x.pr) = true := by simpa using al h2 h1
          have gg2 : (onF x (x.bi + i) != x.pr) = false := by simpa using al h2 h1
          have gha : decide (wrap64 (x.bi + i) > 0) = true := decide_eq_true (by omega)
          have ghb : decide (0 < wrap64 (x.bi + i)) = true := decide_eq_true (by omega)
          clear h1 h2 ki nw lo hi is a0 a1 al
          go_wp2
          repeat (go_quiet (fail); try go_wp2)
          go_roundg k1
          case measure => have := HI2.out; omega
          case rel =>
            refine ⟨wrap64 (i + 1), ?_, rfl, ⟨by rw [EW.out]; have := HI2.out; omega⟩, ⟨?_⟩⟩
            · rw [EW.out]; unfold nx fr; rw [Int.add_assoc]
            · exact N.out.all (by repeat (first | exact Below.refl _ _ | apply Below.drew))
        · have gha : decide (wrap64 (x.bi + i) > 0) = false := decide_eq_false (by omega)
          have ghb : decide (0 < wrap64 (x.bi + i)) = false := decide_eq_false (by omega)
          clear h1 h2 ki nw lo hi is a0 a1 al
          go_wp2
          repeat (go_quiet (fail); try go_wp2)
          go_roundg k1
          case measure => have := HI2.out; omega
          case rel =>
            refine ⟨wrap64 (i + 1), ?_, rfl, ⟨by rw [EW.out]; have := HI2.out; omega⟩, ⟨?_⟩⟩
            · rw [EW.out]; unfold nx fr; rw [Int.add_assoc]
            · exact N.out.all (by repeat (first | exact Below.refl _ _ | apply Below.drew))
      · have gf : (ee x (x.bi + i) == nx x (x.bi + i)) = false := by simpa using h1
        have gf2 : (ee x (x.bi + i) != nx x (x.bi + i)) = true := by simpa using h1
        have gg2 : (ee x (x.bi + i) != x.en) = false := by simpa using is.resolve_left h1
        have gg : (ee x (x.bi + i) == x.en) = true := by simpa using is.resolve_left h1
        by_cases h2 : 0 < x.bi + i
        · have gha : decide (wrap64 (x.bi + i) > 0) = true := decide_eq_true (by omega)
          have ghb : decide (0 < wrap64 (x.bi + i)) = true := decide_eq_true (by omega)
          clear h1 h2 ki nw lo hi is a0 a1 al
          go_wp2
          repeat (go_quiet (fail); try go_wp2)
          go_roundg k1
          case measure => have := HI2.out; omega
          case rel =>
            refine ⟨wrap64 (i + 1), ?_, rfl, ⟨by rw [EW.out]; have := HI2.out; omega⟩, ⟨?_⟩⟩
            · rw [EW.out]; unfold nx fr; rw [Int.add_assoc]
            · exact N.out.all (by repeat (first | exact Below.refl _ _ | apply Below.drew))
        · have gha : decide (wrap64 (x.bi + i) > 0) = false := decide_eq_false (by omega)
          have ghb : decide (0 < wrap64 (x.bi + i)) = false := decide_eq_false (by omega)
          clear h1 h2 ki nw lo hi is a0 a1 al
          go_wp2
          repeat (go_quiet (fail); try go_wp2)
          go_roundg k1
          case measure => have := HI2.out; omega
          case rel =>
            refine ⟨wrap64 (i + 1), ?_, rfl, ⟨by rw [EW.out]; have := HI2.out; omega⟩, ⟨?_⟩⟩
            · rw [EW.out]; unfold nx fr; rw [Int.add_assoc]
            · exact N.out.all (by repeat (first | exact Below.refl _ _ | apply Below.drew))
    · have d1 : decide (i < (L.length : Int)) = false := decide_eq_false ci
      clear ci hi
      have s0 := N.out.bz.c 0
      have s1 := N.out.bz.c 1
      have s2 := N.out.bz.c 2
      have s3 := N.out.bz.c 3
      have s4 := N.out.bz.c 4
      have s5 := N.out.bz.c 5
      have s6 := N.out.bz.c 6
      have s7 := N.out.bz.c 7
      have s8 := N.out.bz.c 8
      have s9 := N.out.bz.c 9
      simp at s0 s1 s2 s3 s4 s5 s6 s7 s8 s9
      go_wp2_with fail
      refine (HD.out _ (tabB HT.out N.out.bel)).mono ?_
      rintro e w6 ⟨v, rfl, hR, B6⟩
      obtain ⟨A2, c2, rfl, hc2, hC2⟩ := Kd.R_reads hR
      have n0 := N.out.all B6
      have l6 := n0.bz.lt
      have l7 := n0.bx.lt
      clear hR hC2 B6 N s0 s1 s2 s3 s4 s5 s6 s7 s8 s9
      go_upto_region 16 with fail
      have n1 := n0.all (below_alloc (Below.refl _ w6) (.cells (sc y) 26))
      have b0 : Bl w6.heap.size (sc y) 26 (w6.alloc (.cells (sc y) 26)) := World.alloc_heap_new w6 _
      unfold sc at n1 b0
      clear n0
      generalize World.alloc w6 _ = w7 at n1 b0 ⊢
      generalize w6.heap.size = gb at b0 l6 l7 ⊢
      have N := Lib.hid (And.intro n1 b0)
      clear n1 b0
      have s0 := N.out.1.bz.c 0
      have s1 := N.out.1.bz.c 1
      have s2 := N.out.1.bz.c 2
      have s3 := N.out.1.bz.c 3
      have s4 := N.out.1.bz.c 4
      have s5 := N.out.1.bz.c 5
      have s6 := N.out.1.bz.c 6
      have s7 := N.out.1.bz.c 7
      have s8 := N.out.1.bz.c 8
      have s9 := N.out.1.bz.c 9
      simp at s0 s1 s2 s3 s4 s5 s6 s7 s8 s9
      go_wp2_with fail
      refine (HK.out _ (tabB HT.out N.out.1.bel)).mono ?_
      rintro e w8 ⟨rfl, B8⟩
      have n1 := N.out.1.all B8
      have b0 := N.out.2.all B8
      clear B8 N s0 s1 s2 s3 s4 s5 s6 s7 s8 s9
      have N := Lib.hid (And.intro n1 b0)
      clear n1 b0
      have s0 := N.out.1.bz.c 0
      have s1 := N.out.1.bz.c 1
      have s2 := N.out.1.bz.c 2
      have s3 := N.out.1.bz.c 3
      have s4 := N.out.1.bz.c 4
      have s5 := N.out.1.bz.c 5
      have s6 := N.out.1.bz.c 6
      have s7 := N.out.1.bz.c 7
      have s8 := N.out.1.bz.c 8
      have s9 := N.out.1.bz.c 9
      have r0 := N.out.2.c 0
      have r1 := N.out.2.c 1
      have r2 := N.out.2.c 2
      have r3 := N.out.2.c 3
      have r4 := N.out.2.c 4
      have r5 := N.out.2.c 5
      have r6 := N.out.2.c 6
      have r7 := N.out.2.c 7
      have r8 := N.out.2.c 8
      have r9 := N.out.2.c 9
      have p7 := N.out.1.bx.c 7
      simp at s0 s1 s2 s3 s4 s5 s6 s7 s8 s9 r0 r1 r2 r3 r4 r5 r6 r7 r8 r9 p7
      have ga : (z.bi == wrap64 (x.bi + (L.length : Int))) = true := by simpa using HZ.out.symm
      have gb : decide ((L.length : Int) ≤ most) = true := decide_eq_true (by have := HM.out; omega)
      have gc : ((L.length : Int) == most) = true := by have := HM.out; simp; omega
      go_wp2_with fail
      refine (HH.out _ (tabB HT.out N.out.1.bel)).mono ?_
      rintro e w9 ⟨rfl, B9⟩
      go_wp2
      go_ret
      exact ⟨rfl, N.out.1.bel.trans (B9.mono N.out.1.bel.size)⟩
set_option maxRecDepth 100000 in
set_option maxHeartbeats 8000000 in
theorem whole_less (x z : Su) (today most : Int) (L : List PH.S47) (w : World) (T : Tab w) (h1 : PH.subs_Due.f x.id x.cu x.pl x.st x.an x.ev x.pr x.bi x.si x.en today most = some (L, z.id, z.cu, z.pl, z.st, z.an, z.ev, z.pr, z.bi, z.si, z.en, 0))
    (h2 : PH.subs_Check.f 1 z.id z.cu z.pl z.st z.an z.ev z.pr z.bi z.si z.en = some 0) (h3 : PH.subs_Due.f z.id z.cu z.pl z.st z.an z.ev z.pr z.bi z.si z.en today most = some ([], z.id, z.cu, z.pl, z.st, z.an, z.ev, z.pr, z.bi, z.si, z.en, 0)) (h4 : PH.quittanceref09_Bound.f 400000 x.st x.an x.ev x.bi = some (fr x x.bi, 0))
    (hL : ∀ i : Int, 0 ≤ i → i < L.length → BI x today L i) (hz : wrap64 (x.bi + L.length) = z.bi) (hm : (L.length : Int) < most) (hlen : L.length ≤ 1000) :
    Calls Tryd.prog 5 #[.agg (sc x), .int .i64 today, .int .i64 most] w fun e w' => e = .returned (.bool true) ∧ Below w.heap.size w w' := by
  have HC := Lib.hid (fun w (T : Tab w) => PH.subs_Due.calls x.id x.cu x.pl x.st x.an x.ev x.pr x.bi x.si x.en today most L z.id z.cu z.pl z.st z.an z.ev z.pr z.bi z.si z.en 0 w (Aside0.mk T) h1)
  have HK := Lib.hid (fun w (T : Tab w) => PH.subs_Check.calls 1 z.id z.cu z.pl z.st z.an z.ev z.pr z.bi z.si z.en 0 w (Aside0.mk T) h2)
  have HD := Lib.hid (fun w (T : Tab w) => PH.subs_Due.calls z.id z.cu z.pl z.st z.an z.ev z.pr z.bi z.si z.en today most [] z.id z.cu z.pl z.st z.an z.ev z.pr z.bi z.si z.en 0 w (Aside0.mk T) h3)
  have HB := Lib.hid (fun w => PH.quittanceref09_Bound.calls 400000 x.st x.an x.ev x.bi _ _ w h4)
  have HH := Lib.hid (fun w (T : Tab w) => PH.quittancelaw23_head.calls true w (Aside0.mk T) rfl)
  have HT := Lib.hid T
  have HL := Lib.hid hL
  have HZ := Lib.hid hz
  have HM := Lib.hid hm
  have HN := Lib.hid hlen
  clear T h1 h2 h3 h4 hL hz hm hlen
  have f1 : Bl w.heap.size (sc x) 26 (w.alloc (.cells (sc x) 26)) := World.alloc_heap_new w _
  have f3 : Below w.heap.size w (w.alloc (.cells (sc x) 26)) := (Below.refl _ w).alloc (Nat.le_refl _) _
  unfold sc at f1 f3
  unfold sc
  go_enter Tryd.func5, Tryd.ntmps5
  have F := Lib.hid (And.intro f1 f3)
  clear f1 f3
  go_wp2_with fail
  refine (HC.out _ (tabB HT.out F.out.2)).mono ?_
  rintro e w1 ⟨v, rfl, hR, B1⟩
  obtain ⟨A, cc, rfl, hcc, hC⟩ := Kd.R_reads hR
  have g1 := F.out.1.all B1
  have g3 := F.out.2.trans (B1.mono F.out.2.size)
  have l1 := g1.lt
  clear B1 F hR
  go_upto_region 2 with fail
  have n0 : WI w w1.heap.size (sc x) (sc z) A L (w1.alloc (.cells (sc z) 26)) := ⟨g1.alloc _, World.alloc_heap_new w1 _, g3.alloc g3.size _, Kd.C_below hC (below_alloc (Below.refl _ w1) _)⟩
  unfold sc at n0
  clear g1 g3 hC
  generalize World.alloc w1 _ = w2 at n0 ⊢
  generalize w1.heap.size = ga at l1 n0 ⊢
  have N := Lib.hid n0
  clear n0
  have p0 := N.out.bx.c 0
  have p1 := N.out.bx.c 1
  have p2 := N.out.bx.c 2
  have p3 := N.out.bx.c 3
  have p4 := N.out.bx.c 4
  have p5 := N.out.bx.c 5
  have p6 := N.out.bx.c 6
  have p7 := N.out.bx.c 7
  have p8 := N.out.bx.c 8
  have p9 := N.out.bx.c 9
  simp at p0 p1 p2 p3 p4 p5 p6 p7 p8 p9
  go_wp2_with fail
  refine (HB.out _).mono ?_
  rintro e w3 ⟨rfl, B3⟩
  have n0 := N.out.all B3
  clear B3 N p0 p1 p2 p3 p4 p5 p6 p7 p8 p9
  have N := Lib.hid n0
  clear n0
  go_wp2_with fail
  go_loopg [10, 12] (L.length + 1) (fun kq v10 v12 w' => ∃ (i : Int), v10 = .int .i64 (fr x (x.bi + i)) ∧ v12 = .int .i64 i ∧ Aside0 (0 ≤ i ∧ i ≤ L.length ∧ L.length + 1 ≤ kq + i) ∧ Aside0 (WI w ga (sc x) (sc z) A L w'))
  case atStart => exact ⟨0, by rw [Int.add_zero], rfl, ⟨by omega⟩, ⟨N.out.all (by repeat (first | exact Below.refl _ _ | apply Below.drew))⟩⟩
  case round =>
    obtain ⟨i, rfl, rfl, HI, HW⟩ := hrel
    have n0 := HW.out
    unfold sc at n0
    clear N HW
    have N := Lib.hid n0
    clear n0
    have hi := HI.out
    by_cases ci : i < (L.length : Int)
    · obtain ⟨k1, rfl⟩ : ∃ k1, gk = k1 + 1 := ⟨gk - 1, by omega⟩
      have bi := HL.out i hi.1 ci
      have d1 : decide (i < (L.length : Int)) = true := decide_eq_true ci
      have hn := HN.out
      have ew : wrap64 (i + 1) = i + 1 := by unfold wrap64; omega
      have EW := Lib.hid ew
      clear ew
      have HI2 := Lib.hid (And.intro hi (And.intro hn ci))
      have BI_ := Lib.hid bi
      clear hi hn HI ci bi
      have p0 := N.out.bx.c 0
      have p1 := N.out.bx.c 1
      have p2 := N.out.bx.c 2
      have p3 := N.out.bx.c 3
      have p4 := N.out.bx.c 4
      have p5 := N.out.bx.c 5
      have p6 := N.out.bx.c 6
      have p7 := N.out.bx.c 7
      have p8 := N.out.bx.c 8
      have p9 := N.out.bx.c 9
      simp at p0 p1 p2 p3 p4 p5 p6 p7 p8 p9
      go_wp2_with fail
      refine (PH.quittanceref09_Bound.calls 400000 x.st x.an x.ev _ _ _ _ BI_.out.bd).mono ?_
      rintro e w4 ⟨rfl, B4⟩
      have n0 := N.out.all B4
      clear B4 N p0 p1 p2 p3 p4 p5 p6 p7 p8 p9
      have l4 := n0.bx.lt
      obtain ⟨ad, rfl, hx0, hx1, hx2, hx3⟩ := PH.at_T47 n0.row i HI2.out.1.1 HI2.out.2.2
      rw [BI_.out.rd] at hx0 hx1 hx2 hx3
      simp only [] at hx0 hx1 hx2 hx3
      have q0 := eq_true HI2.out.1.1
      have q1 := eq_true HI2.out.2.2
      go_upto_region 10 with fail
      have n1 := n0.all (below_alloc (Below.refl _ w4) (.cells #[.int .i64 (wrap64 (x.bi + i)), .int .i64 (fr x (x.bi + i)), .int .i64 (ee x (x.bi + i)), .int .i64 (onF x (x.bi + i))] 47))
      have b0 : Bl w4.heap.size #[.int .i64 (wrap64 (x.bi + i)), .int .i64 (fr x (x.bi + i)), .int .i64 (ee x (x.bi + i)), .int .i64 (onF x (x.bi + i))] 47 (w4.alloc (.cells #[.int .i64 (wrap64 (x.bi + i)), .int .i64 (fr x (x.bi + i)), .int .i64 (ee x (x.bi + i)), .int .i64 (onF x (x.bi + i))] 47)) := World.alloc_heap_new w4 _
      clear hx0 hx1 hx2 hx3 n0 q0 q1
      generalize World.alloc w4 _ = w5 at n1 b0 ⊢
      generalize w4.heap.size = gb at b0 l4 ⊢
      have N := Lib.hid n1
      clear n1
      have p0 := N.out.bx.c 0
      have p1 := N.out.bx.c 1
      have p2 := N.out.bx.c 2
      have p3 := N.out.bx.c 3
      have p4 := N.out.bx.c 4
      have p5 := N.out.bx.c 5
      have p6 := N.out.bx.c 6
      have p7 := N.out.bx.c 7
      have p8 := N.out.bx.c 8
      have p9 := N.out.bx.c 9
      have c0 := b0.c 0
      have c1 := b0.c 1
      have c2 := b0.c 2
      have c3 := b0.c 3
      simp at p0 p1 p2 p3 p4 p5 p6 p7 p8 p9 c0 c1 c2 c3
      clear b0
      have bb := BI_.out
      have e0 : (wrap64 (x.bi + i) == wrap64 (x.bi + i)) = true := beq_self_eq_true _
      obtain ⟨_, _, ki, b0, nw, lo, hi, is, a0, a1, al⟩ := bb
      have gaa : decide (fr x (x.bi + i) > today) = false := decide_eq_false (by omega)
      have gab : decide (today < fr x (x.bi + i)) = false := decide_eq_false (by omega)
      have gba : decide (ee x (x.bi + i) > nx x (x.bi + i)) = false := decide_eq_false (by omega)
      have gbb : decide (nx x (x.bi + i) < ee x (x.bi + i)) = false := decide_eq_false (by omega)
      have gc : decide (ee x (x.bi + i) ≤ fr x (x.bi + i)) = false := decide_eq_false (by omega)
      have gd : decide (onF x (x.bi + i) < 0) = false := decide_eq_false (by omega)
      have gea : decide (onF x (x.bi + i) > x.pr) = false := decide_eq_false (by omega)
      have geb : decide (x.pr < onF x (x.bi + i)) = false := decide_eq_false (by omega)
      by_cases h1 : ee x (x.bi + i) = nx x (x.bi + i)
      · have gf : (ee x (x.bi + i) == nx x (x.bi + i)) = true := by simpa using h1
        have gf2 : (ee x (x.bi + i) != nx x (x.bi + i)) = false := by simpa using h1
        by_cases h2 : 0 < x.bi + i
        · have gg : (onF x (x.bi + i) == x.pr) = true := by simpa using al h2 h1
          have gg2 : (onF x (x.bi + i) != x.pr) = false := by simpa using al h2 h1
          have gha : decide (wrap64 (x.bi + i) > 0) = true := decide_eq_true (by omega)
          have ghb : decide (0 < wrap64 (x.bi + i)) = true := decide_eq_true (by omega)
          clear h1 h2 ki nw lo hi is a0 a1 al
          go_wp2
          repeat (go_quiet (fail); try go_wp2)
          go_roundg k1
          case measure => have := HI2.out; omega
          case rel =>
            refine ⟨wrap64 (i + 1), ?_, rfl, ⟨by rw [EW.out]; have := HI2.out; omega⟩, ⟨?_⟩⟩
            · rw [EW.out]; unfold nx fr; rw [Int.add_assoc]
            · exact N.out.all (by repeat (first | exact Below.refl _ _ | apply Below.drew))
        · have gha : decide (wrap64 (x.bi + i) > 0) = false := decide_eq_false (by omega)
          have ghb : decide (0 < wrap64 (x.bi + i)) = false := decide_eq_false (by omega)
          clear h1 h2 ki nw lo hi is a0 a1 al
          go_wp2
          repeat (go_quiet (fail); try go_wp2)
          go_roundg k1
          case measure => have := HI2.out; omega
          case rel =>
            refine ⟨wrap64 (i + 1), ?_, rfl, ⟨by rw [EW.out]; have := HI2.out; omega⟩, ⟨?_⟩⟩
            · rw [EW.out]; unfold nx fr; rw [Int.add_assoc]
            · exact N.out.all (by repeat (first | exact Below.refl _ _ | apply Below.drew))
      · have gf : (ee x (x.bi + i) == nx x (x.bi + i)) = false := by simpa using h1
        have gf2 : (ee x (x.bi + i) != nx x (x.bi + i)) = true := by simpa using h1
        have gg2 : (ee x (x.bi + i) != x.en) = false := by simpa using is.resolve_left h1
        have gg : (ee x (x.bi + i) == x.en) = true := by simpa using is.resolve_left h1
        by_cases h2 : 0 < x.bi + i
        · have gha : decide (wrap64 (x.bi + i) > 0) = true := decide_eq_true (by omega)
          have ghb : decide (0 < wrap64 (x.bi + i)) = true := decide_eq_true (by omega)
          clear h1 h2 ki nw lo hi is a0 a1 al
          go_wp2
          repeat (go_quiet (fail); try go_wp2)
          go_roundg k1
          case measure => have := HI2.out; omega
          case rel =>
            refine ⟨wrap64 (i + 1), ?_, rfl, ⟨by rw [EW.out]; have := HI2.out; omega⟩, ⟨?_⟩⟩
            · rw [EW.out]; unfold nx fr; rw [Int.add_assoc]
            · exact N.out.all (by repeat (first | exact Below.refl _ _ | apply Below.drew))
        · have gha : decide (wrap64 (x.bi + i) > 0) = false := decide_eq_false (by omega)
          have ghb : decide (0 < wrap64 (x.bi + i)) = false := decide_eq_false (by omega)
          clear h1 h2 ki nw lo hi is a0 a1 al
          go_wp2
          repeat (go_quiet (fail); try go_wp2)
          go_roundg k1
          case measure => have := HI2.out; omega
          case rel =>
            refine ⟨wrap64 (i + 1), ?_, rfl, ⟨by rw [EW.out]; have := HI2.out; omega⟩, ⟨?_⟩⟩
            · rw [EW.out]; unfold nx fr; rw [Int.add_assoc]
            · exact N.out.all (by repeat (first | exact Below.refl _ _ | apply Below.drew))
    · have d1 : decide (i < (L.length : Int)) = false := decide_eq_false ci
      clear ci hi
      have s0 := N.out.bz.c 0
      have s1 := N.out.bz.c 1
      have s2 := N.out.bz.c 2
      have s3 := N.out.bz.c 3
      have s4 := N.out.bz.c 4
      have s5 := N.out.bz.c 5
      have s6 := N.out.bz.c 6
      have s7 := N.out.bz.c 7
      have s8 := N.out.bz.c 8
      have s9 := N.out.bz.c 9
      simp at s0 s1 s2 s3 s4 s5 s6 s7 s8 s9
      go_wp2_with fail
      refine (HD.out _ (tabB HT.out N.out.bel)).mono ?_
      rintro e w6 ⟨v, rfl, hR, B6⟩
      obtain ⟨A2, c2, rfl, hc2, hC2⟩ := Kd.R_reads hR
      have n0 := N.out.all B6
      have l6 := n0.bz.lt
      have l7 := n0.bx.lt
      clear hR hC2 B6 N s0 s1 s2 s3 s4 s5 s6 s7 s8 s9
      go_upto_region 16 with fail
      have n1 := n0.all (below_alloc (Below.refl _ w6) (.cells (sc z) 26))
      have b0 : Bl w6.heap.size (sc z) 26 (w6.alloc (.cells (sc z) 26)) := World.alloc_heap_new w6 _
      unfold sc at n1 b0
      clear n0
      generalize World.alloc w6 _ = w7 at n1 b0 ⊢
      generalize w6.heap.size = gb at b0 l6 l7 ⊢
      have N := Lib.hid (And.intro n1 b0)
      clear n1 b0
      have s0 := N.out.1.bz.c 0
      have s1 := N.out.1.bz.c 1
      have s2 := N.out.1.bz.c 2
      have s3 := N.out.1.bz.c 3
      have s4 := N.out.1.bz.c 4
      have s5 := N.out.1.bz.c 5
      have s6 := N.out.1.bz.c 6
      have s7 := N.out.1.bz.c 7
      have s8 := N.out.1.bz.c 8
      have s9 := N.out.1.bz.c 9
      simp at s0 s1 s2 s3 s4 s5 s6 s7 s8 s9
      go_wp2_with fail
      refine (HK.out _ (tabB HT.out N.out.1.bel)).mono ?_
      rintro e w8 ⟨rfl, B8⟩
      have n1 := N.out.1.all B8
      have b0 := N.out.2.all B8
      clear B8 N s0 s1 s2 s3 s4 s5 s6 s7 s8 s9
      have N := Lib.hid (And.intro n1 b0)
      clear n1 b0
      have s0 := N.out.1.bz.c 0
      have s1 := N.out.1.bz.c 1
      have s2 := N.out.1.bz.c 2
      have s3 := N.out.1.bz.c 3
      have s4 := N.out.1.bz.c 4
      have s5 := N.out.1.bz.c 5
      have s6 := N.out.1.bz.c 6
      have s7 := N.out.1.bz.c 7
      have s8 := N.out.1.bz.c 8
      have s9 := N.out.1.bz.c 9
      have r0 := N.out.2.c 0
      have r1 := N.out.2.c 1
      have r2 := N.out.2.c 2
      have r3 := N.out.2.c 3
      have r4 := N.out.2.c 4
      have r5 := N.out.2.c 5
      have r6 := N.out.2.c 6
      have r7 := N.out.2.c 7
      have r8 := N.out.2.c 8
      have r9 := N.out.2.c 9
      have p7 := N.out.1.bx.c 7
      simp at s0 s1 s2 s3 s4 s5 s6 s7 s8 s9 r0 r1 r2 r3 r4 r5 r6 r7 r8 r9 p7
      have ga : (z.bi == wrap64 (x.bi + (L.length : Int))) = true := by simpa using HZ.out.symm
      have gb : decide ((L.length : Int) ≤ most) = true := decide_eq_true (by have := HM.out; omega)
      have gc : ((L.length : Int) == most) = false := by have := HM.out; simp; omega
      go_wp2_with fail
      refine (HH.out _ (tabB HT.out N.out.1.bel)).mono ?_
      rintro e w9 ⟨rfl, B9⟩
      go_wp2
      go_ret
      exact ⟨rfl, N.out.1.bel.trans (B9.mono N.out.1.bel.size)⟩
end Go.Proofs.YtibkbimhedoafaaDoor.law23

namespace Go.Proofs.YtibkbimhedoafaaDoor.law23
open Go.RowKit Go.Proofs.YtibkbimhedoafaaDoor.base Go.Shelf Sb Cv An
open Go.Proofs.YtibkbimhedoafaaDoor.psub
open Go.Proofs.YtibkbimhedoafaaDoor.civ (Tab)
open Go.Proofs.YtibkbimhedoafaaDoor.PH (due_some due_none due_then bil_of rd_ix check23 okd_t ref_bound)
theorem bound_is (x : Su) (c : Ck x) {i : Int} (h0 : 0 ≤ i) (h1 : i ≤ tp x) : PH.quittanceref09_Bound.f 400000 x.st x.an x.ev i = some (fr x i, 0) := by
  have b := (tp_of c.ok h0).1 h1
  rw [ref_bound _ _ _ _ _ (by omega), b.1, b.2]
  rfl
theorem subsWhole (x : Su) (today most : Int) (w : World) (T : Tab w) : Calls Tryd.prog 5 #[.agg (sc x), .int .i64 today, .int .i64 most] w fun e w' => e = .returned (.bool true) ∧ Below w.heap.size w w' := by
  by_cases hq : ckB x = true ∧ okD today = true ∧ 1 ≤ most ∧ most ≤ 1000
  · obtain ⟨hc, hd, hm1, hm2⟩ := hq
    have c := ckB_t hc
    obtain ⟨m, hs, hf⟩ := due_some x today most hc hd hm1 hm2
    obtain ⟨hy, km, n, hn, hn2, h3⟩ := due_then hc hd hm1 hm2 hs
    have hlen : ((ix x.bi m).map (psub.bl x)).length = m := by rw [List.length_map, ix_len]
    have hb0 := c.b0
    have hb1 := c.b1
    have h2 : PH.subs_Check.f 1 x.id x.cu x.pl x.st x.an x.ev x.pr (x.bi + m) x.si x.en = some 0 := (check23 0 ⟨x.id, x.cu, x.pl, x.st, x.an, x.ev, x.pr, x.bi + m, x.si, x.en⟩).trans (by simp [ckV, hy])
    have h4 := bound_is x c hb0 c.tp
    have hL : ∀ i : Int, 0 ≤ i → i < ((ix x.bi m).map (psub.bl x)).length → BI x today ((ix x.bi m).map (psub.bl x)) i := fun i q0 q1 => by
      rw [hlen] at q1
      have hb := bil_of hc hs (j := i.toNat) (by omega)
      rw [Int.toNat_of_nonneg q0] at hb
      have w1 : wrap64 (x.bi + i) = x.bi + i := PH.w64 (by omega) (by omega)
      have w2 : wrap64 (x.bi + i + 1) = x.bi + i + 1 := PH.w64 (by omega) (by omega)
      refine ⟨?_, ?_, w1, hb0, hb.now, hb.lo, hb.hi, hb.is, hb.a0, hb.a1, hb.all⟩
      · rw [rd_ix _ _ _ _ q0 q1, w1]; rfl
      · rw [w1, w2]
        have := bound_is x c (i := x.bi + i + 1) (by omega) hb.inn.hi
        rw [this]; rfl
    have hz : wrap64 (x.bi + ((ix x.bi m).map (psub.bl x)).length) = x.bi + m := by rw [hlen]; exact PH.w64 (by omega) (by omega)
    by_cases hme : (m : Int) = most
    · exact whole_full x ⟨x.id, x.cu, x.pl, x.st, x.an, x.ev, x.pr, x.bi + m, x.si, x.en⟩ ⟨x.id, x.cu, x.pl, x.st, x.an, x.ev, x.pr, x.bi + m + n, x.si, x.en⟩ today most _ _ w T hf h2 h3 h4 hL hz (by rw [hlen]; exact hme) (by rw [hlen]; omega)
    · obtain rfl := hn hme
      have h3' : PH.subs_Due.f x.id x.cu x.pl x.st x.an x.ev x.pr (x.bi + m) x.si x.en today most = some ([], x.id, x.cu, x.pl, x.st, x.an, x.ev, x.pr, x.bi + m, x.si, x.en, 0) := by rw [h3, ix_zero]; simp
      exact whole_less x ⟨x.id, x.cu, x.pl, x.st, x.an, x.ev, x.pr, x.bi + m, x.si, x.en⟩ today most _ w T hf h2 h3' h4 hL hz (by rw [hlen]; omega) (by rw [hlen]; omega)
  · refine whole_no x today most 2 w T (due_none x today most ?_) (by decide)
    cases h1 : ckB x with
    | false => exact .inl rfl
    | true =>
      cases h2 : okD today with
      | false => exact .inr (.inl rfl)
      | true =>
        by_cases h3 : most < 1
        · exact .inr (.inr (.inl h3))
        · exact .inr (.inr (.inr (if h4 : 1000 < most then h4 else absurd ⟨h1, h2, by omega, by omega⟩ hq)))
end Go.Proofs.YtibkbimhedoafaaDoor.law23

