/- The statement SubsNet: what lies in memory. No conditions. The statement SubsNet, walked. The table of the days ahead of months holds its numbers. The statement SubsNet returns true, whatever comes in. The table of the days ahead of months holds its numbers. -/
import Derived.Test.YtibkbimhedoafaaDoorMNetP
import Derived.Test.YtibkbimhedoafaaDoorPHead23
import Derived.Test.YtibkbimhedoafaaDoorMSubF
import Derived.Test.YtibkbimhedoafaaDoorPHx1
import Derived.Test.YtibkbimhedoafaaDoorPHx2
import Derived.Test.YtibkbimhedoafaaDoorPHx4
import Derived.Test.YtibkbimhedoafaaDoorPHx11
import Derived.Test.YtibkbimhedoafaaDoorPHx9
import Derived.Deep.QuietTactic
import Derived.Deep.RegionHeld3
import Derived.BigQuiet
namespace Go.Proofs.YtibkbimhedoafaaDoor.law23
open Go.RowKit Go.Proofs.YtibkbimhedoafaaDoor.base Go.Shelf Sb
open Go.Proofs.YtibkbimhedoafaaDoor.psub
open Go.Proofs.YtibkbimhedoafaaDoor.civ (Tab)
open Go.Proofs.YtibkbimhedoafaaDoorW.PrintWords
set_option linter.unusedSimpArgs false
theorem Bl.newN {b : Nat} (W : World) (cs : Array Value) (t : TypeId) (hb : b = W.heap.size) : Bl b cs t (W.alloc (.cells cs t)) := by subst hb; exact World.alloc_heap_new W _
abbrev Ri (W : World) (base : Nat) (v : Value) (l : List Int) : Prop := Kd.R (Kd.int .i64) 2 W base (fun _ => True) v l
theorem Ri.own {W : World} {base : Nat} {v : Value} {l : List Int} (h : Ri W base v l) : W.ownsRow base 2 1 v l.length (encs (Value.int .i64) l) := Kd.own_of_R h
theorem Ri.of {W : World} {base : Nat} {v : Value} {l : List Int} (h : W.ownsRow base 2 1 v l.length (encs (Value.int .i64) l)) : Ri W base v l := Kd.R_of_own h (fun _ _ => trivial)
theorem Ri.move {W V : World} {base : Nat} {v : Value} {l : List Int} (h : Ri W base v l) (hm : ∀ k, v.ownBlock = some k → V.heap[k]? = W.heap[k]?) : Ri V base v l := .of (own_move h.own hm)
theorem Ri.lit (W : World) (base : Nat) (a : List Int) (hb : base ≤ W.heap.size) (ha : a.length ≤ 100) : Ri (W.alloc (.cells (encs (Value.int .i64) a).toArray 2)) base (.slice (some ⟨W.heap.size, 0, none⟩) a.length a.length) a := by
  have h2 := World.ownsRow_lit (base := base) (e := 2) (size := 1) W (encs (Value.int .i64) a).toArray a.length hb (by unfold maxLen; omega) (by simp [encs])
  exact .of (by simpa using h2)
/-- The subscription as it is, the two lists. -/
structure NI (w : World) (g : Nat) (z : Su) (vg vw : Value) (got want : List Int) (W : World) : Prop where
  bz : Bl g (sc z) 26 W
  bel : Below w.heap.size w W
  rg : Ri W w.heap.size vg got
  rw_ : Ri W w.heap.size vw want
  ne : ∀ k, vg.ownBlock = some k → vw.ownBlock ≠ some k
theorem NI.all {w W V : World} {g : Nat} {z : Su} {vg vw : Value} {got want : List Int} (h : NI w g z vg vw got want W) (hB : Below W.heap.size W V) : NI w g z vg vw got want V :=
  ⟨h.bz.all hB, h.bel.trans (hB.mono h.bel.size), Kd.R_below h.rg hB, Kd.R_below h.rw_ hB, h.ne⟩
theorem NI.want {w W V : World} {g : Nat} {z : Su} {vg vw v1 : Value} {got want l : List Int} (h : NI w g z vg vw got want W) (hR : Ri V w.heap.size v1 l) (hb : Below w.heap.size w V) (hg : W.grownBy V vw.ownBlock)
    (hat : v1.ownBlock = vw.ownBlock ∨ ∃ b, v1.ownBlock = some b ∧ W.heap.size ≤ b) : NI w g z vg v1 got l V :=
  ⟨blk_grown h.bz hg (Kd.R_ne h.rw_ h.bz (by decide)), hb, h.rg.move (fun k hk => hg.block k (own_lt h.rg.own k hk) (fun e => h.ne k hk e.symm)), hR, fun k hk e => by
    rcases hat with a | ⟨b, a, hbb⟩
    · exact h.ne k hk (a ▸ e)
    · rw [a] at e
      injection e with e
      have := own_lt h.rg.own k hk
      omega⟩
theorem NI.got {w W V : World} {g : Nat} {z : Su} {vg vw v1 : Value} {got want l : List Int} (h : NI w g z vg vw got want W) (hR : Ri V w.heap.size v1 l) (hb : Below w.heap.size w V) (hg : W.grownBy V vg.ownBlock)
    (hat : v1.ownBlock = vg.ownBlock ∨ ∃ b, v1.ownBlock = some b ∧ W.heap.size ≤ b) : NI w g z v1 vw l want V :=
  ⟨blk_grown h.bz hg (Kd.R_ne h.rg h.bz (by decide)), hb, hR, h.rw_.move (fun k hk => hg.block k (own_lt h.rw_.own k hk) (fun e => h.ne k e.symm hk)), fun k hk e => by
    rcases hat with a | ⟨b, a, hbb⟩
    · exact h.ne k (a ▸ hk) e
    · rw [a] at hk
      injection hk with hk
      have := own_lt h.rw_.own k e
      omega⟩
theorem set_heap (W : World) (g k i : Nat) (v : Value) (h : k ≠ g) : (W.setCell ⟨g, i, none⟩ v).heap[k]? = W.heap[k]? := Below.heap_setCell W ⟨g, i, none⟩ v k h
theorem NI.put {w W : World} {g : Nat} {z : Su} {vg vw : Value} {got want : List Int} (h : NI w g z vg vw got want W) (hg : w.heap.size ≤ g) (y : Su) : NI w g y vg vw got want (put10 W g y) := by
  refine ⟨?_, put10_below h.bel g y hg, h.rg.move (fun k hk => put10_heap _ _ _ _ (fun e => ?_)), h.rw_.move (fun k hk => put10_heap _ _ _ _ (fun e => ?_)), h.ne⟩
  · have := head23.Bl_set10 h.bz (.int .u64 y.id) (.int .u64 y.cu) (.int .u64 y.pl) (.int .i64 y.st) (.int .i64 y.an) (.int .i64 y.ev) (.int .i64 y.pr) (.int .i64 y.bi) (.int .i64 y.si) (.int .i64 y.en)
    exact this
  · subst e
    exact Kd.R_ne h.rg h.bz (by decide) hk.symm
  · subst e
    exact Kd.R_ne h.rw_ h.bz (by decide) hk.symm
/-- What lay stays. -/
structure NR (w wr V : World) : Prop where
  b1 : Below w.heap.size w V
  b2 : Below wr.heap.size wr V
section
variable {w wr V X : World}
theorem NR.all (h : NR w wr V) (hB : Below V.heap.size V X) : NR w wr X := ⟨head23.below_all h.b1 hB, head23.below_all h.b2 hB⟩
theorem NR.alloc (h : NR w wr V) (o : Obj) : NR w wr (V.alloc o) := ⟨head23.below_al h.b1 o, head23.below_al h.b2 o⟩
theorem NR.undr (h : NR w wr V.drew) : NR w wr V := ⟨⟨h.b1.os, h.b1.tape, h.b1.output, h.b1.size, h.b1.block⟩, ⟨h.b2.os, h.b2.tape, h.b2.output, h.b2.size, h.b2.block⟩⟩
theorem NR.dr (h : NR w wr V) : NR w wr V.drew := ⟨h.b1.drew, h.b2.drew⟩
theorem NR.dral (h : NR w wr V.drew) (o : Obj) : NR w wr (V.alloc o).drew := (h.undr.alloc o).dr
theorem NR.far1 (h : NR w wr V) {c : Nat} (h1 : w.heap.size ≤ c) (h2 : wr.heap.size ≤ c) (i : Nat) (v : Value) : NR w wr (V.setCell ⟨c, i, none⟩ v) := ⟨h.b1.setCell h1 _, h.b2.setCell h2 _⟩
theorem NR.far4 (h : NR w wr V) {c : Nat} (h1 : w.heap.size ≤ c) (h2 : wr.heap.size ≤ c) (v0 v1 v2 v3 : Value) : NR w wr ((((V.setCell ⟨c, 0, none⟩ v0).setCell ⟨c, 1, none⟩ v1).setCell ⟨c, 2, none⟩ v2).setCell ⟨c, 3, none⟩ v3) := (((h.far1 h1 h2 0 _).far1 h1 h2 1 _).far1 h1 h2 2 _).far1 h1 h2 3 _
theorem NR.far10 (h : NR w wr V) {c : Nat} (h1 : w.heap.size ≤ c) (h2 : wr.heap.size ≤ c) (v0 v1 v2 v3 v4 v5 v6 v7 v8 v9 : Value) : NR w wr ((((((((((V.setCell ⟨c, 0, none⟩ v0).setCell ⟨c, 1, none⟩ v1).setCell ⟨c, 2, none⟩ v2).setCell ⟨c, 3, none⟩ v3).setCell ⟨c, 4, none⟩ v4).setCell ⟨c, 5, none⟩ v5).setCell ⟨c, 6, none⟩ v6).setCell ⟨c, 7, none⟩ v7).setCell ⟨c, 8, none⟩ v8).setCell ⟨c, 9, none⟩ v9) :=
  (((((((((h.far1 h1 h2 0 _).far1 h1 h2 1 _).far1 h1 h2 2 _).far1 h1 h2 3 _).far1 h1 h2 4 _).far1 h1 h2 5 _).far1 h1 h2 6 _).far1 h1 h2 7 _).far1 h1 h2 8 _).far1 h1 h2 9 _
end
/-- What region 16 leaves. -/
def P5 (w wr : World) (ss cs : Array Value) (er : Int) (s6 s7 s8 : Value) (wx : World) : Prop := ∃ g6 g7, s6 = .pointer (some ⟨g6, 0, none⟩) ∧ s7 = .pointer (some ⟨g7, 0, none⟩) ∧ s8 = .int .i64 er ∧ Bl g6 ss 26 wx ∧ Bl g7 cs 30 wx ∧ NR w wr wx
theorem P5.mk {w wr wx : World} {er : Int} {g6 g7 : Nat} {ss cs : Array Value} (h6 : Bl g6 ss 26 wx) (h7 : Bl g7 cs 30 wx) (hk : NR w wr wx) : P5 w wr ss cs er (.pointer (some ⟨g6, 0, none⟩)) (.pointer (some ⟨g7, 0, none⟩)) (.int .i64 er) wx := ⟨g6, g7, rfl, rfl, rfl, h6, h7, hk⟩
/-- A change that came in, as it lies. -/
structure Ts (w : World) (ad : Addr) (i : Int) (t : Tn) : Prop where
  c0 : w.cell? (ad.add (i.toNat * 3)) = some (.int .u8 t.d)
  c1 : w.cell? ⟨(ad.add (i.toNat * 3)).block, (ad.add (i.toNat * 3)).off + 1, none⟩ = some (.int .u64 t.p)
  c2 : w.cell? ⟨(ad.add (i.toNat * 3)).block, (ad.add (i.toNat * 3)).off + 2, none⟩ = some (.int .i64 t.q)
  d0 : 0 ≤ t.d
  d1 : t.d ≤ 255
theorem Ts.all {w V : World} {ad : Addr} {i : Int} {t : Tn} (h : Ts w ad i t) (hB : Below w.heap.size w V) : Ts V ad i t :=
  ⟨(hB.cell (World.block_lt_of_cell? w _ h.c0)).trans h.c0, (hB.cell (p := ⟨(ad.add (i.toNat * 3)).block, (ad.add (i.toNat * 3)).off + 1, none⟩) (World.block_lt_of_cell? w _ h.c1)).trans h.c1, (hB.cell (p := ⟨(ad.add (i.toNat * 3)).block, (ad.add (i.toNat * 3)).off + 2, none⟩) (World.block_lt_of_cell? w _ h.c2)).trans h.c2, h.d0, h.d1⟩
end Go.Proofs.YtibkbimhedoafaaDoor.law23

namespace Go.Proofs.YtibkbimhedoafaaDoor.law23
open Go.RowKit Go.Proofs.YtibkbimhedoafaaDoor.base Go.Shelf Sb
open Go.Proofs.YtibkbimhedoafaaDoor.psub
open Go.Proofs.YtibkbimhedoafaaDoor.civ (Tab)
open Go.Proofs.YtibkbimhedoafaaDoorW.PrintWords
set_option linter.unusedSimpArgs false
attribute [local go_sem high] PH.eqA26 PH.eqA30
attribute [local go_sem] Oper.semAt_some Go.Proofs.YtibkbimhedoafaaDoorW.PrintMore.max2_int min2_int Go.Proofs.YtibkbimhedoafaaDoorW.PrintMore.max_two min_two
set_option maxRecDepth 100000 in
set_option maxHeartbeats 1000000 in
theorem net_none (x z : Su) (b c er : Int) (lv : Value) (ends : Bool) (w : World) (T : Tab w) (hc : (if x.bi < 0 then 0 else x.bi) = c) (hb : (if 1000 < c then 1000 else c) = b) (h1 : PH.subs_Due.f x.id x.cu x.pl x.st x.an x.ev x.pr b 0 0 3652059 1 = some ([], z.id, z.cu, z.pl, z.st, z.an, z.ev, z.pr, z.bi, z.si, z.en, er)) :
    Calls Tryd.prog 8 #[.agg (sc x), lv, .bool ends] w fun e w' => e = .returned (.bool true) ∧ Below w.heap.size w w' := by
  have HC := Lib.hid (fun w (T : Tab w) => PH.subs_Due.calls x.id x.cu x.pl x.st x.an x.ev x.pr b 0 0 3652059 1 [] z.id z.cu z.pl z.st z.an z.ev z.pr z.bi z.si z.en er w (Aside0.mk T) h1)
  have HH := Lib.hid (fun w (T : Tab w) => PH.quittancelaw23_head.calls true w (Aside0.mk T) rfl)
  have HT := Lib.hid T
  clear T h1
  unfold sc
  go_enter Tryd.func8, Tryd.ntmps8
  go_upto_region 4 with fail
  have k1 : Bl w.heap.size #[.int .u64 x.id, .int .u64 x.cu, .int .u64 x.pl, .int .i64 x.st, .int .i64 x.an, .int .i64 x.ev, .int .i64 x.pr, .int .i64 b, .int .i64 0, .int .i64 0] 26 (w.alloc (.cells #[.int .u64 x.id, .int .u64 x.cu, .int .u64 x.pl, .int .i64 x.st, .int .i64 x.an, .int .i64 x.ev, .int .i64 x.pr, .int .i64 b, .int .i64 0, .int .i64 0] 26)) := World.alloc_heap_new w _
  have k3 : Below w.heap.size w (w.alloc (.cells #[.int .u64 x.id, .int .u64 x.cu, .int .u64 x.pl, .int .i64 x.st, .int .i64 x.an, .int .i64 x.ev, .int .i64 x.pr, .int .i64 b, .int .i64 0, .int .i64 0] 26)) := (Below.refl _ w).alloc (Nat.le_refl _) _
  generalize World.alloc w _ = w1 at k1 k3 ⊢
  clear hc hb
  have p0 := k1.c 0
  have p1 := k1.c 1
  have p2 := k1.c 2
  have p3 := k1.c 3
  have p4 := k1.c 4
  have p5 := k1.c 5
  have p6 := k1.c 6
  have p7 := k1.c 7
  have p8 := k1.c 8
  have p9 := k1.c 9
  simp at p0 p1 p2 p3 p4 p5 p6 p7 p8 p9
  have K := Lib.hid (And.intro k1 k3)
  clear k1 k3
  go_wp2_with fail
  refine (HC.out _ (tabB HT.out K.out.2)).mono ?_
  rintro e w2 ⟨v, rfl, hR, B2⟩
  obtain ⟨A0, cc, rfl, hcc, hC⟩ := Kd.R_reads hR
  have g1 := K.out.1.all B2
  have g3 := K.out.2.trans (B2.mono K.out.2.size)
  have l1 := g1.lt
  clear B2 K hR p0 p1 p2 p3 p4 p5 p6 p7 p8 p9
  go_upto_region 5 with fail
  have k3 := g3.alloc g3.size (.cells (sc z) 26)
  unfold sc at k3
  clear g1 g3
  generalize World.alloc w2 _ = w3 at k3 ⊢
  have K := Lib.hid k3
  clear k3 hC hcc
  by_cases he : er = 0
  · have c1 : (er == 0) = true := by simpa using he
    have c2 : (er != 0) = false := by simpa using he
    clear he
    go_wp2_with fail
    refine (HH.out _ (tabB HT.out K.out)).mono ?_
    rintro e w9 ⟨rfl, B9⟩
    go_wp2
    go_ret
    exact ⟨rfl, K.out.trans (B9.mono K.out.size)⟩
  · have c1 : (er == 0) = false := by simpa using he
    have c2 : (er != 0) = true := by simpa using he
    clear he
    go_wp2_with fail
    refine (HH.out _ (tabB HT.out K.out)).mono ?_
    rintro e w9 ⟨rfl, B9⟩
    go_wp2
    go_ret
    exact ⟨rfl, K.out.trans (B9.mono K.out.size)⟩
set_option maxRecDepth 100000 in
set_option maxHeartbeats 8000000 in
theorem net_main (x y : Su) (b c a : Int) (n cap : Nat) (A : Option Addr) (ts : Int → Tn) (ends : Bool) (w : World) (T : Tab w) (hc : (if x.bi < 0 then 0 else x.bi) = c) (hb : (if 1000 < c then 1000 else c) = b)
    (h1 : PH.subs_Due.f x.id x.cu x.pl x.st x.an x.ev x.pr b 0 0 3652059 1 = some ([⟨b, fr y b, nx y b, a⟩], x.id, x.cu, x.pl, x.st, x.an, x.ev, x.pr, (b + 1), 0, 0, 0)) (h4 : PH.quittanceref09_Bound.f 400000 x.st x.an x.ev (b + 1) = some (nx y b, 0))
    (hI : Inv y b 0 ⟨⟨x.id, x.cu, x.pl, x.st, x.an, x.ev, x.pr, b + 1, 0, 0⟩, fr y b, [a], []⟩) (hts : ∀ i : Int, 0 ≤ i → i < n → ∃ ad, A = some ad ∧ Ts w ad i (ts i)) (hn : n ≤ 9223372036854775807) :
    Calls Tryd.prog 8 #[.agg (sc x), .slice A n cap, .bool ends] w fun e w' => e = .returned (.bool true) ∧ Below w.heap.size w w' := by
  have HC := Lib.hid (fun w (T : Tab w) => PH.subs_Due.calls x.id x.cu x.pl x.st x.an x.ev x.pr b 0 0 3652059 1 [⟨b, fr y b, nx y b, a⟩] x.id x.cu x.pl x.st x.an x.ev x.pr (b + 1) 0 0 0 w (Aside0.mk T) h1)
  have HB := Lib.hid (fun w => PH.quittanceref09_Bound.calls 400000 x.st x.an x.ev (b + 1) _ _ w h4)
  have HH := Lib.hid (fun w (T : Tab w) => PH.quittancelaw23_head.calls true w (Aside0.mk T) rfl)
  have HT := Lib.hid T
  have HI0 := Lib.hid hI
  have HTS := Lib.hid hts
  have HNN := Lib.hid hn
  clear T h1 h4 hI hts hn
  unfold sc
  go_enter Tryd.func8, Tryd.ntmps8
  go_upto_region 4 with fail
  have k1 : Bl w.heap.size #[.int .u64 x.id, .int .u64 x.cu, .int .u64 x.pl, .int .i64 x.st, .int .i64 x.an, .int .i64 x.ev, .int .i64 x.pr, .int .i64 b, .int .i64 0, .int .i64 0] 26 (w.alloc (.cells #[.int .u64 x.id, .int .u64 x.cu, .int .u64 x.pl, .int .i64 x.st, .int .i64 x.an, .int .i64 x.ev, .int .i64 x.pr, .int .i64 b, .int .i64 0, .int .i64 0] 26)) := World.alloc_heap_new w _
  have k3 : Below w.heap.size w (w.alloc (.cells #[.int .u64 x.id, .int .u64 x.cu, .int .u64 x.pl, .int .i64 x.st, .int .i64 x.an, .int .i64 x.ev, .int .i64 x.pr, .int .i64 b, .int .i64 0, .int .i64 0] 26)) := (Below.refl _ w).alloc (Nat.le_refl _) _
  generalize World.alloc w _ = w1 at k1 k3 ⊢
  clear hc hb
  have p0 := k1.c 0
  have p1 := k1.c 1
  have p2 := k1.c 2
  have p3 := k1.c 3
  have p4 := k1.c 4
  have p5 := k1.c 5
  have p6 := k1.c 6
  have p7 := k1.c 7
  have p8 := k1.c 8
  have p9 := k1.c 9
  simp at p0 p1 p2 p3 p4 p5 p6 p7 p8 p9
  have K := Lib.hid (And.intro k1 k3)
  clear k1 k3
  go_wp2_with fail
  refine (HC.out _ (tabB HT.out K.out.2)).mono ?_
  rintro e w2 ⟨v, rfl, hR, B2⟩
  obtain ⟨A0, cc, rfl, hcc, hC⟩ := Kd.R_reads hR
  have g1 := K.out.1.all B2
  have g3 := K.out.2.trans (B2.mono K.out.2.size)
  have l1 := g1.lt
  clear B2 K hR p0 p1 p2 p3 p4 p5 p6 p7 p8 p9
  go_upto_region 5 with fail
  have n0 := hC
  have k1 := g1.alloc (.cells #[.int .u64 x.id, .int .u64 x.cu, .int .u64 x.pl, .int .i64 x.st, .int .i64 x.an, .int .i64 x.ev, .int .i64 x.pr, .int .i64 (b + 1), .int .i64 0, .int .i64 0] 26)
  have k3 := g3.alloc g3.size (.cells #[.int .u64 x.id, .int .u64 x.cu, .int .u64 x.pl, .int .i64 x.st, .int .i64 x.an, .int .i64 x.ev, .int .i64 x.pr, .int .i64 (b + 1), .int .i64 0, .int .i64 0] 26)
  have k4 : Bl w2.heap.size #[.int .u64 x.id, .int .u64 x.cu, .int .u64 x.pl, .int .i64 x.st, .int .i64 x.an, .int .i64 x.ev, .int .i64 x.pr, .int .i64 (b + 1), .int .i64 0, .int .i64 0] 26 (w2.alloc (.cells #[.int .u64 x.id, .int .u64 x.cu, .int .u64 x.pl, .int .i64 x.st, .int .i64 x.an, .int .i64 x.ev, .int .i64 x.pr, .int .i64 (b + 1), .int .i64 0, .int .i64 0] 26)) := World.alloc_heap_new w2 _
  have k5 := Kd.C_below hC (below_alloc (Below.refl _ w2) (.cells #[.int .u64 x.id, .int .u64 x.cu, .int .u64 x.pl, .int .i64 x.st, .int .i64 x.an, .int .i64 x.ev, .int .i64 x.pr, .int .i64 (b + 1), .int .i64 0, .int .i64 0] 26))
  clear g1 g3 hC n0
  generalize World.alloc w2 _ = w3 at k1 k3 k4 k5 ⊢
  have HG := Lib.hid (Nat.le_of_lt l1)
  generalize w2.heap.size = gz at l1 HG k4 ⊢
  have p0 := k1.c 0
  have p1 := k1.c 1
  have p2 := k1.c 2
  have p3 := k1.c 3
  have p4 := k1.c 4
  have p5 := k1.c 5
  have p6 := k1.c 6
  have p7 := k1.c 7
  have p8 := k1.c 8
  have p9 := k1.c 9
  have s0 := k4.c 0
  have s1 := k4.c 1
  have s2 := k4.c 2
  have s3 := k4.c 3
  have s4 := k4.c 4
  have s5 := k4.c 5
  have s6 := k4.c 6
  have s7 := k4.c 7
  have s8 := k4.c 8
  have s9 := k4.c 9
  simp at p0 p1 p2 p3 p4 p5 p6 p7 p8 p9 s0 s1 s2 s3 s4 s5 s6 s7 s8 s9
  have K := Lib.hid (And.intro k1 (And.intro k3 (And.intro k4 k5)))
  clear k1 k3 k4 k5
  go_wp2_with fail
  refine (HB.out _).mono ?_
  rintro e w4 ⟨rfl, B4⟩
  have k3 := K.out.2.1.trans (B4.mono K.out.2.1.size)
  have k4 := K.out.2.2.1.all B4
  have k5 := Kd.C_below K.out.2.2.2 B4
  clear B4 K p0 p1 p2 p3 p4 p5 p6 p7 p8 p9 s0 s1 s2 s3 s4 s5 s6 s7 s8 s9
  obtain ⟨ad0, rfl, hx0, hx1, hx2, hx3⟩ := PH.at_T47 k5 0 (Int.le_refl _) (by simp)
  have hy1 : w4.cell? ⟨ad0.block, ad0.off + 1, none⟩ = some (.int .i64 (fr y b)) := by simpa [PH.rd_T47, Addr.add] using hx1
  have hy3 : w4.cell? ⟨ad0.block, ad0.off + 3, none⟩ = some (.int .i64 a) := by simpa [PH.rd_T47, Addr.add] using hx3
  clear hx0 hx1 hx2 hx3
  go_upto_region 10 with fail
  have hN : NI w gz ⟨x.id, x.cu, x.pl, x.st, x.an, x.ev, x.pr, b + 1, 0, 0⟩ (.slice (some ⟨w4.heap.size, 0, none⟩) 1 1) (.slice none 0 0) [a] [] (w4.alloc (.cells #[.int .i64 a] 2)) := ⟨k4.alloc _, k3.alloc k3.size _, Ri.lit w4 w.heap.size [a] k3.size (by simp), Kd.R_nil _ _ _ _ _, fun k _ e => by simp [Value.ownBlock] at e⟩
  clear k3 k4 k5 hy1 hy3
  generalize World.alloc w4 _ = w5 at hN ⊢
  generalize w4.heap.size = gr at hN ⊢
  have HN0 := Lib.hid hN
  clear hN
  go_wp2_with fail
  go_loopg [12, 13, 14, 15] 21 (fun kq v12 v13 v14 v15 w' => ∃ (s : Ns) (i : Int), v12 = .int .i64 s.at_ ∧ v15 = .int .i64 i ∧ Aside0 (0 ≤ i ∧ i ≤ 20 ∧ i ≤ n ∧ 21 ≤ kq + i) ∧ Aside0 (Inv y b i.toNat s) ∧ Aside0 (NI w gz s.z v13 v14 s.got s.want w'))
  case atStart => exact ⟨⟨⟨x.id, x.cu, x.pl, x.st, x.an, x.ev, x.pr, b + 1, 0, 0⟩, fr y b, [a], []⟩, 0, rfl, rfl, ⟨by omega⟩, ⟨HI0.out⟩, ⟨HN0.out.all (by repeat (first | exact Below.refl _ _ | apply Below.drew))⟩⟩
  case round =>
    obtain ⟨s, i, rfl, rfl, HK, HI, HNI⟩ := hrel
    clear HN0 HI0
    have hk := HK.out
    by_cases ci : i < (n : Int)
    · by_cases c20 : i < 20
      · obtain ⟨k1, rfl⟩ : ∃ k1, gk = k1 + 1 := ⟨gk - 1, by omega⟩
        obtain ⟨ad, rfl, ht⟩ := HTS.out i hk.1 ci
        generalize ts i = t at ht
        have ht1 := ht.all HNI.out.bel
        have HD := Lib.hid (And.intro ht1.d0 ht1.d1)
        have bd := HI.out.inn.bd
        have blo := HI.out.lo
        have bhi := HI.out.hi
        obtain ⟨on, hon⟩ : ∃ o, s.at_ + t.d = o := ⟨_, rfl⟩
        have e1 : wrap64 t.d = t.d := by unfold wrap64; have := HD.out; omega
        have e2 : wrap64 (s.at_ + t.d) = on := by rw [hon]; unfold wrap64; have := HD.out; omega
        have e3 : wrap64 (i + 1) = i + 1 := by unfold wrap64; omega
        have E3 := Lib.hid e3
        clear e3
        have HON := Lib.hid (show s.at_ ≤ on by have := HD.out; omega)
        have d1 : decide (i < (n : Int)) = true := decide_eq_true ci
        have d2 : decide (i < 20) = true := decide_eq_true c20
        have x0 := ht1.c0
        have q0 := eq_true hk.1
        have q1 := eq_true ci
        have HK2 := Lib.hid (And.intro hk (And.intro ci c20))
        have HT1 := Lib.hid ht1
        clear ht ht1 bd blo bhi hk ci c20 HK hon
        by_cases c3 : nx y b ≤ on
        · have g1 : decide (on ≥ nx y b) = true := decide_eq_true c3
          have g2 : decide (nx y b ≤ on) = true := decide_eq_true c3
          clear c3
          go_wp2
          repeat (go_quiet (fail); try go_wp2)
          go_roundg k1
          case measure => omega
          case rel =>
            refine ⟨s, wrap64 (i + 1), rfl, rfl, ⟨by rw [E3.out]; have := HK2.out; omega⟩, ⟨?_⟩, ⟨?_⟩⟩
            · rw [E3.out, show (i + 1).toNat = i.toNat + 1 by have := HK2.out; omega]; exact HI.out.next
            · exact HNI.out.all (by repeat (first | exact Below.refl _ _ | apply Below.drew))
        · have C3 := Lib.hid (show on < nx y b by omega)
          have g1 : decide (on ≥ nx y b) = false := decide_eq_false c3
          have g2 : decide (nx y b ≤ on) = false := decide_eq_false c3
          clear c3
          go_upto_region 16 with fail
          rw [e2]
          have bn := HI.out.inn.bd
          have hlw := HNI.out.bel.size
          have KR := Lib.hid (show NR w wr wr.drew from ⟨HNI.out.bel.drew, (Below.refl _ _).drew⟩)
          have hgz := HNI.out.bz.lt
          clear x0 g1 g2 e1 e2 d1 d2
          by_cases hq : t.p ≠ 0 ∧ 0 ≤ t.q ∧ t.q < 4611686018427387904
          · have HX := Lib.hid (fun w (T : Tab w) => PH.subs_Change.calls s.z.id s.z.cu s.z.pl s.z.st s.z.an s.z.ev s.z.pr s.z.bi s.z.si s.z.en on t.p t.q s.z.id s.z.cu t.p s.z.st s.z.an s.z.ev t.q s.z.bi on s.z.en on (nx y b) (am (fst0 y (nx y b)) (nx y b) s.z.pr on (nx y b)) (am (fst0 y (nx y b)) (nx y b) t.q on (nx y b)) 0 w (Aside0.mk T) (PH.net_yes HI.out HON.out C3.out hq.1 hq.2))
            go_cut [17, 18, 19] (fun s6 s7 s8 wx => P5 w wr #[.int .u64 s.z.id, .int .u64 s.z.cu, .int .u64 t.p, .int .i64 s.z.st, .int .i64 s.z.an, .int .i64 s.z.ev, .int .i64 t.q, .int .i64 s.z.bi, .int .i64 on, .int .i64 s.z.en] #[.int .i64 on, .int .i64 (nx y b), .int .i64 (am (fst0 y (nx y b)) (nx y b) s.z.pr on (nx y b)), .int .i64 (am (fst0 y (nx y b)) (nx y b) t.q on (nx y b))] 0 s6 s7 s8 wx)
            case first =>
              have hs0 : ∀ V : World, NR w wr V → V.cell? ⟨gz, 0, none⟩ = some (.int .u64 s.z.id) := fun V h => (HNI.out.bz.all h.b2).c 0
              have hs1 : ∀ V : World, NR w wr V → V.cell? ⟨gz, 1, none⟩ = some (.int .u64 s.z.cu) := fun V h => (HNI.out.bz.all h.b2).c 1
              have hs2 : ∀ V : World, NR w wr V → V.cell? ⟨gz, 2, none⟩ = some (.int .u64 s.z.pl) := fun V h => (HNI.out.bz.all h.b2).c 2
              have hs3 : ∀ V : World, NR w wr V → V.cell? ⟨gz, 3, none⟩ = some (.int .i64 s.z.st) := fun V h => (HNI.out.bz.all h.b2).c 3
              have hs4 : ∀ V : World, NR w wr V → V.cell? ⟨gz, 4, none⟩ = some (.int .i64 s.z.an) := fun V h => (HNI.out.bz.all h.b2).c 4
              have hs5 : ∀ V : World, NR w wr V → V.cell? ⟨gz, 5, none⟩ = some (.int .i64 s.z.ev) := fun V h => (HNI.out.bz.all h.b2).c 5
              have hs6 : ∀ V : World, NR w wr V → V.cell? ⟨gz, 6, none⟩ = some (.int .i64 s.z.pr) := fun V h => (HNI.out.bz.all h.b2).c 6
              have hs7 : ∀ V : World, NR w wr V → V.cell? ⟨gz, 7, none⟩ = some (.int .i64 s.z.bi) := fun V h => (HNI.out.bz.all h.b2).c 7
              have hs8 : ∀ V : World, NR w wr V → V.cell? ⟨gz, 8, none⟩ = some (.int .i64 s.z.si) := fun V h => (HNI.out.bz.all h.b2).c 8
              have hs9 : ∀ V : World, NR w wr V → V.cell? ⟨gz, 9, none⟩ = some (.int .i64 s.z.en) := fun V h => (HNI.out.bz.all h.b2).c 9
              have hs11 : ∀ V : World, NR w wr V → V.cell? ⟨(ad.add (i.toNat * 3)).block, (ad.add (i.toNat * 3)).off + 1, none⟩ = some (.int .u64 t.p) := fun V h => (HT1.out.all h.b2).c1
              have hs12 : ∀ V : World, NR w wr V → V.cell? ⟨(ad.add (i.toNat * 3)).block, (ad.add (i.toNat * 3)).off + 2, none⟩ = some (.int .i64 t.q) := fun V h => (HT1.out.all h.b2).c2
              have hs13 : ∀ V : World, NR w wr V → V.cell? ⟨(ad.add (i.toNat * 3)).block, (ad.add (i.toNat * 3)).off + 1 + 1, none⟩ = some (.int .i64 t.q) := fun V h => (HT1.out.all h.b2).c2
              go_region_held3 (fun w' => NR w wr w')
                  (first | with_reducible exact KR.out | with_reducible exact K5 | (go_split_ands; with_reducible (repeat (first | assumption | exact K5 | refine NR.dral ?_ _ | refine NR.alloc ?_ _ | refine NR.far10 ?_ (by omega) (by omega) _ _ _ _ _ _ _ _ _ _ | refine NR.far4 ?_ (by omega) (by omega) _ _ _ _))))
                  (first | (go_at_call 9; go_split_ands; refine (HX.out _ (tabB HT.out (NR.b1 (by assumption)))).mono ?_; rintro e w5 ⟨rfl, B5⟩; have K5 := NR.all (by assumption) B5; (first | (have Za := Lib.hid (show Bl wr.heap.size zs 26 w5 from Bl.all (head23.Bl.dr (World.alloc_heap_new wr _)) B5); have ar0 := Za.out.c 0; have aq0 := Za.out.f 0; have ar1 := Za.out.c 1; have aq1 := Za.out.f 1; have ar2 := Za.out.c 2; have aq2 := Za.out.f 2; have ar3 := Za.out.c 3; have aq3 := Za.out.f 3; have ar4 := Za.out.c 4; have aq4 := Za.out.f 4; have ar5 := Za.out.c 5; have aq5 := Za.out.f 5; have ar6 := Za.out.c 6; have aq6 := Za.out.f 6; have ar7 := Za.out.c 7; have aq7 := Za.out.f 7; have ar8 := Za.out.c 8; have aq8 := Za.out.f 8; have ar9 := Za.out.c 9; have aq9 := Za.out.f 9; simp [zs] at ar0 ar1 ar2 ar3 ar4 ar5 ar6 ar7 ar8 ar9; have YZa := Za.out; unfold zs at YZa) | (have Za := Lib.hid (show Bl wr.heap.size zs 26 w5 from Bl.all (head23.Bl.dr (Bl.alloc (World.alloc_heap_new wr _) _)) B5); have ar0 := Za.out.c 0; have aq0 := Za.out.f 0; have ar1 := Za.out.c 1; have aq1 := Za.out.f 1; have ar2 := Za.out.c 2; have aq2 := Za.out.f 2; have ar3 := Za.out.c 3; have aq3 := Za.out.f 3; have ar4 := Za.out.c 4; have aq4 := Za.out.f 4; have ar5 := Za.out.c 5; have aq5 := Za.out.f 5; have ar6 := Za.out.c 6; have aq6 := Za.out.f 6; have ar7 := Za.out.c 7; have aq7 := Za.out.f 7; have ar8 := Za.out.c 8; have aq8 := Za.out.f 8; have ar9 := Za.out.c 9; have aq9 := Za.out.f 9; simp [zs] at ar0 ar1 ar2 ar3 ar4 ar5 ar6 ar7 ar8 ar9; have YZa := Za.out; unfold zs at YZa) | (have Za := Lib.hid (show Bl (wr.heap.size + 1) zs 26 w5 from Bl.all (head23.Bl.dr (head23.Bl.newE (wr.alloc _) _ _ (by simp))) B5); have ar0 := Za.out.c 0; have aq0 := Za.out.f 0; have ar1 := Za.out.c 1; have aq1 := Za.out.f 1; have ar2 := Za.out.c 2; have aq2 := Za.out.f 2; have ar3 := Za.out.c 3; have aq3 := Za.out.f 3; have ar4 := Za.out.c 4; have aq4 := Za.out.f 4; have ar5 := Za.out.c 5; have aq5 := Za.out.f 5; have ar6 := Za.out.c 6; have aq6 := Za.out.f 6; have ar7 := Za.out.c 7; have aq7 := Za.out.f 7; have ar8 := Za.out.c 8; have aq8 := Za.out.f 8; have ar9 := Za.out.c 9; have aq9 := Za.out.f 9; simp [zs] at ar0 ar1 ar2 ar3 ar4 ar5 ar6 ar7 ar8 ar9; have YZa := Za.out; unfold zs at YZa) | skip); (first | (have Zb := Lib.hid (show Bl wr.heap.size zt 30 w5 from Bl.all (head23.Bl.dr (World.alloc_heap_new wr _)) B5); have br0 := Zb.out.c 0; have bq0 := Zb.out.f 0; have br1 := Zb.out.c 1; have bq1 := Zb.out.f 1; have br2 := Zb.out.c 2; have bq2 := Zb.out.f 2; have br3 := Zb.out.c 3; have bq3 := Zb.out.f 3; simp [zt] at br0 br1 br2 br3; have YZb := Zb.out; unfold zt at YZb) | (have Zb := Lib.hid (show Bl wr.heap.size zt 30 w5 from Bl.all (head23.Bl.dr (Bl.alloc (World.alloc_heap_new wr _) _)) B5); have br0 := Zb.out.c 0; have bq0 := Zb.out.f 0; have br1 := Zb.out.c 1; have bq1 := Zb.out.f 1; have br2 := Zb.out.c 2; have bq2 := Zb.out.f 2; have br3 := Zb.out.c 3; have bq3 := Zb.out.f 3; simp [zt] at br0 br1 br2 br3; have YZb := Zb.out; unfold zt at YZb) | (have Zb := Lib.hid (show Bl (wr.heap.size + 1) zt 30 w5 from Bl.all (head23.Bl.dr (head23.Bl.newE (wr.alloc _) _ _ (by simp))) B5); have br0 := Zb.out.c 0; have bq0 := Zb.out.f 0; have br1 := Zb.out.c 1; have bq1 := Zb.out.f 1; have br2 := Zb.out.c 2; have bq2 := Zb.out.f 2; have br3 := Zb.out.c 3; have bq3 := Zb.out.f 3; simp [zt] at br0 br1 br2 br3; have YZb := Zb.out; unfold zt at YZb) | skip); obtain ⟨u5, v5⟩ := bcell B5; have z5 := B5.size; (try simp at z5); have m0 : wr.heap.size ≤ w5.heap.size := (by omega); (first | (have m1 : wr.heap.size < w5.heap.size := (by omega)) | skip); (first | (have m3 : wr.heap.size + 1 < w5.heap.size := (by omega)) | skip)))
              all_goals
                go_wp2_with fail
                go_meet
                refine P5.mk ?_ ?_ ?_
                rotate_left 2
                · with_reducible (repeat (first | assumption | exact K5 | refine NR.dral ?_ _ | refine NR.alloc ?_ _ | refine NR.far10 ?_ (by omega) (by omega) _ _ _ _ _ _ _ _ _ _ | refine NR.far4 ?_ (by omega) (by omega) _ _ _ _))
                all_goals with_reducible (repeat (first | assumption | exact head23.Bl.new _ _ _ | exact head23.Bl.newE _ _ _ (by simp) | refine Bl.alloc ?_ _ | apply head23.Bl_set10 | apply head23.Bl_set4 | refine head23.Bl_far10 ?_ (by omega) _ _ _ _ _ _ _ _ _ _ | refine head23.Bl_far4 ?_ (by omega) _ _ _ _))
            case rest =>
              obtain ⟨g6, g7, rfl, rfl, rfl, h6, h7, hk⟩ := hcut
              have n0 := HNI.out.all hk.b2
              have ac := ckB_t HI.out.ck
              have a1 := am_bd (fst0 y (nx y b)) (nx y b) s.z.pr on (nx y b) ac.p0
              have a2 := am_bd (fst0 y (nx y b)) (nx y b) t.q on (nx y b) hq.2.1
              have a3 := ac.p1
              have g1 : decide ((am (fst0 y (nx y b)) (nx y b) s.z.pr on (nx y b)) < 0) = false := decide_eq_false (by omega)
              have g2 : decide ((am (fst0 y (nx y b)) (nx y b) t.q on (nx y b)) < 0) = false := decide_eq_false (by omega)
              have e4 : wrap64 (-(am (fst0 y (nx y b)) (nx y b) s.z.pr on (nx y b))) = -(am (fst0 y (nx y b)) (nx y b) s.z.pr on (nx y b)) := by unfold wrap64; omega
              have HC9 := Lib.hid (HI.out.chg HON.out C3.out hq.1 hq.2)
              have HKt := Lib.hid (fun w (T : Tab w) => PH.subs_Check.calls 1 s.z.id s.z.cu t.p s.z.st s.z.an s.z.ev t.q s.z.bi on s.z.en 0 w (Aside0.mk T) (PH.net_check HC9.out.ck))
              have HOn := Lib.hid (fun w => PH.quittanceref23_On.calls 400000 s.z.id s.z.cu s.z.pl s.z.st s.z.an s.z.ev s.z.pr s.z.bi s.z.si s.z.en (nx y b) s.z.pr s.at_ on (am (fst0 y (nx y b)) (nx y b) s.z.pr s.at_ on) w (PH.net_on HI.out HON.out (Int.le_of_lt C3.out)))
              have hg7 := h7.lt
              have hg6 := h6.lt
              have s0 := h6.c 0
              have s1 := h6.c 1
              have s2 := h6.c 2
              have s3 := h6.c 3
              have s4 := h6.c 4
              have s5 := h6.c 5
              have s6 := h6.c 6
              have s7 := h6.c 7
              have s8 := h6.c 8
              have s9 := h6.c 9
              have u0 := h7.c 0
              have u1 := h7.c 1
              have u2 := h7.c 2
              have u3 := h7.c 3
              simp at s0 s1 s2 s3 s4 s5 s6 s7 s8 s9 u0 u1 u2 u3
              have M := Lib.hid (And.intro n0 (And.intro h6 h7))
              clear hk h6 h7 hlw hgz bn hq a1 a2 a3 ac n0
              go_wp2_with fail
              refine (HKt.out _ (tabB HT.out M.out.1.bel)).mono ?_
              rintro e w7 ⟨rfl, B7⟩
              have n0 := M.out.1.all B7
              have h6 := M.out.2.1.all B7
              have h7 := M.out.2.2.all B7
              clear B7 M s0 s1 s2 s3 s4 s5 s6 s7 s8 s9 u0 u1 u2 u3
              have bz := n0.bz
              unfold sc at bz
              have s0 := bz.c 0
              have s1 := bz.c 1
              have s2 := bz.c 2
              have s3 := bz.c 3
              have s4 := bz.c 4
              have s5 := bz.c 5
              have s6 := bz.c 6
              have s7 := bz.c 7
              have s8 := bz.c 8
              have s9 := bz.c 9
              simp at s0 s1 s2 s3 s4 s5 s6 s7 s8 s9
              have M := Lib.hid (And.intro n0 (And.intro h6 h7))
              clear n0 h6 h7 bz
              go_wp2_with fail
              refine (HOn.out _).mono ?_
              rintro e w8 ⟨rfl, B8⟩
              have n0 := M.out.1.all B8
              have h6 := M.out.2.1.all B8
              have h7 := M.out.2.2.all B8
              clear B8 M s0 s1 s2 s3 s4 s5 s6 s7 s8 s9
              have M := Lib.hid (And.intro n0 (And.intro h6 h7))
              have HW := Lib.hid (And.intro HI.out.wl HI.out.gl)
              clear n0 h6 h7
              go_wp2_with (first | ((with_reducible refine gate_builtin (b := .append) (xs := #[.tmp 141, .tmp 149]) rfl ?_); at_builtin; refine Kd.R_append_row (Value.int .i64) (0 : Int) (h1 := fun _ => rfl) (w0 := w) w.heap.size rfl (.tmp 141) (.tmp 149) 59 2 (.int .i64 0) 8 rfl Tryd.underlying59 PH.info2 rfl (by decide) u14 s.want [(am (fst0 y (nx y b)) (nx y b) s.z.pr s.at_ on)] _ 1 1 (fun _ => True) rfl rfl (fun _ _ => trivial) ?aO ?aR ?aB ?aS ?aL ?_; (case aO => exact (M.out.1.all (below_alloc (Below.refl _ w8) (.cells #[.int .i64 (am (fst0 y (nx y b)) (nx y b) s.z.pr s.at_ on)] 2))).rw_); (case aR => exact (Kd.R_reads' (Ri.lit w8 w.heap.size [(am (fst0 y (nx y b)) (nx y b) s.z.pr s.at_ on)] M.out.1.bel.size (by simp))).2.2); (case aB => exact M.out.1.bel.alloc M.out.1.bel.size _); (case aS => exact (M.out.1.bel.alloc M.out.1.bel.size _).size); (case aL => have := HW.out; have := HK2.out; omega); intro v1 w9 hR hb hg hat; have n0 := (M.out.1.all (below_alloc (Below.refl _ w8) (.cells #[.int .i64 (am (fst0 y (nx y b)) (nx y b) s.z.pr s.at_ on)] 2))).want hR hb hg hat; have h6 : Bl g6 _ 26 w9 := blk_grown (M.out.2.1.all (below_alloc (Below.refl _ w8) (.cells #[.int .i64 (am (fst0 y (nx y b)) (nx y b) s.z.pr s.at_ on)] 2))) hg (Kd.R_ne (M.out.1.all (below_alloc (Below.refl _ w8) (.cells #[.int .i64 (am (fst0 y (nx y b)) (nx y b) s.z.pr s.at_ on)] 2))).rw_ (M.out.2.1.all (below_alloc (Below.refl _ w8) (.cells #[.int .i64 (am (fst0 y (nx y b)) (nx y b) s.z.pr s.at_ on)] 2))) (by decide)); have h7 : Bl g7 _ 30 w9 := blk_grown (M.out.2.2.all (below_alloc (Below.refl _ w8) (.cells #[.int .i64 (am (fst0 y (nx y b)) (nx y b) s.z.pr s.at_ on)] 2))) hg (Kd.R_ne (M.out.1.all (below_alloc (Below.refl _ w8) (.cells #[.int .i64 (am (fst0 y (nx y b)) (nx y b) s.z.pr s.at_ on)] 2))).rw_ (M.out.2.2.all (below_alloc (Below.refl _ w8) (.cells #[.int .i64 (am (fst0 y (nx y b)) (nx y b) s.z.pr s.at_ on)] 2))) (by decide)); have u0 := h7.c 0; have u1 := h7.c 1; have u2 := h7.c 2; have u3 := h7.c 3; simp at u0 u1 u2 u3; clear M hR hb hg hat; have M := Lib.hid (And.intro n0 (And.intro h6 h7)); clear n0 h6 h7) | ((with_reducible refine gate_builtin (b := .append) (xs := #[.tmp 151, .tmp 157]) rfl ?_); at_builtin; refine Kd.R_append_row (Value.int .i64) (0 : Int) (h1 := fun _ => rfl) (w0 := w) w.heap.size rfl (.tmp 151) (.tmp 157) 59 2 (.int .i64 0) 8 rfl Tryd.underlying59 PH.info2 rfl (by decide) u13 s.got [(am (fst0 y (nx y b)) (nx y b) t.q on (nx y b)), (-(am (fst0 y (nx y b)) (nx y b) s.z.pr on (nx y b)))] _ 2 2 (fun _ => True) rfl rfl (fun _ _ => trivial) ?aO ?aR ?aB ?aS ?aL ?_; (case aO => exact (M.out.1.all (below_alloc (Below.refl _ w9) (.cells #[.int .i64 (am (fst0 y (nx y b)) (nx y b) t.q on (nx y b)), .int .i64 (-(am (fst0 y (nx y b)) (nx y b) s.z.pr on (nx y b)))] 2))).rg); (case aR => exact (Kd.R_reads' (Ri.lit w9 w.heap.size [(am (fst0 y (nx y b)) (nx y b) t.q on (nx y b)), (-(am (fst0 y (nx y b)) (nx y b) s.z.pr on (nx y b)))] M.out.1.bel.size (by simp))).2.2); (case aB => exact M.out.1.bel.alloc M.out.1.bel.size _); (case aS => exact (M.out.1.bel.alloc M.out.1.bel.size _).size); (case aL => have := HW.out; have := HK2.out; omega); intro v1 w10 hR hb hg hat; have n0 := (M.out.1.all (below_alloc (Below.refl _ w9) (.cells #[.int .i64 (am (fst0 y (nx y b)) (nx y b) t.q on (nx y b)), .int .i64 (-(am (fst0 y (nx y b)) (nx y b) s.z.pr on (nx y b)))] 2))).got hR hb hg hat; have h6 : Bl g6 _ 26 w10 := blk_grown (M.out.2.1.all (below_alloc (Below.refl _ w9) (.cells #[.int .i64 (am (fst0 y (nx y b)) (nx y b) t.q on (nx y b)), .int .i64 (-(am (fst0 y (nx y b)) (nx y b) s.z.pr on (nx y b)))] 2))) hg (Kd.R_ne (M.out.1.all (below_alloc (Below.refl _ w9) (.cells #[.int .i64 (am (fst0 y (nx y b)) (nx y b) t.q on (nx y b)), .int .i64 (-(am (fst0 y (nx y b)) (nx y b) s.z.pr on (nx y b)))] 2))).rg (M.out.2.1.all (below_alloc (Below.refl _ w9) (.cells #[.int .i64 (am (fst0 y (nx y b)) (nx y b) t.q on (nx y b)), .int .i64 (-(am (fst0 y (nx y b)) (nx y b) s.z.pr on (nx y b)))] 2))) (by decide)); have bz := n0.bz; unfold sc at bz; have s0 := h6.c 0; have s1 := h6.c 1; have s2 := h6.c 2; have s3 := h6.c 3; have s4 := h6.c 4; have s5 := h6.c 5; have s6 := h6.c 6; have s7 := h6.c 7; have s8 := h6.c 8; have s9 := h6.c 9; have d0 := bz.c 0; have d1 := bz.c 1; have d2 := bz.c 2; have d3 := bz.c 3; have d4 := bz.c 4; have d5 := bz.c 5; have d6 := bz.c 6; have d7 := bz.c 7; have d8 := bz.c 8; have d9 := bz.c 9; have f0 := bz.f 0; have f1 := bz.f 1; have f2 := bz.f 2; have f3 := bz.f 3; have f4 := bz.f 4; have f5 := bz.f 5; have f6 := bz.f 6; have f7 := bz.f 7; have f8 := bz.f 8; have f9 := bz.f 9; simp at s0 s1 s2 s3 s4 s5 s6 s7 s8 s9 d0 d1 d2 d3 d4 d5 d6 d7 d8 d9; clear M hR hb hg hat u0 u1 u2 u3; have M := Lib.hid n0; clear n0 h6 bz))
              go_roundg k1
              case measure => omega
              case rel =>
                refine ⟨s.chg (fst0 y (nx y b)) (nx y b) on t.p t.q, wrap64 (i + 1), rfl, rfl, ⟨by rw [E3.out]; have := HK2.out; omega⟩, ⟨?_⟩, ⟨?_⟩⟩
                · rw [E3.out, show (i + 1).toNat = i.toNat + 1 by have := HK2.out; omega]; exact HC9.out
                · exact M.out.put HG.out ⟨s.z.id, s.z.cu, t.p, s.z.st, s.z.an, s.z.ev, t.q, s.z.bi, on, s.z.en⟩
          · have HX := Lib.hid (fun w (T : Tab w) => PH.subs_Change.calls s.z.id s.z.cu s.z.pl s.z.st s.z.an s.z.ev s.z.pr s.z.bi s.z.si s.z.en on t.p t.q 0 0 0 0 0 0 0 0 0 0 0 0 0 0 2 w (Aside0.mk T) (PH.net_no HI.out HON.out C3.out hq))
            go_cut [17, 18, 19] (fun s6 s7 s8 wx => P5 w wr #[.int .u64 0, .int .u64 0, .int .u64 0, .int .i64 0, .int .i64 0, .int .i64 0, .int .i64 0, .int .i64 0, .int .i64 0, .int .i64 0] #[.int .i64 0, .int .i64 0, .int .i64 0, .int .i64 0] 2 s6 s7 s8 wx)
            case first =>
              have hs0 : ∀ V : World, NR w wr V → V.cell? ⟨gz, 0, none⟩ = some (.int .u64 s.z.id) := fun V h => (HNI.out.bz.all h.b2).c 0
              have hs1 : ∀ V : World, NR w wr V → V.cell? ⟨gz, 1, none⟩ = some (.int .u64 s.z.cu) := fun V h => (HNI.out.bz.all h.b2).c 1
              have hs2 : ∀ V : World, NR w wr V → V.cell? ⟨gz, 2, none⟩ = some (.int .u64 s.z.pl) := fun V h => (HNI.out.bz.all h.b2).c 2
              have hs3 : ∀ V : World, NR w wr V → V.cell? ⟨gz, 3, none⟩ = some (.int .i64 s.z.st) := fun V h => (HNI.out.bz.all h.b2).c 3
              have hs4 : ∀ V : World, NR w wr V → V.cell? ⟨gz, 4, none⟩ = some (.int .i64 s.z.an) := fun V h => (HNI.out.bz.all h.b2).c 4
              have hs5 : ∀ V : World, NR w wr V → V.cell? ⟨gz, 5, none⟩ = some (.int .i64 s.z.ev) := fun V h => (HNI.out.bz.all h.b2).c 5
              have hs6 : ∀ V : World, NR w wr V → V.cell? ⟨gz, 6, none⟩ = some (.int .i64 s.z.pr) := fun V h => (HNI.out.bz.all h.b2).c 6
              have hs7 : ∀ V : World, NR w wr V → V.cell? ⟨gz, 7, none⟩ = some (.int .i64 s.z.bi) := fun V h => (HNI.out.bz.all h.b2).c 7
              have hs8 : ∀ V : World, NR w wr V → V.cell? ⟨gz, 8, none⟩ = some (.int .i64 s.z.si) := fun V h => (HNI.out.bz.all h.b2).c 8
              have hs9 : ∀ V : World, NR w wr V → V.cell? ⟨gz, 9, none⟩ = some (.int .i64 s.z.en) := fun V h => (HNI.out.bz.all h.b2).c 9
              have hs11 : ∀ V : World, NR w wr V → V.cell? ⟨(ad.add (i.toNat * 3)).block, (ad.add (i.toNat * 3)).off + 1, none⟩ = some (.int .u64 t.p) := fun V h => (HT1.out.all h.b2).c1
              have hs12 : ∀ V : World, NR w wr V → V.cell? ⟨(ad.add (i.toNat * 3)).block, (ad.add (i.toNat * 3)).off + 2, none⟩ = some (.int .i64 t.q) := fun V h => (HT1.out.all h.b2).c2
              have hs13 : ∀ V : World, NR w wr V → V.cell? ⟨(ad.add (i.toNat * 3)).block, (ad.add (i.toNat * 3)).off + 1 + 1, none⟩ = some (.int .i64 t.q) := fun V h => (HT1.out.all h.b2).c2
              go_region_held3 (fun w' => NR w wr w')
                  (first | with_reducible exact KR.out | with_reducible exact K5 | (go_split_ands; with_reducible (repeat (first | assumption | exact K5 | refine NR.dral ?_ _ | refine NR.alloc ?_ _ | refine NR.far10 ?_ (by omega) (by omega) _ _ _ _ _ _ _ _ _ _ | refine NR.far4 ?_ (by omega) (by omega) _ _ _ _))))
                  (first | (go_at_call 9; go_split_ands; refine (HX.out _ (tabB HT.out (NR.b1 (by assumption)))).mono ?_; rintro e w5 ⟨rfl, B5⟩; have K5 := NR.all (by assumption) B5; (first | (have Za := Lib.hid (show Bl wr.heap.size zs 26 w5 from Bl.all (head23.Bl.dr (World.alloc_heap_new wr _)) B5); have ar0 := Za.out.c 0; have aq0 := Za.out.f 0; have ar1 := Za.out.c 1; have aq1 := Za.out.f 1; have ar2 := Za.out.c 2; have aq2 := Za.out.f 2; have ar3 := Za.out.c 3; have aq3 := Za.out.f 3; have ar4 := Za.out.c 4; have aq4 := Za.out.f 4; have ar5 := Za.out.c 5; have aq5 := Za.out.f 5; have ar6 := Za.out.c 6; have aq6 := Za.out.f 6; have ar7 := Za.out.c 7; have aq7 := Za.out.f 7; have ar8 := Za.out.c 8; have aq8 := Za.out.f 8; have ar9 := Za.out.c 9; have aq9 := Za.out.f 9; simp [zs] at ar0 ar1 ar2 ar3 ar4 ar5 ar6 ar7 ar8 ar9; have YZa := Za.out; unfold zs at YZa) | (have Za := Lib.hid (show Bl wr.heap.size zs 26 w5 from Bl.all (head23.Bl.dr (Bl.alloc (World.alloc_heap_new wr _) _)) B5); have ar0 := Za.out.c 0; have aq0 := Za.out.f 0; have ar1 := Za.out.c 1; have aq1 := Za.out.f 1; have ar2 := Za.out.c 2; have aq2 := Za.out.f 2; have ar3 := Za.out.c 3; have aq3 := Za.out.f 3; have ar4 := Za.out.c 4; have aq4 := Za.out.f 4; have ar5 := Za.out.c 5; have aq5 := Za.out.f 5; have ar6 := Za.out.c 6; have aq6 := Za.out.f 6; have ar7 := Za.out.c 7; have aq7 := Za.out.f 7; have ar8 := Za.out.c 8; have aq8 := Za.out.f 8; have ar9 := Za.out.c 9; have aq9 := Za.out.f 9; simp [zs] at ar0 ar1 ar2 ar3 ar4 ar5 ar6 ar7 ar8 ar9; have YZa := Za.out; unfold zs at YZa) | (have Za := Lib.hid (show Bl (wr.heap.size + 1) zs 26 w5 from Bl.all (head23.Bl.dr (head23.Bl.newE (wr.alloc _) _ _ (by simp))) B5); have ar0 := Za.out.c 0; have aq0 := Za.out.f 0; have ar1 := Za.out.c 1; have aq1 := Za.out.f 1; have ar2 := Za.out.c 2; have aq2 := Za.out.f 2; have ar3 := Za.out.c 3; have aq3 := Za.out.f 3; have ar4 := Za.out.c 4; have aq4 := Za.out.f 4; have ar5 := Za.out.c 5; have aq5 := Za.out.f 5; have ar6 := Za.out.c 6; have aq6 := Za.out.f 6; have ar7 := Za.out.c 7; have aq7 := Za.out.f 7; have ar8 := Za.out.c 8; have aq8 := Za.out.f 8; have ar9 := Za.out.c 9; have aq9 := Za.out.f 9; simp [zs] at ar0 ar1 ar2 ar3 ar4 ar5 ar6 ar7 ar8 ar9; have YZa := Za.out; unfold zs at YZa) | skip); (first | (have Zb := Lib.hid (show Bl wr.heap.size zt 30 w5 from Bl.all (head23.Bl.dr (World.alloc_heap_new wr _)) B5); have br0 := Zb.out.c 0; have bq0 := Zb.out.f 0; have br1 := Zb.out.c 1; have bq1 := Zb.out.f 1; have br2 := Zb.out.c 2; have bq2 := Zb.out.f 2; have br3 := Zb.out.c 3; have bq3 := Zb.out.f 3; simp [zt] at br0 br1 br2 br3; have YZb := Zb.out; unfold zt at YZb) | (have Zb := Lib.hid (show Bl wr.heap.size zt 30 w5 from Bl.all (head23.Bl.dr (Bl.alloc (World.alloc_heap_new wr _) _)) B5); have br0 := Zb.out.c 0; have bq0 := Zb.out.f 0; have br1 := Zb.out.c 1; have bq1 := Zb.out.f 1; have br2 := Zb.out.c 2; have bq2 := Zb.out.f 2; have br3 := Zb.out.c 3; have bq3 := Zb.out.f 3; simp [zt] at br0 br1 br2 br3; have YZb := Zb.out; unfold zt at YZb) | (have Zb := Lib.hid (show Bl (wr.heap.size + 1) zt 30 w5 from Bl.all (head23.Bl.dr (head23.Bl.newE (wr.alloc _) _ _ (by simp))) B5); have br0 := Zb.out.c 0; have bq0 := Zb.out.f 0; have br1 := Zb.out.c 1; have bq1 := Zb.out.f 1; have br2 := Zb.out.c 2; have bq2 := Zb.out.f 2; have br3 := Zb.out.c 3; have bq3 := Zb.out.f 3; simp [zt] at br0 br1 br2 br3; have YZb := Zb.out; unfold zt at YZb) | skip); obtain ⟨u5, v5⟩ := bcell B5; have z5 := B5.size; (try simp at z5); have m0 : wr.heap.size ≤ w5.heap.size := (by omega); (first | (have m1 : wr.heap.size < w5.heap.size := (by omega)) | skip); (first | (have m3 : wr.heap.size + 1 < w5.heap.size := (by omega)) | skip)))
              all_goals
                go_wp2_with fail
                go_meet
                refine P5.mk ?_ ?_ ?_
                rotate_left 2
                · with_reducible (repeat (first | assumption | exact K5 | refine NR.dral ?_ _ | refine NR.alloc ?_ _ | refine NR.far10 ?_ (by omega) (by omega) _ _ _ _ _ _ _ _ _ _ | refine NR.far4 ?_ (by omega) (by omega) _ _ _ _))
                all_goals with_reducible (repeat (first | assumption | exact head23.Bl.new _ _ _ | exact head23.Bl.newE _ _ _ (by simp) | refine Bl.alloc ?_ _ | apply head23.Bl_set10 | apply head23.Bl_set4 | refine head23.Bl_far10 ?_ (by omega) _ _ _ _ _ _ _ _ _ _ | refine head23.Bl_far4 ?_ (by omega) _ _ _ _))
            case rest =>
              obtain ⟨g6, g7, rfl, rfl, rfl, h6, h7, hk⟩ := hcut
              have s0 := h6.c 0
              have s1 := h6.c 1
              have s2 := h6.c 2
              have s3 := h6.c 3
              have s4 := h6.c 4
              have s5 := h6.c 5
              have s6 := h6.c 6
              have s7 := h6.c 7
              have s8 := h6.c 8
              have s9 := h6.c 9
              have u0 := h7.c 0
              have u1 := h7.c 1
              have u2 := h7.c 2
              have u3 := h7.c 3
              simp at s0 s1 s2 s3 s4 s5 s6 s7 s8 s9 u0 u1 u2 u3
              have HK9 := Lib.hid hk.b2
              clear hk h6 h7 hlw hgz bn hq
              go_wp2
              repeat (go_quiet (fail); try go_wp2)
              go_roundg k1
              case measure => omega
              case rel =>
                refine ⟨s, wrap64 (i + 1), rfl, rfl, ⟨by rw [E3.out]; have := HK2.out; omega⟩, ⟨?_⟩, ⟨?_⟩⟩
                · rw [E3.out, show (i + 1).toNat = i.toNat + 1 by have := HK2.out; omega]; exact HI.out.next
                · exact (HNI.out.all HK9.out).all (by repeat (first | exact Below.refl _ _ | apply Below.drew))
      · have d1 : decide (i < (n : Int)) = true := decide_eq_true ci
        have d2 : decide (i < 20) = false := decide_eq_false c20
        clear c20
        have HW := Lib.hid (And.intro HI.out.wl HI.out.gl)
        have HK2 := Lib.hid hk
        clear HK hk ci
        obtain ⟨Ag, cg, rfl, hcg, _⟩ := Kd.R_reads HNI.out.rg
        have bz := HNI.out.bz
        unfold sc at bz
        have s0 := bz.c 0
        have s1 := bz.c 1
        have s2 := bz.c 2
        have s3 := bz.c 3
        have s4 := bz.c 4
        have s5 := bz.c 5
        have s6 := bz.c 6
        have s7 := bz.c 7
        have s8 := bz.c 8
        have s9 := bz.c 9
        simp at s0 s1 s2 s3 s4 s5 s6 s7 s8 s9
        have M := Lib.hid (And.intro HNI.out trivial)
        clear bz HNI
        cases ends with
        | false =>
          obtain ⟨sv, sf, hs1, hs2⟩ := PH.net_sum HI.out (by have := HK2.out; omega)
          have HS := Lib.hid (And.intro hs1 hs2)
          clear hs1 hs2
          have HOn := Lib.hid (fun w => PH.quittanceref23_On.calls 400000 s.z.id s.z.cu s.z.pl s.z.st s.z.an s.z.ev s.z.pr s.z.bi s.z.si s.z.en (nx y b) s.z.pr s.at_ (nx y b) (am (fst0 y (nx y b)) (nx y b) s.z.pr s.at_ (nx y b)) w (PH.net_on HI.out (Int.le_of_lt HI.out.hi) (Int.le_refl _)))
          go_wp2_with fail
          refine (HOn.out _).mono ?_
          rintro e w8 ⟨rfl, B8⟩
          have n0 := M.out.1.all B8
          clear B8 M s0 s1 s2 s3 s4 s5 s6 s7 s8 s9
          have M := Lib.hid (And.intro n0 trivial)
          clear n0
          go_wp2_with (((with_reducible refine gate_builtin (b := .append) (xs := #[.tmp 208, .tmp 216]) rfl ?_); at_builtin; refine Kd.R_append_row (Value.int .i64) (0 : Int) (h1 := fun _ => rfl) (w0 := w) w.heap.size rfl (.tmp 208) (.tmp 216) 59 2 (.int .i64 0) 8 rfl Tryd.underlying59 PH.info2 rfl (by decide) u14 s.want [(am (fst0 y (nx y b)) (nx y b) s.z.pr s.at_ (nx y b))] _ 1 1 (fun _ => True) rfl rfl (fun _ _ => trivial) ?aO ?aR ?aB ?aS ?aL ?_; (case aO => exact (M.out.1.all (below_alloc (Below.refl _ w8) (.cells #[.int .i64 (am (fst0 y (nx y b)) (nx y b) s.z.pr s.at_ (nx y b))] 2))).rw_); (case aR => exact (Kd.R_reads' (Ri.lit w8 w.heap.size [(am (fst0 y (nx y b)) (nx y b) s.z.pr s.at_ (nx y b))] M.out.1.bel.size (by simp))).2.2); (case aB => exact M.out.1.bel.alloc M.out.1.bel.size _); (case aS => exact (M.out.1.bel.alloc M.out.1.bel.size _).size); (case aL => have := HW.out; have := HK2.out; omega); intro v1 w9 hR hb hg hat; have n0 := (M.out.1.all (below_alloc (Below.refl _ w8) (.cells #[.int .i64 (am (fst0 y (nx y b)) (nx y b) s.z.pr s.at_ (nx y b))] 2))).want hR hb hg hat; obtain ⟨wl, hwl⟩ : ∃ l_ : List Int, l_ = s.want ++ [(am (fst0 y (nx y b)) (nx y b) s.z.pr s.at_ (nx y b))] := ⟨_, rfl⟩; rw [← hwl] at n0 HS; clear hwl; obtain ⟨Aw, cw, rfl, hcw, _⟩ := Kd.R_reads n0.rw_; clear M hR hb hg hat; have M := Lib.hid (And.intro n0 trivial); clear n0))
          refine (PH.arith_Sum.calls Ag cg s.got sv sf _ (Kd.R_reads' M.out.1.rg).2.2 hcg HS.out.1).mono ?_
          rintro e w20 ⟨rfl, B20⟩
          have n0 := M.out.1.all B20
          clear M B20
          have M := Lib.hid (And.intro n0 trivial)
          clear n0
          go_wp2_with fail
          refine (PH.arith_Sum.calls Aw cw wl sv sf _ (Kd.R_reads' M.out.1.rw_).2.2 hcw HS.out.2).mono ?_
          rintro e w21 ⟨rfl, B21⟩
          have n0 := M.out.1.all B21
          clear M B21
          have M := Lib.hid (And.intro n0 trivial)
          clear n0
          go_wp2_with fail
          refine (HH.out _ (tabB HT.out M.out.1.bel)).mono ?_
          rintro e w9 ⟨rfl, B9⟩
          go_wp2
          go_ret
          exact ⟨rfl, M.out.1.bel.trans (B9.mono M.out.1.bel.size)⟩
        | true =>
          obtain ⟨sv, sf, hs1, hs2⟩ := PH.net_sum_end HI.out (by have := HK2.out; omega)
          have HS := Lib.hid (And.intro hs1 hs2)
          clear hs1 hs2
          have HOn := Lib.hid (fun w => PH.quittanceref23_On.calls 400000 s.z.id s.z.cu s.z.pl s.z.st s.z.an s.z.ev s.z.pr s.z.bi s.z.si s.z.en (nx y b) s.z.pr s.at_ s.at_ (am (fst0 y (nx y b)) (nx y b) s.z.pr s.at_ s.at_) w (PH.net_on HI.out (Int.le_refl _) (Int.le_of_lt HI.out.hi)))
          have HX := Lib.hid (fun w (T : Tab w) => PH.subs_Cancel.calls s.z.id s.z.cu s.z.pl s.z.st s.z.an s.z.ev s.z.pr s.z.bi s.z.si s.z.en s.at_ true s.z.id s.z.cu s.z.pl s.z.st s.z.an s.z.ev s.z.pr s.z.bi s.z.si s.at_ s.at_ (nx y b) (am (fst0 y (nx y b)) (nx y b) s.z.pr s.at_ (nx y b)) 0 0 w (Aside0.mk T) (PH.net_cancel HI.out))
          have HKt := Lib.hid (fun w (T : Tab w) => PH.subs_Check.calls 1 s.z.id s.z.cu s.z.pl s.z.st s.z.an s.z.ev s.z.pr s.z.bi s.z.si s.at_ 0 w (Aside0.mk T) (PH.net_check (s := ⟨⟨s.z.id, s.z.cu, s.z.pl, s.z.st, s.z.an, s.z.ev, s.z.pr, s.z.bi, s.z.si, s.at_⟩, 0, [], []⟩) (PH.net_ended HI.out)))
          have HU := Lib.hid (fun w (T : Tab w) => PH.subs_Due.calls s.z.id s.z.cu s.z.pl s.z.st s.z.an s.z.ev s.z.pr s.z.bi s.z.si s.at_ 3652059 1000 [] s.z.id s.z.cu s.z.pl s.z.st s.z.an s.z.ev s.z.pr s.z.bi s.z.si s.at_ 0 w (Aside0.mk T) (PH.net_again HI.out))
          have ac := ckB_t HI.out.ck
          have a1 := am_bd (fst0 y (nx y b)) (nx y b) s.z.pr s.at_ (nx y b) ac.p0
          have a3 := ac.p1
          have g1 : decide ((am (fst0 y (nx y b)) (nx y b) s.z.pr s.at_ (nx y b)) < 0) = false := decide_eq_false (by omega)
          have e4 : wrap64 (-(am (fst0 y (nx y b)) (nx y b) s.z.pr s.at_ (nx y b))) = -(am (fst0 y (nx y b)) (nx y b) s.z.pr s.at_ (nx y b)) := by unfold wrap64; omega
          clear a1 a3 ac
          go_wp2_with fail
          refine (HX.out _ (tabB HT.out M.out.1.bel)).mono ?_
          rintro e w5 ⟨rfl, B5⟩
          have n0 := M.out.1.all B5
          have l5 := n0.bz.lt
          have l6 := n0.bel.size
          clear B5 M s0 s1 s2 s3 s4 s5 s6 s7 s8 s9
          go_upto_region 29 with fail
          have n1 := (n0.all (below_alloc (Below.refl _ w5) (.cells #[.int .u64 s.z.id, .int .u64 s.z.cu, .int .u64 s.z.pl, .int .i64 s.z.st, .int .i64 s.z.an, .int .i64 s.z.ev, .int .i64 s.z.pr, .int .i64 s.z.bi, .int .i64 s.z.si, .int .i64 s.at_] 26))).all (below_alloc (Below.refl _ _) (.cells #[.int .i64 s.at_, .int .i64 (nx y b), .int .i64 (am (fst0 y (nx y b)) (nx y b) s.z.pr s.at_ (nx y b)), .int .i64 0] 30))
          have h6 : Bl w5.heap.size #[.int .u64 s.z.id, .int .u64 s.z.cu, .int .u64 s.z.pl, .int .i64 s.z.st, .int .i64 s.z.an, .int .i64 s.z.ev, .int .i64 s.z.pr, .int .i64 s.z.bi, .int .i64 s.z.si, .int .i64 s.at_] 26 ((w5.alloc (.cells #[.int .u64 s.z.id, .int .u64 s.z.cu, .int .u64 s.z.pl, .int .i64 s.z.st, .int .i64 s.z.an, .int .i64 s.z.ev, .int .i64 s.z.pr, .int .i64 s.z.bi, .int .i64 s.z.si, .int .i64 s.at_] 26)).alloc (.cells #[.int .i64 s.at_, .int .i64 (nx y b), .int .i64 (am (fst0 y (nx y b)) (nx y b) s.z.pr s.at_ (nx y b)), .int .i64 0] 30)) := Bl.alloc (World.alloc_heap_new w5 _) _
          have h7 : Bl (w5.heap.size + 1) #[.int .i64 s.at_, .int .i64 (nx y b), .int .i64 (am (fst0 y (nx y b)) (nx y b) s.z.pr s.at_ (nx y b)), .int .i64 0] 30 ((w5.alloc (.cells #[.int .u64 s.z.id, .int .u64 s.z.cu, .int .u64 s.z.pl, .int .i64 s.z.st, .int .i64 s.z.an, .int .i64 s.z.ev, .int .i64 s.z.pr, .int .i64 s.z.bi, .int .i64 s.z.si, .int .i64 s.at_] 26)).alloc (.cells #[.int .i64 s.at_, .int .i64 (nx y b), .int .i64 (am (fst0 y (nx y b)) (nx y b) s.z.pr s.at_ (nx y b)), .int .i64 0] 30)) := Bl.newN _ _ _ (by simp)
          clear n0
          generalize World.alloc (World.alloc w5 _) _ = w6 at n1 h6 h7 ⊢
          generalize w5.heap.size = g6 at h6 h7 l5 l6 ⊢
          have s0 := h6.c 0
          have s1 := h6.c 1
          have s2 := h6.c 2
          have s3 := h6.c 3
          have s4 := h6.c 4
          have s5 := h6.c 5
          have s6 := h6.c 6
          have s7 := h6.c 7
          have s8 := h6.c 8
          have s9 := h6.c 9
          have u0 := h7.c 0
          have u1 := h7.c 1
          have u2 := h7.c 2
          have u3 := h7.c 3
          simp at s0 s1 s2 s3 s4 s5 s6 s7 s8 s9 u0 u1 u2 u3
          have M := Lib.hid (And.intro n1 (And.intro h6 h7))
          clear n1 h6 h7
          go_wp2_with fail
          refine (HKt.out _ (tabB HT.out M.out.1.bel)).mono ?_
          rintro e w8 ⟨rfl, B8⟩
          have n0 := M.out.1.all B8
          have h6 := M.out.2.1.all B8
          have h7 := M.out.2.2.all B8
          clear B8 M s0 s1 s2 s3 s4 s5 s6 s7 s8 s9 u0 u1 u2 u3
          have s0 := h6.c 0
          have s1 := h6.c 1
          have s2 := h6.c 2
          have s3 := h6.c 3
          have s4 := h6.c 4
          have s5 := h6.c 5
          have s6 := h6.c 6
          have s7 := h6.c 7
          have s8 := h6.c 8
          have s9 := h6.c 9
          have u0 := h7.c 0
          have u1 := h7.c 1
          have u2 := h7.c 2
          have u3 := h7.c 3
          simp at s0 s1 s2 s3 s4 s5 s6 s7 s8 s9 u0 u1 u2 u3
          have M := Lib.hid (And.intro n0 (And.intro h6 h7))
          clear n0 h6 h7
          go_wp2_with (((with_reducible refine gate_builtin (b := .append) (xs := #[.tmp 188, .tmp 192]) rfl ?_); at_builtin; refine Kd.R_append_row (Value.int .i64) (0 : Int) (h1 := fun _ => rfl) (w0 := w) w.heap.size rfl (.tmp 188) (.tmp 192) 59 2 (.int .i64 0) 8 rfl Tryd.underlying59 PH.info2 rfl (by decide) (.slice Ag s.got.length cg) s.got [(-(am (fst0 y (nx y b)) (nx y b) s.z.pr s.at_ (nx y b)))] _ 1 1 (fun _ => True) rfl rfl (fun _ _ => trivial) ?aO ?aR ?aB ?aS ?aL ?_; (case aO => exact (M.out.1.all (below_alloc (Below.refl _ w8) (.cells #[.int .i64 (-(am (fst0 y (nx y b)) (nx y b) s.z.pr s.at_ (nx y b)))] 2))).rg); (case aR => exact (Kd.R_reads' (Ri.lit w8 w.heap.size [(-(am (fst0 y (nx y b)) (nx y b) s.z.pr s.at_ (nx y b)))] M.out.1.bel.size (by simp))).2.2); (case aB => exact M.out.1.bel.alloc M.out.1.bel.size _); (case aS => exact (M.out.1.bel.alloc M.out.1.bel.size _).size); (case aL => have := HW.out; have := HK2.out; omega); intro v1 w9 hR hb hg hat; have n0 := (M.out.1.all (below_alloc (Below.refl _ w8) (.cells #[.int .i64 (-(am (fst0 y (nx y b)) (nx y b) s.z.pr s.at_ (nx y b)))] 2))).got hR hb hg hat; have h6 : Bl g6 _ 26 w9 := blk_grown (M.out.2.1.all (below_alloc (Below.refl _ w8) (.cells #[.int .i64 (-(am (fst0 y (nx y b)) (nx y b) s.z.pr s.at_ (nx y b)))] 2))) hg (Kd.R_ne (M.out.1.all (below_alloc (Below.refl _ w8) (.cells #[.int .i64 (-(am (fst0 y (nx y b)) (nx y b) s.z.pr s.at_ (nx y b)))] 2))).rg (M.out.2.1.all (below_alloc (Below.refl _ w8) (.cells #[.int .i64 (-(am (fst0 y (nx y b)) (nx y b) s.z.pr s.at_ (nx y b)))] 2))) (by decide)); clear s0 s1 s2 s3 s4 s5 s6 s7 s8 s9 u0 u1 u2 u3; have s0 := h6.c 0; have s1 := h6.c 1; have s2 := h6.c 2; have s3 := h6.c 3; have s4 := h6.c 4; have s5 := h6.c 5; have s6 := h6.c 6; have s7 := h6.c 7; have s8 := h6.c 8; have s9 := h6.c 9; simp at s0 s1 s2 s3 s4 s5 s6 s7 s8 s9; obtain ⟨gl, hgl⟩ : ∃ l_ : List Int, l_ = s.got ++ [(-(am (fst0 y (nx y b)) (nx y b) s.z.pr s.at_ (nx y b)))] := ⟨_, rfl⟩; rw [← hgl] at n0 HS; clear hgl; obtain ⟨Ah, ch, rfl, hch, _⟩ := Kd.R_reads n0.rg; clear M hR hb hg hat; have M := Lib.hid (And.intro n0 trivial); clear n0 h6))
          refine (HU.out _ (tabB HT.out M.out.1.bel)).mono ?_
          rintro e w10 ⟨v, rfl, hR, B10⟩
          obtain ⟨A0, c0, rfl, _, _⟩ := Kd.R_reads hR
          have n0 := M.out.1.all B10
          clear M hR B10 s0 s1 s2 s3 s4 s5 s6 s7 s8 s9
          go_upto_region 34 with fail
          have n1 := n0.all (below_alloc (Below.refl _ w10) (.cells #[.int .u64 s.z.id, .int .u64 s.z.cu, .int .u64 s.z.pl, .int .i64 s.z.st, .int .i64 s.z.an, .int .i64 s.z.ev, .int .i64 s.z.pr, .int .i64 s.z.bi, .int .i64 s.z.si, .int .i64 s.at_] 26))
          clear n0
          generalize World.alloc w10 _ = w11 at n1 ⊢
          have bz := n1.bz
          unfold sc at bz
          have s0 := bz.c 0
          have s1 := bz.c 1
          have s2 := bz.c 2
          have s3 := bz.c 3
          have s4 := bz.c 4
          have s5 := bz.c 5
          have s6 := bz.c 6
          have s7 := bz.c 7
          have s8 := bz.c 8
          have s9 := bz.c 9
          simp at s0 s1 s2 s3 s4 s5 s6 s7 s8 s9
          have M := Lib.hid (And.intro n1 trivial)
          clear n1 bz
          go_wp2_with fail
          refine (HOn.out _).mono ?_
          rintro e w12 ⟨rfl, B12⟩
          have n0 := M.out.1.all B12
          clear B12 M s0 s1 s2 s3 s4 s5 s6 s7 s8 s9
          have M := Lib.hid (And.intro n0 trivial)
          clear n0
          go_wp2_with (((with_reducible refine gate_builtin (b := .append) (xs := #[.tmp 208, .tmp 216]) rfl ?_); at_builtin; refine Kd.R_append_row (Value.int .i64) (0 : Int) (h1 := fun _ => rfl) (w0 := w) w.heap.size rfl (.tmp 208) (.tmp 216) 59 2 (.int .i64 0) 8 rfl Tryd.underlying59 PH.info2 rfl (by decide) u14 s.want [(am (fst0 y (nx y b)) (nx y b) s.z.pr s.at_ s.at_)] _ 1 1 (fun _ => True) rfl rfl (fun _ _ => trivial) ?aO ?aR ?aB ?aS ?aL ?_; (case aO => exact (M.out.1.all (below_alloc (Below.refl _ w12) (.cells #[.int .i64 (am (fst0 y (nx y b)) (nx y b) s.z.pr s.at_ s.at_)] 2))).rw_); (case aR => exact (Kd.R_reads' (Ri.lit w12 w.heap.size [(am (fst0 y (nx y b)) (nx y b) s.z.pr s.at_ s.at_)] M.out.1.bel.size (by simp))).2.2); (case aB => exact M.out.1.bel.alloc M.out.1.bel.size _); (case aS => exact (M.out.1.bel.alloc M.out.1.bel.size _).size); (case aL => have := HW.out; have := HK2.out; omega); intro v1 w13 hR hb hg hat; have n0 := (M.out.1.all (below_alloc (Below.refl _ w12) (.cells #[.int .i64 (am (fst0 y (nx y b)) (nx y b) s.z.pr s.at_ s.at_)] 2))).want hR hb hg hat; obtain ⟨wl, hwl⟩ : ∃ l_ : List Int, l_ = s.want ++ [(am (fst0 y (nx y b)) (nx y b) s.z.pr s.at_ s.at_)] := ⟨_, rfl⟩; rw [← hwl] at n0 HS; clear hwl; obtain ⟨Aw, cw, rfl, hcw, _⟩ := Kd.R_reads n0.rw_; clear M hR hb hg hat; have M := Lib.hid (And.intro n0 trivial); clear n0))
          refine (PH.arith_Sum.calls Ah ch gl sv sf _ (Kd.R_reads' M.out.1.rg).2.2 hch HS.out.1).mono ?_
          rintro e w20 ⟨rfl, B20⟩
          have n0 := M.out.1.all B20
          clear M B20
          have M := Lib.hid (And.intro n0 trivial)
          clear n0
          go_wp2_with fail
          refine (PH.arith_Sum.calls Aw cw wl sv sf _ (Kd.R_reads' M.out.1.rw_).2.2 hcw HS.out.2).mono ?_
          rintro e w21 ⟨rfl, B21⟩
          have n0 := M.out.1.all B21
          clear M B21
          have M := Lib.hid (And.intro n0 trivial)
          clear n0
          go_wp2_with fail
          refine (HH.out _ (tabB HT.out M.out.1.bel)).mono ?_
          rintro e w9 ⟨rfl, B9⟩
          go_wp2
          go_ret
          exact ⟨rfl, M.out.1.bel.trans (B9.mono M.out.1.bel.size)⟩
    · have d1 : decide (i < (n : Int)) = false := decide_eq_false ci
      have HW := Lib.hid (And.intro HI.out.wl HI.out.gl)
      have HK2 := Lib.hid hk
      clear HK hk ci
      obtain ⟨Ag, cg, rfl, hcg, _⟩ := Kd.R_reads HNI.out.rg
      have bz := HNI.out.bz
      unfold sc at bz
      have s0 := bz.c 0
      have s1 := bz.c 1
      have s2 := bz.c 2
      have s3 := bz.c 3
      have s4 := bz.c 4
      have s5 := bz.c 5
      have s6 := bz.c 6
      have s7 := bz.c 7
      have s8 := bz.c 8
      have s9 := bz.c 9
      simp at s0 s1 s2 s3 s4 s5 s6 s7 s8 s9
      have M := Lib.hid (And.intro HNI.out trivial)
      clear bz HNI
      cases ends with
      | false =>
        obtain ⟨sv, sf, hs1, hs2⟩ := PH.net_sum HI.out (by have := HK2.out; omega)
        have HS := Lib.hid (And.intro hs1 hs2)
        clear hs1 hs2
        have HOn := Lib.hid (fun w => PH.quittanceref23_On.calls 400000 s.z.id s.z.cu s.z.pl s.z.st s.z.an s.z.ev s.z.pr s.z.bi s.z.si s.z.en (nx y b) s.z.pr s.at_ (nx y b) (am (fst0 y (nx y b)) (nx y b) s.z.pr s.at_ (nx y b)) w (PH.net_on HI.out (Int.le_of_lt HI.out.hi) (Int.le_refl _)))
        go_wp2_with fail
        refine (HOn.out _).mono ?_
        rintro e w8 ⟨rfl, B8⟩
        have n0 := M.out.1.all B8
        clear B8 M s0 s1 s2 s3 s4 s5 s6 s7 s8 s9
        have M := Lib.hid (And.intro n0 trivial)
        clear n0
        go_wp2_with (((with_reducible refine gate_builtin (b := .append) (xs := #[.tmp 208, .tmp 216]) rfl ?_); at_builtin; refine Kd.R_append_row (Value.int .i64) (0 : Int) (h1 := fun _ => rfl) (w0 := w) w.heap.size rfl (.tmp 208) (.tmp 216) 59 2 (.int .i64 0) 8 rfl Tryd.underlying59 PH.info2 rfl (by decide) u14 s.want [(am (fst0 y (nx y b)) (nx y b) s.z.pr s.at_ (nx y b))] _ 1 1 (fun _ => True) rfl rfl (fun _ _ => trivial) ?aO ?aR ?aB ?aS ?aL ?_; (case aO => exact (M.out.1.all (below_alloc (Below.refl _ w8) (.cells #[.int .i64 (am (fst0 y (nx y b)) (nx y b) s.z.pr s.at_ (nx y b))] 2))).rw_); (case aR => exact (Kd.R_reads' (Ri.lit w8 w.heap.size [(am (fst0 y (nx y b)) (nx y b) s.z.pr s.at_ (nx y b))] M.out.1.bel.size (by simp))).2.2); (case aB => exact M.out.1.bel.alloc M.out.1.bel.size _); (case aS => exact (M.out.1.bel.alloc M.out.1.bel.size _).size); (case aL => have := HW.out; have := HK2.out; omega); intro v1 w9 hR hb hg hat; have n0 := (M.out.1.all (below_alloc (Below.refl _ w8) (.cells #[.int .i64 (am (fst0 y (nx y b)) (nx y b) s.z.pr s.at_ (nx y b))] 2))).want hR hb hg hat; obtain ⟨wl, hwl⟩ : ∃ l_ : List Int, l_ = s.want ++ [(am (fst0 y (nx y b)) (nx y b) s.z.pr s.at_ (nx y b))] := ⟨_, rfl⟩; rw [← hwl] at n0 HS; clear hwl; obtain ⟨Aw, cw, rfl, hcw, _⟩ := Kd.R_reads n0.rw_; clear M hR hb hg hat; have M := Lib.hid (And.intro n0 trivial); clear n0))
        refine (PH.arith_Sum.calls Ag cg s.got sv sf _ (Kd.R_reads' M.out.1.rg).2.2 hcg HS.out.1).mono ?_
        rintro e w20 ⟨rfl, B20⟩
        have n0 := M.out.1.all B20
        clear M B20
        have M := Lib.hid (And.intro n0 trivial)
        clear n0
        go_wp2_with fail
        refine (PH.arith_Sum.calls Aw cw wl sv sf _ (Kd.R_reads' M.out.1.rw_).2.2 hcw HS.out.2).mono ?_
        rintro e w21 ⟨rfl, B21⟩
        have n0 := M.out.1.all B21
        clear M B21
        have M := Lib.hid (And.intro n0 trivial)
        clear n0
        go_wp2_with fail
        refine (HH.out _ (tabB HT.out M.out.1.bel)).mono ?_
        rintro e w9 ⟨rfl, B9⟩
        go_wp2
        go_ret
        exact ⟨rfl, M.out.1.bel.trans (B9.mono M.out.1.bel.size)⟩
      | true =>
        obtain ⟨sv, sf, hs1, hs2⟩ := PH.net_sum_end HI.out (by have := HK2.out; omega)
        have HS := Lib.hid (And.intro hs1 hs2)
        clear hs1 hs2
        have HOn := Lib.hid (fun w => PH.quittanceref23_On.calls 400000 s.z.id s.z.cu s.z.pl s.z.st s.z.an s.z.ev s.z.pr s.z.bi s.z.si s.z.en (nx y b) s.z.pr s.at_ s.at_ (am (fst0 y (nx y b)) (nx y b) s.z.pr s.at_ s.at_) w (PH.net_on HI.out (Int.le_refl _) (Int.le_of_lt HI.out.hi)))
        have HX := Lib.hid (fun w (T : Tab w) => PH.subs_Cancel.calls s.z.id s.z.cu s.z.pl s.z.st s.z.an s.z.ev s.z.pr s.z.bi s.z.si s.z.en s.at_ true s.z.id s.z.cu s.z.pl s.z.st s.z.an s.z.ev s.z.pr s.z.bi s.z.si s.at_ s.at_ (nx y b) (am (fst0 y (nx y b)) (nx y b) s.z.pr s.at_ (nx y b)) 0 0 w (Aside0.mk T) (PH.net_cancel HI.out))
        have HKt := Lib.hid (fun w (T : Tab w) => PH.subs_Check.calls 1 s.z.id s.z.cu s.z.pl s.z.st s.z.an s.z.ev s.z.pr s.z.bi s.z.si s.at_ 0 w (Aside0.mk T) (PH.net_check (s := ⟨⟨s.z.id, s.z.cu, s.z.pl, s.z.st, s.z.an, s.z.ev, s.z.pr, s.z.bi, s.z.si, s.at_⟩, 0, [], []⟩) (PH.net_ended HI.out)))
        have HU := Lib.hid (fun w (T : Tab w) => PH.subs_Due.calls s.z.id s.z.cu s.z.pl s.z.st s.z.an s.z.ev s.z.pr s.z.bi s.z.si s.at_ 3652059 1000 [] s.z.id s.z.cu s.z.pl s.z.st s.z.an s.z.ev s.z.pr s.z.bi s.z.si s.at_ 0 w (Aside0.mk T) (PH.net_again HI.out))
        have ac := ckB_t HI.out.ck
        have a1 := am_bd (fst0 y (nx y b)) (nx y b) s.z.pr s.at_ (nx y b) ac.p0
        have a3 := ac.p1
        have g1 : decide ((am (fst0 y (nx y b)) (nx y b) s.z.pr s.at_ (nx y b)) < 0) = false := decide_eq_false (by omega)
        have e4 : wrap64 (-(am (fst0 y (nx y b)) (nx y b) s.z.pr s.at_ (nx y b))) = -(am (fst0 y (nx y b)) (nx y b) s.z.pr s.at_ (nx y b)) := by unfold wrap64; omega
        clear a1 a3 ac
        go_wp2_with fail
        refine (HX.out _ (tabB HT.out M.out.1.bel)).mono ?_
        rintro e w5 ⟨rfl, B5⟩
        have n0 := M.out.1.all B5
        have l5 := n0.bz.lt
        have l6 := n0.bel.size
        clear B5 M s0 s1 s2 s3 s4 s5 s6 s7 s8 s9
        go_upto_region 29 with fail
        have n1 := (n0.all (below_alloc (Below.refl _ w5) (.cells #[.int .u64 s.z.id, .int .u64 s.z.cu, .int .u64 s.z.pl, .int .i64 s.z.st, .int .i64 s.z.an, .int .i64 s.z.ev, .int .i64 s.z.pr, .int .i64 s.z.bi, .int .i64 s.z.si, .int .i64 s.at_] 26))).all (below_alloc (Below.refl _ _) (.cells #[.int .i64 s.at_, .int .i64 (nx y b), .int .i64 (am (fst0 y (nx y b)) (nx y b) s.z.pr s.at_ (nx y b)), .int .i64 0] 30))
        have h6 : Bl w5.heap.size #[.int .u64 s.z.id, .int .u64 s.z.cu, .int .u64 s.z.pl, .int .i64 s.z.st, .int .i64 s.z.an, .int .i64 s.z.ev, .int .i64 s.z.pr, .int .i64 s.z.bi, .int .i64 s.z.si, .int .i64 s.at_] 26 ((w5.alloc (.cells #[.int .u64 s.z.id, .int .u64 s.z.cu, .int .u64 s.z.pl, .int .i64 s.z.st, .int .i64 s.z.an, .int .i64 s.z.ev, .int .i64 s.z.pr, .int .i64 s.z.bi, .int .i64 s.z.si, .int .i64 s.at_] 26)).alloc (.cells #[.int .i64 s.at_, .int .i64 (nx y b), .int .i64 (am (fst0 y (nx y b)) (nx y b) s.z.pr s.at_ (nx y b)), .int .i64 0] 30)) := Bl.alloc (World.alloc_heap_new w5 _) _
        have h7 : Bl (w5.heap.size + 1) #[.int .i64 s.at_, .int .i64 (nx y b), .int .i64 (am (fst0 y (nx y b)) (nx y b) s.z.pr s.at_ (nx y b)), .int .i64 0] 30 ((w5.alloc (.cells #[.int .u64 s.z.id, .int .u64 s.z.cu, .int .u64 s.z.pl, .int .i64 s.z.st, .int .i64 s.z.an, .int .i64 s.z.ev, .int .i64 s.z.pr, .int .i64 s.z.bi, .int .i64 s.z.si, .int .i64 s.at_] 26)).alloc (.cells #[.int .i64 s.at_, .int .i64 (nx y b), .int .i64 (am (fst0 y (nx y b)) (nx y b) s.z.pr s.at_ (nx y b)), .int .i64 0] 30)) := Bl.newN _ _ _ (by simp)
        clear n0
        generalize World.alloc (World.alloc w5 _) _ = w6 at n1 h6 h7 ⊢
        generalize w5.heap.size = g6 at h6 h7 l5 l6 ⊢
        have s0 := h6.c 0
        have s1 := h6.c 1
        have s2 := h6.c 2
        have s3 := h6.c 3
        have s4 := h6.c 4
        have s5 := h6.c 5
        have s6 := h6.c 6
        have s7 := h6.c 7
        have s8 := h6.c 8
        have s9 := h6.c 9
        have u0 := h7.c 0
        have u1 := h7.c 1
        have u2 := h7.c 2
        have u3 := h7.c 3
        simp at s0 s1 s2 s3 s4 s5 s6 s7 s8 s9 u0 u1 u2 u3
        have M := Lib.hid (And.intro n1 (And.intro h6 h7))
        clear n1 h6 h7
        go_wp2_with fail
        refine (HKt.out _ (tabB HT.out M.out.1.bel)).mono ?_
        rintro e w8 ⟨rfl, B8⟩
        have n0 := M.out.1.all B8
        have h6 := M.out.2.1.all B8
        have h7 := M.out.2.2.all B8
        clear B8 M s0 s1 s2 s3 s4 s5 s6 s7 s8 s9 u0 u1 u2 u3
        have s0 := h6.c 0
        have s1 := h6.c 1
        have s2 := h6.c 2
        have s3 := h6.c 3
        have s4 := h6.c 4
        have s5 := h6.c 5
        have s6 := h6.c 6
        have s7 := h6.c 7
        have s8 := h6.c 8
        have s9 := h6.c 9
        have u0 := h7.c 0
        have u1 := h7.c 1
        have u2 := h7.c 2
        have u3 := h7.c 3
        simp at s0 s1 s2 s3 s4 s5 s6 s7 s8 s9 u0 u1 u2 u3
        have M := Lib.hid (And.intro n0 (And.intro h6 h7))
        clear n0 h6 h7
        go_wp2_with (((with_reducible refine gate_builtin (b := .append) (xs := #[.tmp 188, .tmp 192]) rfl ?_); at_builtin; refine Kd.R_append_row (Value.int .i64) (0 : Int) (h1 := fun _ => rfl) (w0 := w) w.heap.size rfl (.tmp 188) (.tmp 192) 59 2 (.int .i64 0) 8 rfl Tryd.underlying59 PH.info2 rfl (by decide) (.slice Ag s.got.length cg) s.got [(-(am (fst0 y (nx y b)) (nx y b) s.z.pr s.at_ (nx y b)))] _ 1 1 (fun _ => True) rfl rfl (fun _ _ => trivial) ?aO ?aR ?aB ?aS ?aL ?_; (case aO => exact (M.out.1.all (below_alloc (Below.refl _ w8) (.cells #[.int .i64 (-(am (fst0 y (nx y b)) (nx y b) s.z.pr s.at_ (nx y b)))] 2))).rg); (case aR => exact (Kd.R_reads' (Ri.lit w8 w.heap.size [(-(am (fst0 y (nx y b)) (nx y b) s.z.pr s.at_ (nx y b)))] M.out.1.bel.size (by simp))).2.2); (case aB => exact M.out.1.bel.alloc M.out.1.bel.size _); (case aS => exact (M.out.1.bel.alloc M.out.1.bel.size _).size); (case aL => have := HW.out; have := HK2.out; omega); intro v1 w9 hR hb hg hat; have n0 := (M.out.1.all (below_alloc (Below.refl _ w8) (.cells #[.int .i64 (-(am (fst0 y (nx y b)) (nx y b) s.z.pr s.at_ (nx y b)))] 2))).got hR hb hg hat; have h6 : Bl g6 _ 26 w9 := blk_grown (M.out.2.1.all (below_alloc (Below.refl _ w8) (.cells #[.int .i64 (-(am (fst0 y (nx y b)) (nx y b) s.z.pr s.at_ (nx y b)))] 2))) hg (Kd.R_ne (M.out.1.all (below_alloc (Below.refl _ w8) (.cells #[.int .i64 (-(am (fst0 y (nx y b)) (nx y b) s.z.pr s.at_ (nx y b)))] 2))).rg (M.out.2.1.all (below_alloc (Below.refl _ w8) (.cells #[.int .i64 (-(am (fst0 y (nx y b)) (nx y b) s.z.pr s.at_ (nx y b)))] 2))) (by decide)); clear s0 s1 s2 s3 s4 s5 s6 s7 s8 s9 u0 u1 u2 u3; have s0 := h6.c 0; have s1 := h6.c 1; have s2 := h6.c 2; have s3 := h6.c 3; have s4 := h6.c 4; have s5 := h6.c 5; have s6 := h6.c 6; have s7 := h6.c 7; have s8 := h6.c 8; have s9 := h6.c 9; simp at s0 s1 s2 s3 s4 s5 s6 s7 s8 s9; obtain ⟨gl, hgl⟩ : ∃ l_ : List Int, l_ = s.got ++ [(-(am (fst0 y (nx y b)) (nx y b) s.z.pr s.at_ (nx y b)))] := ⟨_, rfl⟩; rw [← hgl] at n0 HS; clear hgl; obtain ⟨Ah, ch, rfl, hch, _⟩ := Kd.R_reads n0.rg; clear M hR hb hg hat; have M := Lib.hid (And.intro n0 trivial); clear n0 h6))
        refine (HU.out _ (tabB HT.out M.out.1.bel)).mono ?_
        rintro e w10 ⟨v, rfl, hR, B10⟩
        obtain ⟨A0, c0, rfl, _, _⟩ := Kd.R_reads hR
        have n0 := M.out.1.all B10
        clear M hR B10 s0 s1 s2 s3 s4 s5 s6 s7 s8 s9
        go_upto_region 34 with fail
        have n1 := n0.all (below_alloc (Below.refl _ w10) (.cells #[.int .u64 s.z.id, .int .u64 s.z.cu, .int .u64 s.z.pl, .int .i64 s.z.st, .int .i64 s.z.an, .int .i64 s.z.ev, .int .i64 s.z.pr, .int .i64 s.z.bi, .int .i64 s.z.si, .int .i64 s.at_] 26))
        clear n0
        generalize World.alloc w10 _ = w11 at n1 ⊢
        have bz := n1.bz
        unfold sc at bz
        have s0 := bz.c 0
        have s1 := bz.c 1
        have s2 := bz.c 2
        have s3 := bz.c 3
        have s4 := bz.c 4
        have s5 := bz.c 5
        have s6 := bz.c 6
        have s7 := bz.c 7
        have s8 := bz.c 8
        have s9 := bz.c 9
        simp at s0 s1 s2 s3 s4 s5 s6 s7 s8 s9
        have M := Lib.hid (And.intro n1 trivial)
        clear n1 bz
        go_wp2_with fail
        refine (HOn.out _).mono ?_
        rintro e w12 ⟨rfl, B12⟩
        have n0 := M.out.1.all B12
        clear B12 M s0 s1 s2 s3 s4 s5 s6 s7 s8 s9
        have M := Lib.hid (And.intro n0 trivial)
        clear n0
        go_wp2_with (((with_reducible refine gate_builtin (b := .append) (xs := #[.tmp 208, .tmp 216]) rfl ?_); at_builtin; refine Kd.R_append_row (Value.int .i64) (0 : Int) (h1 := fun _ => rfl) (w0 := w) w.heap.size rfl (.tmp 208) (.tmp 216) 59 2 (.int .i64 0) 8 rfl Tryd.underlying59 PH.info2 rfl (by decide) u14 s.want [(am (fst0 y (nx y b)) (nx y b) s.z.pr s.at_ s.at_)] _ 1 1 (fun _ => True) rfl rfl (fun _ _ => trivial) ?aO ?aR ?aB ?aS ?aL ?_; (case aO => exact (M.out.1.all (below_alloc (Below.refl _ w12) (.cells #[.int .i64 (am (fst0 y (nx y b)) (nx y b) s.z.pr s.at_ s.at_)] 2))).rw_); (case aR => exact (Kd.R_reads' (Ri.lit w12 w.heap.size [(am (fst0 y (nx y b)) (nx y b) s.z.pr s.at_ s.at_)] M.out.1.bel.size (by simp))).2.2); (case aB => exact M.out.1.bel.alloc M.out.1.bel.size _); (case aS => exact (M.out.1.bel.alloc M.out.1.bel.size _).size); (case aL => have := HW.out; have := HK2.out; omega); intro v1 w13 hR hb hg hat; have n0 := (M.out.1.all (below_alloc (Below.refl _ w12) (.cells #[.int .i64 (am (fst0 y (nx y b)) (nx y b) s.z.pr s.at_ s.at_)] 2))).want hR hb hg hat; obtain ⟨wl, hwl⟩ : ∃ l_ : List Int, l_ = s.want ++ [(am (fst0 y (nx y b)) (nx y b) s.z.pr s.at_ s.at_)] := ⟨_, rfl⟩; rw [← hwl] at n0 HS; clear hwl; obtain ⟨Aw, cw, rfl, hcw, _⟩ := Kd.R_reads n0.rw_; clear M hR hb hg hat; have M := Lib.hid (And.intro n0 trivial); clear n0))
        refine (PH.arith_Sum.calls Ah ch gl sv sf _ (Kd.R_reads' M.out.1.rg).2.2 hch HS.out.1).mono ?_
        rintro e w20 ⟨rfl, B20⟩
        have n0 := M.out.1.all B20
        clear M B20
        have M := Lib.hid (And.intro n0 trivial)
        clear n0
        go_wp2_with fail
        refine (PH.arith_Sum.calls Aw cw wl sv sf _ (Kd.R_reads' M.out.1.rw_).2.2 hcw HS.out.2).mono ?_
        rintro e w21 ⟨rfl, B21⟩
        have n0 := M.out.1.all B21
        clear M B21
        have M := Lib.hid (And.intro n0 trivial)
        clear n0
        go_wp2_with fail
        refine (HH.out _ (tabB HT.out M.out.1.bel)).mono ?_
        rintro e w9 ⟨rfl, B9⟩
        go_wp2
        go_ret
        exact ⟨rfl, M.out.1.bel.trans (B9.mono M.out.1.bel.size)⟩
end Go.Proofs.YtibkbimhedoafaaDoor.law23

namespace Go.Proofs.YtibkbimhedoafaaDoor.law23
open Go.RowKit Go.Proofs.YtibkbimhedoafaaDoor.base Go.Shelf Sb
open Go.Proofs.YtibkbimhedoafaaDoor.psub
open Go.Proofs.YtibkbimhedoafaaDoor.civ (Tab)
theorem subsNet (x : Su) (A : Option Addr) (n cap : Nat) (ts : Int → Tn) (ends : Bool) (w : World) (T : Tab w) (hn : n ≤ 9223372036854775807) (hts : ∀ i : Int, 0 ≤ i → i < n → ∃ ad, A = some ad ∧ Ts w ad i (ts i)) :
    Calls Tryd.prog 8 #[.agg (sc x), .slice A n cap, .bool ends] w fun e w' => e = .returned (.bool true) ∧ Below w.heap.size w w' := by
  rcases PH.net_first (PH.nrm x) ⟨rfl, rfl⟩ with ⟨er, h, _⟩ | h | ⟨a, h, hI⟩
  · exact net_none x ⟨0, 0, 0, 0, 0, 0, 0, 0, 0, 0⟩ _ _ er _ ends w T rfl rfl h
  · exact net_none x (PH.nrm x) _ _ 0 _ ends w T rfl rfl h
  · refine net_main x (PH.nrm x) _ _ a n cap A ts ends w T rfl rfl h ?_ hI hts hn
    have b := (tp_of hI.inn.c (k := (PH.nrm x).bi + 1) (by have := hI.inn.lo; omega)).1 hI.inn.hi
    have := PH.ref_bound (PH.nrm x).st (PH.nrm x).an (PH.nrm x).ev ((PH.nrm x).bi + 1) 400000 (by omega)
    rw [b.1, b.2] at this
    exact this
end Go.Proofs.YtibkbimhedoafaaDoor.law23

