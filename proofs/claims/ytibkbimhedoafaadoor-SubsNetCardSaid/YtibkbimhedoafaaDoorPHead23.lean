/- The calls whose answers the document fixes (head) of chapter 23, walked, in the printed form. The table of the days ahead of months holds its numbers. -/
import Derived.Test.YtibkbimhedoafaaDoorHd23
import Derived.Test.YtibkbimhedoafaaDoorPHx8
import Derived.Test.YtibkbimhedoafaaDoorPHx0
import Derived.Test.YtibkbimhedoafaaDoorPHx2
import Derived.Deep.RegionHeld3
import Derived.Deep.DeepCutAuto
import Derived.Deep.DrawnRows
import Derived.Deep.QuietTactic
import Derived.BigQuiet
namespace Go.Proofs.YtibkbimhedoafaaDoor.head23
open Go.RowKit Go.Proofs.YtibkbimhedoafaaDoor.base Go.Proofs.YtibkbimhedoafaaDoorW.PrintWords Sb
open Go.Proofs.YtibkbimhedoafaaDoor.civ (Tab)
open Go.Proofs.YtibkbimhedoafaaDoor.psub (sc zs zt put10 put10_self put10_heap put10_below store10 Bl put4 tabB)
attribute [local go_sem ↓] Go.wp_at_zero Go.wp_at_succ

theorem day_any (y m d : Int) (w : World) : Calls Tryd.prog 30 #[.int .i64 y, .int .i64 m, .int .i64 d] w fun e w' => e = .returned (.int .i64 (Cv.dayV y m d)) ∧ w = w' := by
  go_enter Tryd.func30, Tryd.ntmps30
  go_wp2_with fail
  refine (ref08.day_any y m d _).mono ?_
  rintro e w' ⟨rfl, rfl⟩
  go_wp2
  go_ret
  exact ⟨rfl, rfl⟩
theorem day_is {y m d : Int} (D : Int) (w : World) (h : Cv.dayV y m d = D) : Calls Tryd.prog 30 #[.int .i64 y, .int .i64 m, .int .i64 d] w fun e w' => e = .returned (.int .i64 D) ∧ w = w' := by
  subst h; exact day_any y m d w
def bills : List PH.S47 := [⟨0, 738895, 738900, 500⟩, ⟨1, 738900, 738931, 3100⟩, ⟨2, 738931, 738960, 3100⟩]
theorem due_is (w : World) (T : Tab w) : Calls Tryd.prog 14 #[.agg #[.int .u64 1, .int .u64 1, .int .u64 1, .int .i64 738895, .int .i64 15, .int .i64 1, .int .i64 3100, .int .i64 0, .int .i64 0, .int .i64 0], .int .i64 738936, .int .i64 10] w fun e w' => ∃ A c,
    e = .returned (.tuple #[.slice A 3 c, .agg #[.int .u64 1, .int .u64 1, .int .u64 1, .int .i64 738895, .int .i64 15, .int .i64 1, .int .i64 3100, .int .i64 3, .int .i64 0, .int .i64 0], .int .i64 0]) ∧ Kd.R PH.k47 47 w' w.heap.size (fun _ => True) (.slice A 3 c) bills ∧ Below w.heap.size w w' :=
  (PH.subs_Due.calls _ _ _ _ _ _ _ _ _ _ _ _ _ _ _ _ _ _ _ _ _ _ _ _ w ⟨T⟩ PH.hd_due).mono fun e w' ⟨v, he, hR, hB⟩ => by
    obtain ⟨A, c, hv⟩ := Kd.R_slice hR
    subst hv
    exact ⟨A, c, he, hR, hB⟩
theorem change_is (w : World) (T : Tab w) : Calls Tryd.prog 9 #[.agg #[.int .u64 1, .int .u64 1, .int .u64 1, .int .i64 738895, .int .i64 15, .int .i64 1, .int .i64 3100, .int .i64 3, .int .i64 0, .int .i64 0], .int .i64 738946, .agg #[.int .u64 2, .int .i64 6200]] w fun e w' =>
    e = .returned (.tuple #[.agg #[.int .u64 1, .int .u64 1, .int .u64 2, .int .i64 738895, .int .i64 15, .int .i64 1, .int .i64 6200, .int .i64 3, .int .i64 738946, .int .i64 0], .agg #[.int .i64 738946, .int .i64 738960, .int .i64 1497, .int .i64 2994], .int .i64 0]) ∧ Below w.heap.size w w' :=
  PH.subs_Change.calls _ _ _ _ _ _ _ _ _ _ _ _ _ _ _ _ _ _ _ _ _ _ _ _ _ _ _ _ w ⟨T⟩ PH.hd_change
theorem cancel0_is (w : World) (T : Tab w) : Calls Tryd.prog 12 #[.agg #[.int .u64 1, .int .u64 1, .int .u64 1, .int .i64 738895, .int .i64 15, .int .i64 1, .int .i64 3100, .int .i64 3, .int .i64 0, .int .i64 0], .int .i64 738946, .bool false] w fun e w' =>
    e = .returned (.tuple #[.agg #[.int .u64 1, .int .u64 1, .int .u64 1, .int .i64 738895, .int .i64 15, .int .i64 1, .int .i64 3100, .int .i64 3, .int .i64 0, .int .i64 738960], .agg #[.int .i64 0, .int .i64 0, .int .i64 0, .int .i64 0], .int .i64 0]) ∧ Below w.heap.size w w' :=
  PH.subs_Cancel.calls _ _ _ _ _ _ _ _ _ _ _ _ _ _ _ _ _ _ _ _ _ _ _ _ _ _ _ w ⟨T⟩ PH.hd_cancel0
theorem cancel1_is (w : World) (T : Tab w) : Calls Tryd.prog 12 #[.agg #[.int .u64 1, .int .u64 1, .int .u64 1, .int .i64 738895, .int .i64 15, .int .i64 1, .int .i64 3100, .int .i64 3, .int .i64 0, .int .i64 0], .int .i64 738946, .bool true] w fun e w' =>
    e = .returned (.tuple #[.agg #[.int .u64 1, .int .u64 1, .int .u64 1, .int .i64 738895, .int .i64 15, .int .i64 1, .int .i64 3100, .int .i64 3, .int .i64 0, .int .i64 738946], .agg #[.int .i64 738946, .int .i64 738960, .int .i64 1497, .int .i64 0], .int .i64 0]) ∧ Below w.heap.size w w' :=
  PH.subs_Cancel.calls _ _ _ _ _ _ _ _ _ _ _ _ _ _ _ _ _ _ _ _ _ _ _ _ _ _ _ w ⟨T⟩ PH.hd_cancel1
theorem ten {g : Nat} {a0 a1 a2 a3 a4 a5 a6 a7 a8 a9 : Value} {t : TypeId} {w V : World} (h : Bl g #[a0, a1, a2, a3, a4, a5, a6, a7, a8, a9] t V) (hB : Below w.heap.size w V) :
    Bl g #[a0, a1, a2, a3, a4, a5, a6, a7, a8, a9] t V ∧ Below w.heap.size w V ∧ V.cell? ⟨g, 0, none⟩ = some a0 ∧ V.cell? ⟨g, 1, none⟩ = some a1 ∧ V.cell? ⟨g, 2, none⟩ = some a2 ∧ V.cell? ⟨g, 3, none⟩ = some a3 ∧ V.cell? ⟨g, 4, none⟩ = some a4 ∧ V.cell? ⟨g, 5, none⟩ = some a5 ∧ V.cell? ⟨g, 6, none⟩ = some a6 ∧ V.cell? ⟨g, 7, none⟩ = some a7 ∧ V.cell? ⟨g, 8, none⟩ = some a8 ∧ V.cell? ⟨g, 9, none⟩ = some a9 :=
  ⟨h, hB, blk_cell h 0, blk_cell h 1, blk_cell h 2, blk_cell h 3, blk_cell h 4, blk_cell h 5, blk_cell h 6, blk_cell h 7, blk_cell h 8, blk_cell h 9⟩
theorem Bl.dr {b : Nat} {cs : Array Value} {t : TypeId} {W : World} (h : Bl b cs t W) : Bl b cs t W.drew := h
theorem below_all {w X V : World} (h : Below w.heap.size w X) (hB : Below X.heap.size X V) : Below w.heap.size w V := h.trans (hB.mono h.size)
theorem Bl_put10 {b g : Nat} {cs : Array Value} {t : TypeId} {W : World} (h : Bl b cs t W) (hn : b ≠ g) (y : Su) : Bl b cs t (put10 W g y) := (put10_heap _ _ _ _ hn).trans h
theorem Bl_far10 {b g : Nat} {cs : Array Value} {t : TypeId} {W : World} (h : Bl b cs t W) (hn : b ≠ g) (v0 v1 v2 v3 v4 v5 v6 v7 v8 v9 : Value) : Bl b cs t ((((((((((W.setCell ⟨g, 0, none⟩ v0).setCell ⟨g, 1, none⟩ v1).setCell ⟨g, 2, none⟩ v2).setCell ⟨g, 3, none⟩ v3).setCell ⟨g, 4, none⟩ v4).setCell ⟨g, 5, none⟩ v5).setCell ⟨g, 6, none⟩ v6).setCell ⟨g, 7, none⟩ v7).setCell ⟨g, 8, none⟩ v8).setCell ⟨g, 9, none⟩ v9) := (((((((((h.far hn 0 _).far hn 1 _).far hn 2 _).far hn 3 _).far hn 4 _).far hn 5 _).far hn 6 _).far hn 7 _).far hn 8 _).far hn 9 _
theorem below_far10 {m g : Nat} {w W : World} (h : Below m w W) (hn : m ≤ g) (v0 v1 v2 v3 v4 v5 v6 v7 v8 v9 : Value) : Below m w ((((((((((W.setCell ⟨g, 0, none⟩ v0).setCell ⟨g, 1, none⟩ v1).setCell ⟨g, 2, none⟩ v2).setCell ⟨g, 3, none⟩ v3).setCell ⟨g, 4, none⟩ v4).setCell ⟨g, 5, none⟩ v5).setCell ⟨g, 6, none⟩ v6).setCell ⟨g, 7, none⟩ v7).setCell ⟨g, 8, none⟩ v8).setCell ⟨g, 9, none⟩ v9) := (((((((((h.setCell hn _).setCell hn _).setCell hn _).setCell hn _).setCell hn _).setCell hn _).setCell hn _).setCell hn _).setCell hn _).setCell hn _
theorem below_far1 {m g : Nat} {w W : World} (h : Below m w W) (hn : m ≤ g) (i : Nat) (v : Value) : Below m w (W.setCell ⟨g, i, none⟩ v) := h.setCell hn _
theorem R_keep {W V : World} {base g : Nat} {v : Value} {l : List PH.S47} (h : Kd.R PH.k47 47 W base (fun _ => True) v l) (hg : g < base ∨ W.heap.size ≤ g) (hV : ∀ k, k ≠ g → k < W.heap.size → V.heap[k]? = W.heap[k]?) :
    Kd.R PH.k47 47 V base (fun _ => True) v l :=
  Kd.R_mono (Kd.R_step (Kd.R_bound h) (fun k hk hl => hV k (by obtain ⟨_, h1, h2, _⟩ := hk; omega) hl)) (fun _ _ => trivial)
/-- What region 2 leaves. -/
def P2 (w : World) (s2 s3 s4 : Value) (wx : World) : Prop := ∃ A c g, s2 = .slice A 3 c ∧ s3 = .pointer (some ⟨g, 0, none⟩) ∧ s4 = .int .i64 0 ∧ 3 ≤ c ∧ Kd.C PH.k47 wx A 3 bills ∧ Bl g (sc x3) 26 wx ∧ Below w.heap.size w wx
theorem P2.mk {w V : World} {A : Option Addr} {c g base : Nat} (h : Kd.R PH.k47 47 V base (fun _ => True) (.slice A 3 c) bills) (hb : Bl g (sc x3) 26 V) (hB : Below w.heap.size w V) : P2 w (.slice A 3 c) (.pointer (some ⟨g, 0, none⟩)) (.int .i64 0) V := by
  obtain ⟨A', c', e, hl, hC⟩ := Kd.R_reads h
  injection e with e1 e2 e3
  subst e1 e3
  exact ⟨_, _, g, rfl, rfl, rfl, hl, hC, hb, hB⟩
theorem want_reads {V : World} {q : Nat} (h : Bl q #[.int .i64 0, .int .i64 738895, .int .i64 738900, .int .i64 500, .int .i64 1, .int .i64 738900, .int .i64 738931, .int .i64 3100, .int .i64 2, .int .i64 738931, .int .i64 738960, .int .i64 3100] 47 V) : Kd.C PH.k47 V (some ⟨q, 0, none⟩) 3 bills := by
  refine ⟨rfl, by decide, fun _ => ⟨_, rfl, fun j p hj => ?_⟩⟩
  refine ⟨[.int .i64 p.f0, .int .i64 p.f1, .int .i64 p.f2, .int .i64 p.f3], rfl, PH.k47_mk _ _, fun i u hu => ?_⟩
  have hj3 : j < 3 := (List.getElem?_eq_some_iff.1 hj).1
  have hi4 : i < 4 := (List.getElem?_eq_some_iff.1 hu).1
  rw [add_plain, show PH.k47.sz = 4 from rfl, blk_cell h]
  obtain rfl | rfl | rfl : j = 0 ∨ j = 1 ∨ j = 2 := by omega
  all_goals
    simp only [bills, List.getElem?_cons_succ, List.getElem?_cons_zero, Option.some.injEq] at hj
    subst hj
    obtain rfl | rfl | rfl | rfl : i = 0 ∨ i = 1 ∨ i = 2 ∨ i = 3 := by omega
    all_goals exact hu
/- lemmas of the regions -/
attribute [local go_sem high] PH.eqA30
theorem below_al {w W : World} (h : Below w.heap.size w W) (o : Obj) : Below w.heap.size w (W.alloc o) := h.alloc h.size o
theorem Bl.new (W : World) (cs : Array Value) (t : TypeId) : Bl W.heap.size cs t (W.alloc (.cells cs t)) := World.alloc_heap_new W _
theorem Bl.newE {b : Nat} (W : World) (cs : Array Value) (t : TypeId) (hb : b = W.heap.size) : Bl b cs t (W.alloc (.cells cs t)) := by subst hb; exact Bl.new W cs t
theorem Bl_far4 {b g : Nat} {cs : Array Value} {t : TypeId} {W : World} (h : Bl b cs t W) (hn : b ≠ g) (v0 v1 v2 v3 : Value) : Bl b cs t ((((W.setCell ⟨g, 0, none⟩ v0).setCell ⟨g, 1, none⟩ v1).setCell ⟨g, 2, none⟩ v2).setCell ⟨g, 3, none⟩ v3) := (((h.far hn 0 _).far hn 1 _).far hn 2 _).far hn 3 _
theorem Bl_set4 {b : Nat} {z0 z1 z2 z3 : Value} {t : TypeId} {W : World} (h : Bl b #[z0, z1, z2, z3] t W) (v0 v1 v2 v3 : Value) : Bl b #[v0, v1, v2, v3] t ((((W.setCell ⟨b, 0, none⟩ v0).setCell ⟨b, 1, none⟩ v1).setCell ⟨b, 2, none⟩ v2).setCell ⟨b, 3, none⟩ v3) := by
  have := blk_set (blk_set (blk_set (blk_set h 0 v0) 1 v1) 2 v2) 3 v3
  simpa [Bl] using this
/-- The subscription lies where it lay, and so does what lay ahead. -/
structure K3 (w wr : World) (g : Nat) (V : World) : Prop where
  bl : Bl g #[.int .u64 1, .int .u64 1, .int .u64 1, .int .i64 738895, .int .i64 15, .int .i64 1, .int .i64 3100, .int .i64 3, .int .i64 0, .int .i64 0] 26 V
  b1 : Below w.heap.size w V
  b2 : Below wr.heap.size wr V
section
variable {w wr V X : World} {g : Nat}
theorem K3.all (h : K3 w wr g V) (hB : Below V.heap.size V X) : K3 w wr g X := ⟨h.bl.all hB, below_all h.b1 hB, below_all h.b2 hB⟩
theorem K3.alloc (h : K3 w wr g V) (o : Obj) : K3 w wr g (V.alloc o) := ⟨h.bl.alloc o, below_al h.b1 o, below_al h.b2 o⟩
theorem K3.undr (h : K3 w wr g V.drew) : K3 w wr g V := ⟨h.bl, ⟨h.b1.os, h.b1.tape, h.b1.output, h.b1.size, h.b1.block⟩, ⟨h.b2.os, h.b2.tape, h.b2.output, h.b2.size, h.b2.block⟩⟩
theorem K3.dr (h : K3 w wr g V) : K3 w wr g V.drew := ⟨h.bl, h.b1.drew, h.b2.drew⟩
theorem K3.dral (h : K3 w wr g V.drew) (o : Obj) : K3 w wr g (V.alloc o).drew := (h.undr.alloc o).dr
theorem K3.far1 (h : K3 w wr g V) {c : Nat} (hg : g ≠ c) (h1 : w.heap.size ≤ c) (h2 : wr.heap.size ≤ c) (i : Nat) (v : Value) : K3 w wr g (V.setCell ⟨c, i, none⟩ v) := ⟨h.bl.far hg i v, h.b1.setCell h1 _, h.b2.setCell h2 _⟩
theorem K3.far4 (h : K3 w wr g V) {c : Nat} (hg : g ≠ c) (h1 : w.heap.size ≤ c) (h2 : wr.heap.size ≤ c) (v0 v1 v2 v3 : Value) : K3 w wr g ((((V.setCell ⟨c, 0, none⟩ v0).setCell ⟨c, 1, none⟩ v1).setCell ⟨c, 2, none⟩ v2).setCell ⟨c, 3, none⟩ v3) := (((h.far1 hg h1 h2 0 _).far1 hg h1 h2 1 _).far1 hg h1 h2 2 _).far1 hg h1 h2 3 _
theorem K3.far10 (h : K3 w wr g V) {c : Nat} (hg : g ≠ c) (h1 : w.heap.size ≤ c) (h2 : wr.heap.size ≤ c) (v0 v1 v2 v3 v4 v5 v6 v7 v8 v9 : Value) : K3 w wr g ((((((((((V.setCell ⟨c, 0, none⟩ v0).setCell ⟨c, 1, none⟩ v1).setCell ⟨c, 2, none⟩ v2).setCell ⟨c, 3, none⟩ v3).setCell ⟨c, 4, none⟩ v4).setCell ⟨c, 5, none⟩ v5).setCell ⟨c, 6, none⟩ v6).setCell ⟨c, 7, none⟩ v7).setCell ⟨c, 8, none⟩ v8).setCell ⟨c, 9, none⟩ v9) :=
  (((((((((h.far1 hg h1 h2 0 _).far1 hg h1 h2 1 _).far1 hg h1 h2 2 _).far1 hg h1 h2 3 _).far1 hg h1 h2 4 _).far1 hg h1 h2 5 _).far1 hg h1 h2 6 _).far1 hg h1 h2 7 _).far1 hg h1 h2 8 _).far1 hg h1 h2 9 _
end
theorem same_f : PH.quittanceref23_Same.f 4 bills bills = some true := by decide +kernel
theorem same_q (W : World) (n : Nat) {A B : Option Addr} {c : Nat} (h1 : Kd.C PH.k47 W A 3 bills) (hc : 3 ≤ c) (h2 : Kd.C PH.k47 W B 3 bills) :
    Calls Tryd.prog 20 #[.slice A 3 c, .slice B 3 3] (W.drewN n) fun e w'' => e = .returned (.bool true) ∧ ∃ m, w'' = W.drewN m :=
  have D : Below W.heap.size W (W.drewN n) := Drawn0.below ⟨⟨n, rfl⟩⟩
  Calls.quiet_of ((PH.quittanceref23_Same.calls 4 A c bills B 3 bills true (W.drewN n) (Kd.C_below h1 D) hc (Kd.C_below h2 D) (by decide) same_f).mono fun _ _ ⟨a, b⟩ => ⟨a, b.out⟩)
/-- What regions 4, 5 and 6 leave. -/
def P4 (w wr : World) (g : Nat) (ss cs : Array Value) (s6 s7 s8 : Value) (wx : World) : Prop := ∃ g6 g7, s6 = .pointer (some ⟨g6, 0, none⟩) ∧ s7 = .pointer (some ⟨g7, 0, none⟩) ∧ s8 = .int .i64 0 ∧ Bl g6 ss 26 wx ∧ Bl g7 cs 30 wx ∧ K3 w wr g wx
theorem P4.mk {w wr wx : World} {g g6 g7 : Nat} {ss cs : Array Value} (h6 : Bl g6 ss 26 wx) (h7 : Bl g7 cs 30 wx) (hk : K3 w wr g wx) : P4 w wr g ss cs (.pointer (some ⟨g6, 0, none⟩)) (.pointer (some ⟨g7, 0, none⟩)) (.int .i64 0) wx := ⟨g6, g7, rfl, rfl, rfl, h6, h7, hk⟩
theorem Bl_set10 {b : Nat} {z0 z1 z2 z3 z4 z5 z6 z7 z8 z9 : Value} {t : TypeId} {W : World} (h : Bl b #[z0, z1, z2, z3, z4, z5, z6, z7, z8, z9] t W) (v0 v1 v2 v3 v4 v5 v6 v7 v8 v9 : Value) : Bl b #[v0, v1, v2, v3, v4, v5, v6, v7, v8, v9] t ((((((((((W.setCell ⟨b, 0, none⟩ v0).setCell ⟨b, 1, none⟩ v1).setCell ⟨b, 2, none⟩ v2).setCell ⟨b, 3, none⟩ v3).setCell ⟨b, 4, none⟩ v4).setCell ⟨b, 5, none⟩ v5).setCell ⟨b, 6, none⟩ v6).setCell ⟨b, 7, none⟩ v7).setCell ⟨b, 8, none⟩ v8).setCell ⟨b, 9, none⟩ v9) := by
  have := blk_set (blk_set (blk_set (blk_set (blk_set (blk_set (blk_set (blk_set (blk_set (blk_set h 0 v0) 1 v1) 2 v2) 3 v3) 4 v4) 5 v5) 6 v6) 7 v7) 8 v8) 9 v9
  simpa [Bl] using this
set_option maxRecDepth 100000 in
set_option maxHeartbeats 4000000 in
theorem head_any (w : World) (T : Tab w) : Calls Tryd.prog 11 #[] w fun e w' => e = .returned (.bool true) ∧ Below w.heap.size w w' := by
  have HT := Lib.hid T
  clear T
  go_enter Tryd.func11, Tryd.ntmps11
  go_wp2_with fail
  refine (day_is 738895 _ (by decide)).mono ?_
  rintro e w' ⟨rfl, rfl⟩
  go_upto_region 2 with fail
  go_cut [2, 3, 4] (fun s2 s3 s4 wx => P2 w s2 s3 s4 wx)
  case first =>
    have hb : Bl w.heap.size (sc x0) 26 (w.alloc (.cells (sc x0) 26)) := World.alloc_heap_new w _
    have hB : Below w.heap.size w (w.alloc (.cells (sc x0) 26)) := (Below.refl _ _).alloc (Nat.le_refl _) _
    unfold sc x0 at hb hB
    simp only at hb hB
    generalize w.alloc _ = w1 at hb hB ⊢
    have hg1 : w.heap.size < w1.heap.size := Bl.lt hb
    generalize hg : w.heap.size = g1 at hb hg1 ⊢
    have HG := Lib.hid hg
    clear hg
    have HLE := Lib.hid (show w.heap.size ≤ w1.heap.size by rw [HG.out]; exact Nat.le_of_lt hg1)
    have K1 := Lib.hid (And.intro (show Bl _ _ _ w1.drew from hb) (show Below _ _ w1.drew from hB.drew))
    have K0 := Lib.hid (And.intro hb hB)
    clear hb hB
    go_region_held3 (fun w' => Bl g1 #[.int .u64 1, .int .u64 1, .int .u64 1, .int .i64 738895, .int .i64 15, .int .i64 1, .int .i64 3100, .int .i64 0, .int .i64 0, .int .i64 0] 26 w' ∧ Below w.heap.size w w' ∧ w'.cell? ⟨g1, 0, none⟩ = some (.int .u64 1) ∧ w'.cell? ⟨g1, 1, none⟩ = some (.int .u64 1) ∧ w'.cell? ⟨g1, 2, none⟩ = some (.int .u64 1) ∧ w'.cell? ⟨g1, 3, none⟩ = some (.int .i64 738895) ∧ w'.cell? ⟨g1, 4, none⟩ = some (.int .i64 15) ∧ w'.cell? ⟨g1, 5, none⟩ = some (.int .i64 1) ∧ w'.cell? ⟨g1, 6, none⟩ = some (.int .i64 3100) ∧ w'.cell? ⟨g1, 7, none⟩ = some (.int .i64 0) ∧ w'.cell? ⟨g1, 8, none⟩ = some (.int .i64 0) ∧ w'.cell? ⟨g1, 9, none⟩ = some (.int .i64 0))
      (first
        | with_reducible exact ten K1.out.1 K1.out.2
        | with_reducible exact ten K3.out.1 K3.out.2
        | with_reducible exact ten (Bl.dr (K0.out.1.alloc _)) (K0.out.2.alloc K0.out.2.size _).drew
        | with_reducible exact ten (K3.out.1.alloc _) (K3.out.2.alloc K3.out.2.size _)
        | with_reducible exact ten (Bl_far10 K3.out.1 (Nat.ne_of_lt hg1) _ _ _ _ _ _ _ _ _ _) (below_far10 K3.out.2 HLE.out _ _ _ _ _ _ _ _ _ _))
      (first
        | (go_at_call 30; refine (day_is 738936 _ (by decide)).mono ?_; rintro e w' ⟨rfl, rfl⟩)
        | (go_at_call 14; refine (due_is _ (by with_reducible first | exact tabB HT.out K1.out.2 | exact tabB HT.out (K0.out.2.alloc K0.out.2.size _).drew)).mono ?_; rintro e w3 ⟨A, c, rfl, hR, B3⟩; have K3 := Lib.hid (show Bl g1 _ 26 w3 ∧ Below w.heap.size w w3 by with_reducible first | exact And.intro (K1.out.1.all B3) (below_all K1.out.2 B3) | exact And.intro ((Bl.dr (K0.out.1.alloc _)).all B3) (below_all (K0.out.2.alloc K0.out.2.size _).drew B3)); first | (have Z3 := Lib.hid (Bl.all (Bl.dr (World.alloc_heap_new w1 _)) B3); change Hid (Bl w1.heap.size zs _ w3) at Z3; have r0 := Z3.out.c 0; have q0 := Z3.out.f 0; have r1 := Z3.out.c 1; have q1 := Z3.out.f 1; have r2 := Z3.out.c 2; have q2 := Z3.out.f 2; have r3 := Z3.out.c 3; have q3 := Z3.out.f 3; have r4 := Z3.out.c 4; have q4 := Z3.out.f 4; have r5 := Z3.out.c 5; have q5 := Z3.out.f 5; have r6 := Z3.out.c 6; have q6 := Z3.out.f 6; have r7 := Z3.out.c 7; have q7 := Z3.out.f 7; have r8 := Z3.out.c 8; have q8 := Z3.out.f 8; have r9 := Z3.out.c 9; have q9 := Z3.out.f 9; simp [zs] at r0 r1 r2 r3 r4 r5 r6 r7 r8 r9) | skip))
    · have hg := HG.out
      subst hg
      go_wp2_with fail
      go_meet
      exact P2.mk (Kd.R_below hR ((Below.refl _ _).alloc (Nat.le_refl _) _)) (World.alloc_heap_new w3 _) (K3.out.2.alloc K3.out.2.size _)
    all_goals
      have hg := HG.out
      subst hg
      go_wp2_with fail
      go_meet
      change P2 w _ _ _ (put10 w3 w1.heap.size x3)
      exact P2.mk (R_keep hR (.inl (by simp)) (fun k hk _ => put10_heap _ _ _ _ hk)) (put10_self _ _ _ _ Z3.out) (put10_below K3.out.2 _ _ HLE.out)
  case rest =>
    obtain ⟨A, c, g, rfl, rfl, rfl, hc3, hC, hb, hB⟩ := hcut
    have HC := Lib.hid hC
    have HB := Lib.hid hB
    have HN := Lib.hid hb
    clear hC hb hB
    go_upto_region 4 with (go_at_call 30; (first | (refine (day_is 738895 _ (by decide)).mono ?_) | (refine (day_is 738900 _ (by decide)).mono ?_) | (refine (day_is 738931 _ (by decide)).mono ?_) | (refine (day_is 738960 _ (by decide)).mono ?_)); rintro e w' ⟨rfl, rfl⟩)
    have W4 := want_reads (World.alloc_heap_new wc (.cells #[.int .i64 0, .int .i64 738895, .int .i64 738900, .int .i64 500, .int .i64 1, .int .i64 738900, .int .i64 738931, .int .i64 3100, .int .i64 2, .int .i64 738931, .int .i64 738960, .int .i64 3100] 47))
    have C4 := Kd.C_below HC.out ((Below.refl _ _).alloc (Nat.le_refl _) (.cells #[.int .i64 0, .int .i64 738895, .int .i64 738900, .int .i64 500, .int .i64 1, .int .i64 738900, .int .i64 738931, .int .i64 3100, .int .i64 2, .int .i64 738931, .int .i64 738960, .int .i64 3100] 47))
    have N4 := HN.out.alloc (.cells #[.int .i64 0, .int .i64 738895, .int .i64 738900, .int .i64 500, .int .i64 1, .int .i64 738900, .int .i64 738931, .int .i64 3100, .int .i64 2, .int .i64 738931, .int .i64 738960, .int .i64 3100] 47)
    have B4 := below_al HB.out (.cells #[.int .i64 0, .int .i64 738895, .int .i64 738900, .int .i64 500, .int .i64 1, .int .i64 738900, .int .i64 738931, .int .i64 3100, .int .i64 2, .int .i64 738931, .int .i64 738960, .int .i64 3100] 47)
    unfold sc x3 at N4
    simp only at N4
    clear HC HB HN
    generalize wc.alloc _ = w4 at W4 C4 N4 B4 ⊢
    generalize wc.heap.size = q at W4 ⊢
    have HC4 := Lib.hid (And.intro W4 (And.intro C4 (And.intro N4 B4)))
    clear W4 C4 N4 B4
    have K4 := Lib.hid (show K3 w w4 g w4.drew from ⟨HC4.out.2.2.1, HC4.out.2.2.2.drew, (Below.refl _ _).drew⟩)
    have hgl := HC4.out.2.2.1.lt
    have hlw := HC4.out.2.2.2.size
    go_cut [6, 7, 8] (fun s6 s7 s8 wx => P4 w w4 g #[.int .u64 1, .int .u64 1, .int .u64 2, .int .i64 738895, .int .i64 15, .int .i64 1, .int .i64 6200, .int .i64 3, .int .i64 738946, .int .i64 0] #[.int .i64 738946, .int .i64 738960, .int .i64 1497, .int .i64 2994] s6 s7 s8 wx)
    case first =>
      have hs0 : ∀ V : World, K3 w w4 g V → V.cell? ⟨g, 0, none⟩ = some (.int .u64 1) := fun V h => h.bl.c 0
      have hs1 : ∀ V : World, K3 w w4 g V → V.cell? ⟨g, 1, none⟩ = some (.int .u64 1) := fun V h => h.bl.c 1
      have hs2 : ∀ V : World, K3 w w4 g V → V.cell? ⟨g, 2, none⟩ = some (.int .u64 1) := fun V h => h.bl.c 2
      have hs3 : ∀ V : World, K3 w w4 g V → V.cell? ⟨g, 3, none⟩ = some (.int .i64 738895) := fun V h => h.bl.c 3
      have hs4 : ∀ V : World, K3 w w4 g V → V.cell? ⟨g, 4, none⟩ = some (.int .i64 15) := fun V h => h.bl.c 4
      have hs5 : ∀ V : World, K3 w w4 g V → V.cell? ⟨g, 5, none⟩ = some (.int .i64 1) := fun V h => h.bl.c 5
      have hs6 : ∀ V : World, K3 w w4 g V → V.cell? ⟨g, 6, none⟩ = some (.int .i64 3100) := fun V h => h.bl.c 6
      have hs7 : ∀ V : World, K3 w w4 g V → V.cell? ⟨g, 7, none⟩ = some (.int .i64 3) := fun V h => h.bl.c 7
      have hs8 : ∀ V : World, K3 w w4 g V → V.cell? ⟨g, 8, none⟩ = some (.int .i64 0) := fun V h => h.bl.c 8
      have hs9 : ∀ V : World, K3 w w4 g V → V.cell? ⟨g, 9, none⟩ = some (.int .i64 0) := fun V h => h.bl.c 9
      go_region_held3 (fun w' => K3 w w4 g w')
        (first
          | with_reducible exact K4.out
          | with_reducible exact K5
          | (go_split_ands; with_reducible (repeat (first | assumption | exact K5 | refine K3.dral ?_ _ | refine K3.alloc ?_ _ | refine K3.far10 ?_ (by omega) (by omega) (by omega) _ _ _ _ _ _ _ _ _ _ | refine K3.far4 ?_ (by omega) (by omega) (by omega) _ _ _ _))))
        (first
          | (go_at_call 30; refine (day_is 738946 _ (by decide)).mono ?_; rintro e w' ⟨rfl, rfl⟩)
          | (go_at_call 9; go_split_ands; refine (change_is _ (tabB HT.out (K3.b1 (by assumption)))).mono ?_; rintro e w5 ⟨rfl, B5⟩; have K5 := K3.all (by assumption) B5; (first | (have Za := Lib.hid (show Bl w4.heap.size zs 26 w5 from Bl.all (Bl.dr (World.alloc_heap_new w4 _)) B5); have ar0 := Za.out.c 0; have aq0 := Za.out.f 0; have ar1 := Za.out.c 1; have aq1 := Za.out.f 1; have ar2 := Za.out.c 2; have aq2 := Za.out.f 2; have ar3 := Za.out.c 3; have aq3 := Za.out.f 3; have ar4 := Za.out.c 4; have aq4 := Za.out.f 4; have ar5 := Za.out.c 5; have aq5 := Za.out.f 5; have ar6 := Za.out.c 6; have aq6 := Za.out.f 6; have ar7 := Za.out.c 7; have aq7 := Za.out.f 7; have ar8 := Za.out.c 8; have aq8 := Za.out.f 8; have ar9 := Za.out.c 9; have aq9 := Za.out.f 9; simp [zs] at ar0 ar1 ar2 ar3 ar4 ar5 ar6 ar7 ar8 ar9; have Ya := Za.out; unfold zs at Ya) | (have Za := Lib.hid (show Bl w4.heap.size zs 26 w5 from Bl.all (Bl.dr (Bl.alloc (World.alloc_heap_new w4 _) _)) B5); have ar0 := Za.out.c 0; have aq0 := Za.out.f 0; have ar1 := Za.out.c 1; have aq1 := Za.out.f 1; have ar2 := Za.out.c 2; have aq2 := Za.out.f 2; have ar3 := Za.out.c 3; have aq3 := Za.out.f 3; have ar4 := Za.out.c 4; have aq4 := Za.out.f 4; have ar5 := Za.out.c 5; have aq5 := Za.out.f 5; have ar6 := Za.out.c 6; have aq6 := Za.out.f 6; have ar7 := Za.out.c 7; have aq7 := Za.out.f 7; have ar8 := Za.out.c 8; have aq8 := Za.out.f 8; have ar9 := Za.out.c 9; have aq9 := Za.out.f 9; simp [zs] at ar0 ar1 ar2 ar3 ar4 ar5 ar6 ar7 ar8 ar9; have Ya := Za.out; unfold zs at Ya) | (have Za := Lib.hid (show Bl (w4.heap.size + 1) zs 26 w5 from Bl.all (Bl.dr (Bl.newE (w4.alloc _) _ _ (by simp))) B5); have ar0 := Za.out.c 0; have aq0 := Za.out.f 0; have ar1 := Za.out.c 1; have aq1 := Za.out.f 1; have ar2 := Za.out.c 2; have aq2 := Za.out.f 2; have ar3 := Za.out.c 3; have aq3 := Za.out.f 3; have ar4 := Za.out.c 4; have aq4 := Za.out.f 4; have ar5 := Za.out.c 5; have aq5 := Za.out.f 5; have ar6 := Za.out.c 6; have aq6 := Za.out.f 6; have ar7 := Za.out.c 7; have aq7 := Za.out.f 7; have ar8 := Za.out.c 8; have aq8 := Za.out.f 8; have ar9 := Za.out.c 9; have aq9 := Za.out.f 9; simp [zs] at ar0 ar1 ar2 ar3 ar4 ar5 ar6 ar7 ar8 ar9; have Ya := Za.out; unfold zs at Ya) | skip); (first | (have Zb := Lib.hid (show Bl w4.heap.size zt 30 w5 from Bl.all (Bl.dr (World.alloc_heap_new w4 _)) B5); have br0 := Zb.out.c 0; have bq0 := Zb.out.f 0; have br1 := Zb.out.c 1; have bq1 := Zb.out.f 1; have br2 := Zb.out.c 2; have bq2 := Zb.out.f 2; have br3 := Zb.out.c 3; have bq3 := Zb.out.f 3; simp [zt] at br0 br1 br2 br3; have Yb := Zb.out; unfold zt at Yb) | (have Zb := Lib.hid (show Bl w4.heap.size zt 30 w5 from Bl.all (Bl.dr (Bl.alloc (World.alloc_heap_new w4 _) _)) B5); have br0 := Zb.out.c 0; have bq0 := Zb.out.f 0; have br1 := Zb.out.c 1; have bq1 := Zb.out.f 1; have br2 := Zb.out.c 2; have bq2 := Zb.out.f 2; have br3 := Zb.out.c 3; have bq3 := Zb.out.f 3; simp [zt] at br0 br1 br2 br3; have Yb := Zb.out; unfold zt at Yb) | (have Zb := Lib.hid (show Bl (w4.heap.size + 1) zt 30 w5 from Bl.all (Bl.dr (Bl.newE (w4.alloc _) _ _ (by simp))) B5); have br0 := Zb.out.c 0; have bq0 := Zb.out.f 0; have br1 := Zb.out.c 1; have bq1 := Zb.out.f 1; have br2 := Zb.out.c 2; have bq2 := Zb.out.f 2; have br3 := Zb.out.c 3; have bq3 := Zb.out.f 3; simp [zt] at br0 br1 br2 br3; have Yb := Zb.out; unfold zt at Yb) | skip); obtain ⟨u5, v5⟩ := bcell B5; have z5 := B5.size; (try simp at z5); have m0 : w4.heap.size ≤ w5.heap.size := (by omega); (first | (have m1 : w4.heap.size < w5.heap.size := (by omega)) | skip); (first | (have m3 : w4.heap.size + 1 < w5.heap.size := (by omega)) | skip)))
      all_goals
        go_wp2_with fail
        go_meet
        refine P4.mk ?_ ?_ ?_
        rotate_left 2
        · with_reducible (repeat (first | assumption | exact K5 | refine K3.dral ?_ _ | refine K3.alloc ?_ _ | refine K3.far10 ?_ (by omega) (by omega) (by omega) _ _ _ _ _ _ _ _ _ _ | refine K3.far4 ?_ (by omega) (by omega) (by omega) _ _ _ _))
        all_goals with_reducible (repeat (first | assumption | exact Bl.new _ _ _ | exact Bl.newE _ _ _ (by simp) | refine Bl.alloc ?_ _ | apply Bl_set10 | apply Bl_set4 | refine Bl_far10 ?_ (by omega) _ _ _ _ _ _ _ _ _ _ | refine Bl_far4 ?_ (by omega) _ _ _ _))
    case rest =>
      obtain ⟨g6p, g7p, rfl, rfl, rfl, h6, h7, hk⟩ := hcut
      rename World => w6
      have HC6 := Lib.hid (And.intro (Kd.C_below HC4.out.1 hk.b2) (And.intro (Kd.C_below HC4.out.2.1 hk.b2) (And.intro hk.bl hk.b1)))
      have Xp := Lib.hid h7
      have Sp := Lib.hid h6
      clear h6 h7 hk HC4
      go_upto_region 5 with fail
      have K4 := Lib.hid (show K3 w w6 g w6.drew from ⟨HC6.out.2.2.1, HC6.out.2.2.2.drew, (Below.refl _ _).drew⟩)
      have hgl := HC6.out.2.2.1.lt
      have hlw := HC6.out.2.2.2.size
      go_cut [9, 10, 11] (fun s6 s7 s8 wx => P4 w w6 g #[.int .u64 1, .int .u64 1, .int .u64 1, .int .i64 738895, .int .i64 15, .int .i64 1, .int .i64 3100, .int .i64 3, .int .i64 0, .int .i64 738960] #[.int .i64 0, .int .i64 0, .int .i64 0, .int .i64 0] s6 s7 s8 wx)
      case first =>
        have hs0 : ∀ V : World, K3 w w6 g V → V.cell? ⟨g, 0, none⟩ = some (.int .u64 1) := fun V h => h.bl.c 0
        have hs1 : ∀ V : World, K3 w w6 g V → V.cell? ⟨g, 1, none⟩ = some (.int .u64 1) := fun V h => h.bl.c 1
        have hs2 : ∀ V : World, K3 w w6 g V → V.cell? ⟨g, 2, none⟩ = some (.int .u64 1) := fun V h => h.bl.c 2
        have hs3 : ∀ V : World, K3 w w6 g V → V.cell? ⟨g, 3, none⟩ = some (.int .i64 738895) := fun V h => h.bl.c 3
        have hs4 : ∀ V : World, K3 w w6 g V → V.cell? ⟨g, 4, none⟩ = some (.int .i64 15) := fun V h => h.bl.c 4
        have hs5 : ∀ V : World, K3 w w6 g V → V.cell? ⟨g, 5, none⟩ = some (.int .i64 1) := fun V h => h.bl.c 5
        have hs6 : ∀ V : World, K3 w w6 g V → V.cell? ⟨g, 6, none⟩ = some (.int .i64 3100) := fun V h => h.bl.c 6
        have hs7 : ∀ V : World, K3 w w6 g V → V.cell? ⟨g, 7, none⟩ = some (.int .i64 3) := fun V h => h.bl.c 7
        have hs8 : ∀ V : World, K3 w w6 g V → V.cell? ⟨g, 8, none⟩ = some (.int .i64 0) := fun V h => h.bl.c 8
        have hs9 : ∀ V : World, K3 w w6 g V → V.cell? ⟨g, 9, none⟩ = some (.int .i64 0) := fun V h => h.bl.c 9
        go_region_held3 (fun w' => K3 w w6 g w')
          (first
            | with_reducible exact K4.out
            | with_reducible exact K5
            | (go_split_ands; with_reducible (repeat (first | assumption | exact K5 | refine K3.dral ?_ _ | refine K3.alloc ?_ _ | refine K3.far10 ?_ (by omega) (by omega) (by omega) _ _ _ _ _ _ _ _ _ _ | refine K3.far4 ?_ (by omega) (by omega) (by omega) _ _ _ _))))
          (first
            | (go_at_call 30; refine (day_is 738946 _ (by decide)).mono ?_; rintro e w' ⟨rfl, rfl⟩)
            | (go_at_call 12; go_split_ands; refine (cancel0_is _ (tabB HT.out (K3.b1 (by assumption)))).mono ?_; rintro e w5 ⟨rfl, B5⟩; have K5 := K3.all (by assumption) B5; (first | (have Za := Lib.hid (show Bl w6.heap.size zs 26 w5 from Bl.all (Bl.dr (World.alloc_heap_new w6 _)) B5); have ar0 := Za.out.c 0; have aq0 := Za.out.f 0; have ar1 := Za.out.c 1; have aq1 := Za.out.f 1; have ar2 := Za.out.c 2; have aq2 := Za.out.f 2; have ar3 := Za.out.c 3; have aq3 := Za.out.f 3; have ar4 := Za.out.c 4; have aq4 := Za.out.f 4; have ar5 := Za.out.c 5; have aq5 := Za.out.f 5; have ar6 := Za.out.c 6; have aq6 := Za.out.f 6; have ar7 := Za.out.c 7; have aq7 := Za.out.f 7; have ar8 := Za.out.c 8; have aq8 := Za.out.f 8; have ar9 := Za.out.c 9; have aq9 := Za.out.f 9; simp [zs] at ar0 ar1 ar2 ar3 ar4 ar5 ar6 ar7 ar8 ar9; have Ya := Za.out; unfold zs at Ya) | (have Za := Lib.hid (show Bl w6.heap.size zs 26 w5 from Bl.all (Bl.dr (Bl.alloc (World.alloc_heap_new w6 _) _)) B5); have ar0 := Za.out.c 0; have aq0 := Za.out.f 0; have ar1 := Za.out.c 1; have aq1 := Za.out.f 1; have ar2 := Za.out.c 2; have aq2 := Za.out.f 2; have ar3 := Za.out.c 3; have aq3 := Za.out.f 3; have ar4 := Za.out.c 4; have aq4 := Za.out.f 4; have ar5 := Za.out.c 5; have aq5 := Za.out.f 5; have ar6 := Za.out.c 6; have aq6 := Za.out.f 6; have ar7 := Za.out.c 7; have aq7 := Za.out.f 7; have ar8 := Za.out.c 8; have aq8 := Za.out.f 8; have ar9 := Za.out.c 9; have aq9 := Za.out.f 9; simp [zs] at ar0 ar1 ar2 ar3 ar4 ar5 ar6 ar7 ar8 ar9; have Ya := Za.out; unfold zs at Ya) | (have Za := Lib.hid (show Bl (w6.heap.size + 1) zs 26 w5 from Bl.all (Bl.dr (Bl.newE (w6.alloc _) _ _ (by simp))) B5); have ar0 := Za.out.c 0; have aq0 := Za.out.f 0; have ar1 := Za.out.c 1; have aq1 := Za.out.f 1; have ar2 := Za.out.c 2; have aq2 := Za.out.f 2; have ar3 := Za.out.c 3; have aq3 := Za.out.f 3; have ar4 := Za.out.c 4; have aq4 := Za.out.f 4; have ar5 := Za.out.c 5; have aq5 := Za.out.f 5; have ar6 := Za.out.c 6; have aq6 := Za.out.f 6; have ar7 := Za.out.c 7; have aq7 := Za.out.f 7; have ar8 := Za.out.c 8; have aq8 := Za.out.f 8; have ar9 := Za.out.c 9; have aq9 := Za.out.f 9; simp [zs] at ar0 ar1 ar2 ar3 ar4 ar5 ar6 ar7 ar8 ar9; have Ya := Za.out; unfold zs at Ya) | skip); (first | (have Zb := Lib.hid (show Bl w6.heap.size zt 30 w5 from Bl.all (Bl.dr (World.alloc_heap_new w6 _)) B5); have br0 := Zb.out.c 0; have bq0 := Zb.out.f 0; have br1 := Zb.out.c 1; have bq1 := Zb.out.f 1; have br2 := Zb.out.c 2; have bq2 := Zb.out.f 2; have br3 := Zb.out.c 3; have bq3 := Zb.out.f 3; simp [zt] at br0 br1 br2 br3; have Yb := Zb.out; unfold zt at Yb) | (have Zb := Lib.hid (show Bl w6.heap.size zt 30 w5 from Bl.all (Bl.dr (Bl.alloc (World.alloc_heap_new w6 _) _)) B5); have br0 := Zb.out.c 0; have bq0 := Zb.out.f 0; have br1 := Zb.out.c 1; have bq1 := Zb.out.f 1; have br2 := Zb.out.c 2; have bq2 := Zb.out.f 2; have br3 := Zb.out.c 3; have bq3 := Zb.out.f 3; simp [zt] at br0 br1 br2 br3; have Yb := Zb.out; unfold zt at Yb) | (have Zb := Lib.hid (show Bl (w6.heap.size + 1) zt 30 w5 from Bl.all (Bl.dr (Bl.newE (w6.alloc _) _ _ (by simp))) B5); have br0 := Zb.out.c 0; have bq0 := Zb.out.f 0; have br1 := Zb.out.c 1; have bq1 := Zb.out.f 1; have br2 := Zb.out.c 2; have bq2 := Zb.out.f 2; have br3 := Zb.out.c 3; have bq3 := Zb.out.f 3; simp [zt] at br0 br1 br2 br3; have Yb := Zb.out; unfold zt at Yb) | skip); obtain ⟨u5, v5⟩ := bcell B5; have z5 := B5.size; (try simp at z5); have m0 : w6.heap.size ≤ w5.heap.size := (by omega); (first | (have m1 : w6.heap.size < w5.heap.size := (by omega)) | skip); (first | (have m3 : w6.heap.size + 1 < w5.heap.size := (by omega)) | skip)))
        all_goals
          go_wp2_with fail
          go_meet
          refine P4.mk ?_ ?_ ?_
          rotate_left 2
          · with_reducible (repeat (first | assumption | exact K5 | refine K3.dral ?_ _ | refine K3.alloc ?_ _ | refine K3.far10 ?_ (by omega) (by omega) (by omega) _ _ _ _ _ _ _ _ _ _ | refine K3.far4 ?_ (by omega) (by omega) (by omega) _ _ _ _))
          all_goals with_reducible (repeat (first | assumption | exact Bl.new _ _ _ | exact Bl.newE _ _ _ (by simp) | refine Bl.alloc ?_ _ | apply Bl_set10 | apply Bl_set4 | refine Bl_far10 ?_ (by omega) _ _ _ _ _ _ _ _ _ _ | refine Bl_far4 ?_ (by omega) _ _ _ _))
      case rest =>
        obtain ⟨g6q, g7q, rfl, rfl, rfl, h6, h7, hk⟩ := hcut
        rename World => w7
        have HC7 := Lib.hid (And.intro (Kd.C_below HC6.out.1 hk.b2) (And.intro (Kd.C_below HC6.out.2.1 hk.b2) (And.intro hk.bl hk.b1)))
        have Xq := Lib.hid h7
        have Sq := Lib.hid h6
        have Xp := Lib.hid (Xp.out.all hk.b2)
        have Sp := Lib.hid (Sp.out.all hk.b2)
        clear h6 h7 hk HC6
        go_upto_region 6 with fail
        have K4 := Lib.hid (show K3 w w7 g w7.drew from ⟨HC7.out.2.2.1, HC7.out.2.2.2.drew, (Below.refl _ _).drew⟩)
        have hgl := HC7.out.2.2.1.lt
        have hlw := HC7.out.2.2.2.size
        go_cut [12, 13, 14] (fun s6 s7 s8 wx => P4 w w7 g #[.int .u64 1, .int .u64 1, .int .u64 1, .int .i64 738895, .int .i64 15, .int .i64 1, .int .i64 3100, .int .i64 3, .int .i64 0, .int .i64 738946] #[.int .i64 738946, .int .i64 738960, .int .i64 1497, .int .i64 0] s6 s7 s8 wx)
        case first =>
          have hs0 : ∀ V : World, K3 w w7 g V → V.cell? ⟨g, 0, none⟩ = some (.int .u64 1) := fun V h => h.bl.c 0
          have hs1 : ∀ V : World, K3 w w7 g V → V.cell? ⟨g, 1, none⟩ = some (.int .u64 1) := fun V h => h.bl.c 1
          have hs2 : ∀ V : World, K3 w w7 g V → V.cell? ⟨g, 2, none⟩ = some (.int .u64 1) := fun V h => h.bl.c 2
          have hs3 : ∀ V : World, K3 w w7 g V → V.cell? ⟨g, 3, none⟩ = some (.int .i64 738895) := fun V h => h.bl.c 3
          have hs4 : ∀ V : World, K3 w w7 g V → V.cell? ⟨g, 4, none⟩ = some (.int .i64 15) := fun V h => h.bl.c 4
          have hs5 : ∀ V : World, K3 w w7 g V → V.cell? ⟨g, 5, none⟩ = some (.int .i64 1) := fun V h => h.bl.c 5
          have hs6 : ∀ V : World, K3 w w7 g V → V.cell? ⟨g, 6, none⟩ = some (.int .i64 3100) := fun V h => h.bl.c 6
          have hs7 : ∀ V : World, K3 w w7 g V → V.cell? ⟨g, 7, none⟩ = some (.int .i64 3) := fun V h => h.bl.c 7
          have hs8 : ∀ V : World, K3 w w7 g V → V.cell? ⟨g, 8, none⟩ = some (.int .i64 0) := fun V h => h.bl.c 8
          have hs9 : ∀ V : World, K3 w w7 g V → V.cell? ⟨g, 9, none⟩ = some (.int .i64 0) := fun V h => h.bl.c 9
          go_region_held3 (fun w' => K3 w w7 g w')
            (first
              | with_reducible exact K4.out
              | with_reducible exact K5
              | (go_split_ands; with_reducible (repeat (first | assumption | exact K5 | refine K3.dral ?_ _ | refine K3.alloc ?_ _ | refine K3.far10 ?_ (by omega) (by omega) (by omega) _ _ _ _ _ _ _ _ _ _ | refine K3.far4 ?_ (by omega) (by omega) (by omega) _ _ _ _))))
            (first
              | (go_at_call 30; refine (day_is 738946 _ (by decide)).mono ?_; rintro e w' ⟨rfl, rfl⟩)
              | (go_at_call 12; go_split_ands; refine (cancel1_is _ (tabB HT.out (K3.b1 (by assumption)))).mono ?_; rintro e w5 ⟨rfl, B5⟩; have K5 := K3.all (by assumption) B5; (first | (have Za := Lib.hid (show Bl w7.heap.size zs 26 w5 from Bl.all (Bl.dr (World.alloc_heap_new w7 _)) B5); have ar0 := Za.out.c 0; have aq0 := Za.out.f 0; have ar1 := Za.out.c 1; have aq1 := Za.out.f 1; have ar2 := Za.out.c 2; have aq2 := Za.out.f 2; have ar3 := Za.out.c 3; have aq3 := Za.out.f 3; have ar4 := Za.out.c 4; have aq4 := Za.out.f 4; have ar5 := Za.out.c 5; have aq5 := Za.out.f 5; have ar6 := Za.out.c 6; have aq6 := Za.out.f 6; have ar7 := Za.out.c 7; have aq7 := Za.out.f 7; have ar8 := Za.out.c 8; have aq8 := Za.out.f 8; have ar9 := Za.out.c 9; have aq9 := Za.out.f 9; simp [zs] at ar0 ar1 ar2 ar3 ar4 ar5 ar6 ar7 ar8 ar9; have Ya := Za.out; unfold zs at Ya) | (have Za := Lib.hid (show Bl w7.heap.size zs 26 w5 from Bl.all (Bl.dr (Bl.alloc (World.alloc_heap_new w7 _) _)) B5); have ar0 := Za.out.c 0; have aq0 := Za.out.f 0; have ar1 := Za.out.c 1; have aq1 := Za.out.f 1; have ar2 := Za.out.c 2; have aq2 := Za.out.f 2; have ar3 := Za.out.c 3; have aq3 := Za.out.f 3; have ar4 := Za.out.c 4; have aq4 := Za.out.f 4; have ar5 := Za.out.c 5; have aq5 := Za.out.f 5; have ar6 := Za.out.c 6; have aq6 := Za.out.f 6; have ar7 := Za.out.c 7; have aq7 := Za.out.f 7; have ar8 := Za.out.c 8; have aq8 := Za.out.f 8; have ar9 := Za.out.c 9; have aq9 := Za.out.f 9; simp [zs] at ar0 ar1 ar2 ar3 ar4 ar5 ar6 ar7 ar8 ar9; have Ya := Za.out; unfold zs at Ya) | (have Za := Lib.hid (show Bl (w7.heap.size + 1) zs 26 w5 from Bl.all (Bl.dr (Bl.newE (w7.alloc _) _ _ (by simp))) B5); have ar0 := Za.out.c 0; have aq0 := Za.out.f 0; have ar1 := Za.out.c 1; have aq1 := Za.out.f 1; have ar2 := Za.out.c 2; have aq2 := Za.out.f 2; have ar3 := Za.out.c 3; have aq3 := Za.out.f 3; have ar4 := Za.out.c 4; have aq4 := Za.out.f 4; have ar5 := Za.out.c 5; have aq5 := Za.out.f 5; have ar6 := Za.out.c 6; have aq6 := Za.out.f 6; have ar7 := Za.out.c 7; have aq7 := Za.out.f 7; have ar8 := Za.out.c 8; have aq8 := Za.out.f 8; have ar9 := Za.out.c 9; have aq9 := Za.out.f 9; simp [zs] at ar0 ar1 ar2 ar3 ar4 ar5 ar6 ar7 ar8 ar9; have Ya := Za.out; unfold zs at Ya) | skip); (first | (have Zb := Lib.hid (show Bl w7.heap.size zt 30 w5 from Bl.all (Bl.dr (World.alloc_heap_new w7 _)) B5); have br0 := Zb.out.c 0; have bq0 := Zb.out.f 0; have br1 := Zb.out.c 1; have bq1 := Zb.out.f 1; have br2 := Zb.out.c 2; have bq2 := Zb.out.f 2; have br3 := Zb.out.c 3; have bq3 := Zb.out.f 3; simp [zt] at br0 br1 br2 br3; have Yb := Zb.out; unfold zt at Yb) | (have Zb := Lib.hid (show Bl w7.heap.size zt 30 w5 from Bl.all (Bl.dr (Bl.alloc (World.alloc_heap_new w7 _) _)) B5); have br0 := Zb.out.c 0; have bq0 := Zb.out.f 0; have br1 := Zb.out.c 1; have bq1 := Zb.out.f 1; have br2 := Zb.out.c 2; have bq2 := Zb.out.f 2; have br3 := Zb.out.c 3; have bq3 := Zb.out.f 3; simp [zt] at br0 br1 br2 br3; have Yb := Zb.out; unfold zt at Yb) | (have Zb := Lib.hid (show Bl (w7.heap.size + 1) zt 30 w5 from Bl.all (Bl.dr (Bl.newE (w7.alloc _) _ _ (by simp))) B5); have br0 := Zb.out.c 0; have bq0 := Zb.out.f 0; have br1 := Zb.out.c 1; have bq1 := Zb.out.f 1; have br2 := Zb.out.c 2; have bq2 := Zb.out.f 2; have br3 := Zb.out.c 3; have bq3 := Zb.out.f 3; simp [zt] at br0 br1 br2 br3; have Yb := Zb.out; unfold zt at Yb) | skip); obtain ⟨u5, v5⟩ := bcell B5; have z5 := B5.size; (try simp at z5); have m0 : w7.heap.size ≤ w5.heap.size := (by omega); (first | (have m1 : w7.heap.size < w5.heap.size := (by omega)) | skip); (first | (have m3 : w7.heap.size + 1 < w5.heap.size := (by omega)) | skip)))
          all_goals
            go_wp2_with fail
            go_meet
            refine P4.mk ?_ ?_ ?_
            rotate_left 2
            · with_reducible (repeat (first | assumption | exact K5 | refine K3.dral ?_ _ | refine K3.alloc ?_ _ | refine K3.far10 ?_ (by omega) (by omega) (by omega) _ _ _ _ _ _ _ _ _ _ | refine K3.far4 ?_ (by omega) (by omega) (by omega) _ _ _ _))
            all_goals with_reducible (repeat (first | assumption | exact Bl.new _ _ _ | exact Bl.newE _ _ _ (by simp) | refine Bl.alloc ?_ _ | apply Bl_set10 | apply Bl_set4 | refine Bl_far10 ?_ (by omega) _ _ _ _ _ _ _ _ _ _ | refine Bl_far4 ?_ (by omega) _ _ _ _))
        case rest =>
          obtain ⟨g6r, g7r, rfl, rfl, rfl, h6, h7, hk⟩ := hcut
          rename World => w8
          have HC8 := Lib.hid (And.intro (Kd.C_below HC7.out.1 hk.b2) (And.intro (Kd.C_below HC7.out.2.1 hk.b2) (And.intro hk.bl hk.b1)))
          have Xr := Lib.hid h7
          have Sr := Lib.hid h6
          have Xp := Lib.hid (Xp.out.all hk.b2)
          have Sp := Lib.hid (Sp.out.all hk.b2)
          have Xq := Lib.hid (Xq.out.all hk.b2)
          have Sq := Lib.hid (Sq.out.all hk.b2)
          clear h6 h7 hk HC7
          have c3 := HC8.out.2.2.1.c 7
          have d0 := Xp.out.c 0
          have d1 := Xp.out.c 1
          have d2 := Xp.out.c 2
          have d3 := Xp.out.c 3
          have e9 := Sq.out.c 9
          have f0 := Xq.out.c 0
          have f1 := Xq.out.c 1
          have f2 := Xq.out.c 2
          have f3 := Xq.out.c 3
          have i9 := Sr.out.c 9
          have j2 := Xr.out.c 2
          simp at c3 d0 d1 d2 d3 e9 f0 f1 f2 f3 i9 j2
          go_wp2_with fail
          go_quiet ((first | (go_at_call 30; first | exact Calls.quiet_of_same ((day_is 738946 _ (by decide)).mono fun _ _ ⟨a, b⟩ => ⟨a, b.symm⟩) | exact Calls.quiet_of_same ((day_is 738960 _ (by decide)).mono fun _ _ ⟨a, b⟩ => ⟨a, b.symm⟩)) | (go_at_call 20; exact same_q _ _ HC8.out.2.1 hc3 HC8.out.1)))
          go_wp2
          go_ret
          exact ⟨rfl, HC8.out.2.2.2.trans ((pw_below_drewN (Below.refl _ _) _).mono HC8.out.2.2.2.size)⟩
end Go.Proofs.YtibkbimhedoafaaDoor.head23
namespace Go.Proofs.YtibkbimhedoafaaDoor.PH
open Go.RowKit Go.Proofs.YtibkbimhedoafaaDoorW.PrintWords
def quittancelaw23_head.f : Option Bool := some true
theorem quittancelaw23_head.calls (r : Bool) (w : World) (HTab : Aside0 (Tab w)) (h : quittancelaw23_head.f = some r) :
    Calls Tryd.prog 11 #[] w fun e w' => e = .returned (.bool r) ∧ Below w.heap.size w w' := by
  simp only [quittancelaw23_head.f, Option.some.injEq] at h
  obtain rfl := h
  exact head23.head_any w HTab.out
end Go.Proofs.YtibkbimhedoafaaDoor.PH
