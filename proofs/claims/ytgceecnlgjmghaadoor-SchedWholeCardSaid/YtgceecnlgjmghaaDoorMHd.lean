/- Chapter 28: the numbers of the calls whose answers the document fixes. No conditions. The calls whose answers the document fixes (head) of chapter 28, walked, in the printed form. The table of the days ahead of months holds its numbers. -/
import Derived.Test.YtgceecnlgjmghaaDoorMSc2
import Derived.Test.YtgceecnlgjmghaaDoorPHx9
import Derived.Deep.RegionHeld3
import Derived.Deep.DeepCutAuto
import Derived.Deep.DrawnRows
import Derived.Deep.QuietTactic
import Derived.BigQuiet
namespace Go.Proofs.YtgceecnlgjmghaaDoor.h28
open Go.RowKit Go.Proofs.YtgceecnlgjmghaaDoorW.PrintWords Go.Proofs.YtgceecnlgjmghaaDoor.sch
def la : List Sl := [⟨24277, 176, false⟩, ⟨24278, 319, false⟩, ⟨24279, 340, false⟩, ⟨24280, 165, false⟩]
def lb : List Sl := [⟨24277, 176, true⟩, ⟨24278, 319, true⟩, ⟨24279, 340, false⟩, ⟨24280, 165, false⟩]
def lc : List Sl := [⟨24277, 176, true⟩, ⟨24278, 319, true⟩, ⟨24279, 305, false⟩, ⟨24280, 0, false⟩]
def lm : List Sl := [⟨0, 33, false⟩, ⟨0, 67, false⟩]
def lr : List Sl := [⟨0, 33, false⟩, ⟨24277, 67, false⟩]
def lt : List Sl := [⟨0, 33, false⟩, ⟨24277, 67, true⟩]
theorem o1 : Cv.ofD 738901 = 24277 := Cv.ofD_eq (by decide) (by decide) (by decide) (by decide)
theorem o2 : Cv.ofD 738991 = 24280 := Cv.ofD_eq (by decide) (by decide) (by decide) (by decide)
theorem months : PH.prorate_Months.f 738901 738992 = some ([⟨24277, 16⟩, ⟨24278, 29⟩, ⟨24279, 31⟩, ⟨24280, 15⟩], 0) := by
 have hc : Tm.cnt 738901 738992 = 4 := by
  unfold Tm.cnt
  rw [show (738992 : Int) - 1 = 738991 from rfl, o1, o2]
  rfl
 have c0 : Tm.cur 738901 738992 0 = 738901 := by simp [Tm.cur]
 have c1 : Tm.cur 738901 738992 1 = 738917 := by unfold Tm.cur; rw [o1]; decide
 have c2 : Tm.cur 738901 738992 2 = 738946 := by unfold Tm.cur; rw [o1]; decide
 have c3 : Tm.cur 738901 738992 3 = 738977 := by unfold Tm.cur; rw [o1]; decide
 have c4 : Tm.cur 738901 738992 4 = 738992 := by unfold Tm.cur; rw [o1]; decide
 have hb : pmon.badT 738901 738992 = false := by decide
 unfold PH.prorate_Months.f
 rw [hb, hc]
 have ht : Tm.terms 738901 738992 4 = [(24277, 16), (24278, 29), (24279, 31), (24280, 15)] := by
  unfold Tm.terms
  simp only [show List.range 4 = [0, 1, 2, 3] from rfl, List.map_cons, List.map_nil, Tm.ent, c0, c1, c2, c3, c4, o1]
  decide
 rw [ht]
 rfl
theorem spl1 : Sp.IsSplit 1000 [16, 29, 31, 15] [176, 319, 340, 165] := by
 refine ⟨rfl, rfl, by decide, ?_⟩
 have h : ∀ i, i < 4 → ∀ k, k < 4 → ([176, 319, 340, 165] : List Int).getD i 0 = Sp.q 1000 [16, 29, 31, 15] i + 1 → ([176, 319, 340, 165] : List Int).getD k 0 = Sp.q 1000 [16, 29, 31, 15] k → Sp.r 1000 [16, 29, 31, 15] k < Sp.r 1000 [16, 29, 31, 15] i ∨ (Sp.r 1000 [16, 29, 31, 15] k = Sp.r 1000 [16, 29, 31, 15] i ∧ i < k) := by decide
 exact fun i k hi hk => h i hi k hk
theorem spl2 : Sp.IsSplit 100 [1, 2] [33, 67] := by
 refine ⟨rfl, rfl, by decide, ?_⟩
 have h : ∀ i, i < 2 → ∀ k, k < 2 → ([33, 67] : List Int).getD i 0 = Sp.q 100 [1, 2] i + 1 → ([33, 67] : List Int).getD k 0 = Sp.q 100 [1, 2] k → Sp.r 100 [1, 2] k < Sp.r 100 [1, 2] i ∨ (Sp.r 100 [1, 2] k = Sp.r 100 [1, 2] i ∧ i < k) := by decide
 exact fun i k hi hk => h i hi k hk
theorem straight : PH.sched_Straight.f 1000 738901 738992 = some (la, 0) := by
 unfold PH.sched_Straight.f
 rw [months]
 have hb : pmon.badT 738901 738992 = false := by decide
 have hs : PH.split_Split.f 1000 [16, 29, 31, 15] = some ([176, 319, 340, 165], 0) := by
  unfold PH.split_Split.f
  rw [if_pos (by decide), if_pos (by decide), Sp.outOf_is spl1]
 simp only [Option.bind_some, hb, Bool.false_eq_true, if_false]
 rw [show dys [⟨24277, 16⟩, ⟨24278, 29⟩, ⟨24279, 31⟩, ⟨24280, 15⟩] = [16, 29, 31, 15] from rfl, hs]
 rfl
theorem milestones : PH.sched_Milestones.f 100 [1, 2] = some (lm, 0) := by
 unfold PH.sched_Milestones.f
 have hs : PH.split_Split.f 100 [1, 2] = some ([33, 67], 0) := by
  unfold PH.split_Split.f
  rw [if_pos (by decide), if_pos (by decide), Sp.outOf_is spl2]
 rw [hs]
 rfl
theorem take1 : PH.sched_Take.f 1 1 1 1 la 24278 = some (1, 1, 1, 1, lb, 495, 0) := by rfl
theorem cut1 : PH.sched_Cut.f 1 1 1 1 lb 200 = some (1, 1, 2, 1, lc, 0) := by kernel_rfl
theorem reach1 : PH.sched_Reach.f 1 0 1 2 lm 1 24277 = some (1, 0, 1, 2, lr, 0) := by rfl
theorem take2 : PH.sched_Take.f 1 0 1 2 lr 24277 = some (1, 0, 1, 2, lt, 67, 0) := by rfl
theorem left1 : PH.sched_Left.f 1 1 1 1 lb = some 505 := by rfl
theorem same1 : PH.quittanceref28_SameSlices.f 5 la la = some true := by decide +kernel
theorem same2 : PH.quittanceref28_SameSlices.f 5 lm lm = some true := by decide +kernel
end Go.Proofs.YtgceecnlgjmghaaDoor.h28

namespace Go.Proofs.YtgceecnlgjmghaaDoor.h28
open Go.RowKit Go.Proofs.YtgceecnlgjmghaaDoor.base Go.Proofs.YtgceecnlgjmghaaDoorW.PrintWords Go.Proofs.YtgceecnlgjmghaaDoor.sch
open Go.Proofs.YtgceecnlgjmghaaDoor.civ (Tab)
theorem day_any (y m d : Int) (w : World) : Calls Tryd.prog 31 #[.int .i64 y, .int .i64 m, .int .i64 d] w fun e w' => e = .returned (.int .i64 (Cv.dayV y m d)) ∧ w = w' := by
 go_enter Tryd.func31, Tryd.ntmps31
 go_wp2_with fail
 refine (ref08.day_any y m d _).mono ?_
 rintro e w' ⟨rfl, rfl⟩
 go_wp2
 go_ret
 exact ⟨rfl, rfl⟩
theorem day_is {y m d : Int} (D : Int) (w : World) (h : Cv.dayV y m d = D) : Calls Tryd.prog 31 #[.int .i64 y, .int .i64 m, .int .i64 d] w fun e w' => e = .returned (.int .i64 D) ∧ w = w' := by
 subst h; exact day_any y m d w
theorem month_is1 (w : World) : Calls Tryd.prog 30 #[.int .i64 2024, .int .i64 1] w fun e w' => e = .returned (.tuple #[.int .i64 24277, .int .i64 0]) ∧ w = w' := by
 have h := ref08.month_any 2024 1 w
 rwa [show Cv.monV 2024 1 = 24277 from by decide, show Cv.monE 2024 1 = 0 from by decide] at h
theorem straight_is (w : World) (T : Tab w) : Calls Tryd.prog 21 #[.int .i64 1000, .int .i64 738901, .int .i64 738992] w fun e w' => ∃ A c, e = .returned (.tuple #[.slice A 4 c, .int .i64 0]) ∧ 4 ≤ c ∧ Kd.C PH.k61 w' A 4 la ∧ Below w.heap.size w w' :=
 (PH.sched_Straight.calls _ _ _ _ _ w ⟨T⟩ straight).mono fun e w' ⟨v, he, hR, hB⟩ => by
  obtain ⟨A, c, rfl, hc, hC⟩ := Kd.R_reads hR
  exact ⟨A, c, he, hc, hC, hB⟩
abbrev Csl (W : World) (A : Option Addr) (l : List Sl) : Prop := Kd.C PH.k61 W A l.length l
theorem below_all {w X V : World} {m : Nat} (h : Below m w X) (hm : m ≤ X.heap.size) (hB : Below X.heap.size X V) : Below m w V := h.trans (hB.mono hm)
/-- A schedule's variable. -/
structure Var (wx : World) (g : Nat) (a0 a1 a2 a3 : Int) (l : List Sl) (A : Option Addr) (c : Nat) : Prop where
 le : l.length ≤ c
 s5 : S5 wx g (.int .u64 a0) (.int .u64 a1) (.int .i64 a2) (.int .u8 a3) (.slice A l.length c)
 row : Csl wx A l
theorem Var.all {w V : World} {g : Nat} {a0 a1 a2 a3 : Int} {l : List Sl} {A : Option Addr} {c : Nat} (h : Var w g a0 a1 a2 a3 l A c) (hB : Below w.heap.size w V) : Var V g a0 a1 a2 a3 l A c :=
 ⟨h.le, (hB.block g (blk_lt h.s5)).trans h.s5, Kd.C_below h.row hB⟩
abbrev sb (a0 a1 a2 a3 : Int) (v : Value) : Obj := .cells #[.int .u64 a0, .int .u64 a1, .int .i64 a2, .int .u8 a3, v] 25
theorem Var.new {w : World} {a0 a1 a2 a3 : Int} {l : List Sl} {A : Option Addr} {c : Nat} (hc : l.length ≤ c) (hC : Csl w A l) : Var (w.alloc (sb a0 a1 a2 a3 (.slice A l.length c))) w.heap.size a0 a1 a2 a3 l A c :=
 ⟨hc, World.alloc_heap_new w _, Kd.C_below hC ((Below.refl _ _).alloc (Nat.le_refl _) _)⟩
theorem Var.cells {w : World} {g : Nat} {a0 a1 a2 a3 : Int} {l : List Sl} {A : Option Addr} {c : Nat} (h : Var w g a0 a1 a2 a3 l A c) : w.cell? ⟨g, 0, none⟩ = some (.int .u64 a0) ∧ w.cell? ⟨g, 1, none⟩ = some (.int .u64 a1) ∧ w.cell? ⟨g, 2, none⟩ = some (.int .i64 a2) ∧ w.cell? ⟨g, 3, none⟩ = some (.int .u8 a3) ∧ w.cell? ⟨g, 4, none⟩ = some (.slice A l.length c) := S5.cells h.s5
theorem below_al {w W : World} (h : Below w.heap.size w W) (o : Obj) : Below w.heap.size w (W.alloc o) := h.alloc h.size o
/- the walk -/
theorem take1_is (w : World) {A : Option Addr} {c : Nat} (hC : Csl w A la) (hc : la.length ≤ c) : Calls Tryd.prog 12 #[.agg #[.int .u64 1, .int .u64 1, .int .i64 1, .int .u8 1, .slice A 4 c], .int .i64 24278] w fun e w' => ∃ A' c', e = .returned (.tuple #[.agg #[.int .u64 1, .int .u64 1, .int .i64 1, .int .u8 1, .slice A' 4 c'], .int .i64 495, .int .i64 0]) ∧ 4 ≤ c' ∧ Csl w' A' lb ∧ Below w.heap.size w w' :=
 (PH.sched_Take.calls 1 1 1 1 A c la 24278 _ _ _ _ _ _ _ w hC hc take1).mono fun e w' ⟨v, he, hR, hB⟩ => by
  obtain ⟨A', c', rfl, hc', hC'⟩ := Kd.R_reads hR
  exact ⟨A', c', he, hc', hC', hB⟩
theorem cut1_is (w : World) {A : Option Addr} {c : Nat} (hC : Csl w A lb) (hc : lb.length ≤ c) : Calls Tryd.prog 14 #[.agg #[.int .u64 1, .int .u64 1, .int .i64 1, .int .u8 1, .slice A 4 c], .int .i64 200] w fun e w' => ∃ A' c', e = .returned (.tuple #[.agg #[.int .u64 1, .int .u64 1, .int .i64 2, .int .u8 1, .slice A' 4 c'], .int .i64 0]) ∧ 4 ≤ c' ∧ Csl w' A' lc ∧ Below w.heap.size w w' :=
 (PH.sched_Cut.calls 1 1 1 1 A c lb 200 _ _ _ _ _ _ w hC hc cut1).mono fun e w' ⟨v, he, hR, hB⟩ => by
  obtain ⟨A', c', rfl, hc', hC'⟩ := Kd.R_reads hR
  exact ⟨A', c', he, hc', hC', hB⟩
theorem reach1_is (w : World) {A : Option Addr} {c : Nat} (hC : Csl w A lm) (hc : lm.length ≤ c) : Calls Tryd.prog 10 #[.agg #[.int .u64 1, .int .u64 0, .int .i64 1, .int .u8 2, .slice A 2 c], .int .i64 1, .int .i64 24277] w fun e w' => ∃ A' c', e = .returned (.tuple #[.agg #[.int .u64 1, .int .u64 0, .int .i64 1, .int .u8 2, .slice A' 2 c'], .int .i64 0]) ∧ 2 ≤ c' ∧ Csl w' A' lr ∧ Below w.heap.size w w' :=
 (PH.sched_Reach.calls 1 0 1 2 A c lm 1 24277 _ _ _ _ _ _ w hC hc reach1).mono fun e w' ⟨v, he, hR, hB⟩ => by
  obtain ⟨A', c', rfl, hc', hC'⟩ := Kd.R_reads hR
  exact ⟨A', c', he, hc', hC', hB⟩
theorem take2_is (w : World) {A : Option Addr} {c : Nat} (hC : Csl w A lr) (hc : lr.length ≤ c) : Calls Tryd.prog 12 #[.agg #[.int .u64 1, .int .u64 0, .int .i64 1, .int .u8 2, .slice A 2 c], .int .i64 24277] w fun e w' => ∃ A' c', e = .returned (.tuple #[.agg #[.int .u64 1, .int .u64 0, .int .i64 1, .int .u8 2, .slice A' 2 c'], .int .i64 67, .int .i64 0]) ∧ 2 ≤ c' ∧ Csl w' A' lt ∧ Below w.heap.size w w' :=
 (PH.sched_Take.calls 1 0 1 2 A c lr 24277 _ _ _ _ _ _ _ w hC hc take2).mono fun e w' ⟨v, he, hR, hB⟩ => by
  obtain ⟨A', c', rfl, hc', hC'⟩ := Kd.R_reads hR
  exact ⟨A', c', he, hc', hC', hB⟩
theorem left1_is (w : World) {A : Option Addr} {c : Nat} (hC : Csl w A lb) (hc : lb.length ≤ c) : Calls Tryd.prog 17 #[.agg #[.int .u64 1, .int .u64 1, .int .i64 1, .int .u8 1, .slice A 4 c]] w fun e w' => e = .returned (.int .i64 505) ∧ Below w.heap.size w w' :=
 PH.sched_Left.calls 1 1 1 1 A c lb 505 w hC hc left1
theorem mil1_is (w : World) {A : Option Addr} {c : Nat} (hC : Kd.C (Kd.int .i64) w A 2 [1, 2]) (hc : 2 ≤ c) : Calls Tryd.prog 23 #[.int .i64 100, .slice A 2 c] w fun e w' => ∃ A' c', e = .returned (.tuple #[.slice A' 2 c', .int .i64 0]) ∧ 2 ≤ c' ∧ Csl w' A' lm ∧ Below w.heap.size w w' :=
 (PH.sched_Milestones.calls 100 A c [1, 2] _ _ w hC hc milestones).mono fun e w' ⟨v, he, hR, hB⟩ => by
  obtain ⟨A', c', rfl, hc', hC'⟩ := Kd.R_reads hR
  exact ⟨A', c', he, hc', hC', hB⟩
theorem row_int (w : World) : Kd.C (Kd.int .i64) (w.alloc (.cells #[.int .i64 1, .int .i64 2] 2)) (some ⟨w.heap.size, 0, none⟩) 2 [1, 2] := by
 have h := World.ownsRow_lit (base := w.heap.size) (e := 2) (size := 1) w #[.int .i64 1, .int .i64 2] 2 (Nat.le_refl _) (by unfold maxLen; omega) (by simp)
 exact (Kd.R_reads' (show spl.Ri _ w.heap.size (.slice (some ⟨w.heap.size, 0, none⟩) 2 2) [1, 2] from .of (by simpa [encs] using h))).2.2
theorem lit_la (w : World) : Csl (w.alloc (.cells #[.int .i64 24277, .int .i64 176, .bool false, .int .i64 24278, .int .i64 319, .bool false, .int .i64 24279, .int .i64 340, .bool false, .int .i64 24280, .int .i64 165, .bool false] 61)) (some ⟨w.heap.size, 0, none⟩) la := by
 have h : (w.alloc (.cells #[.int .i64 24277, .int .i64 176, .bool false, .int .i64 24278, .int .i64 319, .bool false, .int .i64 24279, .int .i64 340, .bool false, .int .i64 24280, .int .i64 165, .bool false] 61)).heap[w.heap.size]? = some (.cells #[.int .i64 24277, .int .i64 176, .bool false, .int .i64 24278, .int .i64 319, .bool false, .int .i64 24279, .int .i64 340, .bool false, .int .i64 24280, .int .i64 165, .bool false] 61 (0, 0)) := World.alloc_heap_new w _
 generalize w.alloc _ = V at h
 refine ⟨rfl, by decide, fun _ => ⟨_, rfl, fun j p hj => ?_⟩⟩
 refine ⟨[.int .i64 p.f0, .int .i64 p.f1, .bool p.f2], rfl, PH.k61_mk _ _, fun i u hu => ?_⟩
 have hj3 : j < 4 := (List.getElem?_eq_some_iff.1 hj).1
 have hi4 : i < 3 := (List.getElem?_eq_some_iff.1 hu).1
 rw [add_plain, show PH.k61.sz = 3 from rfl, blk_cell h]
 obtain rfl | rfl | rfl | rfl : j = 0 ∨ j = 1 ∨ j = 2 ∨ j = 3 := by omega
 all_goals
  simp only [la, List.getElem?_cons_succ, List.getElem?_cons_zero, Option.some.injEq] at hj
  subst hj
  obtain rfl | rfl | rfl : i = 0 ∨ i = 1 ∨ i = 2 := by omega
  all_goals exact hu
theorem lit_lm (w : World) : Csl (w.alloc (.cells #[.int .i64 0, .int .i64 33, .bool false, .int .i64 0, .int .i64 67, .bool false] 61)) (some ⟨w.heap.size, 0, none⟩) lm := by
 have h : (w.alloc (.cells #[.int .i64 0, .int .i64 33, .bool false, .int .i64 0, .int .i64 67, .bool false] 61)).heap[w.heap.size]? = some (.cells #[.int .i64 0, .int .i64 33, .bool false, .int .i64 0, .int .i64 67, .bool false] 61 (0, 0)) := World.alloc_heap_new w _
 generalize w.alloc _ = V at h
 refine ⟨rfl, by decide, fun _ => ⟨_, rfl, fun j p hj => ?_⟩⟩
 refine ⟨[.int .i64 p.f0, .int .i64 p.f1, .bool p.f2], rfl, PH.k61_mk _ _, fun i u hu => ?_⟩
 have hj3 : j < 2 := (List.getElem?_eq_some_iff.1 hj).1
 have hi4 : i < 3 := (List.getElem?_eq_some_iff.1 hu).1
 rw [add_plain, show PH.k61.sz = 3 from rfl, blk_cell h]
 obtain rfl | rfl : j = 0 ∨ j = 1 := by omega
 all_goals
  simp only [lm, List.getElem?_cons_succ, List.getElem?_cons_zero, Option.some.injEq] at hj
  subst hj
  obtain rfl | rfl | rfl : i = 0 ∨ i = 1 ∨ i = 2 := by omega
  all_goals exact hu
theorem same1_is (w : World) {A B : Option Addr} {c : Nat} (hC : Csl w A la) (hc : 4 ≤ c) (hD : Csl w B la) : Calls Tryd.prog 25 #[.slice A 4 c, .slice B 4 4] w fun e w' => e = .returned (.bool true) ∧ Below w.heap.size w w' :=
 (PH.quittanceref28_SameSlices.calls 5 A c la B 4 la true w hC hc hD (by decide) same1).mono fun _ _ ⟨a, b⟩ => ⟨a, b.below⟩
theorem same2_is (w : World) {A B : Option Addr} {c : Nat} (hC : Csl w A lm) (hc : 2 ≤ c) (hD : Csl w B lm) : Calls Tryd.prog 25 #[.slice A 2 c, .slice B 2 2] w fun e w' => e = .returned (.bool true) ∧ Below w.heap.size w w' :=
 (PH.quittanceref28_SameSlices.calls 5 A c lm B 2 lm true w hC hc hD (by decide) same2).mono fun _ _ ⟨a, b⟩ => ⟨a, b.below⟩
theorem row61 {w : World} {A : Option Addr} {l : List Sl} (h : Csl w A l) (hl : 0 < l.length) : ∃ b off, A = some ⟨b, off, none⟩ ∧ ∀ i, i < l.length → w.cell? ⟨b, off + i * 3 + 1, none⟩ = some (.int .i64 (l.getD i zs).f1) := by
 obtain ⟨ad, e, h0, h1, _⟩ := PH.at_T61 h (0 : Int) (by omega) (by omega)
 rw [show ad.add ((0 : Int).toNat * 3) = ad from by simp [Addr.add]] at h0
 obtain ⟨b, off, sp⟩ := ad
 have hsp : sp = none := by
  unfold World.cell? at h0
  cases sp with
  | none => rfl
  | some q => simp only at h0; split at h0 <;> simp at h0
 subst hsp
 refine ⟨b, off, e, fun i hi => ?_⟩
 obtain ⟨ad, e2, g0, g1, _⟩ := PH.at_T61 h (i : Int) (by omega) (by omega)
 rw [e] at e2
 obtain rfl := Option.some.inj e2
 have er : PH.rd_T61 l (i : Int) = l.getD i zs := rfl
 rw [er, show ((i : Int)).toNat = i from rfl] at g1
 by_cases hz : i * 3 = 0
 ·simpa [Addr.add, hz] using g1
 ·simpa [Addr.add, hz] using g1
set_option maxRecDepth 100000 in
set_option maxHeartbeats 2000000 in
theorem head_any (w : World) (T : Tab w) : Calls Tryd.prog 9 #[] w fun e w' => e = .returned (.bool true) ∧ Below w.heap.size w w' := by
 have HT := Lib.hid T
 clear T
 go_enter Tryd.func9, Tryd.ntmps9
 go_wp2_with fail
 refine (month_is1 _).mono ?_
 rintro e w' ⟨rfl, rfl⟩
 go_upto_region 3 with (first | (go_at_call 31; (first | (refine (day_is 738901 _ (by decide)).mono ?_) | (refine (day_is 738992 _ (by decide)).mono ?_)); rintro e w' ⟨rfl, rfl⟩) | (go_at_call 21; refine (straight_is _ HT.out).mono ?_; rintro e w1 ⟨A, c, rfl, hc, hC, hB⟩))
 have HCA := Lib.hid hc
 go_upto_region 4 with fail
 have q1 : Var (w1.alloc (.cells #[.int .u64 1, .int .u64 1, .int .i64 1, .int .u8 1, .slice A 4 c] 25)) w1.heap.size 1 1 1 1 la A c := Var.new hc hC
 have q2 := below_al hB (.cells #[.int .u64 1, .int .u64 1, .int .i64 1, .int .u8 1, .slice A 4 c] 25)
 have qb := (Below.refl w1.heap.size w1).alloc (Nat.le_refl _) (.cells #[.int .u64 1, .int .u64 1, .int .i64 1, .int .u8 1, .slice A 4 c] 25)
 have p0 := Kd.C_below hC qb
 generalize w1.alloc (.cells #[.int .u64 1, .int .u64 1, .int .i64 1, .int .u8 1, .slice A 4 c] 25) = w4 at q1 q2 qb p0 ⊢
 generalize w1.heap.size = g5 at q1 ⊢
 clear hB hC hc
 clear qb
 obtain ⟨c0, c1, c2, c3, c4⟩ := q1.cells
 rw [show la.length = 4 from rfl] at c4
 have H4 := Lib.hid (And.intro q1 (And.intro q2 p0))
 clear q1 q2 p0
 go_wp2_with fail
 refine (take1_is _ H4.out.1.row H4.out.1.le).mono ?_
 rintro e w5 ⟨A5, k5, rfl, hc, hC, hB⟩
 have HA := Lib.hid (Kd.C_below H4.out.2.2 hB)
 have hB := below_all H4.out.2.1 H4.out.2.1.size hB
 clear H4 c0 c1 c2 c3 c4
 go_upto_region 5 with fail
 have q1 : Var (w5.alloc (.cells #[.int .u64 1, .int .u64 1, .int .i64 1, .int .u8 1, .slice A5 4 k5] 25)) w5.heap.size 1 1 1 1 lb A5 k5 := Var.new hc hC
 have q2 := below_al hB (.cells #[.int .u64 1, .int .u64 1, .int .i64 1, .int .u8 1, .slice A5 4 k5] 25)
 have qb := (Below.refl w5.heap.size w5).alloc (Nat.le_refl _) (.cells #[.int .u64 1, .int .u64 1, .int .i64 1, .int .u8 1, .slice A5 4 k5] 25)
 have p0 := Kd.C_below HA.out qb
 generalize w5.alloc (.cells #[.int .u64 1, .int .u64 1, .int .i64 1, .int .u8 1, .slice A5 4 k5] 25) = w6 at q1 q2 qb p0 ⊢
 generalize w5.heap.size = g6 at q1 ⊢
 clear hB hC hc
 clear qb
 obtain ⟨c0, c1, c2, c3, c4⟩ := q1.cells
 rw [show lb.length = 4 from rfl] at c4
 have H6 := Lib.hid (And.intro q1 (And.intro q2 p0))
 clear q1 q2 p0 HA
 go_wp2_with fail
 refine (cut1_is _ H6.out.1.row H6.out.1.le).mono ?_
 rintro e w7 ⟨A7, k7, rfl, hc, hC, hB⟩
 have HA := Lib.hid (And.intro (Kd.C_below H6.out.2.2 hB) (H6.out.1.all hB))
 have hB := below_all H6.out.2.1 H6.out.2.1.size hB
 clear H6 c0 c1 c2 c3 c4
 go_upto_region 6 with fail
 have q1 : Var (w7.alloc (.cells #[.int .u64 1, .int .u64 1, .int .i64 2, .int .u8 1, .slice A7 4 k7] 25)) w7.heap.size 1 1 2 1 lc A7 k7 := Var.new hc hC
 have q2 := below_al hB (.cells #[.int .u64 1, .int .u64 1, .int .i64 2, .int .u8 1, .slice A7 4 k7] 25)
 have qb := (Below.refl w7.heap.size w7).alloc (Nat.le_refl _) (.cells #[.int .u64 1, .int .u64 1, .int .i64 2, .int .u8 1, .slice A7 4 k7] 25)
 have p0 := Kd.C_below HA.out.1 qb
 have p1 := Var.all HA.out.2 qb
 generalize w7.alloc (.cells #[.int .u64 1, .int .u64 1, .int .i64 2, .int .u8 1, .slice A7 4 k7] 25) = w8 at q1 q2 qb p0 p1 ⊢
 generalize w7.heap.size = g9 at q1 ⊢
 clear hB hC hc
 clear qb
 have H8 := Lib.hid (And.intro q1 (And.intro q2 (And.intro p0 p1)))
 clear q1 q2 p0 p1 HA
 go_wp2_with fail
 refine (mil1_is _ (row_int w8) (by omega)).mono ?_
 rintro e w9 ⟨A9, k9, rfl, hc, hC, hB9⟩
 have B8 := (Below.refl w8.heap.size w8).alloc (Nat.le_refl _) (.cells #[.int .i64 1, .int .i64 2] 2)
 have B9 : Below w8.heap.size w8 w9 := below_all B8 B8.size hB9
 have H9 := Lib.hid (And.intro (H8.out.1.all B9) (And.intro (below_all H8.out.2.1 H8.out.2.1.size B9) (And.intro (Kd.C_below H8.out.2.2.1 B9) (And.intro (H8.out.2.2.2.all B9) (And.intro hC hc)))))
 clear B8 B9 hB9 hC hc H8
 go_wp2_with fail
 refine (reach1_is _ H9.out.2.2.2.2.1 H9.out.2.2.2.2.2).mono ?_
 rintro e w10 ⟨A10, k10, rfl, hc, hC, hB⟩
 have HA := Lib.hid (And.intro (H9.out.1.all hB) (And.intro (Kd.C_below H9.out.2.2.1 hB) (And.intro (H9.out.2.2.2.1.all hB) (And.intro (Kd.C_below H9.out.2.2.2.2.1 hB) H9.out.2.2.2.2.2))))
 have hB := below_all H9.out.2.1 H9.out.2.1.size hB
 clear H9
 go_upto_region 8 with fail
 have q1 : Var (w10.alloc (.cells #[.int .u64 1, .int .u64 0, .int .i64 1, .int .u8 2, .slice A10 2 k10] 25)) w10.heap.size 1 0 1 2 lr A10 k10 := Var.new hc hC
 have q2 := below_al hB (.cells #[.int .u64 1, .int .u64 0, .int .i64 1, .int .u8 2, .slice A10 2 k10] 25)
 have qb := (Below.refl w10.heap.size w10).alloc (Nat.le_refl _) (.cells #[.int .u64 1, .int .u64 0, .int .i64 1, .int .u8 2, .slice A10 2 k10] 25)
 have p0 := Var.all HA.out.1 qb
 have p1 := Kd.C_below HA.out.2.1 qb
 have p2 := Var.all HA.out.2.2.1 qb
 have p3 := Kd.C_below HA.out.2.2.2.1 qb
 generalize w10.alloc (.cells #[.int .u64 1, .int .u64 0, .int .i64 1, .int .u8 2, .slice A10 2 k10] 25) = w11 at q1 q2 qb p0 p1 p2 p3 ⊢
 generalize w10.heap.size = g13 at q1 ⊢
 clear hB hC hc
 clear qb
 obtain ⟨c0, c1, c2, c3, c4⟩ := q1.cells
 rw [show lr.length = 2 from rfl] at c4
 have H11 := Lib.hid (And.intro q1 (And.intro q2 (And.intro p0 (And.intro p1 (And.intro p2 (And.intro p3 HA.out.2.2.2.2))))))
 clear q1 q2 p0 p1 p2 p3 HA
 go_wp2_with fail
 refine (take2_is _ H11.out.1.row H11.out.1.le).mono ?_
 rintro e w12 ⟨A12, k12, rfl, hc, hC, hB⟩
 have H12 := Lib.hid (And.intro (H11.out.2.2.1.all hB) (And.intro (below_all H11.out.2.1 H11.out.2.1.size hB) (And.intro (Kd.C_below H11.out.2.2.2.1 hB) (And.intro (H11.out.2.2.2.2.1.all hB) (And.intro (Kd.C_below H11.out.2.2.2.2.2.1 hB) H11.out.2.2.2.2.2.2)))))
 clear H11 c0 c1 c2 c3 c4 hc hC hB
 go_upto_region 10 with fail
 have C14 := Kd.C_below (lit_la (w12.alloc (.cells #[.int .u64 1, .int .u64 0, .int .i64 1, .int .u8 2, .slice A12 2 k12] 25))) (Below.refl _ _)
 rw [World.size_alloc] at C14
 have B14 := below_al (below_al (Below.refl w12.heap.size w12) (.cells #[.int .u64 1, .int .u64 0, .int .i64 1, .int .u8 2, .slice A12 2 k12] 25)) (.cells #[.int .i64 24277, .int .i64 176, .bool false, .int .i64 24278, .int .i64 319, .bool false, .int .i64 24279, .int .i64 340, .bool false, .int .i64 24280, .int .i64 165, .bool false] 61)
 have H14 := Lib.hid (And.intro (H12.out.1.all B14) (And.intro (below_all H12.out.2.1 H12.out.2.1.size B14) (And.intro (Kd.C_below H12.out.2.2.1 B14) (And.intro (H12.out.2.2.2.1.all B14) (And.intro (Kd.C_below H12.out.2.2.2.2.1 B14) (And.intro H12.out.2.2.2.2.2 C14))))))
 clear H12 C14 B14
 generalize (w12.alloc (.cells #[.int .u64 1, .int .u64 0, .int .i64 1, .int .u8 2, .slice A12 2 k12] 25)).alloc (.cells #[.int .i64 24277, .int .i64 176, .bool false, .int .i64 24278, .int .i64 319, .bool false, .int .i64 24279, .int .i64 340, .bool false, .int .i64 24280, .int .i64 165, .bool false] 61) = w14 at H14 ⊢
 generalize w12.heap.size + 1 = q at H14 ⊢
 go_wp2_with fail
 refine (same1_is _ H14.out.2.2.1 HCA.out H14.out.2.2.2.2.2.2).mono ?_
 rintro e w15 ⟨rfl, hB⟩
 have H15 := Lib.hid (And.intro (H14.out.1.all hB) (And.intro (below_all H14.out.2.1 H14.out.2.1.size hB) (And.intro (H14.out.2.2.2.1.all hB) (And.intro (Kd.C_below H14.out.2.2.2.2.1 hB) H14.out.2.2.2.2.2.1))))
 obtain ⟨c0, c1, c2, c3, c4⟩ := H15.out.2.2.1.cells
 rw [show lb.length = 4 from rfl] at c4
 clear H14 hB HCA
 go_wp2_with fail
 refine (left1_is _ H15.out.2.2.1.row H15.out.2.2.1.le).mono ?_
 rintro e w16 ⟨rfl, hB⟩
 have H16 := Lib.hid (And.intro (H15.out.1.all hB) (And.intro (below_all H15.out.2.1 H15.out.2.1.size hB) (And.intro (Kd.C_below H15.out.2.2.2.1 hB) H15.out.2.2.2.2)))
 clear c0 c1 c2 c3 c4 hB H15
 obtain ⟨b, off, rfl, rr⟩ := row61 H16.out.1.row (by decide)
 obtain ⟨_, _, c2, _, c4⟩ := H16.out.1.cells
 rw [show lc.length = 4 from rfl] at c4
 have d2 := rr 2 (by decide)
 have d3 := rr 3 (by decide)
 rw [show (lc.getD 2 zs).f1 = 305 from rfl] at d2
 rw [show (lc.getD 3 zs).f1 = 0 from rfl] at d3
 simp only [show 2 * 3 = 6 from rfl, show 3 * 3 = 9 from rfl] at d2 d3
 clear rr
 go_wp2_with fail
 refine (same2_is _ (Kd.C_below H16.out.2.2.1 (below_al (Below.refl _ _) _)) H16.out.2.2.2 (lit_lm w16)).mono ?_
 rintro e w17 ⟨rfl, hB⟩
 have HB := Lib.hid (below_all (below_al H16.out.2.1 _) (below_al H16.out.2.1 _).size hB)
 clear hB
 go_wp2
 go_ret
 exact ⟨rfl, HB.out⟩
end Go.Proofs.YtgceecnlgjmghaaDoor.h28
namespace Go.Proofs.YtgceecnlgjmghaaDoor.PH
open Go.RowKit Go.Proofs.YtgceecnlgjmghaaDoorW.PrintWords
def quittancelaw28_head.f : Option Bool := some true
theorem quittancelaw28_head.calls (r : Bool) (w : World) (HTab : Aside0 (Tab w)) (h : quittancelaw28_head.f = some r) :
  Calls Tryd.prog 9 #[] w fun e w' => e = .returned (.bool r) ∧ Below w.heap.size w w' := by
 simp only [quittancelaw28_head.f, Option.some.injEq] at h
 obtain rfl := h
 exact h28.head_any w HTab.out
end Go.Proofs.YtgceecnlgjmghaaDoor.PH

