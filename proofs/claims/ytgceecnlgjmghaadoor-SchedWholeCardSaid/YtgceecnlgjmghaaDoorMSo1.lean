/- The row that is sorted: what its cells hold, and what a store turns. No conditions. slices.swapRangeCmpFunc at split.share, walked. No conditions. slices.rotateCmpFunc at split.share, walked. No conditions. The order of split.Split's shares: the closure that compares, walked. No conditions but that places are small. -/
import Derived.Test.YtgceecnlgjmghaaDoorMSo0
import Derived.Test.YtgceecnlgjmghaaDoorBase
import Derived.Test.YtgceecnlgjmghaaDoorWWords
import Derived.WalkKit
import Derived.RegionTactic
import Derived.BigRegion
import Derived.Deep.QuietTactic
namespace St
/-- A slice, its rest, its place. -/
structure Sh where
 q : Int
 r : Int
 p : Int
instance : Inhabited Sh := ⟨⟨0, 0, 0⟩⟩
end St
namespace Go.Proofs.YtgceecnlgjmghaaDoor.srt
open Go.RowKit Go.Proofs.YtgceecnlgjmghaaDoor.base St
open Go.Sort (swp PermIn SortedIn SWO swp_get size_swp permIn_trans permIn_refl swp_permIn permIn_mono permIn_all)
open Go.Proofs.YtgceecnlgjmghaaDoorW.PrintWords
abbrev TSh : TypeId := 125
/-- The row holds these; all else is as it was. -/
structure SR (w0 : World) (b : Nat) (d : Array Sh) (W : World) : Prop where
 row : ∃ c : Array Value, W.heap[b]? = some (.cells c TSh (0, 0)) ∧ d.size * 3 ≤ c.size ∧ ∀ i, i < d.size → c[i * 3]? = some (.int .i64 d[i]!.q) ∧ c[i * 3 + 1]? = some (.int .i64 d[i]!.r) ∧ c[i * 3 + 2]? = some (.int .i64 d[i]!.p)
 os : W.os = w0.os
 tape : W.tape = w0.tape
 output : W.output = w0.output
 size : w0.heap.size ≤ W.heap.size
 block : ∀ k, k < w0.heap.size → k ≠ b → W.heap[k]? = w0.heap[k]?
 bd : ∀ i, i < d.size → 0 ≤ d[i]!.p ∧ d[i]!.p ≤ 5000
variable {w0 W V : World} {b : Nat} {d : Array Sh}
theorem SR.lt (h : SR w0 b d W) : b < W.heap.size := by
 obtain ⟨c, hc, _⟩ := h.row
 exact (Array.getElem?_eq_some_iff.1 hc).1
theorem SR.cell (h : SR w0 b d W) {i : Nat} (hi : i < d.size) : W.cell? ⟨b, i * 3, none⟩ = some (.int .i64 d[i]!.q) ∧ W.cell? ⟨b, i * 3 + 1, none⟩ = some (.int .i64 d[i]!.r) ∧ W.cell? ⟨b, i * 3 + 2, none⟩ = some (.int .i64 d[i]!.p) := by
 obtain ⟨c, hc, _, hx⟩ := h.row
 obtain ⟨h0, h1, h2⟩ := hx i hi
 exact ⟨(blk_cell hc _).trans h0, (blk_cell hc _).trans h1, (blk_cell hc _).trans h2⟩
theorem SR.frozen (h : SR w0 b d W) (i : Nat) : W.frozen? ⟨b, i, none⟩ = false := by
 obtain ⟨c, hc, _⟩ := h.row
 exact blk_frozen hc i
theorem SR.below (h : SR w0 b d W) (hB : Below W.heap.size W V) : SR w0 b d V := by
 obtain ⟨c, hc, hs, hx⟩ := h.row
 exact ⟨⟨c, (hB.block b h.lt).trans hc, hs, hx⟩, hB.os.trans h.os, hB.tape.trans h.tape, hB.output.trans h.output, Nat.le_trans h.size hB.size, fun k hk hne => (hB.block k (Nat.lt_of_lt_of_le hk h.size)).trans (h.block k hk hne), h.bd⟩
theorem SR.drew (h : SR w0 b d W) : SR w0 b d W.drew := h.below (Below.refl _ _).drew
theorem get_set (d : Array Sh) {x : Nat} (hx : x < d.size) (s : Sh) (k : Nat) : (d.setIfInBounds x s)[k]! = if k = x then s else d[k]! := by
 by_cases hk : k < d.size
 ·rw [getElem!_pos _ k (by simpa using hk), getElem!_pos d k hk, Array.getElem_setIfInBounds]
  by_cases e : k = x
  ·subst e; simp
  ·rw [if_neg (Ne.symm e), if_neg e]
 ·rw [getElem!_neg _ k (by simpa using hk), getElem!_neg d k hk, if_neg (by omega)]
def set3 (W : World) (b x : Nat) (s : Sh) : World := ((W.setCell ⟨b, x * 3, none⟩ (.int .i64 s.q)).setCell ⟨b, x * 3 + 1, none⟩ (.int .i64 s.r)).setCell ⟨b, x * 3 + 2, none⟩ (.int .i64 s.p)
theorem SR.set (h : SR w0 b d W) {x : Nat} (hx : x < d.size) (s : Sh) (hs : 0 ≤ s.p ∧ s.p ≤ 5000) : SR w0 b (d.setIfInBounds x s) (set3 W b x s) := by
 obtain ⟨c, hc, hz, hcell⟩ := h.row
 have hh : (set3 W b x s).heap[b]? = some (.cells (((c.setIfInBounds (x * 3) (.int .i64 s.q)).setIfInBounds (x * 3 + 1) (.int .i64 s.r)).setIfInBounds (x * 3 + 2) (.int .i64 s.p)) TSh (0, 0)) :=
  blk_set (blk_set (blk_set hc _ _) _ _) _ _
 refine ⟨⟨_, hh, by simpa using hz, fun i hi => ?_⟩, h.os, h.tape, h.output, ?_, fun k hk hne => ?_, fun i hi => ?_⟩
 ·simp only [Array.size_setIfInBounds] at hi
  rw [get_set d hx]
  simp only [Array.getElem?_setIfInBounds, Array.size_setIfInBounds]
  by_cases e : i = x
  ·subst e
   have e1 : (if i = i then s else d[i]!) = s := if_pos rfl
   rw [e1]
   refine ⟨?_, ?_, ?_⟩
   ·rw [if_neg (by omega), if_neg (by omega), if_pos rfl, if_pos (by omega)]
   ·rw [if_neg (by omega), if_pos rfl, if_pos (by omega)]
   ·rw [if_pos rfl, if_pos (by omega)]
  ·rw [if_neg e]
   obtain ⟨h0, h1, h2⟩ := hcell i hi
   refine ⟨?_, ?_, ?_⟩
   ·rw [if_neg (by omega), if_neg (by omega), if_neg (by omega)]; exact h0
   ·rw [if_neg (by omega), if_neg (by omega), if_neg (by omega)]; exact h1
   ·rw [if_neg (by omega), if_neg (by omega), if_neg (by omega)]; exact h2
 ·have := h.size
  simpa [set3] using this
 ·exact (Below.heap_setCell _ _ _ k hne).trans ((Below.heap_setCell _ _ _ k hne).trans ((Below.heap_setCell _ _ _ k hne).trans (h.block k hk hne)))
 ·simp only [Array.size_setIfInBounds] at hi
  rw [get_set d hx]
  by_cases e : i = x
  ·rw [if_pos e]; exact hs
  ·rw [if_neg e]; exact h.bd i hi
/-- Two change places. -/
theorem SR.swap (h : SR w0 b d W) {x y : Nat} (hx : x < d.size) (hy : y < d.size) : SR w0 b (swp d x y) (set3 (set3 W b x d[y]!) b y d[x]!) :=
 (h.set hx d[y]! (h.bd y hy)).set (by simpa using hy) d[x]! (h.bd x hx)
end Go.Proofs.YtgceecnlgjmghaaDoor.srt

namespace Go.Proofs.YtgceecnlgjmghaaDoor.srt
open Go.RowKit Go.Proofs.YtgceecnlgjmghaaDoor.base St
open Go.Sort (swp PermIn SortedIn SWO swp_get size_swp permIn_trans permIn_refl swp_permIn permIn_mono permIn_all)
open Go.Proofs.YtgceecnlgjmghaaDoorW.PrintWords
set_option linter.unusedSimpArgs false
attribute [local go_sem] Oper.semAt_some
set_option maxRecDepth 100000 in
set_option maxHeartbeats 4000000 in
theorem swapRange_is (w0 w : World) (k cap a b n z : Nat) (d : Array Sh) (f : Value) (S : SR w0 k d w) (hz : d.size = z) (hab : a + n ≤ b) (hb : b + n ≤ z) (hsz : z ≤ 5000) :
  Calls Tryd.prog 132 #[.slice (some ⟨k, 0, none⟩) z cap, .int .i64 a, .int .i64 b, .int .i64 n, f] w fun e w' => e = .returned (.tuple #[]) ∧
   ∃ d', SR w0 k d' w' ∧ Xch a b n d d' ∧ ∀ lo hi, lo ≤ a → b + n ≤ hi → hi ≤ d.size → PermIn lo hi d d' := by
 subst hz
 have S0 := Lib.hid S
 have HB := Lib.hid (And.intro hab (And.intro hb hsz))
 clear S hab hb hsz
 go_enter Tryd.func132, Tryd.ntmps132
 go_wp2
 go_loopg [10] n (fun kq v wr => ∃ (i : Nat) (dk : Array Sh), v = .int .i64 (i : Int) ∧ Aside0 (i ≤ n ∧ n ≤ kq + i) ∧ Aside0 (SR w0 k dk wr ∧ Xch a b i d dk ∧ ∀ lo hi, lo ≤ a → b + n ≤ hi → hi ≤ d.size → PermIn lo hi d dk))
 case atStart => exact ⟨0, d, rfl, ⟨by omega⟩, ⟨S0.out, Xch.refl a b d, fun lo hi _ _ _ => permIn_refl d lo hi⟩⟩
 case round =>
  clear S0
  obtain ⟨i, dk, rfl, HK, HS⟩ := hrel
  by_cases hi : i < n
  ·obtain ⟨k1, rfl⟩ : ∃ k1, gk = k1 + 1 := ⟨gk - 1, by have := HK.out; omega⟩
   have hsk : dk.size = d.size := HS.out.2.1.1
   have hb := HB.out
   obtain ⟨x, hx⟩ : ∃ x, a + i = x := ⟨_, rfl⟩
   obtain ⟨y, hy⟩ : ∃ y, b + i = y := ⟨_, rfl⟩
   have HX := Lib.hid (And.intro hx hy)
   have t1 : ((x : Int)).toNat = x := by omega
   have t2 : ((y : Int)).toNat = y := by omega
   have p1 : ((0 : Int) ≤ (x : Int)) = True := eq_true (by omega)
   have p2 : ((0 : Int) ≤ (y : Int)) = True := eq_true (by omega)
   have q1 : ((x : Int) < (d.size : Int)) = True := eq_true (by omega)
   have q2 : ((y : Int) < (d.size : Int)) = True := eq_true (by omega)
   have g1 : decide ((i : Int) < (n : Int)) = true := decide_eq_true (by omega)
   have hxd : x < dk.size := by omega
   have hyd : y < dk.size := by omega
   have n00 : ¬ x * 3 = y * 3 := by omega
   have m00 : ¬ y * 3 = x * 3 := by omega
   have n01 : ¬ x * 3 = y * 3 + 1 := by omega
   have m01 : ¬ y * 3 + 1 = x * 3 := by omega
   have n02 : ¬ x * 3 = y * 3 + 2 := by omega
   have m02 : ¬ y * 3 + 2 = x * 3 := by omega
   have n10 : ¬ x * 3 + 1 = y * 3 := by omega
   have m10 : ¬ y * 3 = x * 3 + 1 := by omega
   have n11 : ¬ x * 3 + 1 = y * 3 + 1 := by omega
   have m11 : ¬ y * 3 + 1 = x * 3 + 1 := by omega
   have n12 : ¬ x * 3 + 1 = y * 3 + 2 := by omega
   have m12 : ¬ y * 3 + 2 = x * 3 + 1 := by omega
   have n20 : ¬ x * 3 + 2 = y * 3 := by omega
   have m20 : ¬ y * 3 = x * 3 + 2 := by omega
   have n21 : ¬ x * 3 + 2 = y * 3 + 1 := by omega
   have m21 : ¬ y * 3 + 1 = x * 3 + 2 := by omega
   have n22 : ¬ x * 3 + 2 = y * 3 + 2 := by omega
   have m22 : ¬ y * 3 + 2 = x * 3 + 2 := by omega
   have HXD := Lib.hid (And.intro hxd hyd)
   have E3 := Lib.hid (show wrap64 ((i : Int) + 1) = ((i + 1 : Nat) : Int) by unfold wrap64; omega)
   have R1 := Lib.hid (show wrap64 ((a : Int) + (i : Int)) = (x : Int) by unfold wrap64; omega)
   have R2 := Lib.hid (show wrap64 ((b : Int) + (i : Int)) = (y : Int) by unfold wrap64; omega)
   obtain ⟨c0, c1, c2⟩ := HS.out.1.cell hxd
   obtain ⟨d0, d1, d2⟩ := HS.out.1.cell hyd
   have f0 := HS.out.1.frozen (x * 3)
   have f1 := HS.out.1.frozen (x * 3 + 1)
   have f2 := HS.out.1.frozen (x * 3 + 2)
   have f3 := HS.out.1.frozen (y * 3)
   have f4 := HS.out.1.frozen (y * 3 + 1)
   have f5 := HS.out.1.frozen (y * 3 + 2)
   obtain ⟨sx, hsx⟩ : ∃ s, dk[x]! = s := ⟨_, rfl⟩
   obtain ⟨sy, hsy⟩ : ∃ s, dk[y]! = s := ⟨_, rfl⟩
   rw [hsx] at c0 c1 c2
   rw [hsy] at d0 d1 d2
   have HSW := Lib.hid (And.intro hsx hsy)
   have HI := Lib.hid (And.intro hi hsk)
   have r1 := R1.out
   have r2 := R2.out
   clear hb hx hy hxd hyd hsk hsx hsy
   go_upto_region 3 with fail
   go_big_region
   all_goals go_wp2
   go_roundg k1
   case measure => omega
   case rel =>
    have hb := HB.out
    have hh := HX.out
    have hj := HI.out
    refine ⟨i + 1, swp dk x y, by rw [E3.out], ⟨by have := HK.out; omega⟩, ⟨?_, ?_, fun lo hi2 q1 q2 q3 => ?_⟩⟩
    ·have := (HS.out.1.swap HXD.out.1 HXD.out.2).drew
     rw [HSW.out.1, HSW.out.2] at this
     exact this
    ·rw [← hh.1, ← hh.2]
     exact HS.out.2.1.step hj.1 hb.1 hb.2.1
    ·exact permIn_trans d dk _ lo hi2 (HS.out.2.2 lo hi2 q1 q2 q3) (swp_permIn dk lo hi2 x y (by omega) (by omega) (by omega) (by omega) (by omega))
  ·have g1 : decide ((i : Int) < (n : Int)) = false := decide_eq_false (by omega)
   have hin : i = n := by have := HK.out; omega
   have HS2 := HS
   go_wp2
   go_end0
   exact ⟨rfl, dk, HS2.out.1, hin ▸ HS2.out.2.1, HS2.out.2.2⟩
end Go.Proofs.YtgceecnlgjmghaaDoor.srt

namespace Go.Proofs.YtgceecnlgjmghaaDoor.srt
open Go.RowKit Go.Proofs.YtgceecnlgjmghaaDoor.base St
open Go.Sort (swp PermIn SortedIn SWO swp_get size_swp permIn_trans permIn_refl swp_permIn permIn_mono permIn_all)
open Go.Proofs.YtgceecnlgjmghaaDoorW.PrintWords
set_option linter.unusedSimpArgs false
attribute [local go_sem] Oper.semAt_some
set_option maxRecDepth 100000 in
set_option maxHeartbeats 4000000 in
theorem rotate_is (w0 w : World) (k cap a m b z : Nat) (d : Array Sh) (f : Value) (S : SR w0 k d w) (hz : d.size = z) (ham : a < m) (hmb : m < b) (hb : b ≤ z) (hsz : z ≤ 5000) :
  Calls Tryd.prog 130 #[.slice (some ⟨k, 0, none⟩) z cap, .int .i64 a, .int .i64 m, .int .i64 b, f] w fun e w' => e = .returned (.tuple #[]) ∧
   ∃ d', SR w0 k d' w' ∧ Rot a m b d d' ∧ PermIn a b d d' := by
 have S0 := Lib.hid S
 have HB := Lib.hid (And.intro ham (And.intro hmb (And.intro hb (And.intro hsz hz))))
 have R1 := Lib.hid (show wrap64 ((m : Int) - (a : Int)) = ((m - a : Nat) : Int) by unfold wrap64; omega)
 have R2 := Lib.hid (show wrap64 ((b : Int) - (m : Int)) = ((b - m : Nat) : Int) by unfold wrap64; omega)
 clear S hz ham hmb hb hsz
 have r1 := R1.out
 have r2 := R2.out
 go_enter Tryd.func130, Tryd.ntmps130
 go_wp2
 clear r1 r2
 go_loopg [10, 11] (b - a) (fun kq v10 v11 wr => ∃ (i j : Nat) (dk : Array Sh), v10 = .int .i64 (i : Int) ∧ v11 = .int .i64 (j : Int) ∧ Aside0 (1 ≤ i ∧ 1 ≤ j ∧ i ≤ m - a ∧ j ≤ b - m ∧ i + j ≤ kq) ∧
  Aside0 (SR w0 k dk wr ∧ (∀ d', Rot (m - i) m (m + j) dk d' → Rot a m b d d') ∧ PermIn a b d dk))
 case atStart =>
  refine ⟨m - a, b - m, d, by rw [R1.out], by rw [R2.out], ⟨by have := HB.out; omega⟩, ⟨S0.out, fun d' h => ?_, permIn_refl d a b⟩⟩
  have := HB.out
  rw [show m - (m - a) = a by omega, show m + (b - m) = b by omega] at h
  exact h
 case round =>
  clear S0 R1 R2
  obtain ⟨i, j, dk, rfl, rfl, HK, HS⟩ := hrel
  have hb := HB.out
  have hk := HK.out
  have hs : dk.size = z := HS.out.2.2.1.trans hb.2.2.2.2
  by_cases hij : i = j
  ·subst hij
   have R3 := Lib.hid (show wrap64 ((m : Int) - (i : Int)) = ((m - i : Nat) : Int) by unfold wrap64; omega)
   have HC := Lib.hid (fun w (h : SR w0 k dk w) => swapRange_is w0 w k cap (m - i) m i z dk f h hs (by omega) (by omega) hb.2.2.2.1)
   clear hb hk hs
   have r3 := R3.out
   go_wp2_with fail
   refine (HC.out _ HS.out.1).mono ?_
   rintro e w1 ⟨rfl, d', S1, X1, P1⟩
   go_wp2
   go_end0
   have hb := HB.out
   have hk := HK.out
   refine ⟨rfl, d', S1, HS.out.2.1 d' (Rot.last (by omega) X1), permIn_trans d dk d' a b HS.out.2.2 (P1 a b (by omega) (by omega) (by rw [HS.out.2.2.1]; omega))⟩
  ·by_cases hlt : j < i
   ·obtain ⟨k1, rfl⟩ : ∃ k1, gk = k1 + 1 := ⟨gk - 1, by omega⟩
    have R3 := Lib.hid (show wrap64 ((m : Int) - (i : Int)) = ((m - i : Nat) : Int) by unfold wrap64; omega)
    have R4 := Lib.hid (show wrap64 ((i : Int) - (j : Int)) = ((i - j : Nat) : Int) by unfold wrap64; omega)
    have HC := Lib.hid (fun w (h : SR w0 k dk w) => swapRange_is w0 w k cap (m - i) m j z dk f h hs (by omega) (by omega) hb.2.2.2.1)
    clear hb hk hs
    have r3 := R3.out
    have hij' : ¬ (i : Int) = (j : Int) := by omega
    go_wp2_with fail
    refine (HC.out _ HS.out.1).mono ?_
    rintro e w1 ⟨rfl, d', S1, X1, P1⟩
    have HN := Lib.hid (And.intro S1 (And.intro X1 P1))
    clear S1 X1 P1
    go_wp2
    go_roundg k1
    case measure => omega
    case rel =>
     have hb := HB.out
     have hk := HK.out
     refine ⟨i - j, j, d', by rw [R4.out], rfl, ⟨by omega⟩, ⟨HN.out.1, fun d2 h => HS.out.2.1 d2 (Rot.more (by omega) hlt HN.out.2.1 h), permIn_trans d dk d' a b HS.out.2.2 (HN.out.2.2 a b (by omega) (by omega) (by rw [HS.out.2.2.1]; omega))⟩⟩
   ·obtain ⟨k1, rfl⟩ : ∃ k1, gk = k1 + 1 := ⟨gk - 1, by omega⟩
    have R3 := Lib.hid (show wrap64 ((m : Int) - (i : Int)) = ((m - i : Nat) : Int) by unfold wrap64; omega)
    have R4 := Lib.hid (show wrap64 ((j : Int) - (i : Int)) = ((j - i : Nat) : Int) by unfold wrap64; omega)
    obtain ⟨t, ht⟩ : ∃ t, m + j = t := ⟨_, rfl⟩
    obtain ⟨u, hu⟩ : ∃ u, m + j - i = u := ⟨_, rfl⟩
    have R5 := Lib.hid (show wrap64 ((m : Int) + (j : Int)) = (t : Int) by unfold wrap64; omega)
    have R6 := Lib.hid (show wrap64 ((t : Int) - (i : Int)) = (u : Int) by unfold wrap64; omega)
    have HC := Lib.hid (fun w (h : SR w0 k dk w) => swapRange_is w0 w k cap (m - i) u i z dk f h hs (by omega) (by omega) hb.2.2.2.1)
    have HU := Lib.hid hu
    clear ht hu
    clear hb hk hs
    have r3 := R3.out
    have r5 := R5.out
    have r6 := R6.out
    have hij' : ¬ (i : Int) = (j : Int) := by omega
    go_wp2_with fail
    refine (HC.out _ HS.out.1).mono ?_
    rintro e w1 ⟨rfl, d', S1, X1, P1⟩
    have HN := Lib.hid (And.intro S1 (And.intro X1 P1))
    clear S1 X1 P1
    go_wp2
    go_roundg k1
    case measure => omega
    case rel =>
     have hb := HB.out
     have hk := HK.out
     have hu := HU.out
     subst hu
     refine ⟨i, j - i, d', rfl, by rw [R4.out], ⟨by omega⟩, ⟨HN.out.1, fun d2 h => HS.out.2.1 d2 (Rot.less (by omega) (by omega) HN.out.2.1 h), permIn_trans d dk d' a b HS.out.2.2 (HN.out.2.2 a b (by omega) (by omega) (by rw [HS.out.2.2.1]; omega))⟩⟩
end Go.Proofs.YtgceecnlgjmghaaDoor.srt

namespace St
open Go.Sort (SWO)
/-- Which share goes ahead. -/
def cmpV (x y : Sh) : Int := if y.r < x.r then -1 else if x.r < y.r then 1 else x.p - y.p
def lt (x y : Sh) : Bool := decide (cmpV x y < 0)
theorem lt_iff (x y : Sh) : lt x y = true ↔ (y.r < x.r ∨ (x.r = y.r ∧ x.p < y.p)) := by
 unfold lt cmpV
 rw [decide_eq_true_iff]
 split
 ·omega
 ·split <;> omega
theorem lt_no (x y : Sh) : lt x y = false ↔ ¬ (y.r < x.r ∨ (x.r = y.r ∧ x.p < y.p)) := by
 rw [← lt_iff, Bool.not_eq_true]
theorem swo : SWO lt where
 irrefl x := by rw [lt_no]; omega
 trans x y z h1 h2 := by rw [lt_iff] at *; omega
 ntrans x y z h1 h2 := by rw [lt_no] at *; omega
theorem lt_def (x y : Sh) : lt x y = decide (cmpV x y < 0) := rfl
end St
namespace Go.Proofs.YtgceecnlgjmghaaDoor.srt
open Go.RowKit Go.Proofs.YtgceecnlgjmghaaDoor.base St
open Go.Sort (swp PermIn SortedIn SWO swp_get size_swp permIn_trans permIn_refl swp_permIn permIn_mono permIn_all)
open Go.Proofs.YtgceecnlgjmghaaDoorW.PrintWords
set_option linter.unusedSimpArgs false
attribute [local go_sem] Oper.semAt_some
theorem mid_w (i j : Nat) (hn : i + j ≤ 20000) : wrap64 (IntKind.u64.wrap (wrap64 ((i : Int) + (j : Int))) / 2) = (((i + j) / 2 : Nat) : Int) := by
 have e : wrap64 ((i : Int) + (j : Int)) = ((i + j : Nat) : Int) := by unfold wrap64; omega
 have e2 : IntKind.u64.wrap ((i + j : Nat) : Int) = ((i + j : Nat) : Int) := by simp [IntKind.wrap, IntKind.bits, IntKind.signed]; omega
 rw [e, e2]
 unfold wrap64
 omega
abbrev av (x : Sh) : Value := .agg #[.int .i64 x.q, .int .i64 x.r, .int .i64 x.p]
abbrev fv : Value := .func (.func 68) #[] #[]
theorem cmp_is (x y : Sh) (w : World) (hx : 0 ≤ x.p ∧ x.p ≤ 5000) (hy : 0 ≤ y.p ∧ y.p ≤ 5000) :
  Calls Tryd.prog 68 #[av x, av y] w fun e w' => e = .returned (.int .i64 (cmpV x y)) ∧ Below w.heap.size w w' := by
 have r1 : wrap64 (x.p - y.p) = x.p - y.p := by unfold wrap64; omega
 clear hx hy
 have hB : ∀ o1 o2 : Obj, Below w.heap.size w ((w.alloc o1).alloc o2) := fun o1 o2 => below_alloc (below_alloc (Below.refl _ _) _) _
 have HB := Lib.hid hB
 clear hB
 unfold cmpV
 by_cases h1 : y.r < x.r
 ·rw [if_pos h1]
  go_enter Tryd.func68, Tryd.ntmps68
  go_wp2
  go_ret
  exact ⟨rfl, HB.out _ _⟩
 ·rw [if_neg h1]
  by_cases h2 : x.r < y.r
  ·rw [if_pos h2]
   go_enter Tryd.func68, Tryd.ntmps68
   go_wp2
   go_ret
   exact ⟨rfl, HB.out _ _⟩
  ·rw [if_neg h2]
   go_enter Tryd.func68, Tryd.ntmps68
   go_wp2
   go_ret
   exact ⟨rfl, HB.out _ _⟩
end Go.Proofs.YtgceecnlgjmghaaDoor.srt

