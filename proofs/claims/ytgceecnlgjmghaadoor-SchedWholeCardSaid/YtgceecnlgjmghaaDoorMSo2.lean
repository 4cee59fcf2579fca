/- slices.symMergeCmpFunc at split.share, walked where one of the runs has one element. No conditions. slices.symMergeCmpFunc at split.share, walked: two sorted runs become one. No conditions. slices.insertionSortCmpFunc at split.share, walked: a run is sorted. No conditions. slices.stableCmpFunc and slices.SortStableFunc at split.share, walked: the row is sorted. No conditions. split.ordered at split.share, walked: a copy, sorted. No conditions but that there is something to sort. -/
import Derived.Test.YtgceecnlgjmghaaDoorMSo1
import Derived.Deep.RegionHeld3
import Derived.Test.YtgceecnlgjmghaaDoorWLast
import Derived.Test.YtgceecnlgjmghaaDoorMSo0
import Derived.Test.YtgceecnlgjmghaaDoorWMore
import Derived.Lib.SliceRun
namespace Go.Proofs.YtgceecnlgjmghaaDoor.srt
open Go.RowKit Go.Proofs.YtgceecnlgjmghaaDoor.base St
open Go.Sort (swp PermIn SortedIn SWO swp_get size_swp permIn_trans permIn_refl swp_permIn permIn_mono permIn_all)
open Go.Proofs.YtgceecnlgjmghaaDoorW.PrintWords
set_option linter.unusedSimpArgs false
attribute [local go_sem] Oper.semAt_some
set_option maxRecDepth 100000 in
set_option maxHeartbeats 4000000 in
theorem sym_up (w0 w : World) (k cap a m b z : Nat) (d : Array Sh) (S : SR w0 k d w) (hz : d.size = z) (ham : a < m) (hmb : m < b) (hb : b ≤ z) (hsz : z ≤ 5000) (h1 : SortedIn St.lt a m d) (h2 : SortedIn St.lt m b d) (h1m : m = a + 1) :
  Calls Tryd.prog 117 #[.slice (some ⟨k, 0, none⟩) z cap, .int .i64 a, .int .i64 m, .int .i64 b, fv] w fun e w' => e = .returned (.tuple #[]) ∧ ∃ d', SR w0 k d' w' ∧ PermIn a b d d' ∧ SortedIn St.lt a b d' := by
 have S0 := Lib.hid S
 have HB := Lib.hid (And.intro ham (And.intro hmb (And.intro hb (And.intro hsz hz))))
 have H1 := Lib.hid h1
 have H2 := Lib.hid h2
 have r0 : wrap64 ((m : Int) - (a : Int)) = 1 := by unfold wrap64; omega
 have HM := Lib.hid h1m
 clear S hz ham hmb hb hsz h1 h2 h1m
 go_enter Tryd.func117, Tryd.ntmps117
 go_wp2_with fail
 clear r0
 go_loopg [10, 11] (b + 1) (fun kq v10 v11 wr => ∃ (i j : Nat), v10 = .int .i64 (i : Int) ∧ v11 = .int .i64 (j : Int) ∧ Aside0 (m ≤ i ∧ i ≤ j ∧ j ≤ b ∧ j - i + 1 ≤ kq) ∧ Aside0 (SR w0 k d wr ∧ (∀ h, m ≤ h → h < i → St.lt d[h]! d[a]! = true) ∧ (∀ h, j ≤ h → h < b → St.lt d[h]! d[a]! = false)))
 case atStart => exact ⟨m, b, rfl, rfl, ⟨by have := HB.out; omega⟩, ⟨S0.out, fun h q1 q2 => by omega, fun h q1 q2 => by omega⟩⟩
 case round =>
  clear S0
  obtain ⟨i, j, rfl, rfl, HK, HS⟩ := hrel
  have hb := HB.out
  have hk := HK.out
  by_cases hij : i < j
  ·obtain ⟨k1, rfl⟩ : ∃ k1, gk = k1 + 1 := ⟨gk - 1, by omega⟩
   obtain ⟨h, hh⟩ : ∃ h, (i + j) / 2 = h := ⟨_, rfl⟩
   have hih : i ≤ h ∧ h < j := by omega
   obtain ⟨su, hsu⟩ : ∃ s, d[h]! = s := ⟨_, rfl⟩
   obtain ⟨sv, hsv⟩ : ∃ s, d[a]! = s := ⟨_, rfl⟩
   have hud : h < d.size := by omega
   have hvd : a < d.size := by omega
   have bu := HS.out.1.bd h hud
   have bv := HS.out.1.bd a hvd
   rw [hsu] at bu
   rw [hsv] at bv
   have HC := Lib.hid (fun w => cmp_is su sv w bu bv)
   have u0 : ∀ V : World, SR w0 k d V → V.cell? ⟨k, h * 3, none⟩ = some (.int .i64 su.q) := fun V h => by have q := (h.cell hud).1; rw [hsu] at q; exact q
   have u1 : ∀ V : World, SR w0 k d V → V.cell? ⟨k, h * 3 + 1, none⟩ = some (.int .i64 su.r) := fun V h => by have q := (h.cell hud).2.1; rw [hsu] at q; exact q
   have u2 : ∀ V : World, SR w0 k d V → V.cell? ⟨k, h * 3 + 2, none⟩ = some (.int .i64 su.p) := fun V h => by have q := (h.cell hud).2.2; rw [hsu] at q; exact q
   have v0 : ∀ V : World, SR w0 k d V → V.cell? ⟨k, a * 3, none⟩ = some (.int .i64 sv.q) := fun V h => by have q := (h.cell hvd).1; rw [hsv] at q; exact q
   have v1 : ∀ V : World, SR w0 k d V → V.cell? ⟨k, a * 3 + 1, none⟩ = some (.int .i64 sv.r) := fun V h => by have q := (h.cell hvd).2.1; rw [hsv] at q; exact q
   have v2 : ∀ V : World, SR w0 k d V → V.cell? ⟨k, a * 3 + 2, none⟩ = some (.int .i64 sv.p) := fun V h => by have q := (h.cell hvd).2.2; rw [hsv] at q; exact q
   have EH := Lib.hid (show wrap64 (IntKind.u64.wrap (wrap64 ((i : Int) + (j : Int))) / 2) = (h : Int) by rw [mid_w i j (by omega), hh])
   clear hb hk
   go_upto_region 5 with fail
   rw [EH.out]
   have th : ((h : Int)).toNat = h := by omega
   have ph : ((0 : Int) ≤ (h : Int)) = True := eq_true (by omega)
   have lh : ((h : Int) < (z : Int)) = True := eq_true (by have := HB.out; omega)
   have ta : ((a : Int)).toNat = a := by omega
   have pa : ((0 : Int) ≤ (a : Int)) = True := eq_true (by omega)
   have la : ((a : Int) < (z : Int)) = True := eq_true (by have := HB.out; omega)
   clear hh
   by_cases hlt : cmpV su sv < 0
   ·have c1 : decide (cmpV su sv < 0) = true := decide_eq_true hlt
    have KD := Lib.hid HS.out.1.drew
    have KW := Lib.hid HS.out.1
    go_region_held3 (fun w' => SR w0 k d w')
      (first | with_reducible exact KD.out | with_reducible exact K5 | (go_split_ands; with_reducible (repeat (first | assumption | exact K5 | refine SR.drew ?_))))
      (first | (go_at_call 68; go_split_ands; refine (HC.out _).mono ?_; rintro e w5 ⟨rfl, B5⟩; have K5 := SR.below (by assumption) B5))
    have E1 := Lib.hid (show wrap64 ((h : Int) + 1) = ((h + 1 : Nat) : Int) by unfold wrap64; have := HB.out; omega)
    all_goals go_wp2
    go_roundg k1
    case measure => omega
    case rel =>
     have hb := HB.out
     have hk := HK.out
     refine ⟨h + 1, j, by rw [E1.out], rfl, ⟨by omega⟩, ⟨K5, fun g q1 q2 => ?_, HS.out.2.2⟩⟩
     have hl : St.lt d[h]! d[a]! = true := by rw [hsu, hsv, lt_def]; exact c1
     exact pre_true swo (SortedIn.le swo H2.out q1 (by omega) (by omega)) hl
   ·have c1 : decide (cmpV su sv < 0) = false := decide_eq_false hlt
    have KD := Lib.hid HS.out.1.drew
    have KW := Lib.hid HS.out.1
    go_region_held3 (fun w' => SR w0 k d w')
      (first | with_reducible exact KD.out | with_reducible exact K5 | (go_split_ands; with_reducible (repeat (first | assumption | exact K5 | refine SR.drew ?_))))
      (first | (go_at_call 68; go_split_ands; refine (HC.out _).mono ?_; rintro e w5 ⟨rfl, B5⟩; have K5 := SR.below (by assumption) B5))
    all_goals go_wp2
    go_roundg k1
    case measure => omega
    case rel =>
     have hb := HB.out
     have hk := HK.out
     refine ⟨i, h, rfl, rfl, ⟨by omega⟩, ⟨K5, HS.out.2.1, fun g q1 q2 => ?_⟩⟩
     have hl : St.lt d[h]! d[a]! = false := by rw [hsu, hsv, lt_def]; exact c1
     exact swo.ntrans _ _ _ (SortedIn.le swo H2.out (by omega) q1 q2) hl
  ·obtain rfl : i = j := by omega
   have HF := Lib.hid (And.intro hk HS.out.2)
   obtain ⟨ip, hip⟩ : ∃ ip, i - 1 = ip := ⟨_, rfl⟩
   have RI := Lib.hid (show wrap64 ((i : Int) - 1) = (ip : Int) by unfold wrap64; have := HM.out; omega)
   have HIP := Lib.hid hip
   have HS1 := Lib.hid HS.out.1
   clear hb hk hip HS HK
   go_wp2_with fail
   go_loopg [13] (b + 1) (fun kq v13 wr => ∃ (t : Nat) (dk : Array Sh), v13 = .int .i64 (t : Int) ∧ Aside0 (a ≤ t ∧ t ≤ ip ∧ ip - t + 1 ≤ kq) ∧ Aside0 (SR w0 k dk wr ∧ Rot a (a + 1) (t + 1) d dk ∧ PermIn a b d dk))
   case atStart => exact ⟨a, d, rfl, ⟨by have := HB.out; have := HF.out.1; have := HIP.out; have := HM.out; omega⟩, ⟨HS1.out, Rot.nil2 a (a + 1) d, permIn_refl d a b⟩⟩
   case round =>
    clear HS1
    obtain ⟨t, dk, rfl, HK, HS⟩ := hrel
    have hb := HB.out
    have hk := HK.out
    have hs : dk.size = z := HS.out.2.2.1.trans hb.2.2.2.2
    have hf := HF.out.1
    have hip := HIP.out
    have hm := HM.out
    have ri := RI.out
    by_cases htp : t < ip
    ·obtain ⟨k2, rfl⟩ : ∃ k1, gk = k1 + 1 := ⟨gk - 1, by clear ri; omega⟩
     obtain ⟨y, hy⟩ : ∃ y, t + 1 = y := ⟨_, rfl⟩
     clear ri
     have R1 := Lib.hid (show wrap64 ((t : Int) + 1) = (y : Int) by unfold wrap64; omega)
     have hxd : t < dk.size := by omega
     have hyd : y < dk.size := by omega
     have HXD := Lib.hid (And.intro hxd hyd)
     obtain ⟨c0, c1, c2⟩ := HS.out.1.cell hxd
     obtain ⟨d0, d1, d2⟩ := HS.out.1.cell hyd
     have f0 := HS.out.1.frozen (t * 3)
     have f1 := HS.out.1.frozen (t * 3 + 1)
     have f2 := HS.out.1.frozen (t * 3 + 2)
     have f3 := HS.out.1.frozen (y * 3)
     have f4 := HS.out.1.frozen (y * 3 + 1)
     have f5 := HS.out.1.frozen (y * 3 + 2)
     have n00 : ¬ t * 3 = y * 3 := by omega
     have m00 : ¬ y * 3 = t * 3 := by omega
     have n01 : ¬ t * 3 = y * 3 + 1 := by omega
     have m01 : ¬ y * 3 + 1 = t * 3 := by omega
     have n02 : ¬ t * 3 = y * 3 + 2 := by omega
     have m02 : ¬ y * 3 + 2 = t * 3 := by omega
     have n10 : ¬ t * 3 + 1 = y * 3 := by omega
     have m10 : ¬ y * 3 = t * 3 + 1 := by omega
     have n11 : ¬ t * 3 + 1 = y * 3 + 1 := by omega
     have m11 : ¬ y * 3 + 1 = t * 3 + 1 := by omega
     have n12 : ¬ t * 3 + 1 = y * 3 + 2 := by omega
     have m12 : ¬ y * 3 + 2 = t * 3 + 1 := by omega
     have n20 : ¬ t * 3 + 2 = y * 3 := by omega
     have m20 : ¬ y * 3 = t * 3 + 2 := by omega
     have n21 : ¬ t * 3 + 2 = y * 3 + 1 := by omega
     have m21 : ¬ y * 3 + 1 = t * 3 + 2 := by omega
     have n22 : ¬ t * 3 + 2 = y * 3 + 2 := by omega
     have m22 : ¬ y * 3 + 2 = t * 3 + 2 := by omega
     obtain ⟨sx, hsx⟩ : ∃ s, dk[t]! = s := ⟨_, rfl⟩
     obtain ⟨sy, hsy⟩ : ∃ s, dk[y]! = s := ⟨_, rfl⟩
     rw [hsx] at c0 c1 c2
     rw [hsy] at d0 d1 d2
     have HSW := Lib.hid (And.intro hsx hsy)
     clear hsx hsy hxd hyd
     have tt : ((t : Int)).toNat = t := by omega
     have pt : ((0 : Int) ≤ (t : Int)) = True := eq_true (by omega)
     have lt : ((t : Int) < (z : Int)) = True := eq_true (by omega)
     have ty : ((y : Int)).toNat = y := by omega
     have py : ((0 : Int) ≤ (y : Int)) = True := eq_true (by omega)
     have ly : ((y : Int) < (z : Int)) = True := eq_true (by omega)
     have HY := Lib.hid hy
     clear hb hk hs hf hip hm hy
     have ri := RI.out
     have r1 := R1.out
     go_upto_region 11 with fail
     go_big_region
     all_goals go_wp2
     go_roundg k2
     case measure => omega
     case rel =>
      have hb := HB.out
      have hk := HK.out
      have hs : dk.size = z := HS.out.2.2.1.trans hb.2.2.2.2
      have hf := HF.out.1
      have hip := HIP.out
      have hm := HM.out
      have hy := HY.out
      clear ri r1
      refine ⟨y, swp dk t y, by rw [R1.out], ⟨by omega⟩, ⟨?_, ?_, ?_⟩⟩
      ·have := (HS.out.1.swap HXD.out.1 HXD.out.2).drew
       rw [HSW.out.1, HSW.out.2] at this
       exact this
      ·subst hy
       exact HS.out.2.1.up (by omega) (by omega)
      ·exact permIn_trans d dk _ a b HS.out.2.2 (swp_permIn dk a b t y (by omega) (by omega) (by omega) (by omega) (by omega))
    ·clear hb hk hs hip hf hm
     go_wp2
     (try simp only [Exit.inBlock, Exit.then])
     refine bodyPost_ret (results_none rfl _ _ _) rfl ?_
     have hb := HB.out
     have hk := HK.out
     have hf := HF.out.1
     have hip := HIP.out
     have hm := HM.out
     clear ri
     refine ⟨rfl, dk, HS.out.1, HS.out.2.2, ?_⟩
     have hr := HS.out.2.1
     rw [show t + 1 = i by omega] at hr
     exact up_done swo hm (by omega) (by omega) H2.out HF.out.2.1 HF.out.2.2 hr
set_option maxRecDepth 100000 in
set_option maxHeartbeats 4000000 in
theorem sym_down (w0 w : World) (k cap a m b z : Nat) (d : Array Sh) (S : SR w0 k d w) (hz : d.size = z) (ham : a < m) (hmb : m < b) (hb : b ≤ z) (hsz : z ≤ 5000) (h1 : SortedIn St.lt a m d) (h2 : SortedIn St.lt m b d) (hbm : b = m + 1) (hma : m ≠ a + 1) :
  Calls Tryd.prog 117 #[.slice (some ⟨k, 0, none⟩) z cap, .int .i64 a, .int .i64 m, .int .i64 b, fv] w fun e w' => e = .returned (.tuple #[]) ∧ ∃ d', SR w0 k d' w' ∧ PermIn a b d d' ∧ SortedIn St.lt a b d' := by
 have S0 := Lib.hid S
 have HB := Lib.hid (And.intro ham (And.intro hmb (And.intro hb (And.intro hsz hz))))
 have H1 := Lib.hid h1
 have H2 := Lib.hid h2
 obtain ⟨ma, hma2⟩ : ∃ x, m - a = x := ⟨_, rfl⟩
 have r0 : wrap64 ((m : Int) - (a : Int)) = (ma : Int) := by unfold wrap64; omega
 have r1 : wrap64 ((b : Int) - (m : Int)) = 1 := by unfold wrap64; omega
 have RQ := Lib.hid (And.intro r0 r1)
 clear r0 r1
 have q0 : ¬ (ma : Int) = 1 := by omega
 have q2 : ((ma : Int) == 1) = false := by simpa using q0
 have HM := Lib.hid hbm
 clear S hz ham hmb hb hsz h1 h2 hbm hma hma2
 have r0 := RQ.out.1
 have r1 := RQ.out.2
 go_enter Tryd.func117, Tryd.ntmps117
 go_wp2_with fail
 clear r0 r1 q0 q2 RQ
 go_loopg [14, 15] (b + 1) (fun kq v10 v11 wr => ∃ (i j : Nat), v10 = .int .i64 (i : Int) ∧ v11 = .int .i64 (j : Int) ∧ Aside0 (a ≤ i ∧ i ≤ j ∧ j ≤ m ∧ j - i + 1 ≤ kq) ∧ Aside0 (SR w0 k d wr ∧ (∀ h, a ≤ h → h < i → St.lt d[m]! d[h]! = false) ∧ (∀ h, j ≤ h → h < m → St.lt d[m]! d[h]! = true)))
 case atStart => exact ⟨a, m, rfl, rfl, ⟨by have := HB.out; omega⟩, ⟨S0.out, fun h q1 q2 => by omega, fun h q1 q2 => by omega⟩⟩
 case round =>
  clear S0
  obtain ⟨i, j, rfl, rfl, HK, HS⟩ := hrel
  have hb := HB.out
  have hk := HK.out
  by_cases hij : i < j
  ·obtain ⟨k1, rfl⟩ : ∃ k1, gk = k1 + 1 := ⟨gk - 1, by omega⟩
   obtain ⟨h, hh⟩ : ∃ h, (i + j) / 2 = h := ⟨_, rfl⟩
   have hih : i ≤ h ∧ h < j := by omega
   obtain ⟨su, hsu⟩ : ∃ s, d[m]! = s := ⟨_, rfl⟩
   obtain ⟨sv, hsv⟩ : ∃ s, d[h]! = s := ⟨_, rfl⟩
   have hud : m < d.size := by omega
   have hvd : h < d.size := by omega
   have bu := HS.out.1.bd m hud
   have bv := HS.out.1.bd h hvd
   rw [hsu] at bu
   rw [hsv] at bv
   have HC := Lib.hid (fun w => cmp_is su sv w bu bv)
   have u0 : ∀ V : World, SR w0 k d V → V.cell? ⟨k, m * 3, none⟩ = some (.int .i64 su.q) := fun V h => by have q := (h.cell hud).1; rw [hsu] at q; exact q
   have u1 : ∀ V : World, SR w0 k d V → V.cell? ⟨k, m * 3 + 1, none⟩ = some (.int .i64 su.r) := fun V h => by have q := (h.cell hud).2.1; rw [hsu] at q; exact q
   have u2 : ∀ V : World, SR w0 k d V → V.cell? ⟨k, m * 3 + 2, none⟩ = some (.int .i64 su.p) := fun V h => by have q := (h.cell hud).2.2; rw [hsu] at q; exact q
   have v0 : ∀ V : World, SR w0 k d V → V.cell? ⟨k, h * 3, none⟩ = some (.int .i64 sv.q) := fun V h => by have q := (h.cell hvd).1; rw [hsv] at q; exact q
   have v1 : ∀ V : World, SR w0 k d V → V.cell? ⟨k, h * 3 + 1, none⟩ = some (.int .i64 sv.r) := fun V h => by have q := (h.cell hvd).2.1; rw [hsv] at q; exact q
   have v2 : ∀ V : World, SR w0 k d V → V.cell? ⟨k, h * 3 + 2, none⟩ = some (.int .i64 sv.p) := fun V h => by have q := (h.cell hvd).2.2; rw [hsv] at q; exact q
   have EH := Lib.hid (show wrap64 (IntKind.u64.wrap (wrap64 ((i : Int) + (j : Int))) / 2) = (h : Int) by rw [mid_w i j (by omega), hh])
   clear hb hk
   go_upto_region 17 with fail
   rw [EH.out]
   have th : ((h : Int)).toNat = h := by omega
   have ph : ((0 : Int) ≤ (h : Int)) = True := eq_true (by omega)
   have lh : ((h : Int) < (z : Int)) = True := eq_true (by have := HB.out; omega)
   have tm : ((m : Int)).toNat = m := by omega
   have pm : ((0 : Int) ≤ (m : Int)) = True := eq_true (by omega)
   have lm : ((m : Int) < (z : Int)) = True := eq_true (by have := HB.out; omega)
   clear hh
   by_cases hlt : cmpV su sv < 0
   ·have c1 : decide (cmpV su sv < 0) = true := decide_eq_true hlt
    have KD := Lib.hid HS.out.1.drew
    have KW := Lib.hid HS.out.1
    go_region_held3 (fun w' => SR w0 k d w')
      (first | with_reducible exact KD.out | with_reducible exact K5 | (go_split_ands; with_reducible (repeat (first | assumption | exact K5 | refine SR.drew ?_))))
      (first | (go_at_call 68; go_split_ands; refine (HC.out _).mono ?_; rintro e w5 ⟨rfl, B5⟩; have K5 := SR.below (by assumption) B5))
    all_goals go_wp2
    go_roundg k1
    case measure => omega
    case rel =>
     have hb := HB.out
     have hk := HK.out
     refine ⟨i, h, rfl, rfl, ⟨by omega⟩, ⟨K5, HS.out.2.1, fun g q1 q2 => ?_⟩⟩
     have hl : St.lt d[m]! d[h]! = true := by rw [hsu, hsv, lt_def]; exact c1
     exact post_true swo (SortedIn.le swo H1.out (by omega) q1 q2) hl
   ·have c1 : decide (cmpV su sv < 0) = false := decide_eq_false hlt
    have KD := Lib.hid HS.out.1.drew
    have KW := Lib.hid HS.out.1
    go_region_held3 (fun w' => SR w0 k d w')
      (first | with_reducible exact KD.out | with_reducible exact K5 | (go_split_ands; with_reducible (repeat (first | assumption | exact K5 | refine SR.drew ?_))))
      (first | (go_at_call 68; go_split_ands; refine (HC.out _).mono ?_; rintro e w5 ⟨rfl, B5⟩; have K5 := SR.below (by assumption) B5))
    have E1 := Lib.hid (show wrap64 ((h : Int) + 1) = ((h + 1 : Nat) : Int) by unfold wrap64; have := HB.out; omega)
    all_goals go_wp2
    go_roundg k1
    case measure => omega
    case rel =>
     have hb := HB.out
     have hk := HK.out
     refine ⟨h + 1, j, by rw [E1.out], rfl, ⟨by omega⟩, ⟨K5, fun g q1 q2 => ?_, HS.out.2.2⟩⟩
     have hl : St.lt d[m]! d[h]! = false := by rw [hsu, hsv, lt_def]; exact c1
     exact swo.ntrans _ _ _ hl (SortedIn.le swo H1.out q1 (by omega) (by omega))
  ·obtain rfl : i = j := by omega
   have HF := Lib.hid (And.intro hk HS.out.2)
   have HS1 := Lib.hid HS.out.1
   clear hb hk HS HK
   go_wp2_with fail
   go_loopg [17] (b + 1) (fun kq v13 wr => ∃ (t : Nat) (dk : Array Sh), v13 = .int .i64 (t : Int) ∧ Aside0 (i ≤ t ∧ t ≤ m ∧ t + 1 ≤ kq) ∧ Aside0 (SR w0 k dk wr ∧ Rot t m (m + 1) d dk ∧ PermIn a b d dk))
   case atStart => exact ⟨m, d, rfl, ⟨by have := HB.out; have := HF.out.1; omega⟩, ⟨HS1.out, Rot.nil1 m (m + 1) d, permIn_refl d a b⟩⟩
   case round =>
    clear HS1
    obtain ⟨t, dk, rfl, HK, HS⟩ := hrel
    have hb := HB.out
    have hk := HK.out
    have hs : dk.size = z := HS.out.2.2.1.trans hb.2.2.2.2
    have hf := HF.out.1
    have hm := HM.out
    by_cases htp : i < t
    ·obtain ⟨k2, rfl⟩ : ∃ k1, gk = k1 + 1 := ⟨gk - 1, by omega⟩
     obtain ⟨y, hy⟩ : ∃ y, t - 1 = y := ⟨_, rfl⟩
     have R1 := Lib.hid (show wrap64 ((t : Int) - 1) = (y : Int) by unfold wrap64; omega)
     have hxd : t < dk.size := by omega
     have hyd : y < dk.size := by omega
     have HXD := Lib.hid (And.intro hxd hyd)
     obtain ⟨c0, c1, c2⟩ := HS.out.1.cell hxd
     obtain ⟨d0, d1, d2⟩ := HS.out.1.cell hyd
     have f0 := HS.out.1.frozen (t * 3)
     have f1 := HS.out.1.frozen (t * 3 + 1)
     have f2 := HS.out.1.frozen (t * 3 + 2)
     have f3 := HS.out.1.frozen (y * 3)
     have f4 := HS.out.1.frozen (y * 3 + 1)
     have f5 := HS.out.1.frozen (y * 3 + 2)
     have n00 : ¬ t * 3 = y * 3 := by omega
     have m00 : ¬ y * 3 = t * 3 := by omega
     have n01 : ¬ t * 3 = y * 3 + 1 := by omega
     have m01 : ¬ y * 3 + 1 = t * 3 := by omega
     have n02 : ¬ t * 3 = y * 3 + 2 := by omega
     have m02 : ¬ y * 3 + 2 = t * 3 := by omega
     have n10 : ¬ t * 3 + 1 = y * 3 := by omega
     have m10 : ¬ y * 3 = t * 3 + 1 := by omega
     have n11 : ¬ t * 3 + 1 = y * 3 + 1 := by omega
     have m11 : ¬ y * 3 + 1 = t * 3 + 1 := by omega
     have n12 : ¬ t * 3 + 1 = y * 3 + 2 := by omega
     have m12 : ¬ y * 3 + 2 = t * 3 + 1 := by omega
     have n20 : ¬ t * 3 + 2 = y * 3 := by omega
     have m20 : ¬ y * 3 = t * 3 + 2 := by omega
     have n21 : ¬ t * 3 + 2 = y * 3 + 1 := by omega
     have m21 : ¬ y * 3 + 1 = t * 3 + 2 := by omega
     have n22 : ¬ t * 3 + 2 = y * 3 + 2 := by omega
     have m22 : ¬ y * 3 + 2 = t * 3 + 2 := by omega
     obtain ⟨sx, hsx⟩ : ∃ s, dk[t]! = s := ⟨_, rfl⟩
     obtain ⟨sy, hsy⟩ : ∃ s, dk[y]! = s := ⟨_, rfl⟩
     rw [hsx] at c0 c1 c2
     rw [hsy] at d0 d1 d2
     have HSW := Lib.hid (And.intro hsx hsy)
     clear hsx hsy hxd hyd
     have tt : ((t : Int)).toNat = t := by omega
     have pt : ((0 : Int) ≤ (t : Int)) = True := eq_true (by omega)
     have lt : ((t : Int) < (z : Int)) = True := eq_true (by omega)
     have ty : ((y : Int)).toNat = y := by omega
     have py : ((0 : Int) ≤ (y : Int)) = True := eq_true (by omega)
     have ly : ((y : Int) < (z : Int)) = True := eq_true (by omega)
     have HY := Lib.hid hy
     clear hb hk hs hf hm hy
     have r1 := R1.out
     go_upto_region 23 with fail
     go_big_region
     all_goals go_wp2
     go_roundg k2
     case measure => omega
     case rel =>
      have hb := HB.out
      have hk := HK.out
      have hs : dk.size = z := HS.out.2.2.1.trans hb.2.2.2.2
      have hf := HF.out.1
      have hm := HM.out
      have hy := HY.out
      clear r1
      refine ⟨y, swp dk t y, by rw [R1.out], ⟨by omega⟩, ⟨?_, ?_, ?_⟩⟩
      ·have := (HS.out.1.swap HXD.out.1 HXD.out.2).drew
       rw [HSW.out.1, HSW.out.2] at this
       exact this
      ·obtain rfl : t = y + 1 := by omega
       exact HS.out.2.1.down (by omega) (by omega)
      ·exact permIn_trans d dk _ a b HS.out.2.2 (swp_permIn dk a b t y (by omega) (by omega) (by omega) (by omega) (by omega))
    ·clear hb hk hs hf hm
     go_wp2
     (try simp only [Exit.inBlock, Exit.then])
     refine bodyPost_ret (results_none rfl _ _ _) rfl ?_
     have hb := HB.out
     have hk := HK.out
     have hf := HF.out.1
     have hm := HM.out
     refine ⟨rfl, dk, HS.out.1, HS.out.2.2, ?_⟩
     have hr := HS.out.2.1
     rw [show t = i by omega] at hr
     exact down_done swo hm (by omega) (by omega) H1.out HF.out.2.1 HF.out.2.2 hr
end Go.Proofs.YtgceecnlgjmghaaDoor.srt

namespace Go.Proofs.YtgceecnlgjmghaaDoor.srt
open Go.RowKit Go.Proofs.YtgceecnlgjmghaaDoor.base St
open Go.Sort (swp PermIn SortedIn SWO swp_get size_swp permIn_trans permIn_refl swp_permIn permIn_mono permIn_all)
open Go.Proofs.YtgceecnlgjmghaaDoorW.PrintWords
set_option linter.unusedSimpArgs false
attribute [local go_sem] Oper.semAt_some
theorem mono_no {a m b p c c' : Nat} {d : Array Sh} (h1 : SortedIn St.lt a m d) (h2 : SortedIn St.lt m b d) (hc : a ≤ c') (hcc : c' ≤ c) (hm : c < m) (hp : m ≤ p - c) (hpb : p - c' < b) (h : St.lt d[p - c]! d[c]! = false) : St.lt d[p - c']! d[c']! = false :=
 swo.ntrans _ _ _ (SortedIn.le swo h2 hp (by omega) hpb) (swo.ntrans _ _ _ h (SortedIn.le swo h1 hc hcc hm))
theorem mono_yes {a m b p c c' : Nat} {d : Array Sh} (h1 : SortedIn St.lt a m d) (h2 : SortedIn St.lt m b d) (hc : a ≤ c) (hcc : c ≤ c') (hm : c' < m) (hp : m ≤ p - c') (hpb : p - c < b) (h : St.lt d[p - c]! d[c]! = true) : St.lt d[p - c']! d[c']! = true :=
 pre_true swo (SortedIn.le swo h2 hp (by omega) hpb) (post_true swo (SortedIn.le swo h1 hc hcc hm) h)
set_option maxRecDepth 100000 in
set_option maxHeartbeats 8000000 in
theorem sym_right (w0 w : World) (k cap a m b z : Nat) (d : Array Sh) (S : SR w0 k d w) (hz : d.size = z) (ham : a < m) (hmb : m < b) (hb : b ≤ z) (hsz : z ≤ 5000) (h1 : SortedIn St.lt a m d) (h2 : SortedIn St.lt m b d) (mid nn : Nat) (hmid : (a + b) / 2 = mid) (hnn : mid + m = nn) (hway : mid < m) (_hma : m ≠ a + 1) (hbm : b ≠ m + 1) (IH : ∀ (a' m' b' : Nat) (d' : Array Sh) (w' : World), b' - a' < b - a → SR w0 k d' w' → d'.size = z → a' < m' → m' < b' → b' ≤ z → SortedIn St.lt a' m' d' → SortedIn St.lt m' b' d' →
      Calls Tryd.prog 117 #[.slice (some ⟨k, 0, none⟩) z cap, .int .i64 a', .int .i64 m', .int .i64 b', fv] w' fun e w2 => e = .returned (.tuple #[]) ∧ ∃ d2, SR w0 k d2 w2 ∧ PermIn a' b' d' d2 ∧ SortedIn St.lt a' b' d2) :
  Calls Tryd.prog 117 #[.slice (some ⟨k, 0, none⟩) z cap, .int .i64 a, .int .i64 m, .int .i64 b, fv] w fun e w' => e = .returned (.tuple #[]) ∧ ∃ d', SR w0 k d' w' ∧ PermIn a b d d' ∧ SortedIn St.lt a b d' := by
 have S0 := Lib.hid S
 have HB := Lib.hid (And.intro ham (And.intro hmb (And.intro hb (And.intro hsz hz))))
 have H1 := Lib.hid h1
 have H2 := Lib.hid h2
 have HIH := Lib.hid IH
 obtain ⟨ma, hma2⟩ : ∃ x, m - a = x := ⟨_, rfl⟩
 obtain ⟨mb, hmb2⟩ : ∃ x, b - m = x := ⟨_, rfl⟩
 obtain ⟨pp, hpp⟩ : ∃ x, nn - 1 = x := ⟨_, rfl⟩
 obtain ⟨ss, hss⟩ : ∃ x, nn - b = x := ⟨_, rfl⟩
 have HN := Lib.hid (And.intro hmid (And.intro hnn (And.intro hpp (And.intro hss hway))))
 have r0 : wrap64 ((m : Int) - (a : Int)) = (ma : Int) := by unfold wrap64; omega
 have r1 : wrap64 ((b : Int) - (m : Int)) = (mb : Int) := by clear r0; unfold wrap64; omega
 have r2 : wrap64 (IntKind.u64.wrap (wrap64 ((a : Int) + (b : Int))) / 2) = (mid : Int) := by clear r0 r1; rw [mid_w a b (by omega), hmid]
 have r3 : wrap64 ((mid : Int) + (m : Int)) = (nn : Int) := by clear r0 r1 r2; unfold wrap64; omega
 have r4 : wrap64 ((nn : Int) - 1) = (pp : Int) := by clear r0 r1 r2 r3; unfold wrap64; omega
 have r5 : wrap64 ((nn : Int) - (b : Int)) = (ss : Int) := by clear r0 r1 r2 r3 r4; unfold wrap64; omega
 have RQ := Lib.hid (And.intro r0 (And.intro r1 (And.intro r2 (And.intro r3 (And.intro r4 r5)))))
 clear r0 r1 r2 r3 r4 r5
 have hwD : decide (mid < m) = true := decide_eq_true (by omega)
 have q0 : ¬ (ma : Int) = 1 := by omega
 have q2 : ((ma : Int) == 1) = false := by simpa using q0
 have q3 : ¬ (mb : Int) = 1 := by omega
 have q4 : ((mb : Int) == 1) = false := by simpa using q3
 clear S hz ham hmb hb hsz h1 h2 hma2 hmb2 hpp hbm IH hmid hnn hss _hma
 have r0 := RQ.out.1
 have r1 := RQ.out.2.1
 have r2 := RQ.out.2.2.1
 have r3 := RQ.out.2.2.2.1
 have r4 := RQ.out.2.2.2.2.1
 have r5 := RQ.out.2.2.2.2.2
 go_enter Tryd.func117, Tryd.ntmps117
 go_wp2_with fail
 simp only [r2, r3, r4, r5, hwD]
 clear hwD
 clear q0 q2 q3 q4 RQ r0 r1 r2 r3 r4 r5
 go_loopg [20, 21] (b + 1) (fun kq v10 v11 wr => ∃ (i j : Nat), v10 = .int .i64 (i : Int) ∧ v11 = .int .i64 (j : Int) ∧ Aside0 (ss ≤ i ∧ i ≤ j ∧ j ≤ mid ∧ j - i + 1 ≤ kq) ∧ Aside0 (SR w0 k d wr ∧ (∀ h, ss ≤ h → h < i → St.lt d[pp - h]! d[h]! = false) ∧ (∀ h, j ≤ h → h < mid → St.lt d[pp - h]! d[h]! = true)))
 case atStart => exact ⟨ss, mid, rfl, rfl, ⟨by have := HB.out; have := HN.out; omega⟩, ⟨S0.out, fun h q1 q2 => by omega, fun h q1 q2 => by omega⟩⟩
 case round =>
  clear S0
  obtain ⟨i, j, rfl, rfl, HK, HS⟩ := hrel
  have hb := HB.out
  have hk := HK.out
  have hn := HN.out
  by_cases hij : i < j
  ·obtain ⟨k1, rfl⟩ : ∃ k1, gk = k1 + 1 := ⟨gk - 1, by omega⟩
   obtain ⟨h, hh⟩ : ∃ h, (i + j) / 2 = h := ⟨_, rfl⟩
   have hih : i ≤ h ∧ h < j := by omega
   obtain ⟨u, hu⟩ : ∃ u, pp - h = u := ⟨_, rfl⟩
   obtain ⟨su, hsu⟩ : ∃ s, d[u]! = s := ⟨_, rfl⟩
   obtain ⟨sv, hsv⟩ : ∃ s, d[h]! = s := ⟨_, rfl⟩
   have hud : u < d.size := by omega
   have hvd : h < d.size := by omega
   have bu := HS.out.1.bd u hud
   have bv := HS.out.1.bd h hvd
   rw [hsu] at bu
   rw [hsv] at bv
   have HC := Lib.hid (fun w => cmp_is su sv w bu bv)
   have u0 : ∀ V : World, SR w0 k d V → V.cell? ⟨k, u * 3, none⟩ = some (.int .i64 su.q) := fun V h => by have q := (h.cell hud).1; rw [hsu] at q; exact q
   have u1 : ∀ V : World, SR w0 k d V → V.cell? ⟨k, u * 3 + 1, none⟩ = some (.int .i64 su.r) := fun V h => by have q := (h.cell hud).2.1; rw [hsu] at q; exact q
   have u2 : ∀ V : World, SR w0 k d V → V.cell? ⟨k, u * 3 + 2, none⟩ = some (.int .i64 su.p) := fun V h => by have q := (h.cell hud).2.2; rw [hsu] at q; exact q
   have v0 : ∀ V : World, SR w0 k d V → V.cell? ⟨k, h * 3, none⟩ = some (.int .i64 sv.q) := fun V h => by have q := (h.cell hvd).1; rw [hsv] at q; exact q
   have v1 : ∀ V : World, SR w0 k d V → V.cell? ⟨k, h * 3 + 1, none⟩ = some (.int .i64 sv.r) := fun V h => by have q := (h.cell hvd).2.1; rw [hsv] at q; exact q
   have v2 : ∀ V : World, SR w0 k d V → V.cell? ⟨k, h * 3 + 2, none⟩ = some (.int .i64 sv.p) := fun V h => by have q := (h.cell hvd).2.2; rw [hsv] at q; exact q
   have EH := Lib.hid (show wrap64 (IntKind.u64.wrap (wrap64 ((i : Int) + (j : Int))) / 2) = (h : Int) by rw [mid_w i j (by omega), hh])
   have R7 := Lib.hid (show wrap64 ((pp : Int) - (h : Int)) = (u : Int) by unfold wrap64; omega)
   have th : ((h : Int)).toNat = h := by omega
   have ph : ((0 : Int) ≤ (h : Int)) = True := eq_true (by omega)
   have lh : ((h : Int) < (z : Int)) = True := eq_true (by omega)
   have tu : ((u : Int)).toNat = u := by omega
   have pu : ((0 : Int) ≤ (u : Int)) = True := eq_true (by omega)
   have lu : ((u : Int) < (z : Int)) = True := eq_true (by omega)
   have HU := Lib.hid hu
   clear hb hk hn hu
   have r7 := R7.out
   have r9 : IntKind.i64.wrap ((pp : Int) - (h : Int)) = (u : Int) := (Go.Proofs.YtgceecnlgjmghaaDoorW.PrintLast.i64_w _).trans R7.out
   go_upto_region 35 with fail
   rw [EH.out]
   clear hh
   by_cases hlt : cmpV su sv < 0
   ·have c1 : decide (cmpV su sv < 0) = true := decide_eq_true hlt
    have KD := Lib.hid HS.out.1.drew
    have KW := Lib.hid HS.out.1
    go_region_held3 (fun w' => SR w0 k d w')
      (first | with_reducible exact KD.out | with_reducible exact K5 | (go_split_ands; with_reducible (repeat (first | assumption | exact K5 | refine SR.drew ?_))))
      (first | (go_at_call 68; go_split_ands; refine (HC.out _).mono ?_; rintro e w5 ⟨rfl, B5⟩; have K5 := SR.below (by assumption) B5))
    all_goals go_wp2
    go_roundg k1
    case measure => omega
    case rel =>
     have hb := HB.out
     have hk := HK.out
     have hn := HN.out
     have hu := HU.out
     clear r7 r9
     refine ⟨i, h, rfl, rfl, ⟨by omega⟩, ⟨K5, HS.out.2.1, fun g q1 q2 => ?_⟩⟩
     have hl : St.lt d[pp - h]! d[h]! = true := by rw [hu, hsu, hsv, lt_def]; exact c1
     exact mono_yes H1.out H2.out (by omega) q1 (by omega) (by omega) (by omega) hl
   ·have c1 : decide (cmpV su sv < 0) = false := decide_eq_false hlt
    have KD := Lib.hid HS.out.1.drew
    have KW := Lib.hid HS.out.1
    go_region_held3 (fun w' => SR w0 k d w')
      (first | with_reducible exact KD.out | with_reducible exact K5 | (go_split_ands; with_reducible (repeat (first | assumption | exact K5 | refine SR.drew ?_))))
      (first | (go_at_call 68; go_split_ands; refine (HC.out _).mono ?_; rintro e w5 ⟨rfl, B5⟩; have K5 := SR.below (by assumption) B5))
    have E1 := Lib.hid (show wrap64 ((h : Int) + 1) = ((h + 1 : Nat) : Int) by clear r7 r9; unfold wrap64; have := HB.out; omega)
    all_goals go_wp2
    go_roundg k1
    case measure => omega
    case rel =>
     have hb := HB.out
     have hk := HK.out
     have hn := HN.out
     have hu := HU.out
     clear r7 r9
     refine ⟨h + 1, j, by rw [E1.out], rfl, ⟨by omega⟩, ⟨K5, fun g q1 q2 => ?_, HS.out.2.2⟩⟩
     have hl : St.lt d[pp - h]! d[h]! = false := by rw [hu, hsu, hsv, lt_def]; exact c1
     exact mono_no H1.out H2.out (by omega) (by omega) (by omega) (by omega) (by omega) hl
  ·obtain rfl : i = j := by omega
   obtain ⟨e, he⟩ : ∃ e, nn - i = e := ⟨_, rfl⟩
   have R8 := Lib.hid (show wrap64 ((nn : Int) - (i : Int)) = (e : Int) by unfold wrap64; omega)
   have hcut : Cut St.lt a m b i e d := by
    refine ⟨by omega, by omega, by omega, by omega, ?_, ?_⟩
    ·by_cases q : i = ss
     ·exact .inr (.inl (by omega))
     ·refine .inr (.inr ?_)
      have := HS.out.2.1 (i - 1) (by omega) (by omega)
      rw [show pp - (i - 1) = e by omega] at this
      exact this
    ·by_cases q : i = mid
     ·exact .inl (by omega)
     ·refine .inr (.inr ?_)
      have := HS.out.2.2 i (Nat.le_refl _) (by omega)
      rw [show pp - i = e - 1 by omega] at this
      exact this
   have HCU := Lib.hid (And.intro hcut (show i + e = mid + m by omega))
   have HZ := Lib.hid HS.out.1
   have hsm := hcut.sm
   have hme := hcut.me
   clear hk HS HK hcut
   have r8 := R8.out
   clear hn he hb
   go_upto_region 39 with fail
   rw [r8]
   clear r8
   have hb := HB.out
   have he : i + e = mid + m := HCU.out.2
   have hn := hb
   by_cases hr1 : i < m
   ·by_cases hr2 : m < e
    ·have HR0 := Lib.hid (fun w (h : SR w0 k d w) => rotate_is w0 w k cap i m e z d fv h hb.2.2.2.2 hr1 hr2 (by have := HCU.out.1.eb; omega) hb.2.2.2.1)
     clear hb hn he hsm hme
     go_wp2_with fail
     refine (HR0.out _ HZ.out).mono ?_
     rintro e1 w1 ⟨rfl, d1, S1, X1, P1⟩
     have HR := Lib.hid (show SR w0 k d1 w1 ∧ Rot i m e d d1 ∧ PermIn a b d d1 from ⟨S1, X1, permIn_mono d d1 i e a b HCU.out.1.as HCU.out.1.eb (by have := HB.out; omega) P1⟩)
     clear S1 X1 P1 HR0 HZ
     have hp := halves_in swo ⟨HB.out.1, HB.out.2.1⟩ HN.out.1.symm HCU.out.2 HCU.out.1 H1.out H2.out HR.out.2.1
     have HP := Lib.hid hp
     have hl1 := hp.1
     have hl2 := hp.2.1
     clear hp
     have hs1 : d1.size = z := HR.out.2.2.1.trans HB.out.2.2.2.2
     by_cases hq1 : a < i
     ·by_cases hq2 : i < mid
      ·have HL0 := Lib.hid (HIH.out a i mid d1 _ (by have := HB.out; have := HP.out; omega) HR.out.1 hs1 hq1 hq2 (by have := HB.out; have := HP.out; omega) HP.out.2.2.2.2.1 HP.out.2.2.2.2.2.1)
       clear hs1 hl1 hl2
       go_wp2_with fail
       refine HL0.out.mono ?_
       rintro e2 w2 ⟨rfl, d2, S2, P2, Q2⟩
       have HL := Lib.hid (show SR w0 k d2 w2 ∧ PermIn a mid d1 d2 ∧ SortedIn St.lt a mid d2 from ⟨S2, P2, Q2⟩)
       clear S2 P2 Q2 HL0
       have hs2 : d2.size = z := HL.out.2.1.1.trans (HR.out.2.2.1.trans HB.out.2.2.2.2)
       have HF2 := Lib.hid (And.intro (sorted_far HP.out.2.2.2.2.2.2.1 HL.out.2.1 (.inr (Nat.le_refl _))) (sorted_far HP.out.2.2.2.2.2.2.2.1 HL.out.2.1 (.inr (by have := HP.out; omega))))
       by_cases hv1 : mid < e
       ·by_cases hv2 : e < b
        ·have HG0 := Lib.hid (HIH.out mid e b d2 _ (by have := HB.out; have := HP.out; omega) HL.out.1 hs2 hv1 hv2 HB.out.2.2.1 HF2.out.1 HF2.out.2)
         clear hs2
         go_wp2_with fail
         refine HG0.out.mono ?_
         rintro e3 w3 ⟨rfl, d3, S3, P3, Q3⟩
         have HG := Lib.hid (show SR w0 k d3 w3 ∧ PermIn mid b d2 d3 ∧ SortedIn St.lt mid b d3 from ⟨S3, P3, Q3⟩)
         clear S3 P3 Q3 HG0
         go_wp2
         go_end0
         have hb := HB.out
         have hp := HP.out
         exact ⟨rfl, d3, HG.out.1, permIn_trans _ _ _ a b HR.out.2.2 (permIn_trans _ _ _ a b (permIn_mono _ _ a mid a b (Nat.le_refl _) (by omega) (by rw [HR.out.2.2.1]; omega) HL.out.2.1) (permIn_mono _ _ mid b a b (by omega) (Nat.le_refl _) (by rw [HL.out.2.1.1, HR.out.2.2.1]; omega) HG.out.2.1)), halves (by rw [HR.out.2.2.1]; omega) (by omega) hp.2.2.2.2.2.2.2.2 HL.out.2.1 HL.out.2.2 HG.out.2.1 HG.out.2.2⟩
        ·have HG := Lib.hid (show SR w0 k d2 _ ∧ PermIn mid b d2 d2 ∧ SortedIn St.lt mid b d2 from ⟨HL.out.1, permIn_refl _ mid b, by have q := HF2.out.1; rw [show e = b by have := HCU.out.1.eb; omega] at q; exact q⟩)
         clear hs2
         go_wp2
         go_end0
         have hb := HB.out
         have hp := HP.out
         exact ⟨rfl, d2, HG.out.1, permIn_trans _ _ _ a b HR.out.2.2 (permIn_trans _ _ _ a b (permIn_mono _ _ a mid a b (Nat.le_refl _) (by omega) (by rw [HR.out.2.2.1]; omega) HL.out.2.1) (permIn_mono _ _ mid b a b (by omega) (Nat.le_refl _) (by rw [HL.out.2.1.1, HR.out.2.2.1]; omega) HG.out.2.1)), halves (by rw [HR.out.2.2.1]; omega) (by omega) hp.2.2.2.2.2.2.2.2 HL.out.2.1 HL.out.2.2 HG.out.2.1 HG.out.2.2⟩
       ·have HG := Lib.hid (show SR w0 k d2 _ ∧ PermIn mid b d2 d2 ∧ SortedIn St.lt mid b d2 from ⟨HL.out.1, permIn_refl _ mid b, by have q := HF2.out.2; rw [show e = mid by have := HP.out; omega] at q; exact q⟩)
        clear hs2
        go_wp2
        go_end0
        have hb := HB.out
        have hp := HP.out
        exact ⟨rfl, d2, HG.out.1, permIn_trans _ _ _ a b HR.out.2.2 (permIn_trans _ _ _ a b (permIn_mono _ _ a mid a b (Nat.le_refl _) (by omega) (by rw [HR.out.2.2.1]; omega) HL.out.2.1) (permIn_mono _ _ mid b a b (by omega) (Nat.le_refl _) (by rw [HL.out.2.1.1, HR.out.2.2.1]; omega) HG.out.2.1)), halves (by rw [HR.out.2.2.1]; omega) (by omega) hp.2.2.2.2.2.2.2.2 HL.out.2.1 HL.out.2.2 HG.out.2.1 HG.out.2.2⟩
      ·have HL := Lib.hid (show SR w0 k d1 _ ∧ PermIn a mid d1 d1 ∧ SortedIn St.lt a mid d1 from ⟨HR.out.1, permIn_refl _ a mid, by have q := HP.out.2.2.2.2.1; rw [show i = mid by omega] at q; exact q⟩)
       clear hs1 hl1 hl2
       have hs2 : d1.size = z := HL.out.2.1.1.trans (HR.out.2.2.1.trans HB.out.2.2.2.2)
       have HF2 := Lib.hid (And.intro (sorted_far HP.out.2.2.2.2.2.2.1 HL.out.2.1 (.inr (Nat.le_refl _))) (sorted_far HP.out.2.2.2.2.2.2.2.1 HL.out.2.1 (.inr (by have := HP.out; omega))))
       by_cases hv1 : mid < e
       ·by_cases hv2 : e < b
        ·have HG0 := Lib.hid (HIH.out mid e b d1 _ (by have := HB.out; have := HP.out; omega) HL.out.1 hs2 hv1 hv2 HB.out.2.2.1 HF2.out.1 HF2.out.2)
         clear hs2
         go_wp2_with fail
         refine HG0.out.mono ?_
         rintro e3 w3 ⟨rfl, d3, S3, P3, Q3⟩
         have HG := Lib.hid (show SR w0 k d3 w3 ∧ PermIn mid b d1 d3 ∧ SortedIn St.lt mid b d3 from ⟨S3, P3, Q3⟩)
         clear S3 P3 Q3 HG0
         go_wp2
         go_end0
         have hb := HB.out
         have hp := HP.out
         exact ⟨rfl, d3, HG.out.1, permIn_trans _ _ _ a b HR.out.2.2 (permIn_trans _ _ _ a b (permIn_mono _ _ a mid a b (Nat.le_refl _) (by omega) (by rw [HR.out.2.2.1]; omega) HL.out.2.1) (permIn_mono _ _ mid b a b (by omega) (Nat.le_refl _) (by rw [HL.out.2.1.1, HR.out.2.2.1]; omega) HG.out.2.1)), halves (by rw [HR.out.2.2.1]; omega) (by omega) hp.2.2.2.2.2.2.2.2 HL.out.2.1 HL.out.2.2 HG.out.2.1 HG.out.2.2⟩
        ·have HG := Lib.hid (show SR w0 k d1 _ ∧ PermIn mid b d1 d1 ∧ SortedIn St.lt mid b d1 from ⟨HL.out.1, permIn_refl _ mid b, by have q := HF2.out.1; rw [show e = b by have := HCU.out.1.eb; omega] at q; exact q⟩)
         clear hs2
         go_wp2
         go_end0
         have hb := HB.out
         have hp := HP.out
         exact ⟨rfl, d1, HG.out.1, permIn_trans _ _ _ a b HR.out.2.2 (permIn_trans _ _ _ a b (permIn_mono _ _ a mid a b (Nat.le_refl _) (by omega) (by rw [HR.out.2.2.1]; omega) HL.out.2.1) (permIn_mono _ _ mid b a b (by omega) (Nat.le_refl _) (by rw [HL.out.2.1.1, HR.out.2.2.1]; omega) HG.out.2.1)), halves (by rw [HR.out.2.2.1]; omega) (by omega) hp.2.2.2.2.2.2.2.2 HL.out.2.1 HL.out.2.2 HG.out.2.1 HG.out.2.2⟩
       ·have HG := Lib.hid (show SR w0 k d1 _ ∧ PermIn mid b d1 d1 ∧ SortedIn St.lt mid b d1 from ⟨HL.out.1, permIn_refl _ mid b, by have q := HF2.out.2; rw [show e = mid by have := HP.out; omega] at q; exact q⟩)
        clear hs2
        go_wp2
        go_end0
        have hb := HB.out
        have hp := HP.out
        exact ⟨rfl, d1, HG.out.1, permIn_trans _ _ _ a b HR.out.2.2 (permIn_trans _ _ _ a b (permIn_mono _ _ a mid a b (Nat.le_refl _) (by omega) (by rw [HR.out.2.2.1]; omega) HL.out.2.1) (permIn_mono _ _ mid b a b (by omega) (Nat.le_refl _) (by rw [HL.out.2.1.1, HR.out.2.2.1]; omega) HG.out.2.1)), halves (by rw [HR.out.2.2.1]; omega) (by omega) hp.2.2.2.2.2.2.2.2 HL.out.2.1 HL.out.2.2 HG.out.2.1 HG.out.2.2⟩
     ·have HL := Lib.hid (show SR w0 k d1 _ ∧ PermIn a mid d1 d1 ∧ SortedIn St.lt a mid d1 from ⟨HR.out.1, permIn_refl _ a mid, by have q := HP.out.2.2.2.2.2.1; rw [show i = a by have := HCU.out.1.as; omega] at q; exact q⟩)
      clear hs1 hl1 hl2
      have hs2 : d1.size = z := HL.out.2.1.1.trans (HR.out.2.2.1.trans HB.out.2.2.2.2)
      have HF2 := Lib.hid (And.intro (sorted_far HP.out.2.2.2.2.2.2.1 HL.out.2.1 (.inr (Nat.le_refl _))) (sorted_far HP.out.2.2.2.2.2.2.2.1 HL.out.2.1 (.inr (by have := HP.out; omega))))
      by_cases hv1 : mid < e
      ·by_cases hv2 : e < b
       ·have HG0 := Lib.hid (HIH.out mid e b d1 _ (by have := HB.out; have := HP.out; omega) HL.out.1 hs2 hv1 hv2 HB.out.2.2.1 HF2.out.1 HF2.out.2)
        clear hs2
        go_wp2_with fail
        refine HG0.out.mono ?_
        rintro e3 w3 ⟨rfl, d3, S3, P3, Q3⟩
        have HG := Lib.hid (show SR w0 k d3 w3 ∧ PermIn mid b d1 d3 ∧ SortedIn St.lt mid b d3 from ⟨S3, P3, Q3⟩)
        clear S3 P3 Q3 HG0
        go_wp2
        go_end0
        have hb := HB.out
        have hp := HP.out
        exact ⟨rfl, d3, HG.out.1, permIn_trans _ _ _ a b HR.out.2.2 (permIn_trans _ _ _ a b (permIn_mono _ _ a mid a b (Nat.le_refl _) (by omega) (by rw [HR.out.2.2.1]; omega) HL.out.2.1) (permIn_mono _ _ mid b a b (by omega) (Nat.le_refl _) (by rw [HL.out.2.1.1, HR.out.2.2.1]; omega) HG.out.2.1)), halves (by rw [HR.out.2.2.1]; omega) (by omega) hp.2.2.2.2.2.2.2.2 HL.out.2.1 HL.out.2.2 HG.out.2.1 HG.out.2.2⟩
       ·have HG := Lib.hid (show SR w0 k d1 _ ∧ PermIn mid b d1 d1 ∧ SortedIn St.lt mid b d1 from ⟨HL.out.1, permIn_refl _ mid b, by have q := HF2.out.1; rw [show e = b by have := HCU.out.1.eb; omega] at q; exact q⟩)
        clear hs2
        go_wp2
        go_end0
        have hb := HB.out
        have hp := HP.out
        exact ⟨rfl, d1, HG.out.1, permIn_trans _ _ _ a b HR.out.2.2 (permIn_trans _ _ _ a b (permIn_mono _ _ a mid a b (Nat.le_refl _) (by omega) (by rw [HR.out.2.2.1]; omega) HL.out.2.1) (permIn_mono _ _ mid b a b (by omega) (Nat.le_refl _) (by rw [HL.out.2.1.1, HR.out.2.2.1]; omega) HG.out.2.1)), halves (by rw [HR.out.2.2.1]; omega) (by omega) hp.2.2.2.2.2.2.2.2 HL.out.2.1 HL.out.2.2 HG.out.2.1 HG.out.2.2⟩
      ·have HG := Lib.hid (show SR w0 k d1 _ ∧ PermIn mid b d1 d1 ∧ SortedIn St.lt mid b d1 from ⟨HL.out.1, permIn_refl _ mid b, by have q := HF2.out.2; rw [show e = mid by have := HP.out; omega] at q; exact q⟩)
       clear hs2
       go_wp2
       go_end0
       have hb := HB.out
       have hp := HP.out
       exact ⟨rfl, d1, HG.out.1, permIn_trans _ _ _ a b HR.out.2.2 (permIn_trans _ _ _ a b (permIn_mono _ _ a mid a b (Nat.le_refl _) (by omega) (by rw [HR.out.2.2.1]; omega) HL.out.2.1) (permIn_mono _ _ mid b a b (by omega) (Nat.le_refl _) (by rw [HL.out.2.1.1, HR.out.2.2.1]; omega) HG.out.2.1)), halves (by rw [HR.out.2.2.1]; omega) (by omega) hp.2.2.2.2.2.2.2.2 HL.out.2.1 HL.out.2.2 HG.out.2.1 HG.out.2.2⟩
    ·have HR := Lib.hid (show SR w0 k d wr ∧ Rot i m e d d ∧ PermIn a b d d from ⟨HZ.out, by rw [show e = m by omega]; exact Rot.nil2 i m d, permIn_refl d a b⟩)
     clear hb hn he hsm hme HZ
     have hp := halves_in swo ⟨HB.out.1, HB.out.2.1⟩ HN.out.1.symm HCU.out.2 HCU.out.1 H1.out H2.out HR.out.2.1
     have HP := Lib.hid hp
     have hl1 := hp.1
     have hl2 := hp.2.1
     clear hp
     have hs1 : d.size = z := HR.out.2.2.1.trans HB.out.2.2.2.2
     by_cases hq1 : a < i
     ·by_cases hq2 : i < mid
      ·have HL0 := Lib.hid (HIH.out a i mid d _ (by have := HB.out; have := HP.out; omega) HR.out.1 hs1 hq1 hq2 (by have := HB.out; have := HP.out; omega) HP.out.2.2.2.2.1 HP.out.2.2.2.2.2.1)
       clear hs1 hl1 hl2
       go_wp2_with fail
       refine HL0.out.mono ?_
       rintro e2 w2 ⟨rfl, d2, S2, P2, Q2⟩
       have HL := Lib.hid (show SR w0 k d2 w2 ∧ PermIn a mid d d2 ∧ SortedIn St.lt a mid d2 from ⟨S2, P2, Q2⟩)
       clear S2 P2 Q2 HL0
       have hs2 : d2.size = z := HL.out.2.1.1.trans (HR.out.2.2.1.trans HB.out.2.2.2.2)
       have HF2 := Lib.hid (And.intro (sorted_far HP.out.2.2.2.2.2.2.1 HL.out.2.1 (.inr (Nat.le_refl _))) (sorted_far HP.out.2.2.2.2.2.2.2.1 HL.out.2.1 (.inr (by have := HP.out; omega))))
       by_cases hv1 : mid < e
       ·by_cases hv2 : e < b
        ·have HG0 := Lib.hid (HIH.out mid e b d2 _ (by have := HB.out; have := HP.out; omega) HL.out.1 hs2 hv1 hv2 HB.out.2.2.1 HF2.out.1 HF2.out.2)
         clear hs2
         go_wp2_with fail
         refine HG0.out.mono ?_
         rintro e3 w3 ⟨rfl, d3, S3, P3, Q3⟩
         have HG := Lib.hid (show SR w0 k d3 w3 ∧ PermIn mid b d2 d3 ∧ SortedIn St.lt mid b d3 from ⟨S3, P3, Q3⟩)
         clear S3 P3 Q3 HG0
         go_wp2
         go_end0
         have hb := HB.out
         have hp := HP.out
         exact ⟨rfl, d3, HG.out.1, permIn_trans _ _ _ a b HR.out.2.2 (permIn_trans _ _ _ a b (permIn_mono _ _ a mid a b (Nat.le_refl _) (by omega) (by rw [HR.out.2.2.1]; omega) HL.out.2.1) (permIn_mono _ _ mid b a b (by omega) (Nat.le_refl _) (by rw [HL.out.2.1.1, HR.out.2.2.1]; omega) HG.out.2.1)), halves (by rw [HR.out.2.2.1]; omega) (by omega) hp.2.2.2.2.2.2.2.2 HL.out.2.1 HL.out.2.2 HG.out.2.1 HG.out.2.2⟩
        ·have HG := Lib.hid (show SR w0 k d2 _ ∧ PermIn mid b d2 d2 ∧ SortedIn St.lt mid b d2 from ⟨HL.out.1, permIn_refl _ mid b, by have q := HF2.out.1; rw [show e = b by have := HCU.out.1.eb; omega] at q; exact q⟩)
         clear hs2
         go_wp2
         go_end0
         have hb := HB.out
         have hp := HP.out
         exact ⟨rfl, d2, HG.out.1, permIn_trans _ _ _ a b HR.out.2.2 (permIn_trans _ _ _ a b (permIn_mono _ _ a mid a b (Nat.le_refl _) (by omega) (by rw [HR.out.2.2.1]; omega) HL.out.2.1) (permIn_mono _ _ mid b a b (by omega) (Nat.le_refl _) (by rw [HL.out.2.1.1, HR.out.2.2.1]; omega) HG.out.2.1)), halves (by rw [HR.out.2.2.1]; omega) (by omega) hp.2.2.2.2.2.2.2.2 HL.out.2.1 HL.out.2.2 HG.out.2.1 HG.out.2.2⟩
       ·have HG := Lib.hid (show SR w0 k d2 _ ∧ PermIn mid b d2 d2 ∧ SortedIn St.lt mid b d2 from ⟨HL.out.1, permIn_refl _ mid b, by have q := HF2.out.2; rw [show e = mid by have := HP.out; omega] at q; exact q⟩)
        clear hs2
        go_wp2
        go_end0
        have hb := HB.out
        have hp := HP.out
        exact ⟨rfl, d2, HG.out.1, permIn_trans _ _ _ a b HR.out.2.2 (permIn_trans _ _ _ a b (permIn_mono _ _ a mid a b (Nat.le_refl _) (by omega) (by rw [HR.out.2.2.1]; omega) HL.out.2.1) (permIn_mono _ _ mid b a b (by omega) (Nat.le_refl _) (by rw [HL.out.2.1.1, HR.out.2.2.1]; omega) HG.out.2.1)), halves (by rw [HR.out.2.2.1]; omega) (by omega) hp.2.2.2.2.2.2.2.2 HL.out.2.1 HL.out.2.2 HG.out.2.1 HG.out.2.2⟩
      ·have HL := Lib.hid (show SR w0 k d _ ∧ PermIn a mid d d ∧ SortedIn St.lt a mid d from ⟨HR.out.1, permIn_refl _ a mid, by have q := HP.out.2.2.2.2.1; rw [show i = mid by omega] at q; exact q⟩)
       clear hs1 hl1 hl2
       have hs2 : d.size = z := HL.out.2.1.1.trans (HR.out.2.2.1.trans HB.out.2.2.2.2)
       have HF2 := Lib.hid (And.intro (sorted_far HP.out.2.2.2.2.2.2.1 HL.out.2.1 (.inr (Nat.le_refl _))) (sorted_far HP.out.2.2.2.2.2.2.2.1 HL.out.2.1 (.inr (by have := HP.out; omega))))
       by_cases hv1 : mid < e
       ·by_cases hv2 : e < b
        ·have HG0 := Lib.hid (HIH.out mid e b d _ (by have := HB.out; have := HP.out; omega) HL.out.1 hs2 hv1 hv2 HB.out.2.2.1 HF2.out.1 HF2.out.2)
         clear hs2
         go_wp2_with fail
         refine HG0.out.mono ?_
         rintro e3 w3 ⟨rfl, d3, S3, P3, Q3⟩
         have HG := Lib.hid (show SR w0 k d3 w3 ∧ PermIn mid b d d3 ∧ SortedIn St.lt mid b d3 from ⟨S3, P3, Q3⟩)
         clear S3 P3 Q3 HG0
         go_wp2
         go_end0
         have hb := HB.out
         have hp := HP.out
         exact ⟨rfl, d3, HG.out.1, permIn_trans _ _ _ a b HR.out.2.2 (permIn_trans _ _ _ a b (permIn_mono _ _ a mid a b (Nat.le_refl _) (by omega) (by rw [HR.out.2.2.1]; omega) HL.out.2.1) (permIn_mono _ _ mid b a b (by omega) (Nat.le_refl _) (by rw [HL.out.2.1.1, HR.out.2.2.1]; omega) HG.out.2.1)), halves (by rw [HR.out.2.2.1]; omega) (by omega) hp.2.2.2.2.2.2.2.2 HL.out.2.1 HL.out.2.2 HG.out.2.1 HG.out.2.2⟩
        ·have HG := Lib.hid (show SR w0 k d _ ∧ PermIn mid b d d ∧ SortedIn St.lt mid b d from ⟨HL.out.1, permIn_refl _ mid b, by have q := HF2.out.1; rw [show e = b by have := HCU.out.1.eb; omega] at q; exact q⟩)
         clear hs2
         go_wp2
         go_end0
         have hb := HB.out
         have hp := HP.out
         exact ⟨rfl, d, HG.out.1, permIn_trans _ _ _ a b HR.out.2.2 (permIn_trans _ _ _ a b (permIn_mono _ _ a mid a b (Nat.le_refl _) (by omega) (by rw [HR.out.2.2.1]; omega) HL.out.2.1) (permIn_mono _ _ mid b a b (by omega) (Nat.le_refl _) (by rw [HL.out.2.1.1, HR.out.2.2.1]; omega) HG.out.2.1)), halves (by rw [HR.out.2.2.1]; omega) (by omega) hp.2.2.2.2.2.2.2.2 HL.out.2.1 HL.out.2.2 HG.out.2.1 HG.out.2.2⟩
       ·have HG := Lib.hid (show SR w0 k d _ ∧ PermIn mid b d d ∧ SortedIn St.lt mid b d from ⟨HL.out.1, permIn_refl _ mid b, by have q := HF2.out.2; rw [show e = mid by have := HP.out; omega] at q; exact q⟩)
        clear hs2
        go_wp2
        go_end0
        have hb := HB.out
        have hp := HP.out
        exact ⟨rfl, d, HG.out.1, permIn_trans _ _ _ a b HR.out.2.2 (permIn_trans _ _ _ a b (permIn_mono _ _ a mid a b (Nat.le_refl _) (by omega) (by rw [HR.out.2.2.1]; omega) HL.out.2.1) (permIn_mono _ _ mid b a b (by omega) (Nat.le_refl _) (by rw [HL.out.2.1.1, HR.out.2.2.1]; omega) HG.out.2.1)), halves (by rw [HR.out.2.2.1]; omega) (by omega) hp.2.2.2.2.2.2.2.2 HL.out.2.1 HL.out.2.2 HG.out.2.1 HG.out.2.2⟩
     ·have HL := Lib.hid (show SR w0 k d _ ∧ PermIn a mid d d ∧ SortedIn St.lt a mid d from ⟨HR.out.1, permIn_refl _ a mid, by have q := HP.out.2.2.2.2.2.1; rw [show i = a by have := HCU.out.1.as; omega] at q; exact q⟩)
      clear hs1 hl1 hl2
      have hs2 : d.size = z := HL.out.2.1.1.trans (HR.out.2.2.1.trans HB.out.2.2.2.2)
      have HF2 := Lib.hid (And.intro (sorted_far HP.out.2.2.2.2.2.2.1 HL.out.2.1 (.inr (Nat.le_refl _))) (sorted_far HP.out.2.2.2.2.2.2.2.1 HL.out.2.1 (.inr (by have := HP.out; omega))))
      by_cases hv1 : mid < e
      ·by_cases hv2 : e < b
       ·have HG0 := Lib.hid (HIH.out mid e b d _ (by have := HB.out; have := HP.out; omega) HL.out.1 hs2 hv1 hv2 HB.out.2.2.1 HF2.out.1 HF2.out.2)
        clear hs2
        go_wp2_with fail
        refine HG0.out.mono ?_
        rintro e3 w3 ⟨rfl, d3, S3, P3, Q3⟩
        have HG := Lib.hid (show SR w0 k d3 w3 ∧ PermIn mid b d d3 ∧ SortedIn St.lt mid b d3 from ⟨S3, P3, Q3⟩)
        clear S3 P3 Q3 HG0
        go_wp2
        go_end0
        have hb := HB.out
        have hp := HP.out
        exact ⟨rfl, d3, HG.out.1, permIn_trans _ _ _ a b HR.out.2.2 (permIn_trans _ _ _ a b (permIn_mono _ _ a mid a b (Nat.le_refl _) (by omega) (by rw [HR.out.2.2.1]; omega) HL.out.2.1) (permIn_mono _ _ mid b a b (by omega) (Nat.le_refl _) (by rw [HL.out.2.1.1, HR.out.2.2.1]; omega) HG.out.2.1)), halves (by rw [HR.out.2.2.1]; omega) (by omega) hp.2.2.2.2.2.2.2.2 HL.out.2.1 HL.out.2.2 HG.out.2.1 HG.out.2.2⟩
       ·have HG := Lib.hid (show SR w0 k d _ ∧ PermIn mid b d d ∧ SortedIn St.lt mid b d from ⟨HL.out.1, permIn_refl _ mid b, by have q := HF2.out.1; rw [show e = b by have := HCU.out.1.eb; omega] at q; exact q⟩)
        clear hs2
        go_wp2
        go_end0
        have hb := HB.out
        have hp := HP.out
        exact ⟨rfl, d, HG.out.1, permIn_trans _ _ _ a b HR.out.2.2 (permIn_trans _ _ _ a b (permIn_mono _ _ a mid a b (Nat.le_refl _) (by omega) (by rw [HR.out.2.2.1]; omega) HL.out.2.1) (permIn_mono _ _ mid b a b (by omega) (Nat.le_refl _) (by rw [HL.out.2.1.1, HR.out.2.2.1]; omega) HG.out.2.1)), halves (by rw [HR.out.2.2.1]; omega) (by omega) hp.2.2.2.2.2.2.2.2 HL.out.2.1 HL.out.2.2 HG.out.2.1 HG.out.2.2⟩
      ·have HG := Lib.hid (show SR w0 k d _ ∧ PermIn mid b d d ∧ SortedIn St.lt mid b d from ⟨HL.out.1, permIn_refl _ mid b, by have q := HF2.out.2; rw [show e = mid by have := HP.out; omega] at q; exact q⟩)
       clear hs2
       go_wp2
       go_end0
       have hb := HB.out
       have hp := HP.out
       exact ⟨rfl, d, HG.out.1, permIn_trans _ _ _ a b HR.out.2.2 (permIn_trans _ _ _ a b (permIn_mono _ _ a mid a b (Nat.le_refl _) (by omega) (by rw [HR.out.2.2.1]; omega) HL.out.2.1) (permIn_mono _ _ mid b a b (by omega) (Nat.le_refl _) (by rw [HL.out.2.1.1, HR.out.2.2.1]; omega) HG.out.2.1)), halves (by rw [HR.out.2.2.1]; omega) (by omega) hp.2.2.2.2.2.2.2.2 HL.out.2.1 HL.out.2.2 HG.out.2.1 HG.out.2.2⟩
   ·have HR := Lib.hid (show SR w0 k d wr ∧ Rot i m e d d ∧ PermIn a b d d from ⟨HZ.out, by rw [show i = m by omega]; exact Rot.nil1 m e d, permIn_refl d a b⟩)
    clear hb hn he hsm hme HZ
    have hp := halves_in swo ⟨HB.out.1, HB.out.2.1⟩ HN.out.1.symm HCU.out.2 HCU.out.1 H1.out H2.out HR.out.2.1
    have HP := Lib.hid hp
    have hl1 := hp.1
    have hl2 := hp.2.1
    clear hp
    have hs1 : d.size = z := HR.out.2.2.1.trans HB.out.2.2.2.2
    by_cases hq1 : a < i
    ·by_cases hq2 : i < mid
     ·have HL0 := Lib.hid (HIH.out a i mid d _ (by have := HB.out; have := HP.out; omega) HR.out.1 hs1 hq1 hq2 (by have := HB.out; have := HP.out; omega) HP.out.2.2.2.2.1 HP.out.2.2.2.2.2.1)
      clear hs1 hl1 hl2
      go_wp2_with fail
      refine HL0.out.mono ?_
      rintro e2 w2 ⟨rfl, d2, S2, P2, Q2⟩
      have HL := Lib.hid (show SR w0 k d2 w2 ∧ PermIn a mid d d2 ∧ SortedIn St.lt a mid d2 from ⟨S2, P2, Q2⟩)
      clear S2 P2 Q2 HL0
      have hs2 : d2.size = z := HL.out.2.1.1.trans (HR.out.2.2.1.trans HB.out.2.2.2.2)
      have HF2 := Lib.hid (And.intro (sorted_far HP.out.2.2.2.2.2.2.1 HL.out.2.1 (.inr (Nat.le_refl _))) (sorted_far HP.out.2.2.2.2.2.2.2.1 HL.out.2.1 (.inr (by have := HP.out; omega))))
      by_cases hv1 : mid < e
      ·by_cases hv2 : e < b
       ·have HG0 := Lib.hid (HIH.out mid e b d2 _ (by have := HB.out; have := HP.out; omega) HL.out.1 hs2 hv1 hv2 HB.out.2.2.1 HF2.out.1 HF2.out.2)
        clear hs2
        go_wp2_with fail
        refine HG0.out.mono ?_
        rintro e3 w3 ⟨rfl, d3, S3, P3, Q3⟩
        have HG := Lib.hid (show SR w0 k d3 w3 ∧ PermIn mid b d2 d3 ∧ SortedIn St.lt mid b d3 from ⟨S3, P3, Q3⟩)
        clear S3 P3 Q3 HG0
        go_wp2
        go_end0
        have hb := HB.out
        have hp := HP.out
        exact ⟨rfl, d3, HG.out.1, permIn_trans _ _ _ a b HR.out.2.2 (permIn_trans _ _ _ a b (permIn_mono _ _ a mid a b (Nat.le_refl _) (by omega) (by rw [HR.out.2.2.1]; omega) HL.out.2.1) (permIn_mono _ _ mid b a b (by omega) (Nat.le_refl _) (by rw [HL.out.2.1.1, HR.out.2.2.1]; omega) HG.out.2.1)), halves (by rw [HR.out.2.2.1]; omega) (by omega) hp.2.2.2.2.2.2.2.2 HL.out.2.1 HL.out.2.2 HG.out.2.1 HG.out.2.2⟩
       ·have HG := Lib.hid (show SR w0 k d2 _ ∧ PermIn mid b d2 d2 ∧ SortedIn St.lt mid b d2 from ⟨HL.out.1, permIn_refl _ mid b, by have q := HF2.out.1; rw [show e = b by have := HCU.out.1.eb; omega] at q; exact q⟩)
        clear hs2
        go_wp2
        go_end0
        have hb := HB.out
        have hp := HP.out
        exact ⟨rfl, d2, HG.out.1, permIn_trans _ _ _ a b HR.out.2.2 (permIn_trans _ _ _ a b (permIn_mono _ _ a mid a b (Nat.le_refl _) (by omega) (by rw [HR.out.2.2.1]; omega) HL.out.2.1) (permIn_mono _ _ mid b a b (by omega) (Nat.le_refl _) (by rw [HL.out.2.1.1, HR.out.2.2.1]; omega) HG.out.2.1)), halves (by rw [HR.out.2.2.1]; omega) (by omega) hp.2.2.2.2.2.2.2.2 HL.out.2.1 HL.out.2.2 HG.out.2.1 HG.out.2.2⟩
      ·have HG := Lib.hid (show SR w0 k d2 _ ∧ PermIn mid b d2 d2 ∧ SortedIn St.lt mid b d2 from ⟨HL.out.1, permIn_refl _ mid b, by have q := HF2.out.2; rw [show e = mid by have := HP.out; omega] at q; exact q⟩)
       clear hs2
       go_wp2
       go_end0
       have hb := HB.out
       have hp := HP.out
       exact ⟨rfl, d2, HG.out.1, permIn_trans _ _ _ a b HR.out.2.2 (permIn_trans _ _ _ a b (permIn_mono _ _ a mid a b (Nat.le_refl _) (by omega) (by rw [HR.out.2.2.1]; omega) HL.out.2.1) (permIn_mono _ _ mid b a b (by omega) (Nat.le_refl _) (by rw [HL.out.2.1.1, HR.out.2.2.1]; omega) HG.out.2.1)), halves (by rw [HR.out.2.2.1]; omega) (by omega) hp.2.2.2.2.2.2.2.2 HL.out.2.1 HL.out.2.2 HG.out.2.1 HG.out.2.2⟩
     ·have HL := Lib.hid (show SR w0 k d _ ∧ PermIn a mid d d ∧ SortedIn St.lt a mid d from ⟨HR.out.1, permIn_refl _ a mid, by have q := HP.out.2.2.2.2.1; rw [show i = mid by omega] at q; exact q⟩)
      clear hs1 hl1 hl2
      have hs2 : d.size = z := HL.out.2.1.1.trans (HR.out.2.2.1.trans HB.out.2.2.2.2)
      have HF2 := Lib.hid (And.intro (sorted_far HP.out.2.2.2.2.2.2.1 HL.out.2.1 (.inr (Nat.le_refl _))) (sorted_far HP.out.2.2.2.2.2.2.2.1 HL.out.2.1 (.inr (by have := HP.out; omega))))
      by_cases hv1 : mid < e
      ·by_cases hv2 : e < b
       ·have HG0 := Lib.hid (HIH.out mid e b d _ (by have := HB.out; have := HP.out; omega) HL.out.1 hs2 hv1 hv2 HB.out.2.2.1 HF2.out.1 HF2.out.2)
        clear hs2
        go_wp2_with fail
        refine HG0.out.mono ?_
        rintro e3 w3 ⟨rfl, d3, S3, P3, Q3⟩
        have HG := Lib.hid (show SR w0 k d3 w3 ∧ PermIn mid b d d3 ∧ SortedIn St.lt mid b d3 from ⟨S3, P3, Q3⟩)
        clear S3 P3 Q3 HG0
        go_wp2
        go_end0
        have hb := HB.out
        have hp := HP.out
        exact ⟨rfl, d3, HG.out.1, permIn_trans _ _ _ a b HR.out.2.2 (permIn_trans _ _ _ a b (permIn_mono _ _ a mid a b (Nat.le_refl _) (by omega) (by rw [HR.out.2.2.1]; omega) HL.out.2.1) (permIn_mono _ _ mid b a b (by omega) (Nat.le_refl _) (by rw [HL.out.2.1.1, HR.out.2.2.1]; omega) HG.out.2.1)), halves (by rw [HR.out.2.2.1]; omega) (by omega) hp.2.2.2.2.2.2.2.2 HL.out.2.1 HL.out.2.2 HG.out.2.1 HG.out.2.2⟩
       ·have HG := Lib.hid (show SR w0 k d _ ∧ PermIn mid b d d ∧ SortedIn St.lt mid b d from ⟨HL.out.1, permIn_refl _ mid b, by have q := HF2.out.1; rw [show e = b by have := HCU.out.1.eb; omega] at q; exact q⟩)
        clear hs2
        go_wp2
        go_end0
        have hb := HB.out
        have hp := HP.out
        exact ⟨rfl, d, HG.out.1, permIn_trans _ _ _ a b HR.out.2.2 (permIn_trans _ _ _ a b (permIn_mono _ _ a mid a b (Nat.le_refl _) (by omega) (by rw [HR.out.2.2.1]; omega) HL.out.2.1) (permIn_mono _ _ mid b a b (by omega) (Nat.le_refl _) (by rw [HL.out.2.1.1, HR.out.2.2.1]; omega) HG.out.2.1)), halves (by rw [HR.out.2.2.1]; omega) (by omega) hp.2.2.2.2.2.2.2.2 HL.out.2.1 HL.out.2.2 HG.out.2.1 HG.out.2.2⟩
      ·have HG := Lib.hid (show SR w0 k d _ ∧ PermIn mid b d d ∧ SortedIn St.lt mid b d from ⟨HL.out.1, permIn_refl _ mid b, by have q := HF2.out.2; rw [show e = mid by have := HP.out; omega] at q; exact q⟩)
       clear hs2
       go_wp2
       go_end0
       have hb := HB.out
       have hp := HP.out
       exact ⟨rfl, d, HG.out.1, permIn_trans _ _ _ a b HR.out.2.2 (permIn_trans _ _ _ a b (permIn_mono _ _ a mid a b (Nat.le_refl _) (by omega) (by rw [HR.out.2.2.1]; omega) HL.out.2.1) (permIn_mono _ _ mid b a b (by omega) (Nat.le_refl _) (by rw [HL.out.2.1.1, HR.out.2.2.1]; omega) HG.out.2.1)), halves (by rw [HR.out.2.2.1]; omega) (by omega) hp.2.2.2.2.2.2.2.2 HL.out.2.1 HL.out.2.2 HG.out.2.1 HG.out.2.2⟩
    ·have HL := Lib.hid (show SR w0 k d _ ∧ PermIn a mid d d ∧ SortedIn St.lt a mid d from ⟨HR.out.1, permIn_refl _ a mid, by have q := HP.out.2.2.2.2.2.1; rw [show i = a by have := HCU.out.1.as; omega] at q; exact q⟩)
     clear hs1 hl1 hl2
     have hs2 : d.size = z := HL.out.2.1.1.trans (HR.out.2.2.1.trans HB.out.2.2.2.2)
     have HF2 := Lib.hid (And.intro (sorted_far HP.out.2.2.2.2.2.2.1 HL.out.2.1 (.inr (Nat.le_refl _))) (sorted_far HP.out.2.2.2.2.2.2.2.1 HL.out.2.1 (.inr (by have := HP.out; omega))))
     by_cases hv1 : mid < e
     ·by_cases hv2 : e < b
      ·have HG0 := Lib.hid (HIH.out mid e b d _ (by have := HB.out; have := HP.out; omega) HL.out.1 hs2 hv1 hv2 HB.out.2.2.1 HF2.out.1 HF2.out.2)
       clear hs2
       go_wp2_with fail
       refine HG0.out.mono ?_
       rintro e3 w3 ⟨rfl, d3, S3, P3, Q3⟩
       have HG := Lib.hid (show SR w0 k d3 w3 ∧ PermIn mid b d d3 ∧ SortedIn St.lt mid b d3 from ⟨S3, P3, Q3⟩)
       clear S3 P3 Q3 HG0
       go_wp2
       go_end0
       have hb := HB.out
       have hp := HP.out
       exact ⟨rfl, d3, HG.out.1, permIn_trans _ _ _ a b HR.out.2.2 (permIn_trans _ _ _ a b (permIn_mono _ _ a mid a b (Nat.le_refl _) (by omega) (by rw [HR.out.2.2.1]; omega) HL.out.2.1) (permIn_mono _ _ mid b a b (by omega) (Nat.le_refl _) (by rw [HL.out.2.1.1, HR.out.2.2.1]; omega) HG.out.2.1)), halves (by rw [HR.out.2.2.1]; omega) (by omega) hp.2.2.2.2.2.2.2.2 HL.out.2.1 HL.out.2.2 HG.out.2.1 HG.out.2.2⟩
      ·have HG := Lib.hid (show SR w0 k d _ ∧ PermIn mid b d d ∧ SortedIn St.lt mid b d from ⟨HL.out.1, permIn_refl _ mid b, by have q := HF2.out.1; rw [show e = b by have := HCU.out.1.eb; omega] at q; exact q⟩)
       clear hs2
       go_wp2
       go_end0
       have hb := HB.out
       have hp := HP.out
       exact ⟨rfl, d, HG.out.1, permIn_trans _ _ _ a b HR.out.2.2 (permIn_trans _ _ _ a b (permIn_mono _ _ a mid a b (Nat.le_refl _) (by omega) (by rw [HR.out.2.2.1]; omega) HL.out.2.1) (permIn_mono _ _ mid b a b (by omega) (Nat.le_refl _) (by rw [HL.out.2.1.1, HR.out.2.2.1]; omega) HG.out.2.1)), halves (by rw [HR.out.2.2.1]; omega) (by omega) hp.2.2.2.2.2.2.2.2 HL.out.2.1 HL.out.2.2 HG.out.2.1 HG.out.2.2⟩
     ·have HG := Lib.hid (show SR w0 k d _ ∧ PermIn mid b d d ∧ SortedIn St.lt mid b d from ⟨HL.out.1, permIn_refl _ mid b, by have q := HF2.out.2; rw [show e = mid by have := HP.out; omega] at q; exact q⟩)
      clear hs2
      go_wp2
      go_end0
      have hb := HB.out
      have hp := HP.out
      exact ⟨rfl, d, HG.out.1, permIn_trans _ _ _ a b HR.out.2.2 (permIn_trans _ _ _ a b (permIn_mono _ _ a mid a b (Nat.le_refl _) (by omega) (by rw [HR.out.2.2.1]; omega) HL.out.2.1) (permIn_mono _ _ mid b a b (by omega) (Nat.le_refl _) (by rw [HL.out.2.1.1, HR.out.2.2.1]; omega) HG.out.2.1)), halves (by rw [HR.out.2.2.1]; omega) (by omega) hp.2.2.2.2.2.2.2.2 HL.out.2.1 HL.out.2.2 HG.out.2.1 HG.out.2.2⟩
set_option maxRecDepth 100000 in
set_option maxHeartbeats 8000000 in
theorem sym_left (w0 w : World) (k cap a m b z : Nat) (d : Array Sh) (S : SR w0 k d w) (hz : d.size = z) (ham : a < m) (hmb : m < b) (hb : b ≤ z) (hsz : z ≤ 5000) (h1 : SortedIn St.lt a m d) (h2 : SortedIn St.lt m b d) (mid nn : Nat) (hmid : (a + b) / 2 = mid) (hnn : mid + m = nn) (hway : m ≤ mid) (hma : m ≠ a + 1) (hbm : b ≠ m + 1) (IH : ∀ (a' m' b' : Nat) (d' : Array Sh) (w' : World), b' - a' < b - a → SR w0 k d' w' → d'.size = z → a' < m' → m' < b' → b' ≤ z → SortedIn St.lt a' m' d' → SortedIn St.lt m' b' d' →
      Calls Tryd.prog 117 #[.slice (some ⟨k, 0, none⟩) z cap, .int .i64 a', .int .i64 m', .int .i64 b', fv] w' fun e w2 => e = .returned (.tuple #[]) ∧ ∃ d2, SR w0 k d2 w2 ∧ PermIn a' b' d' d2 ∧ SortedIn St.lt a' b' d2) :
  Calls Tryd.prog 117 #[.slice (some ⟨k, 0, none⟩) z cap, .int .i64 a, .int .i64 m, .int .i64 b, fv] w fun e w' => e = .returned (.tuple #[]) ∧ ∃ d', SR w0 k d' w' ∧ PermIn a b d d' ∧ SortedIn St.lt a b d' := by
 have S0 := Lib.hid S
 have HB := Lib.hid (And.intro ham (And.intro hmb (And.intro hb (And.intro hsz hz))))
 have H1 := Lib.hid h1
 have H2 := Lib.hid h2
 have HIH := Lib.hid IH
 obtain ⟨ma, hma2⟩ : ∃ x, m - a = x := ⟨_, rfl⟩
 obtain ⟨mb, hmb2⟩ : ∃ x, b - m = x := ⟨_, rfl⟩
 obtain ⟨pp, hpp⟩ : ∃ x, nn - 1 = x := ⟨_, rfl⟩
 have HN := Lib.hid (And.intro hmid (And.intro hnn (And.intro hpp hway)))
 have r0 : wrap64 ((m : Int) - (a : Int)) = (ma : Int) := by unfold wrap64; omega
 have r1 : wrap64 ((b : Int) - (m : Int)) = (mb : Int) := by clear r0; unfold wrap64; omega
 have r2 : wrap64 (IntKind.u64.wrap (wrap64 ((a : Int) + (b : Int))) / 2) = (mid : Int) := by clear r0 r1; rw [mid_w a b (by omega), hmid]
 have r3 : wrap64 ((mid : Int) + (m : Int)) = (nn : Int) := by clear r0 r1 r2; unfold wrap64; omega
 have r4 : wrap64 ((nn : Int) - 1) = (pp : Int) := by clear r0 r1 r2 r3; unfold wrap64; omega
 have RQ := Lib.hid (And.intro r0 (And.intro r1 (And.intro r2 (And.intro r3 r4))))
 clear r0 r1 r2 r3 r4
 have hwD : decide (mid < m) = false := decide_eq_false (by omega)
 have q0 : ¬ (ma : Int) = 1 := by omega
 have q2 : ((ma : Int) == 1) = false := by simpa using q0
 have q3 : ¬ (mb : Int) = 1 := by omega
 have q4 : ((mb : Int) == 1) = false := by simpa using q3
 clear S hz ham hmb hb hsz h1 h2 hma2 hmb2 hpp hbm IH hmid hnn hma
 have r0 := RQ.out.1
 have r1 := RQ.out.2.1
 have r2 := RQ.out.2.2.1
 have r3 := RQ.out.2.2.2.1
 have r4 := RQ.out.2.2.2.2
 go_enter Tryd.func117, Tryd.ntmps117
 go_wp2_with fail
 simp only [r2, r3, r4, hwD]
 clear hwD
 clear q0 q2 q3 q4 RQ r0 r1 r2 r3 r4
 go_loopg [20, 21] (b + 1) (fun kq v10 v11 wr => ∃ (i j : Nat), v10 = .int .i64 (i : Int) ∧ v11 = .int .i64 (j : Int) ∧ Aside0 (a ≤ i ∧ i ≤ j ∧ j ≤ m ∧ j - i + 1 ≤ kq) ∧ Aside0 (SR w0 k d wr ∧ (∀ h, a ≤ h → h < i → St.lt d[pp - h]! d[h]! = false) ∧ (∀ h, j ≤ h → h < m → St.lt d[pp - h]! d[h]! = true)))
 case atStart => exact ⟨a, m, rfl, rfl, ⟨by have := HB.out; have := HN.out; omega⟩, ⟨S0.out, fun h q1 q2 => by omega, fun h q1 q2 => by omega⟩⟩
 case round =>
  clear S0
  obtain ⟨i, j, rfl, rfl, HK, HS⟩ := hrel
  have hb := HB.out
  have hk := HK.out
  have hn := HN.out
  by_cases hij : i < j
  ·obtain ⟨k1, rfl⟩ : ∃ k1, gk = k1 + 1 := ⟨gk - 1, by omega⟩
   obtain ⟨h, hh⟩ : ∃ h, (i + j) / 2 = h := ⟨_, rfl⟩
   have hih : i ≤ h ∧ h < j := by omega
   obtain ⟨u, hu⟩ : ∃ u, pp - h = u := ⟨_, rfl⟩
   obtain ⟨su, hsu⟩ : ∃ s, d[u]! = s := ⟨_, rfl⟩
   obtain ⟨sv, hsv⟩ : ∃ s, d[h]! = s := ⟨_, rfl⟩
   have hud : u < d.size := by omega
   have hvd : h < d.size := by omega
   have bu := HS.out.1.bd u hud
   have bv := HS.out.1.bd h hvd
   rw [hsu] at bu
   rw [hsv] at bv
   have HC := Lib.hid (fun w => cmp_is su sv w bu bv)
   have u0 : ∀ V : World, SR w0 k d V → V.cell? ⟨k, u * 3, none⟩ = some (.int .i64 su.q) := fun V h => by have q := (h.cell hud).1; rw [hsu] at q; exact q
   have u1 : ∀ V : World, SR w0 k d V → V.cell? ⟨k, u * 3 + 1, none⟩ = some (.int .i64 su.r) := fun V h => by have q := (h.cell hud).2.1; rw [hsu] at q; exact q
   have u2 : ∀ V : World, SR w0 k d V → V.cell? ⟨k, u * 3 + 2, none⟩ = some (.int .i64 su.p) := fun V h => by have q := (h.cell hud).2.2; rw [hsu] at q; exact q
   have v0 : ∀ V : World, SR w0 k d V → V.cell? ⟨k, h * 3, none⟩ = some (.int .i64 sv.q) := fun V h => by have q := (h.cell hvd).1; rw [hsv] at q; exact q
   have v1 : ∀ V : World, SR w0 k d V → V.cell? ⟨k, h * 3 + 1, none⟩ = some (.int .i64 sv.r) := fun V h => by have q := (h.cell hvd).2.1; rw [hsv] at q; exact q
   have v2 : ∀ V : World, SR w0 k d V → V.cell? ⟨k, h * 3 + 2, none⟩ = some (.int .i64 sv.p) := fun V h => by have q := (h.cell hvd).2.2; rw [hsv] at q; exact q
   have EH := Lib.hid (show wrap64 (IntKind.u64.wrap (wrap64 ((i : Int) + (j : Int))) / 2) = (h : Int) by rw [mid_w i j (by omega), hh])
   have R7 := Lib.hid (show wrap64 ((pp : Int) - (h : Int)) = (u : Int) by unfold wrap64; omega)
   have th : ((h : Int)).toNat = h := by omega
   have ph : ((0 : Int) ≤ (h : Int)) = True := eq_true (by omega)
   have lh : ((h : Int) < (z : Int)) = True := eq_true (by omega)
   have tu : ((u : Int)).toNat = u := by omega
   have pu : ((0 : Int) ≤ (u : Int)) = True := eq_true (by omega)
   have lu : ((u : Int) < (z : Int)) = True := eq_true (by omega)
   have HU := Lib.hid hu
   clear hb hk hn hu
   have r7 := R7.out
   have r9 : IntKind.i64.wrap ((pp : Int) - (h : Int)) = (u : Int) := (Go.Proofs.YtgceecnlgjmghaaDoorW.PrintLast.i64_w _).trans R7.out
   go_upto_region 35 with fail
   rw [EH.out]
   clear hh
   by_cases hlt : cmpV su sv < 0
   ·have c1 : decide (cmpV su sv < 0) = true := decide_eq_true hlt
    have KD := Lib.hid HS.out.1.drew
    have KW := Lib.hid HS.out.1
    go_region_held3 (fun w' => SR w0 k d w')
      (first | with_reducible exact KD.out | with_reducible exact K5 | (go_split_ands; with_reducible (repeat (first | assumption | exact K5 | refine SR.drew ?_))))
      (first | (go_at_call 68; go_split_ands; refine (HC.out _).mono ?_; rintro e w5 ⟨rfl, B5⟩; have K5 := SR.below (by assumption) B5))
    all_goals go_wp2
    go_roundg k1
    case measure => omega
    case rel =>
     have hb := HB.out
     have hk := HK.out
     have hn := HN.out
     have hu := HU.out
     clear r7 r9
     refine ⟨i, h, rfl, rfl, ⟨by omega⟩, ⟨K5, HS.out.2.1, fun g q1 q2 => ?_⟩⟩
     have hl : St.lt d[pp - h]! d[h]! = true := by rw [hu, hsu, hsv, lt_def]; exact c1
     exact mono_yes H1.out H2.out (by omega) q1 (by omega) (by omega) (by omega) hl
   ·have c1 : decide (cmpV su sv < 0) = false := decide_eq_false hlt
    have KD := Lib.hid HS.out.1.drew
    have KW := Lib.hid HS.out.1
    go_region_held3 (fun w' => SR w0 k d w')
      (first | with_reducible exact KD.out | with_reducible exact K5 | (go_split_ands; with_reducible (repeat (first | assumption | exact K5 | refine SR.drew ?_))))
      (first | (go_at_call 68; go_split_ands; refine (HC.out _).mono ?_; rintro e w5 ⟨rfl, B5⟩; have K5 := SR.below (by assumption) B5))
    have E1 := Lib.hid (show wrap64 ((h : Int) + 1) = ((h + 1 : Nat) : Int) by clear r7 r9; unfold wrap64; have := HB.out; omega)
    all_goals go_wp2
    go_roundg k1
    case measure => omega
    case rel =>
     have hb := HB.out
     have hk := HK.out
     have hn := HN.out
     have hu := HU.out
     clear r7 r9
     refine ⟨h + 1, j, by rw [E1.out], rfl, ⟨by omega⟩, ⟨K5, fun g q1 q2 => ?_, HS.out.2.2⟩⟩
     have hl : St.lt d[pp - h]! d[h]! = false := by rw [hu, hsu, hsv, lt_def]; exact c1
     exact mono_no H1.out H2.out (by omega) (by omega) (by omega) (by omega) (by omega) hl
  ·obtain rfl : i = j := by omega
   obtain ⟨e, he⟩ : ∃ e, nn - i = e := ⟨_, rfl⟩
   have R8 := Lib.hid (show wrap64 ((nn : Int) - (i : Int)) = (e : Int) by unfold wrap64; omega)
   have hcut : Cut St.lt a m b i e d := by
    refine ⟨by omega, by omega, by omega, by omega, ?_, ?_⟩
    ·by_cases q : i = a
     ·exact .inl q
     ·refine .inr (.inr ?_)
      have := HS.out.2.1 (i - 1) (by omega) (by omega)
      rw [show pp - (i - 1) = e by omega] at this
      exact this
    ·by_cases q : i = m
     ·exact .inr (.inl q)
     ·refine .inr (.inr ?_)
      have := HS.out.2.2 i (Nat.le_refl _) (by omega)
      rw [show pp - i = e - 1 by omega] at this
      exact this
   have HCU := Lib.hid (And.intro hcut (show i + e = mid + m by omega))
   have HZ := Lib.hid HS.out.1
   have hsm := hcut.sm
   have hme := hcut.me
   clear hk HS HK hcut
   have r8 := R8.out
   clear hn he hb
   go_upto_region 39 with fail
   rw [r8]
   clear r8
   have hb := HB.out
   have he : i + e = mid + m := HCU.out.2
   have hn := hb
   by_cases hr1 : i < m
   ·by_cases hr2 : m < e
    ·have HR0 := Lib.hid (fun w (h : SR w0 k d w) => rotate_is w0 w k cap i m e z d fv h hb.2.2.2.2 hr1 hr2 (by have := HCU.out.1.eb; omega) hb.2.2.2.1)
     clear hb hn he hsm hme
     go_wp2_with fail
     refine (HR0.out _ HZ.out).mono ?_
     rintro e1 w1 ⟨rfl, d1, S1, X1, P1⟩
     have HR := Lib.hid (show SR w0 k d1 w1 ∧ Rot i m e d d1 ∧ PermIn a b d d1 from ⟨S1, X1, permIn_mono d d1 i e a b HCU.out.1.as HCU.out.1.eb (by have := HB.out; omega) P1⟩)
     clear S1 X1 P1 HR0 HZ
     have hp := halves_in swo ⟨HB.out.1, HB.out.2.1⟩ HN.out.1.symm HCU.out.2 HCU.out.1 H1.out H2.out HR.out.2.1
     have HP := Lib.hid hp
     have hl1 := hp.1
     have hl2 := hp.2.1
     clear hp
     have hs1 : d1.size = z := HR.out.2.2.1.trans HB.out.2.2.2.2
     by_cases hq1 : a < i
     ·by_cases hq2 : i < mid
      ·have HL0 := Lib.hid (HIH.out a i mid d1 _ (by have := HB.out; have := HP.out; omega) HR.out.1 hs1 hq1 hq2 (by have := HB.out; have := HP.out; omega) HP.out.2.2.2.2.1 HP.out.2.2.2.2.2.1)
       clear hs1 hl1 hl2
       go_wp2_with fail
       refine HL0.out.mono ?_
       rintro e2 w2 ⟨rfl, d2, S2, P2, Q2⟩
       have HL := Lib.hid (show SR w0 k d2 w2 ∧ PermIn a mid d1 d2 ∧ SortedIn St.lt a mid d2 from ⟨S2, P2, Q2⟩)
       clear S2 P2 Q2 HL0
       have hs2 : d2.size = z := HL.out.2.1.1.trans (HR.out.2.2.1.trans HB.out.2.2.2.2)
       have HF2 := Lib.hid (And.intro (sorted_far HP.out.2.2.2.2.2.2.1 HL.out.2.1 (.inr (Nat.le_refl _))) (sorted_far HP.out.2.2.2.2.2.2.2.1 HL.out.2.1 (.inr (by have := HP.out; omega))))
       by_cases hv1 : mid < e
       ·by_cases hv2 : e < b
        ·have HG0 := Lib.hid (HIH.out mid e b d2 _ (by have := HB.out; have := HP.out; omega) HL.out.1 hs2 hv1 hv2 HB.out.2.2.1 HF2.out.1 HF2.out.2)
         clear hs2
         go_wp2_with fail
         refine HG0.out.mono ?_
         rintro e3 w3 ⟨rfl, d3, S3, P3, Q3⟩
         have HG := Lib.hid (show SR w0 k d3 w3 ∧ PermIn mid b d2 d3 ∧ SortedIn St.lt mid b d3 from ⟨S3, P3, Q3⟩)
         clear S3 P3 Q3 HG0
         go_wp2
         go_end0
         have hb := HB.out
         have hp := HP.out
         exact ⟨rfl, d3, HG.out.1, permIn_trans _ _ _ a b HR.out.2.2 (permIn_trans _ _ _ a b (permIn_mono _ _ a mid a b (Nat.le_refl _) (by omega) (by rw [HR.out.2.2.1]; omega) HL.out.2.1) (permIn_mono _ _ mid b a b (by omega) (Nat.le_refl _) (by rw [HL.out.2.1.1, HR.out.2.2.1]; omega) HG.out.2.1)), halves (by rw [HR.out.2.2.1]; omega) (by omega) hp.2.2.2.2.2.2.2.2 HL.out.2.1 HL.out.2.2 HG.out.2.1 HG.out.2.2⟩
        ·have HG := Lib.hid (show SR w0 k d2 _ ∧ PermIn mid b d2 d2 ∧ SortedIn St.lt mid b d2 from ⟨HL.out.1, permIn_refl _ mid b, by have q := HF2.out.1; rw [show e = b by have := HCU.out.1.eb; omega] at q; exact q⟩)
         clear hs2
         go_wp2
         go_end0
         have hb := HB.out
         have hp := HP.out
         exact ⟨rfl, d2, HG.out.1, permIn_trans _ _ _ a b HR.out.2.2 (permIn_trans _ _ _ a b (permIn_mono _ _ a mid a b (Nat.le_refl _) (by omega) (by rw [HR.out.2.2.1]; omega) HL.out.2.1) (permIn_mono _ _ mid b a b (by omega) (Nat.le_refl _) (by rw [HL.out.2.1.1, HR.out.2.2.1]; omega) HG.out.2.1)), halves (by rw [HR.out.2.2.1]; omega) (by omega) hp.2.2.2.2.2.2.2.2 HL.out.2.1 HL.out.2.2 HG.out.2.1 HG.out.2.2⟩
       ·have HG := Lib.hid (show SR w0 k d2 _ ∧ PermIn mid b d2 d2 ∧ SortedIn St.lt mid b d2 from ⟨HL.out.1, permIn_refl _ mid b, by have q := HF2.out.2; rw [show e = mid by have := HP.out; omega] at q; exact q⟩)
        clear hs2
        go_wp2
        go_end0
        have hb := HB.out
        have hp := HP.out
        exact ⟨rfl, d2, HG.out.1, permIn_trans _ _ _ a b HR.out.2.2 (permIn_trans _ _ _ a b (permIn_mono _ _ a mid a b (Nat.le_refl _) (by omega) (by rw [HR.out.2.2.1]; omega) HL.out.2.1) (permIn_mono _ _ mid b a b (by omega) (Nat.le_refl _) (by rw [HL.out.2.1.1, HR.out.2.2.1]; omega) HG.out.2.1)), halves (by rw [HR.out.2.2.1]; omega) (by omega) hp.2.2.2.2.2.2.2.2 HL.out.2.1 HL.out.2.2 HG.out.2.1 HG.out.2.2⟩
      ·have HL := Lib.hid (show SR w0 k d1 _ ∧ PermIn a mid d1 d1 ∧ SortedIn St.lt a mid d1 from ⟨HR.out.1, permIn_refl _ a mid, by have q := HP.out.2.2.2.2.1; rw [show i = mid by omega] at q; exact q⟩)
       clear hs1 hl1 hl2
       have hs2 : d1.size = z := HL.out.2.1.1.trans (HR.out.2.2.1.trans HB.out.2.2.2.2)
       have HF2 := Lib.hid (And.intro (sorted_far HP.out.2.2.2.2.2.2.1 HL.out.2.1 (.inr (Nat.le_refl _))) (sorted_far HP.out.2.2.2.2.2.2.2.1 HL.out.2.1 (.inr (by have := HP.out; omega))))
       by_cases hv1 : mid < e
       ·by_cases hv2 : e < b
        ·have HG0 := Lib.hid (HIH.out mid e b d1 _ (by have := HB.out; have := HP.out; omega) HL.out.1 hs2 hv1 hv2 HB.out.2.2.1 HF2.out.1 HF2.out.2)
         clear hs2
         go_wp2_with fail
         refine HG0.out.mono ?_
         rintro e3 w3 ⟨rfl, d3, S3, P3, Q3⟩
         have HG := Lib.hid (show SR w0 k d3 w3 ∧ PermIn mid b d1 d3 ∧ SortedIn St.lt mid b d3 from ⟨S3, P3, Q3⟩)
         clear S3 P3 Q3 HG0
         go_wp2
         go_end0
         have hb := HB.out
         have hp := HP.out
         exact ⟨rfl, d3, HG.out.1, permIn_trans _ _ _ a b HR.out.2.2 (permIn_trans _ _ _ a b (permIn_mono _ _ a mid a b (Nat.le_refl _) (by omega) (by rw [HR.out.2.2.1]; omega) HL.out.2.1) (permIn_mono _ _ mid b a b (by omega) (Nat.le_refl _) (by rw [HL.out.2.1.1, HR.out.2.2.1]; omega) HG.out.2.1)), halves (by rw [HR.out.2.2.1]; omega) (by omega) hp.2.2.2.2.2.2.2.2 HL.out.2.1 HL.out.2.2 HG.out.2.1 HG.out.2.2⟩
        ·have HG := Lib.hid (show SR w0 k d1 _ ∧ PermIn mid b d1 d1 ∧ SortedIn St.lt mid b d1 from ⟨HL.out.1, permIn_refl _ mid b, by have q := HF2.out.1; rw [show e = b by have := HCU.out.1.eb; omega] at q; exact q⟩)
         clear hs2
         go_wp2
         go_end0
         have hb := HB.out
         have hp := HP.out
         exact ⟨rfl, d1, HG.out.1, permIn_trans _ _ _ a b HR.out.2.2 (permIn_trans _ _ _ a b (permIn_mono _ _ a mid a b (Nat.le_refl _) (by omega) (by rw [HR.out.2.2.1]; omega) HL.out.2.1) (permIn_mono _ _ mid b a b (by omega) (Nat.le_refl _) (by rw [HL.out.2.1.1, HR.out.2.2.1]; omega) HG.out.2.1)), halves (by rw [HR.out.2.2.1]; omega) (by omega) hp.2.2.2.2.2.2.2.2 HL.out.2.1 HL.out.2.2 HG.out.2.1 HG.out.2.2⟩
       ·have HG := Lib.hid (show SR w0 k d1 _ ∧ PermIn mid b d1 d1 ∧ SortedIn St.lt mid b d1 from ⟨HL.out.1, permIn_refl _ mid b, by have q := HF2.out.2; rw [show e = mid by have := HP.out; omega] at q; exact q⟩)
        clear hs2
        go_wp2
        go_end0
        have hb := HB.out
        have hp := HP.out
        exact ⟨rfl, d1, HG.out.1, permIn_trans _ _ _ a b HR.out.2.2 (permIn_trans _ _ _ a b (permIn_mono _ _ a mid a b (Nat.le_refl _) (by omega) (by rw [HR.out.2.2.1]; omega) HL.out.2.1) (permIn_mono _ _ mid b a b (by omega) (Nat.le_refl _) (by rw [HL.out.2.1.1, HR.out.2.2.1]; omega) HG.out.2.1)), halves (by rw [HR.out.2.2.1]; omega) (by omega) hp.2.2.2.2.2.2.2.2 HL.out.2.1 HL.out.2.2 HG.out.2.1 HG.out.2.2⟩
     ·have HL := Lib.hid (show SR w0 k d1 _ ∧ PermIn a mid d1 d1 ∧ SortedIn St.lt a mid d1 from ⟨HR.out.1, permIn_refl _ a mid, by have q := HP.out.2.2.2.2.2.1; rw [show i = a by have := HCU.out.1.as; omega] at q; exact q⟩)
      clear hs1 hl1 hl2
      have hs2 : d1.size = z := HL.out.2.1.1.trans (HR.out.2.2.1.trans HB.out.2.2.2.2)
      have HF2 := Lib.hid (And.intro (sorted_far HP.out.2.2.2.2.2.2.1 HL.out.2.1 (.inr (Nat.le_refl _))) (sorted_far HP.out.2.2.2.2.2.2.2.1 HL.out.2.1 (.inr (by have := HP.out; omega))))
      by_cases hv1 : mid < e
      ·by_cases hv2 : e < b
       ·have HG0 := Lib.hid (HIH.out mid e b d1 _ (by have := HB.out; have := HP.out; omega) HL.out.1 hs2 hv1 hv2 HB.out.2.2.1 HF2.out.1 HF2.out.2)
        clear hs2
        go_wp2_with fail
        refine HG0.out.mono ?_
        rintro e3 w3 ⟨rfl, d3, S3, P3, Q3⟩
        have HG := Lib.hid (show SR w0 k d3 w3 ∧ PermIn mid b d1 d3 ∧ SortedIn St.lt mid b d3 from ⟨S3, P3, Q3⟩)
        clear S3 P3 Q3 HG0
        go_wp2
        go_end0
        have hb := HB.out
        have hp := HP.out
        exact ⟨rfl, d3, HG.out.1, permIn_trans _ _ _ a b HR.out.2.2 (permIn_trans _ _ _ a b (permIn_mono _ _ a mid a b (Nat.le_refl _) (by omega) (by rw [HR.out.2.2.1]; omega) HL.out.2.1) (permIn_mono _ _ mid b a b (by omega) (Nat.le_refl _) (by rw [HL.out.2.1.1, HR.out.2.2.1]; omega) HG.out.2.1)), halves (by rw [HR.out.2.2.1]; omega) (by omega) hp.2.2.2.2.2.2.2.2 HL.out.2.1 HL.out.2.2 HG.out.2.1 HG.out.2.2⟩
       ·have HG := Lib.hid (show SR w0 k d1 _ ∧ PermIn mid b d1 d1 ∧ SortedIn St.lt mid b d1 from ⟨HL.out.1, permIn_refl _ mid b, by have q := HF2.out.1; rw [show e = b by have := HCU.out.1.eb; omega] at q; exact q⟩)
        clear hs2
        go_wp2
        go_end0
        have hb := HB.out
        have hp := HP.out
        exact ⟨rfl, d1, HG.out.1, permIn_trans _ _ _ a b HR.out.2.2 (permIn_trans _ _ _ a b (permIn_mono _ _ a mid a b (Nat.le_refl _) (by omega) (by rw [HR.out.2.2.1]; omega) HL.out.2.1) (permIn_mono _ _ mid b a b (by omega) (Nat.le_refl _) (by rw [HL.out.2.1.1, HR.out.2.2.1]; omega) HG.out.2.1)), halves (by rw [HR.out.2.2.1]; omega) (by omega) hp.2.2.2.2.2.2.2.2 HL.out.2.1 HL.out.2.2 HG.out.2.1 HG.out.2.2⟩
      ·have HG := Lib.hid (show SR w0 k d1 _ ∧ PermIn mid b d1 d1 ∧ SortedIn St.lt mid b d1 from ⟨HL.out.1, permIn_refl _ mid b, by have q := HF2.out.2; rw [show e = mid by have := HP.out; omega] at q; exact q⟩)
       clear hs2
       go_wp2
       go_end0
       have hb := HB.out
       have hp := HP.out
       exact ⟨rfl, d1, HG.out.1, permIn_trans _ _ _ a b HR.out.2.2 (permIn_trans _ _ _ a b (permIn_mono _ _ a mid a b (Nat.le_refl _) (by omega) (by rw [HR.out.2.2.1]; omega) HL.out.2.1) (permIn_mono _ _ mid b a b (by omega) (Nat.le_refl _) (by rw [HL.out.2.1.1, HR.out.2.2.1]; omega) HG.out.2.1)), halves (by rw [HR.out.2.2.1]; omega) (by omega) hp.2.2.2.2.2.2.2.2 HL.out.2.1 HL.out.2.2 HG.out.2.1 HG.out.2.2⟩
    ·have HR := Lib.hid (show SR w0 k d wr ∧ Rot i m e d d ∧ PermIn a b d d from ⟨HZ.out, by rw [show e = m by omega]; exact Rot.nil2 i m d, permIn_refl d a b⟩)
     clear hb hn he hsm hme HZ
     have hp := halves_in swo ⟨HB.out.1, HB.out.2.1⟩ HN.out.1.symm HCU.out.2 HCU.out.1 H1.out H2.out HR.out.2.1
     have HP := Lib.hid hp
     have hl1 := hp.1
     have hl2 := hp.2.1
     clear hp
     have hs1 : d.size = z := HR.out.2.2.1.trans HB.out.2.2.2.2
     by_cases hq1 : a < i
     ·by_cases hq2 : i < mid
      ·have HL0 := Lib.hid (HIH.out a i mid d _ (by have := HB.out; have := HP.out; omega) HR.out.1 hs1 hq1 hq2 (by have := HB.out; have := HP.out; omega) HP.out.2.2.2.2.1 HP.out.2.2.2.2.2.1)
       clear hs1 hl1 hl2
       go_wp2_with fail
       refine HL0.out.mono ?_
       rintro e2 w2 ⟨rfl, d2, S2, P2, Q2⟩
       have HL := Lib.hid (show SR w0 k d2 w2 ∧ PermIn a mid d d2 ∧ SortedIn St.lt a mid d2 from ⟨S2, P2, Q2⟩)
       clear S2 P2 Q2 HL0
       have hs2 : d2.size = z := HL.out.2.1.1.trans (HR.out.2.2.1.trans HB.out.2.2.2.2)
       have HF2 := Lib.hid (And.intro (sorted_far HP.out.2.2.2.2.2.2.1 HL.out.2.1 (.inr (Nat.le_refl _))) (sorted_far HP.out.2.2.2.2.2.2.2.1 HL.out.2.1 (.inr (by have := HP.out; omega))))
       by_cases hv1 : mid < e
       ·by_cases hv2 : e < b
        ·have HG0 := Lib.hid (HIH.out mid e b d2 _ (by have := HB.out; have := HP.out; omega) HL.out.1 hs2 hv1 hv2 HB.out.2.2.1 HF2.out.1 HF2.out.2)
         clear hs2
         go_wp2_with fail
         refine HG0.out.mono ?_
         rintro e3 w3 ⟨rfl, d3, S3, P3, Q3⟩
         have HG := Lib.hid (show SR w0 k d3 w3 ∧ PermIn mid b d2 d3 ∧ SortedIn St.lt mid b d3 from ⟨S3, P3, Q3⟩)
         clear S3 P3 Q3 HG0
         go_wp2
         go_end0
         have hb := HB.out
         have hp := HP.out
         exact ⟨rfl, d3, HG.out.1, permIn_trans _ _ _ a b HR.out.2.2 (permIn_trans _ _ _ a b (permIn_mono _ _ a mid a b (Nat.le_refl _) (by omega) (by rw [HR.out.2.2.1]; omega) HL.out.2.1) (permIn_mono _ _ mid b a b (by omega) (Nat.le_refl _) (by rw [HL.out.2.1.1, HR.out.2.2.1]; omega) HG.out.2.1)), halves (by rw [HR.out.2.2.1]; omega) (by omega) hp.2.2.2.2.2.2.2.2 HL.out.2.1 HL.out.2.2 HG.out.2.1 HG.out.2.2⟩
        ·have HG := Lib.hid (show SR w0 k d2 _ ∧ PermIn mid b d2 d2 ∧ SortedIn St.lt mid b d2 from ⟨HL.out.1, permIn_refl _ mid b, by have q := HF2.out.1; rw [show e = b by have := HCU.out.1.eb; omega] at q; exact q⟩)
         clear hs2
         go_wp2
         go_end0
         have hb := HB.out
         have hp := HP.out
         exact ⟨rfl, d2, HG.out.1, permIn_trans _ _ _ a b HR.out.2.2 (permIn_trans _ _ _ a b (permIn_mono _ _ a mid a b (Nat.le_refl _) (by omega) (by rw [HR.out.2.2.1]; omega) HL.out.2.1) (permIn_mono _ _ mid b a b (by omega) (Nat.le_refl _) (by rw [HL.out.2.1.1, HR.out.2.2.1]; omega) HG.out.2.1)), halves (by rw [HR.out.2.2.1]; omega) (by omega) hp.2.2.2.2.2.2.2.2 HL.out.2.1 HL.out.2.2 HG.out.2.1 HG.out.2.2⟩
       ·have HG := Lib.hid (show SR w0 k d2 _ ∧ PermIn mid b d2 d2 ∧ SortedIn St.lt mid b d2 from ⟨HL.out.1, permIn_refl _ mid b, by have q := HF2.out.2; rw [show e = mid by have := HP.out; omega] at q; exact q⟩)
        clear hs2
        go_wp2
        go_end0
        have hb := HB.out
        have hp := HP.out
        exact ⟨rfl, d2, HG.out.1, permIn_trans _ _ _ a b HR.out.2.2 (permIn_trans _ _ _ a b (permIn_mono _ _ a mid a b (Nat.le_refl _) (by omega) (by rw [HR.out.2.2.1]; omega) HL.out.2.1) (permIn_mono _ _ mid b a b (by omega) (Nat.le_refl _) (by rw [HL.out.2.1.1, HR.out.2.2.1]; omega) HG.out.2.1)), halves (by rw [HR.out.2.2.1]; omega) (by omega) hp.2.2.2.2.2.2.2.2 HL.out.2.1 HL.out.2.2 HG.out.2.1 HG.out.2.2⟩
      ·have HL := Lib.hid (show SR w0 k d _ ∧ PermIn a mid d d ∧ SortedIn St.lt a mid d from ⟨HR.out.1, permIn_refl _ a mid, by have q := HP.out.2.2.2.2.1; rw [show i = mid by omega] at q; exact q⟩)
       clear hs1 hl1 hl2
       have hs2 : d.size = z := HL.out.2.1.1.trans (HR.out.2.2.1.trans HB.out.2.2.2.2)
       have HF2 := Lib.hid (And.intro (sorted_far HP.out.2.2.2.2.2.2.1 HL.out.2.1 (.inr (Nat.le_refl _))) (sorted_far HP.out.2.2.2.2.2.2.2.1 HL.out.2.1 (.inr (by have := HP.out; omega))))
       by_cases hv1 : mid < e
       ·by_cases hv2 : e < b
        ·have HG0 := Lib.hid (HIH.out mid e b d _ (by have := HB.out; have := HP.out; omega) HL.out.1 hs2 hv1 hv2 HB.out.2.2.1 HF2.out.1 HF2.out.2)
         clear hs2
         go_wp2_with fail
         refine HG0.out.mono ?_
         rintro e3 w3 ⟨rfl, d3, S3, P3, Q3⟩
         have HG := Lib.hid (show SR w0 k d3 w3 ∧ PermIn mid b d d3 ∧ SortedIn St.lt mid b d3 from ⟨S3, P3, Q3⟩)
         clear S3 P3 Q3 HG0
         go_wp2
         go_end0
         have hb := HB.out
         have hp := HP.out
         exact ⟨rfl, d3, HG.out.1, permIn_trans _ _ _ a b HR.out.2.2 (permIn_trans _ _ _ a b (permIn_mono _ _ a mid a b (Nat.le_refl _) (by omega) (by rw [HR.out.2.2.1]; omega) HL.out.2.1) (permIn_mono _ _ mid b a b (by omega) (Nat.le_refl _) (by rw [HL.out.2.1.1, HR.out.2.2.1]; omega) HG.out.2.1)), halves (by rw [HR.out.2.2.1]; omega) (by omega) hp.2.2.2.2.2.2.2.2 HL.out.2.1 HL.out.2.2 HG.out.2.1 HG.out.2.2⟩
        ·have HG := Lib.hid (show SR w0 k d _ ∧ PermIn mid b d d ∧ SortedIn St.lt mid b d from ⟨HL.out.1, permIn_refl _ mid b, by have q := HF2.out.1; rw [show e = b by have := HCU.out.1.eb; omega] at q; exact q⟩)
         clear hs2
         go_wp2
         go_end0
         have hb := HB.out
         have hp := HP.out
         exact ⟨rfl, d, HG.out.1, permIn_trans _ _ _ a b HR.out.2.2 (permIn_trans _ _ _ a b (permIn_mono _ _ a mid a b (Nat.le_refl _) (by omega) (by rw [HR.out.2.2.1]; omega) HL.out.2.1) (permIn_mono _ _ mid b a b (by omega) (Nat.le_refl _) (by rw [HL.out.2.1.1, HR.out.2.2.1]; omega) HG.out.2.1)), halves (by rw [HR.out.2.2.1]; omega) (by omega) hp.2.2.2.2.2.2.2.2 HL.out.2.1 HL.out.2.2 HG.out.2.1 HG.out.2.2⟩
       ·have HG := Lib.hid (show SR w0 k d _ ∧ PermIn mid b d d ∧ SortedIn St.lt mid b d from ⟨HL.out.1, permIn_refl _ mid b, by have q := HF2.out.2; rw [show e = mid by have := HP.out; omega] at q; exact q⟩)
        clear hs2
        go_wp2
        go_end0
        have hb := HB.out
        have hp := HP.out
        exact ⟨rfl, d, HG.out.1, permIn_trans _ _ _ a b HR.out.2.2 (permIn_trans _ _ _ a b (permIn_mono _ _ a mid a b (Nat.le_refl _) (by omega) (by rw [HR.out.2.2.1]; omega) HL.out.2.1) (permIn_mono _ _ mid b a b (by omega) (Nat.le_refl _) (by rw [HL.out.2.1.1, HR.out.2.2.1]; omega) HG.out.2.1)), halves (by rw [HR.out.2.2.1]; omega) (by omega) hp.2.2.2.2.2.2.2.2 HL.out.2.1 HL.out.2.2 HG.out.2.1 HG.out.2.2⟩
     ·have HL := Lib.hid (show SR w0 k d _ ∧ PermIn a mid d d ∧ SortedIn St.lt a mid d from ⟨HR.out.1, permIn_refl _ a mid, by have q := HP.out.2.2.2.2.2.1; rw [show i = a by have := HCU.out.1.as; omega] at q; exact q⟩)
      clear hs1 hl1 hl2
      have hs2 : d.size = z := HL.out.2.1.1.trans (HR.out.2.2.1.trans HB.out.2.2.2.2)
      have HF2 := Lib.hid (And.intro (sorted_far HP.out.2.2.2.2.2.2.1 HL.out.2.1 (.inr (Nat.le_refl _))) (sorted_far HP.out.2.2.2.2.2.2.2.1 HL.out.2.1 (.inr (by have := HP.out; omega))))
      by_cases hv1 : mid < e
      ·by_cases hv2 : e < b
       ·have HG0 := Lib.hid (HIH.out mid e b d _ (by have := HB.out; have := HP.out; omega) HL.out.1 hs2 hv1 hv2 HB.out.2.2.1 HF2.out.1 HF2.out.2)
        clear hs2
        go_wp2_with fail
        refine HG0.out.mono ?_
        rintro e3 w3 ⟨rfl, d3, S3, P3, Q3⟩
        have HG := Lib.hid (show SR w0 k d3 w3 ∧ PermIn mid b d d3 ∧ SortedIn St.lt mid b d3 from ⟨S3, P3, Q3⟩)
        clear S3 P3 Q3 HG0
        go_wp2
        go_end0
        have hb := HB.out
        have hp := HP.out
        exact ⟨rfl, d3, HG.out.1, permIn_trans _ _ _ a b HR.out.2.2 (permIn_trans _ _ _ a b (permIn_mono _ _ a mid a b (Nat.le_refl _) (by omega) (by rw [HR.out.2.2.1]; omega) HL.out.2.1) (permIn_mono _ _ mid b a b (by omega) (Nat.le_refl _) (by rw [HL.out.2.1.1, HR.out.2.2.1]; omega) HG.out.2.1)), halves (by rw [HR.out.2.2.1]; omega) (by omega) hp.2.2.2.2.2.2.2.2 HL.out.2.1 HL.out.2.2 HG.out.2.1 HG.out.2.2⟩
       ·have HG := Lib.hid (show SR w0 k d _ ∧ PermIn mid b d d ∧ SortedIn St.lt mid b d from ⟨HL.out.1, permIn_refl _ mid b, by have q := HF2.out.1; rw [show e = b by have := HCU.out.1.eb; omega] at q; exact q⟩)
        clear hs2
        go_wp2
        go_end0
        have hb := HB.out
        have hp := HP.out
        exact ⟨rfl, d, HG.out.1, permIn_trans _ _ _ a b HR.out.2.2 (permIn_trans _ _ _ a b (permIn_mono _ _ a mid a b (Nat.le_refl _) (by omega) (by rw [HR.out.2.2.1]; omega) HL.out.2.1) (permIn_mono _ _ mid b a b (by omega) (Nat.le_refl _) (by rw [HL.out.2.1.1, HR.out.2.2.1]; omega) HG.out.2.1)), halves (by rw [HR.out.2.2.1]; omega) (by omega) hp.2.2.2.2.2.2.2.2 HL.out.2.1 HL.out.2.2 HG.out.2.1 HG.out.2.2⟩
      ·have HG := Lib.hid (show SR w0 k d _ ∧ PermIn mid b d d ∧ SortedIn St.lt mid b d from ⟨HL.out.1, permIn_refl _ mid b, by have q := HF2.out.2; rw [show e = mid by have := HP.out; omega] at q; exact q⟩)
       clear hs2
       go_wp2
       go_end0
       have hb := HB.out
       have hp := HP.out
       exact ⟨rfl, d, HG.out.1, permIn_trans _ _ _ a b HR.out.2.2 (permIn_trans _ _ _ a b (permIn_mono _ _ a mid a b (Nat.le_refl _) (by omega) (by rw [HR.out.2.2.1]; omega) HL.out.2.1) (permIn_mono _ _ mid b a b (by omega) (Nat.le_refl _) (by rw [HL.out.2.1.1, HR.out.2.2.1]; omega) HG.out.2.1)), halves (by rw [HR.out.2.2.1]; omega) (by omega) hp.2.2.2.2.2.2.2.2 HL.out.2.1 HL.out.2.2 HG.out.2.1 HG.out.2.2⟩
   ·have HR := Lib.hid (show SR w0 k d wr ∧ Rot i m e d d ∧ PermIn a b d d from ⟨HZ.out, by rw [show i = m by omega]; exact Rot.nil1 m e d, permIn_refl d a b⟩)
    clear hb hn he hsm hme HZ
    have hp := halves_in swo ⟨HB.out.1, HB.out.2.1⟩ HN.out.1.symm HCU.out.2 HCU.out.1 H1.out H2.out HR.out.2.1
    have HP := Lib.hid hp
    have hl1 := hp.1
    have hl2 := hp.2.1
    clear hp
    have hs1 : d.size = z := HR.out.2.2.1.trans HB.out.2.2.2.2
    by_cases hq1 : a < i
    ·by_cases hq2 : i < mid
     ·have HL0 := Lib.hid (HIH.out a i mid d _ (by have := HB.out; have := HP.out; omega) HR.out.1 hs1 hq1 hq2 (by have := HB.out; have := HP.out; omega) HP.out.2.2.2.2.1 HP.out.2.2.2.2.2.1)
      clear hs1 hl1 hl2
      go_wp2_with fail
      refine HL0.out.mono ?_
      rintro e2 w2 ⟨rfl, d2, S2, P2, Q2⟩
      have HL := Lib.hid (show SR w0 k d2 w2 ∧ PermIn a mid d d2 ∧ SortedIn St.lt a mid d2 from ⟨S2, P2, Q2⟩)
      clear S2 P2 Q2 HL0
      have hs2 : d2.size = z := HL.out.2.1.1.trans (HR.out.2.2.1.trans HB.out.2.2.2.2)
      have HF2 := Lib.hid (And.intro (sorted_far HP.out.2.2.2.2.2.2.1 HL.out.2.1 (.inr (Nat.le_refl _))) (sorted_far HP.out.2.2.2.2.2.2.2.1 HL.out.2.1 (.inr (by have := HP.out; omega))))
      by_cases hv1 : mid < e
      ·by_cases hv2 : e < b
       ·have HG0 := Lib.hid (HIH.out mid e b d2 _ (by have := HB.out; have := HP.out; omega) HL.out.1 hs2 hv1 hv2 HB.out.2.2.1 HF2.out.1 HF2.out.2)
        clear hs2
        go_wp2_with fail
        refine HG0.out.mono ?_
        rintro e3 w3 ⟨rfl, d3, S3, P3, Q3⟩
        have HG := Lib.hid (show SR w0 k d3 w3 ∧ PermIn mid b d2 d3 ∧ SortedIn St.lt mid b d3 from ⟨S3, P3, Q3⟩)
        clear S3 P3 Q3 HG0
        go_wp2
        go_end0
        have hb := HB.out
        have hp := HP.out
        exact ⟨rfl, d3, HG.out.1, permIn_trans _ _ _ a b HR.out.2.2 (permIn_trans _ _ _ a b (permIn_mono _ _ a mid a b (Nat.le_refl _) (by omega) (by rw [HR.out.2.2.1]; omega) HL.out.2.1) (permIn_mono _ _ mid b a b (by omega) (Nat.le_refl _) (by rw [HL.out.2.1.1, HR.out.2.2.1]; omega) HG.out.2.1)), halves (by rw [HR.out.2.2.1]; omega) (by omega) hp.2.2.2.2.2.2.2.2 HL.out.2.1 HL.out.2.2 HG.out.2.1 HG.out.2.2⟩
       ·have HG := Lib.hid (show SR w0 k d2 _ ∧ PermIn mid b d2 d2 ∧ SortedIn St.lt mid b d2 from ⟨HL.out.1, permIn_refl _ mid b, by have q := HF2.out.1; rw [show e = b by have := HCU.out.1.eb; omega] at q; exact q⟩)
        clear hs2
        go_wp2
        go_end0
        have hb := HB.out
        have hp := HP.out
        exact ⟨rfl, d2, HG.out.1, permIn_trans _ _ _ a b HR.out.2.2 (permIn_trans _ _ _ a b (permIn_mono _ _ a mid a b (Nat.le_refl _) (by omega) (by rw [HR.out.2.2.1]; omega) HL.out.2.1) (permIn_mono _ _ mid b a b (by omega) (Nat.le_refl _) (by rw [HL.out.2.1.1, HR.out.2.2.1]; omega) HG.out.2.1)), halves (by rw [HR.out.2.2.1]; omega) (by omega) hp.2.2.2.2.2.2.2.2 HL.out.2.1 HL.out.2.2 HG.out.2.1 HG.out.2.2⟩
      ·have HG := Lib.hid (show SR w0 k d2 _ ∧ PermIn mid b d2 d2 ∧ SortedIn St.lt mid b d2 from ⟨HL.out.1, permIn_refl _ mid b, by have q := HF2.out.2; rw [show e = mid by have := HP.out; omega] at q; exact q⟩)
       clear hs2
       go_wp2
       go_end0
       have hb := HB.out
       have hp := HP.out
       exact ⟨rfl, d2, HG.out.1, permIn_trans _ _ _ a b HR.out.2.2 (permIn_trans _ _ _ a b (permIn_mono _ _ a mid a b (Nat.le_refl _) (by omega) (by rw [HR.out.2.2.1]; omega) HL.out.2.1) (permIn_mono _ _ mid b a b (by omega) (Nat.le_refl _) (by rw [HL.out.2.1.1, HR.out.2.2.1]; omega) HG.out.2.1)), halves (by rw [HR.out.2.2.1]; omega) (by omega) hp.2.2.2.2.2.2.2.2 HL.out.2.1 HL.out.2.2 HG.out.2.1 HG.out.2.2⟩
     ·have HL := Lib.hid (show SR w0 k d _ ∧ PermIn a mid d d ∧ SortedIn St.lt a mid d from ⟨HR.out.1, permIn_refl _ a mid, by have q := HP.out.2.2.2.2.1; rw [show i = mid by omega] at q; exact q⟩)
      clear hs1 hl1 hl2
      have hs2 : d.size = z := HL.out.2.1.1.trans (HR.out.2.2.1.trans HB.out.2.2.2.2)
      have HF2 := Lib.hid (And.intro (sorted_far HP.out.2.2.2.2.2.2.1 HL.out.2.1 (.inr (Nat.le_refl _))) (sorted_far HP.out.2.2.2.2.2.2.2.1 HL.out.2.1 (.inr (by have := HP.out; omega))))
      by_cases hv1 : mid < e
      ·by_cases hv2 : e < b
       ·have HG0 := Lib.hid (HIH.out mid e b d _ (by have := HB.out; have := HP.out; omega) HL.out.1 hs2 hv1 hv2 HB.out.2.2.1 HF2.out.1 HF2.out.2)
        clear hs2
        go_wp2_with fail
        refine HG0.out.mono ?_
        rintro e3 w3 ⟨rfl, d3, S3, P3, Q3⟩
        have HG := Lib.hid (show SR w0 k d3 w3 ∧ PermIn mid b d d3 ∧ SortedIn St.lt mid b d3 from ⟨S3, P3, Q3⟩)
        clear S3 P3 Q3 HG0
        go_wp2
        go_end0
        have hb := HB.out
        have hp := HP.out
        exact ⟨rfl, d3, HG.out.1, permIn_trans _ _ _ a b HR.out.2.2 (permIn_trans _ _ _ a b (permIn_mono _ _ a mid a b (Nat.le_refl _) (by omega) (by rw [HR.out.2.2.1]; omega) HL.out.2.1) (permIn_mono _ _ mid b a b (by omega) (Nat.le_refl _) (by rw [HL.out.2.1.1, HR.out.2.2.1]; omega) HG.out.2.1)), halves (by rw [HR.out.2.2.1]; omega) (by omega) hp.2.2.2.2.2.2.2.2 HL.out.2.1 HL.out.2.2 HG.out.2.1 HG.out.2.2⟩
       ·have HG := Lib.hid (show SR w0 k d _ ∧ PermIn mid b d d ∧ SortedIn St.lt mid b d from ⟨HL.out.1, permIn_refl _ mid b, by have q := HF2.out.1; rw [show e = b by have := HCU.out.1.eb; omega] at q; exact q⟩)
        clear hs2
        go_wp2
        go_end0
        have hb := HB.out
        have hp := HP.out
        exact ⟨rfl, d, HG.out.1, permIn_trans _ _ _ a b HR.out.2.2 (permIn_trans _ _ _ a b (permIn_mono _ _ a mid a b (Nat.le_refl _) (by omega) (by rw [HR.out.2.2.1]; omega) HL.out.2.1) (permIn_mono _ _ mid b a b (by omega) (Nat.le_refl _) (by rw [HL.out.2.1.1, HR.out.2.2.1]; omega) HG.out.2.1)), halves (by rw [HR.out.2.2.1]; omega) (by omega) hp.2.2.2.2.2.2.2.2 HL.out.2.1 HL.out.2.2 HG.out.2.1 HG.out.2.2⟩
      ·have HG := Lib.hid (show SR w0 k d _ ∧ PermIn mid b d d ∧ SortedIn St.lt mid b d from ⟨HL.out.1, permIn_refl _ mid b, by have q := HF2.out.2; rw [show e = mid by have := HP.out; omega] at q; exact q⟩)
       clear hs2
       go_wp2
       go_end0
       have hb := HB.out
       have hp := HP.out
       exact ⟨rfl, d, HG.out.1, permIn_trans _ _ _ a b HR.out.2.2 (permIn_trans _ _ _ a b (permIn_mono _ _ a mid a b (Nat.le_refl _) (by omega) (by rw [HR.out.2.2.1]; omega) HL.out.2.1) (permIn_mono _ _ mid b a b (by omega) (Nat.le_refl _) (by rw [HL.out.2.1.1, HR.out.2.2.1]; omega) HG.out.2.1)), halves (by rw [HR.out.2.2.1]; omega) (by omega) hp.2.2.2.2.2.2.2.2 HL.out.2.1 HL.out.2.2 HG.out.2.1 HG.out.2.2⟩
    ·have HL := Lib.hid (show SR w0 k d _ ∧ PermIn a mid d d ∧ SortedIn St.lt a mid d from ⟨HR.out.1, permIn_refl _ a mid, by have q := HP.out.2.2.2.2.2.1; rw [show i = a by have := HCU.out.1.as; omega] at q; exact q⟩)
     clear hs1 hl1 hl2
     have hs2 : d.size = z := HL.out.2.1.1.trans (HR.out.2.2.1.trans HB.out.2.2.2.2)
     have HF2 := Lib.hid (And.intro (sorted_far HP.out.2.2.2.2.2.2.1 HL.out.2.1 (.inr (Nat.le_refl _))) (sorted_far HP.out.2.2.2.2.2.2.2.1 HL.out.2.1 (.inr (by have := HP.out; omega))))
     by_cases hv1 : mid < e
     ·by_cases hv2 : e < b
      ·have HG0 := Lib.hid (HIH.out mid e b d _ (by have := HB.out; have := HP.out; omega) HL.out.1 hs2 hv1 hv2 HB.out.2.2.1 HF2.out.1 HF2.out.2)
       clear hs2
       go_wp2_with fail
       refine HG0.out.mono ?_
       rintro e3 w3 ⟨rfl, d3, S3, P3, Q3⟩
       have HG := Lib.hid (show SR w0 k d3 w3 ∧ PermIn mid b d d3 ∧ SortedIn St.lt mid b d3 from ⟨S3, P3, Q3⟩)
       clear S3 P3 Q3 HG0
       go_wp2
       go_end0
       have hb := HB.out
       have hp := HP.out
       exact ⟨rfl, d3, HG.out.1, permIn_trans _ _ _ a b HR.out.2.2 (permIn_trans _ _ _ a b (permIn_mono _ _ a mid a b (Nat.le_refl _) (by omega) (by rw [HR.out.2.2.1]; omega) HL.out.2.1) (permIn_mono _ _ mid b a b (by omega) (Nat.le_refl _) (by rw [HL.out.2.1.1, HR.out.2.2.1]; omega) HG.out.2.1)), halves (by rw [HR.out.2.2.1]; omega) (by omega) hp.2.2.2.2.2.2.2.2 HL.out.2.1 HL.out.2.2 HG.out.2.1 HG.out.2.2⟩
      ·have HG := Lib.hid (show SR w0 k d _ ∧ PermIn mid b d d ∧ SortedIn St.lt mid b d from ⟨HL.out.1, permIn_refl _ mid b, by have q := HF2.out.1; rw [show e = b by have := HCU.out.1.eb; omega] at q; exact q⟩)
       clear hs2
       go_wp2
       go_end0
       have hb := HB.out
       have hp := HP.out
       exact ⟨rfl, d, HG.out.1, permIn_trans _ _ _ a b HR.out.2.2 (permIn_trans _ _ _ a b (permIn_mono _ _ a mid a b (Nat.le_refl _) (by omega) (by rw [HR.out.2.2.1]; omega) HL.out.2.1) (permIn_mono _ _ mid b a b (by omega) (Nat.le_refl _) (by rw [HL.out.2.1.1, HR.out.2.2.1]; omega) HG.out.2.1)), halves (by rw [HR.out.2.2.1]; omega) (by omega) hp.2.2.2.2.2.2.2.2 HL.out.2.1 HL.out.2.2 HG.out.2.1 HG.out.2.2⟩
     ·have HG := Lib.hid (show SR w0 k d _ ∧ PermIn mid b d d ∧ SortedIn St.lt mid b d from ⟨HL.out.1, permIn_refl _ mid b, by have q := HF2.out.2; rw [show e = mid by have := HP.out; omega] at q; exact q⟩)
      clear hs2
      go_wp2
      go_end0
      have hb := HB.out
      have hp := HP.out
      exact ⟨rfl, d, HG.out.1, permIn_trans _ _ _ a b HR.out.2.2 (permIn_trans _ _ _ a b (permIn_mono _ _ a mid a b (Nat.le_refl _) (by omega) (by rw [HR.out.2.2.1]; omega) HL.out.2.1) (permIn_mono _ _ mid b a b (by omega) (Nat.le_refl _) (by rw [HL.out.2.1.1, HR.out.2.2.1]; omega) HG.out.2.1)), halves (by rw [HR.out.2.2.1]; omega) (by omega) hp.2.2.2.2.2.2.2.2 HL.out.2.1 HL.out.2.2 HG.out.2.1 HG.out.2.2⟩
theorem symMerge_is (w0 : World) (k cap z : Nat) (hsz : z ≤ 5000) : ∀ (N a m b : Nat) (d : Array Sh) (w : World), b - a ≤ N → SR w0 k d w → d.size = z → a < m → m < b → b ≤ z → SortedIn St.lt a m d → SortedIn St.lt m b d →
  Calls Tryd.prog 117 #[.slice (some ⟨k, 0, none⟩) z cap, .int .i64 a, .int .i64 m, .int .i64 b, fv] w fun e w' => e = .returned (.tuple #[]) ∧ ∃ d', SR w0 k d' w' ∧ PermIn a b d d' ∧ SortedIn St.lt a b d' 
 | 0, a, m, b, d, w, hN, S, hz, ham, hmb, hb, h1, h2 => by omega
 | N + 1, a, m, b, d, w, hN, S, hz, ham, hmb, hb, h1, h2 => by
  by_cases hma : m = a + 1
  ·exact sym_up w0 w k cap a m b z d S hz ham hmb hb hsz h1 h2 hma
  by_cases hbm : b = m + 1
  ·exact sym_down w0 w k cap a m b z d S hz ham hmb hb hsz h1 h2 hbm hma
  by_cases hw : (a + b) / 2 < m
  ·exact sym_right w0 w k cap a m b z d S hz ham hmb hb hsz h1 h2 _ _ rfl rfl hw hma hbm (fun a' m' b' d' w' q1 q2 q3 q4 q5 q6 q7 q8 => symMerge_is w0 k cap z hsz N a' m' b' d' w' (by omega) q2 q3 q4 q5 q6 q7 q8)
  ·exact sym_left w0 w k cap a m b z d S hz ham hmb hb hsz h1 h2 _ _ rfl rfl (by omega) hma hbm (fun a' m' b' d' w' q1 q2 q3 q4 q5 q6 q7 q8 => symMerge_is w0 k cap z hsz N a' m' b' d' w' (by omega) q2 q3 q4 q5 q6 q7 q8)
end Go.Proofs.YtgceecnlgjmghaaDoor.srt

namespace Go.Proofs.YtgceecnlgjmghaaDoor.srt
open Go.RowKit Go.Proofs.YtgceecnlgjmghaaDoor.base St
open Go.Sort (swp PermIn SortedIn SWO swp_get size_swp permIn_trans permIn_refl swp_permIn permIn_mono permIn_all Ins)
open Go.Proofs.YtgceecnlgjmghaaDoorW.PrintWords
set_option linter.unusedSimpArgs false
attribute [local go_sem] Oper.semAt_some
set_option maxRecDepth 100000 in
set_option maxHeartbeats 4000000 in
theorem insertion_is (w0 w : World) (k cap a b z : Nat) (d : Array Sh) (S : SR w0 k d w) (hz : d.size = z) (hab : a ≤ b) (hb : b ≤ z) (hsz : z ≤ 5000) :
  Calls Tryd.prog 116 #[.slice (some ⟨k, 0, none⟩) z cap, .int .i64 a, .int .i64 b, fv] w fun e w' => e = .returned (.tuple #[]) ∧ ∃ d', SR w0 k d' w' ∧ PermIn a b d d' ∧ SortedIn St.lt a b d' := by
 have S0 := Lib.hid S
 have HB := Lib.hid (And.intro hab (And.intro hb (And.intro hsz hz)))
 have R0 := Lib.hid (show wrap64 ((a : Int) + 1) = ((a + 1 : Nat) : Int) by unfold wrap64; omega)
 clear S hz hab hb hsz
 go_enter Tryd.func116, Tryd.ntmps116
 go_wp2
 go_loopg [8] (b + 2) (fun kq v8 wr => ∃ (i : Nat) (dk : Array Sh), v8 = .int .i64 (i : Int) ∧ Aside0 (a < i ∧ (i ≤ b ∨ i = a + 1) ∧ b + 2 ≤ kq + i) ∧ Aside0 (SR w0 k dk wr ∧ PermIn a b d dk ∧ SortedIn St.lt a i dk))
 case atStart => exact ⟨a + 1, d, by rw [R0.out], ⟨by omega⟩, ⟨S0.out, permIn_refl d a b, sorted_one St.lt (Nat.le_refl _) d⟩⟩
 case round =>
  clear S0 R0
  obtain ⟨i, dk, rfl, HK, HO⟩ := hrel
  by_cases hib : i < b
  ·obtain ⟨k1, rfl⟩ : ∃ k1, gk = k1 + 1 := ⟨gk - 1, by have := HK.out; omega⟩
   have E3 := Lib.hid (show wrap64 ((i : Int) + 1) = ((i + 1 : Nat) : Int) by unfold wrap64; have := HB.out; omega)
   go_wp2
   go_loopg [9] (i + 1) (fun kq v9 wr => ∃ (j : Nat) (dj : Array Sh), v9 = .int .i64 (j : Int) ∧ Aside0 (a ≤ j ∧ j ≤ i ∧ j + 1 ≤ kq) ∧ Aside0 (SR w0 k dj wr ∧ PermIn a b d dj ∧ Ins St.lt a j i dj))
   case atStart => exact ⟨i, dk, rfl, ⟨by have := HK.out; omega⟩, ⟨HO.out.1, HO.out.2.1, ⟨fun p q q1 q2 q3 q4 q5 => HO.out.2.2 p q q1 q2 (by omega), fun q q1 q2 => by omega⟩⟩⟩
   case round =>
    clear HO
    obtain ⟨j, dj, rfl, HJ, HS⟩ := hrel
    have hb := HB.out
    have hj := HJ.out
    have hs : dj.size = z := HS.out.2.1.1.trans hb.2.2.2
    by_cases haj : a < j
    ·obtain ⟨y, hy⟩ : ∃ y, j - 1 = y := ⟨_, rfl⟩
     obtain ⟨su, hsu⟩ : ∃ s, dj[j]! = s := ⟨_, rfl⟩
     obtain ⟨sv, hsv⟩ : ∃ s, dj[y]! = s := ⟨_, rfl⟩
     have hud : j < dj.size := by omega
     have hvd : y < dj.size := by omega
     have bu := HS.out.1.bd j hud
     have bv := HS.out.1.bd y hvd
     rw [hsu] at bu
     rw [hsv] at bv
     have HC := Lib.hid (fun w => cmp_is su sv w bu bv)
     have u0 : ∀ V : World, SR w0 k dj V → V.cell? ⟨k, j * 3, none⟩ = some (.int .i64 su.q) := fun V h => by have q := (h.cell hud).1; rw [hsu] at q; exact q
     have u1 : ∀ V : World, SR w0 k dj V → V.cell? ⟨k, j * 3 + 1, none⟩ = some (.int .i64 su.r) := fun V h => by have q := (h.cell hud).2.1; rw [hsu] at q; exact q
     have u2 : ∀ V : World, SR w0 k dj V → V.cell? ⟨k, j * 3 + 2, none⟩ = some (.int .i64 su.p) := fun V h => by have q := (h.cell hud).2.2; rw [hsu] at q; exact q
     have v0 : ∀ V : World, SR w0 k dj V → V.cell? ⟨k, y * 3, none⟩ = some (.int .i64 sv.q) := fun V h => by have q := (h.cell hvd).1; rw [hsv] at q; exact q
     have v1 : ∀ V : World, SR w0 k dj V → V.cell? ⟨k, y * 3 + 1, none⟩ = some (.int .i64 sv.r) := fun V h => by have q := (h.cell hvd).2.1; rw [hsv] at q; exact q
     have v2 : ∀ V : World, SR w0 k dj V → V.cell? ⟨k, y * 3 + 2, none⟩ = some (.int .i64 sv.p) := fun V h => by have q := (h.cell hvd).2.2; rw [hsv] at q; exact q
     have tj : ((j : Int)).toNat = j := by omega
     have pj : ((0 : Int) ≤ (j : Int)) = True := eq_true (by omega)
     have lj : ((j : Int) < (z : Int)) = True := eq_true (by omega)
     have ty : ((y : Int)).toNat = y := by omega
     have py : ((0 : Int) ≤ (y : Int)) = True := eq_true (by omega)
     have ly : ((y : Int) < (z : Int)) = True := eq_true (by omega)
     have R1 := Lib.hid (show wrap64 ((j : Int) - 1) = (y : Int) by unfold wrap64; omega)
     have hjz : (a : Int) < (j : Int) := by omega
     have HY := Lib.hid hy
     clear hb hj hs hy
     have r1 := R1.out
     have r9 : IntKind.i64.wrap ((j : Int) - 1) = (y : Int) := (Go.Proofs.YtgceecnlgjmghaaDoorW.PrintLast.i64_w _).trans R1.out
     go_upto_region 4 with fail
     by_cases hlt : cmpV su sv < 0
     ·have c1 : decide (cmpV su sv < 0) = true := decide_eq_true hlt
      have KD := Lib.hid HS.out.1.drew
      have KW := Lib.hid HS.out.1
      go_region_held3 (fun w' => SR w0 k dj w')
        (first | with_reducible exact KD.out | with_reducible exact K5 | (go_split_ands; with_reducible (repeat (first | assumption | exact K5 | refine SR.drew ?_))))
        (first | (go_at_call 68; go_split_ands; refine (HC.out _).mono ?_; rintro e w5 ⟨rfl, B5⟩; have K5 := SR.below (by assumption) B5))
      all_goals go_upto_region 6 with fail
      have HS2 := Lib.hid K5
      clear KD KW B5 u0 u1 u2 v0 v1 v2 HC
      have CQ := Lib.hid c1
      clear c1
      have HX := Lib.hid (And.intro hsu hsv)
      have hb := HB.out
      have hj := HJ.out
      have hs : dj.size = z := HS.out.2.1.1.trans hb.2.2.2
      have hy := HY.out
      clear r1 r9
      have hxd : j < dj.size := by omega
      have hyd : y < dj.size := by omega
      have HXD := Lib.hid (And.intro hxd hyd)
      obtain ⟨c0, c1, c2⟩ := HS2.out.cell hxd
      obtain ⟨d0, d1, d2⟩ := HS2.out.cell hyd
      have f0 := HS2.out.frozen (j * 3)
      have f1 := HS2.out.frozen (j * 3 + 1)
      have f2 := HS2.out.frozen (j * 3 + 2)
      have f3 := HS2.out.frozen (y * 3)
      have f4 := HS2.out.frozen (y * 3 + 1)
      have f5 := HS2.out.frozen (y * 3 + 2)
      have n00 : ¬ j * 3 = y * 3 := by omega
      have m00 : ¬ y * 3 = j * 3 := by omega
      have n01 : ¬ j * 3 = y * 3 + 1 := by omega
      have m01 : ¬ y * 3 + 1 = j * 3 := by omega
      have n02 : ¬ j * 3 = y * 3 + 2 := by omega
      have m02 : ¬ y * 3 + 2 = j * 3 := by omega
      have n10 : ¬ j * 3 + 1 = y * 3 := by omega
      have m10 : ¬ y * 3 = j * 3 + 1 := by omega
      have n11 : ¬ j * 3 + 1 = y * 3 + 1 := by omega
      have m11 : ¬ y * 3 + 1 = j * 3 + 1 := by omega
      have n12 : ¬ j * 3 + 1 = y * 3 + 2 := by omega
      have m12 : ¬ y * 3 + 2 = j * 3 + 1 := by omega
      have n20 : ¬ j * 3 + 2 = y * 3 := by omega
      have m20 : ¬ y * 3 = j * 3 + 2 := by omega
      have n21 : ¬ j * 3 + 2 = y * 3 + 1 := by omega
      have m21 : ¬ y * 3 + 1 = j * 3 + 2 := by omega
      have n22 : ¬ j * 3 + 2 = y * 3 + 2 := by omega
      have m22 : ¬ y * 3 + 2 = j * 3 + 2 := by omega
      obtain ⟨sx, hsx⟩ : ∃ s, dj[j]! = s := ⟨_, rfl⟩
      obtain ⟨sy, hsy⟩ : ∃ s, dj[y]! = s := ⟨_, rfl⟩
      rw [hsx] at c0 c1 c2
      rw [hsy] at d0 d1 d2
      have HSW := Lib.hid (And.intro hsx hsy)
      clear hsx hsy hxd hyd
      clear hb hj hs hy hud hvd
      have r1 := R1.out
      have r9 : IntKind.i64.wrap ((j : Int) - 1) = (y : Int) := (Go.Proofs.YtgceecnlgjmghaaDoorW.PrintLast.i64_w _).trans R1.out
      go_big_region
      all_goals go_wp2
      obtain ⟨k2, rfl⟩ : ∃ k1, gk = k1 + 1 := ⟨gk - 1, by have := HJ.out; clear r1 r9; omega⟩
      go_roundg k2
      case measure => omega
      case rel =>
       have hb := HB.out
       have hj := HJ.out
       have hy := HY.out
       have hs : dj.size = z := HS.out.2.1.1.trans hb.2.2.2
       clear r1 r9
       refine ⟨y, swp dj j y, by first | rfl | rw [R1.out], ⟨by omega⟩, ⟨?_, ?_, ?_⟩⟩
       ·have := (HS2.out.swap HXD.out.1 HXD.out.2).drew
        rw [HSW.out.1, HSW.out.2] at this
        exact this
       ·exact permIn_trans d dj _ a b HS.out.2.1 (swp_permIn dj a b j y (by omega) (by omega) (by omega) (by omega) (by omega))
       ·obtain rfl : j = y + 1 := by omega
        refine HS.out.2.2.step ?_ (by omega) (by omega)
        rw [HX.out.1, HX.out.2, lt_def]
        exact CQ.out
     ·have c1 : decide (cmpV su sv < 0) = false := decide_eq_false hlt
      have KD := Lib.hid HS.out.1.drew
      have KW := Lib.hid HS.out.1
      go_region_held3 (fun w' => SR w0 k dj w')
        (first | with_reducible exact KD.out | with_reducible exact K5 | (go_split_ands; with_reducible (repeat (first | assumption | exact K5 | refine SR.drew ?_))))
        (first | (go_at_call 68; go_split_ands; refine (HC.out _).mono ?_; rintro e w5 ⟨rfl, B5⟩; have K5 := SR.below (by assumption) B5))
      all_goals go_wp2
      go_roundg k1
      case measure => omega
      case rel =>
       have hb := HB.out
       have hj := HJ.out
       exact ⟨i + 1, dj, by rw [E3.out], ⟨by have := HK.out; omega⟩, ⟨K5, HS.out.2.1, HS.out.2.2.stop swo (.inr (by rw [show j - 1 = y from HY.out, hsu, hsv, lt_def]; exact c1))⟩⟩
    ·have hjz : ¬ (a : Int) < (j : Int) := by omega
     have HD := Lib.hid HS.out.1.drew
     clear hb hj hs
     go_upto_region 4 with fail
     go_big_region
     all_goals go_wp2
     go_roundg k1
     case measure => omega
     case rel =>
      have hb := HB.out
      have hj := HJ.out
      exact ⟨i + 1, dj, by rw [E3.out], ⟨by have := HK.out; omega⟩, ⟨HD.out, HS.out.2.1, HS.out.2.2.stop swo (.inl (by omega))⟩⟩
  ·go_wp2
   go_end0
   have hk := HK.out
   refine ⟨rfl, dk, HO.out.1, HO.out.2.1, fun p q q1 q2 q3 => HO.out.2.2 p q q1 q2 (by omega)⟩
end Go.Proofs.YtgceecnlgjmghaaDoor.srt

namespace Go.Proofs.YtgceecnlgjmghaaDoor.srt
open Go.RowKit Go.Proofs.YtgceecnlgjmghaaDoor.base St
open Go.Sort (swp PermIn SortedIn SWO swp_get size_swp permIn_trans permIn_refl swp_permIn permIn_mono permIn_all)
open Go.Proofs.YtgceecnlgjmghaaDoorW.PrintWords
set_option linter.unusedSimpArgs false
attribute [local go_sem] Oper.semAt_some
set_option maxRecDepth 100000 in
set_option maxHeartbeats 4000000 in
theorem stable_is (w0 w : World) (k cap z : Nat) (d : Array Sh) (S : SR w0 k d w) (hz : d.size = z) (hsz : z ≤ 5000) :
  Calls Tryd.prog 98 #[.slice (some ⟨k, 0, none⟩) z cap, .int .i64 z, fv] w fun e w' => e = .returned (.tuple #[]) ∧ ∃ d', SR w0 k d' w' ∧ PermIn 0 z d d' ∧ SortedIn St.lt 0 z d' := by
 have S0 := Lib.hid S
 have HB := Lib.hid (And.intro hz hsz)
 clear S hz hsz
 go_enter Tryd.func98, Tryd.ntmps98
 go_wp2
 go_loopg [7, 8] (z + 1) (fun kq v7 v8 wr => ∃ (t a b : Nat) (dk : Array Sh), v7 = .int .i64 (a : Int) ∧ v8 = .int .i64 (b : Int) ∧ Aside0 (t * 20 = a ∧ a + 20 = b ∧ a ≤ z ∧ z + 1 ≤ kq + a) ∧ Aside0 (SR w0 k dk wr ∧ PermIn 0 z d dk ∧ One St.lt 20 t dk))
 case atStart => exact ⟨0, 0, 20, d, rfl, rfl, ⟨by omega⟩, ⟨S0.out, permIn_refl d 0 z, One.zero _ _ _⟩⟩
 case round =>
  clear S0
  obtain ⟨t, a, b, dk, rfl, rfl, HK, HS⟩ := hrel
  have hs : dk.size = z := HS.out.2.1.1.trans HB.out.1
  by_cases hbz : b ≤ z
  ·obtain ⟨k1, rfl⟩ : ∃ k1, gk = k1 + 1 := ⟨gk - 1, by have := HK.out; omega⟩
   obtain ⟨b2, hb2⟩ : ∃ b2, b + 20 = b2 := ⟨_, rfl⟩
   have R1 := Lib.hid (show wrap64 ((b : Int) + 20) = (b2 : Int) by unfold wrap64; have := HB.out; omega)
   have HC := Lib.hid (fun w (h : SR w0 k dk w) => insertion_is w0 w k cap a b z dk h hs (by have := HK.out; omega) hbz HB.out.2)
   have HB2 := Lib.hid hb2
   clear hs hb2
   go_wp2_with fail
   refine (HC.out _ HS.out.1).mono ?_
   rintro e w1 ⟨rfl, d2, S2, P2, Q2⟩
   have HN := Lib.hid (And.intro S2 (And.intro P2 Q2))
   clear S2 P2 Q2 HC
   go_wp2
   go_roundg k1
   case measure => omega
   case rel =>
    have hk := HK.out
    have hh := HB2.out
    have hp := HN.out.2.1
    rw [← hk.2.1] at hp
    have hq := HN.out.2.2
    rw [← hk.2.1] at hq
    exact ⟨t + 1, b, b2, d2, rfl, by rw [R1.out], ⟨by omega⟩, ⟨HN.out.1, permIn_trans d dk d2 0 z HS.out.2.1 (permIn_mono dk d2 a b 0 z (by omega) hbz (by rw [HS.out.2.1.1, HB.out.1]; omega) HN.out.2.1), HS.out.2.2.next hk.1 hp hq⟩⟩
  ·have HC := Lib.hid (fun w (h : SR w0 k dk w) => insertion_is w0 w k cap a z z dk h hs (by have := HK.out; omega) (Nat.le_refl z) HB.out.2)
   clear hs
   go_wp2_with fail
   refine (HC.out _ HS.out.1).mono ?_
   rintro e w1 ⟨rfl, d2, S2, P2, Q2⟩
   have HN := Lib.hid (show SR w0 k d2 w1 ∧ PermIn 0 z d d2 ∧ Blk St.lt 20 z d2 from ⟨S2, permIn_trans d dk d2 0 z HS.out.2.1 (permIn_mono dk d2 a z 0 z (by omega) (Nat.le_refl z) (by rw [HS.out.2.1.1, HB.out.1]; omega) P2), HS.out.2.2.last HK.out.1 (by have := HK.out; omega) (by have := HK.out; omega) P2 Q2⟩)
   clear S2 P2 Q2 HC HS HK hbz
   go_wp2
   go_loopg [6] (z + 1) (fun kq v6 wr => ∃ (c : Nat) (dk : Array Sh), v6 = .int .i64 (c : Int) ∧ Aside0 (20 ≤ c ∧ c ≤ 20000 ∧ z + 1 ≤ kq + c) ∧ Aside0 (SR w0 k dk wr ∧ PermIn 0 z d dk ∧ Blk St.lt c z dk))
   case atStart => exact ⟨20, d2, rfl, ⟨by omega⟩, ⟨HN.out.1, HN.out.2.1, HN.out.2.2⟩⟩
   case round =>
    clear HN
    obtain ⟨c, dj, rfl, HC, HO⟩ := hrel
    by_cases hcz : c < z
    ·obtain ⟨k1, rfl⟩ : ∃ k1, gk = k1 + 1 := ⟨gk - 1, by have := HC.out; omega⟩
     obtain ⟨cc, hcc⟩ : ∃ cc, 2 * c = cc := ⟨_, rfl⟩
     have R1 := Lib.hid (show wrap64 (2 * (c : Int)) = (cc : Int) by unfold wrap64; have := HC.out; omega)
     have R2 := Lib.hid (show wrap64 ((c : Int) * 2) = (cc : Int) by unfold wrap64; have := HC.out; omega)
     have HCC := Lib.hid hcc
     clear hcc
     have r1 := R1.out
     go_wp2
     simp only [r1]
     clear r1
     go_loopg [7, 8] (z + 1) (fun kq v7 v8 wr => ∃ (t a b : Nat) (dk : Array Sh), v7 = .int .i64 (a : Int) ∧ v8 = .int .i64 (b : Int) ∧ Aside0 (t * (2 * c) = a ∧ a + 2 * c = b ∧ a ≤ z ∧ z + 1 ≤ kq + a) ∧ Aside0 (SR w0 k dk wr ∧ PermIn 0 z d dk ∧ Two St.lt c z t dk))
     case atStart => exact ⟨0, 0, cc, dj, rfl, by first | rfl | rw [R1.out], ⟨by have := HCC.out; omega⟩, ⟨HO.out.1, HO.out.2.1, Two.zero HO.out.2.2⟩⟩
     case round =>
      clear HO
      obtain ⟨t, a, b, dk, rfl, rfl, HK, HS⟩ := hrel
      have hs : dk.size = z := HS.out.2.1.1.trans HB.out.1
      have hk := HK.out
      have hc := HC.out
      obtain ⟨m, hm⟩ : ∃ m, a + c = m := ⟨_, rfl⟩
      have R3 := Lib.hid (show wrap64 ((a : Int) + (c : Int)) = (m : Int) by unfold wrap64; have := HB.out; omega)
      have HM := Lib.hid hm
      by_cases hbz : b ≤ z
      ·obtain ⟨k2, rfl⟩ : ∃ k1, gk = k1 + 1 := ⟨gk - 1, by omega⟩
       obtain ⟨b2, hb2⟩ : ∃ b2, b + cc = b2 := ⟨_, rfl⟩
       have R4 := Lib.hid (show wrap64 ((b : Int) + (cc : Int)) = (b2 : Int) by unfold wrap64; have := HB.out; have := HCC.out; omega)
       have HX := Lib.hid (fun w (h : SR w0 k dk w) => symMerge_is w0 k cap z HB.out.2 (b - a) a m b dk w (Nat.le_refl _) h hs (by omega) (by omega) hbz (hm ▸ HS.out.2.2.left hk.1 (by omega)) (hm ▸ HS.out.2.2.right hk.1 (by rw [Nat.min_eq_left (by omega)]; omega)))
       have HB2 := Lib.hid hb2
       clear hs hk hc hm hb2
       have r1 := R1.out
       have r3 := R3.out
       have r4 := R4.out
       go_wp2_with fail
       refine (HX.out _ HS.out.1).mono ?_
       rintro e w1 ⟨rfl, d2, S2, P2, Q2⟩
       have HN := Lib.hid (And.intro S2 (And.intro P2 Q2))
       clear S2 P2 Q2 HX
       go_wp2
       go_roundg k2
       case measure => omega
       case rel =>
        clear r1 r3 r4
        have hk := HK.out
        have hh := HB2.out
        have hcc := HCC.out
        have hp := HN.out.2.1
        rw [← hk.2.1] at hp
        have hq := HN.out.2.2
        rw [← hk.2.1] at hq
        exact ⟨t + 1, b, b2, d2, rfl, by first | rfl | rw [R4.out] | rw [R1.out, R4.out], ⟨by have := HC.out; rw [Nat.add_mul, Nat.one_mul]; omega⟩, ⟨HN.out.1, permIn_trans d dk d2 0 z HS.out.2.1 (permIn_mono dk d2 a b 0 z (by omega) hbz (by rw [HS.out.2.1.1, HB.out.1]; omega) HN.out.2.1), HS.out.2.2.next hk.1 hp hq⟩⟩
      ·by_cases hmz : m < z
       ·have HX := Lib.hid (fun w (h : SR w0 k dk w) => symMerge_is w0 k cap z HB.out.2 (z - a) a m z dk w (Nat.le_refl _) h hs (by omega) hmz (Nat.le_refl z) (hm ▸ HS.out.2.2.left hk.1 (by omega)) (hm ▸ HS.out.2.2.right hk.1 (by rw [Nat.min_eq_right (by omega)])))
        clear hs hk hc hm
        have r1 := R1.out
        have r2 := R2.out
        have r3 := R3.out
        go_upto_region 14 with fail
        rw [r3]
        go_wp2_with fail
        refine (HX.out _ HS.out.1).mono ?_
        rintro e w1 ⟨rfl, d2, S2, P2, Q2⟩
        have HN := Lib.hid (And.intro S2 (And.intro P2 Q2))
        clear S2 P2 Q2 HX
        go_wp2
        go_roundg k1
        case measure => omega
        case rel =>
         clear r1 r2 r3
         have hk := HK.out
         have hcc := HCC.out
         have hc := HC.out
         have hb := HB.out
         have hB := HS.out.2.2.last hk.1 hk.2.2.1 (by omega) HN.out.2.1 HN.out.2.2
         rw [hcc] at hB
         exact ⟨cc, d2, by first | rfl | rw [R2.out], ⟨by omega⟩, ⟨HN.out.1, permIn_trans d dk d2 0 z HS.out.2.1 (permIn_mono dk d2 a z 0 z (by omega) (Nat.le_refl z) (by rw [HS.out.2.1.1]; omega) HN.out.2.1), hB⟩⟩
       ·clear hs hk hc hm
        have r1 := R1.out
        have r2 := R2.out
        have r3 := R3.out
        go_upto_region 14 with fail
        rw [r3]
        go_wp2
        go_roundg k1
        case measure => omega
        case rel =>
         clear r1 r2 r3
         have hk := HK.out
         have hcc := HCC.out
         have hc := HC.out
         have hb := HB.out
         have hm := HM.out
         have hB := HS.out.2.2.last hk.1 hk.2.2.1 (by omega) (permIn_refl dk a z) (HS.out.2.2.alone hk.1 (by omega))
         rw [hcc] at hB
         exact ⟨cc, dk, by first | rfl | rw [R2.out], ⟨by omega⟩, ⟨HS.out.1, HS.out.2.1, hB⟩⟩
    ·go_wp2
     go_end0
     exact ⟨rfl, dj, HO.out.1, HO.out.2.1, HO.out.2.2.whole (by omega)⟩
theorem sortStable_is (w0 w : World) (k cap z : Nat) (d : Array Sh) (S : SR w0 k d w) (hz : d.size = z) (hsz : z ≤ 5000) :
  Calls Tryd.prog 87 #[.slice (some ⟨k, 0, none⟩) z cap, fv] w fun e w' => e = .returned (.tuple #[]) ∧ ∃ d', SR w0 k d' w' ∧ PermIn 0 z d d' ∧ SortedIn St.lt 0 z d' := by
 have HC := Lib.hid (stable_is w0 w k cap z d S hz hsz)
 clear S hz hsz
 go_enter Tryd.func87, Tryd.ntmps87
 go_wp2_with fail
 refine HC.out.mono ?_
 rintro e w1 ⟨rfl, d2, S2, P2, Q2⟩
 go_wp2
 go_end0
 exact ⟨rfl, d2, S2, P2, Q2⟩
end Go.Proofs.YtgceecnlgjmghaaDoor.srt

namespace Go.Proofs.YtgceecnlgjmghaaDoor.srt
open Go.RowKit Go.Proofs.YtgceecnlgjmghaaDoor.base St
open Go.Sort (swp PermIn SortedIn SWO swp_get size_swp permIn_trans permIn_refl swp_permIn permIn_mono permIn_all)
open Go.Proofs.YtgceecnlgjmghaaDoorW.PrintWords Go.Proofs.YtgceecnlgjmghaaDoorW.PrintMore
set_option linter.unusedSimpArgs false
attribute [local go_sem] Oper.semAt_some
/-- What a share's cells say. -/
def kSh : Kd Sh := Kd.iso (Kd.pair (Kd.int .i64) (Kd.pair (Kd.int .i64) (Kd.int .i64))) (fun x : Sh => (x.q, x.r, x.p))
theorem kSh_open {w : World} {x : Sh} {cs : List Value} (h : kSh.K w x cs) : cs = [.int .i64 x.q, .int .i64 x.r, .int .i64 x.p] := by
 obtain ⟨_, _, rfl, rfl, _, _, rfl, rfl, rfl⟩ := h
 rfl
theorem kSh_mkM (w : World) (base : Nat) (ok : Nat → Prop) (x : Sh) : kSh.M w base ok x [.int .i64 x.q, .int .i64 x.r, .int .i64 x.p] := ⟨[.int .i64 x.q], [.int .i64 x.r, .int .i64 x.p], rfl, rfl, [.int .i64 x.r], [.int .i64 x.p], rfl, rfl, rfl⟩
theorem infoSh : (Tryd.prog.info? TSh).map (fun i => (i.zero, i.size, i.bytes)) = some (some (.agg #[.int .i64 0, .int .i64 0, .int .i64 0]), 3, 24) := by kernel_rfl
abbrev Rs (W : World) (base : Nat) (v : Value) (l : List Sh) : Prop := Kd.R kSh TSh W base (fun _ => True) v l
theorem Rs.nil (W : World) (base : Nat) (hb : base ≤ W.heap.size) : Rs (W.alloc (.cells #[] TSh)) base (.slice (some ⟨W.heap.size, 0, none⟩) 0 0) [] := by
 have h2 := World.ownsRow_lit (base := base) (e := TSh) (size := 3) W #[] 0 hb (by unfold maxLen; omega) (by simp)
 have h3 : (W.alloc (.cells #[] TSh)).ownsRow base TSh 3 (.slice (some ⟨W.heap.size, 0, none⟩) 0 0) 0 [] := by simpa using h2
 exact ⟨fun _ _ => trivial, [], h3, ⟨rfl, fun j p h => by simp at h⟩⟩
set_option maxRecDepth 100000 in
set_option maxHeartbeats 4000000 in
theorem clone_is (w : World) (A : Option Addr) (c : Nat) (xs : List Sh) (hC : Kd.C kSh w A xs.length xs) (h0 : 0 < xs.length) (hn : xs.length ≤ 5000) :
  Calls Tryd.prog 86 #[.slice A xs.length c] w fun e w' => ∃ v, e = .returned v ∧ Rs w' w.heap.size v xs ∧ Below w.heap.size w w' := by
 obtain ⟨ad, rfl, _⟩ := hC.2.2 h0
 have HC := Lib.hid hC
 have HN := Lib.hid hn
 clear hC hn
 obtain ⟨n, hnn⟩ : ∃ n, xs.length = n := ⟨_, rfl⟩
 have HL := Lib.hid hnn
 rw [hnn] at h0 ⊢
 clear hnn
 have q22 : ∀ (w : World) (a : Option Addr) (n c n' c' : Nat), (binOp .eql 121 (.slice a n c) (.slice none n' c')).run Tryd.prog w = .ok (.bool a.isNone) w := fun w a n c n' c' => Lib.run_eql_slice_nil w _ _ a n c n' c' Tryd.underlying121
 go_enter Tryd.func86, Tryd.ntmps86
 go_wp2_with ((with_reducible refine gate_builtin (b := .append) (xs := #[.tmp 5, .tmp 6]) rfl ?_); at_builtin; refine Kd.R_append_rows kSh (Rr := kSh.K (w.alloc (.cells #[] TSh))) (w0 := w) w.heap.size rfl (.tmp 5) (.tmp 6) 121 TSh (.agg #[.int .i64 0, .int .i64 0, .int .i64 0]) 24 rfl Tryd.underlying121 infoSh rfl (by decide) (by decide) (.slice (some ⟨w.heap.size, 0, none⟩) 0 0) [] xs (some ad) n c (fun _ => True) (fun _ => False) rfl rfl ?aO ?aR ?aK (fun _ hk => hk.elim) (fun _ _ => trivial) ?aB ?aS ?aL ?_; (case aO => exact Rs.nil w w.heap.size (Nat.le_refl _)); (case aR => (have q := Kd.C_below HC.out (below_alloc (Below.refl _ w) (.cells #[] TSh)); rw [HL.out] at q; exact q)); (case aK => (intro x cs hx; rw [kSh_open hx]; exact kSh_mkM _ _ _ x)); (case aB => exact below_alloc (Below.refl _ w) _); (case aS => simp); (case aL => (have := HN.out; have := HL.out; simp; omega)); intro v1 w9 hR hb hg hat; have HR := Lib.hid (And.intro hR hb); clear hR hb hg hat)
 go_ret
 exact ⟨v1, rfl, HR.out.1, HR.out.2⟩
/-- An own row is one that may be sorted. -/
theorem Rs.sr {W : World} {base : Nat} {v : Value} {l : List Sh} (h : Rs W base v l) (h0 : 0 < l.length) (hp : ∀ x ∈ l, 0 ≤ x.p ∧ x.p ≤ 5000) : ∃ g cap, v = .slice (some ⟨g, 0, none⟩) l.length cap ∧ base ≤ g ∧ SR W g l.toArray W := by
 obtain ⟨_, inner, ho, _⟩ := id h
 obtain ⟨A, c, e, hc, hC⟩ := Kd.R_reads h
 rcases ho.2 with ⟨e1, _⟩ | ⟨g, cap, cur, e1, hg, hh, _⟩
 ·rw [e] at e1
  injection e1 with _ e2
  omega
 ·rw [e1] at e
  injection e with e2 _ e3
  subst e2 e3
  have cl : ∀ i, i < l.length → cur[i * 3]? = some (.int .i64 l.toArray[i]!.q) ∧ cur[i * 3 + 1]? = some (.int .i64 l.toArray[i]!.r) ∧ cur[i * 3 + 2]? = some (.int .i64 l.toArray[i]!.p) := fun i hi => by
   obtain ⟨ad, cs, ea, _, hK, hu⟩ := Kd.C_get hC ⟨0, 0, 0⟩ (i : Int) (by omega) (by omega)
   injection ea with ea
   subst ea
   have hu' : ∀ j u, cs[j]? = some u → W.cell? ((⟨g, 0, none⟩ : Addr).add (i * 3 + j)) = some u := hu
   have ex : l.toArray[i]! = l.getD i ⟨0, 0, 0⟩ := by
    rw [getElem!_pos l.toArray i (by simpa using hi), List.getD_eq_getElem?_getD, List.getElem?_eq_getElem hi]
    simp
   rw [ex]
   have hK' : kSh.K W (l.getD i ⟨0, 0, 0⟩) cs := hK
   rw [kSh_open hK'] at hu'
   have q0 := hu' 0 _ rfl
   have q1 := hu' 1 _ rfl
   have q2 := hu' 2 _ rfl
   rw [add_plain, blk_cell hh] at q0 q1 q2
   exact ⟨q0, q1, q2⟩
  refine ⟨g, _, e1, hg, ⟨⟨cur, hh, ?_, fun i hi => cl i (by simpa using hi)⟩, rfl, rfl, rfl, Nat.le_refl _, fun _ _ _ => rfl, fun i hi => ?_⟩⟩
  ·have := (cl (l.length - 1) (by omega)).2.2
   have hlt := (Array.getElem?_eq_some_iff.1 this).1
   simp
   omega
  ·have hi' : i < l.length := by simpa using hi
   rw [getElem!_pos l.toArray i hi]
   exact hp _ (by simp)
set_option maxRecDepth 100000 in
set_option maxHeartbeats 4000000 in
theorem ordered_is (w : World) (A : Option Addr) (c : Nat) (xs : List Sh) (hC : Kd.C kSh w A xs.length xs) (h0 : 0 < xs.length) (hn : xs.length ≤ 5000) (hp : ∀ x ∈ xs, 0 ≤ x.p ∧ x.p ≤ 5000) :
  Calls Tryd.prog 67 #[.slice A xs.length c, fv] w fun e w' => ∃ g cap d w1, e = .returned (.slice (some ⟨g, 0, none⟩) xs.length cap) ∧ w.heap.size ≤ g ∧ SR w1 g d w' ∧ Below w.heap.size w w1 ∧ PermIn 0 xs.length xs.toArray d ∧ SortedIn St.lt 0 xs.length d := by
 have HC := Lib.hid (clone_is w A c xs hC h0 hn)
 have HP := Lib.hid hp
 have HN := Lib.hid (And.intro h0 hn)
 clear hC h0 hn hp
 go_enter Tryd.func67, Tryd.ntmps67
 go_wp2_with fail
 refine HC.out.mono ?_
 rintro e w1 ⟨v, rfl, hR, hB⟩
 obtain ⟨g, cap, rfl, hg, hS⟩ := hR.sr HN.out.1 HP.out
 have HS := Lib.hid (And.intro hg (And.intro hS hB))
 have HX := Lib.hid (sortStable_is w1 w1 g cap xs.length xs.toArray hS (by simp) HN.out.2)
 clear hR hB hg hS HC
 go_wp2_with fail
 refine HX.out.mono ?_
 rintro e w2 ⟨rfl, d, S2, P2, Q2⟩
 go_wp2
 go_ret
 exact ⟨g, cap, d, w1, rfl, HS.out.1, S2, HS.out.2.2, P2, Q2⟩
end Go.Proofs.YtgceecnlgjmghaaDoor.srt

