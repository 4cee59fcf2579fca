/- slices.symMergeCmpFunc at split.share, walked where one of the runs has one element. No conditions. -/
import Derived.Test.YtlllgfkdapjomaaSortD
import Derived.Deep.RegionHeld3
namespace Go.Proofs.Ytlllgfkdapjomaa.srt
open Go.RowKit Go.Proofs.Ytlllgfkdapjomaa.base St
open Go.Sort (swp PermIn SortedIn SWO swp_get size_swp permIn_trans permIn_refl swp_permIn permIn_mono permIn_all)
open Go.Proofs.YtlllgfkdapjomaaW.PrintWords
set_option linter.unusedSimpArgs false
attribute [local go_sem] Oper.semAt_some
set_option maxRecDepth 100000 in
set_option maxHeartbeats 4000000 in
theorem sym_up (w0 w : World) (k cap a m b z : Nat) (d : Array Sh) (S : SR w0 k d w) (hz : d.size = z) (ham : a < m) (hmb : m < b) (hb : b ≤ z) (hsz : z ≤ 5000) (h1 : SortedIn St.lt a m d) (h2 : SortedIn St.lt m b d) (h1m : m = a + 1) :
    Calls Try.prog 45 #[.slice (some ⟨k, 0, none⟩) z cap, .int .i64 a, .int .i64 m, .int .i64 b, fv] w fun e w' => e = .returned (.tuple #[]) ∧ ∃ d', SR w0 k d' w' ∧ PermIn a b d d' ∧ SortedIn St.lt a b d' := by
  have S0 := Lib.hid S
  have HB := Lib.hid (And.intro ham (And.intro hmb (And.intro hb (And.intro hsz hz))))
  have H1 := Lib.hid h1
  have H2 := Lib.hid h2
  have r0 : wrap64 ((m : Int) - (a : Int)) = 1 := by unfold wrap64; omega
  have HM := Lib.hid h1m
  clear S hz ham hmb hb hsz h1 h2 h1m
  go_enter Try.func45, Try.ntmps45
  go_wp2_with fail
  clear r0
  go_loopg [10, 11] (b + 1) (fun kq v10 v11 wr => ∃ (i j : Nat), v10 = .int .i64 (i : Int) ∧ v11 = .int .i64 (j : Int) ∧ Aside0 (m ≤ i ∧ i ≤ j ∧ j ≤ b ∧ j - i + 1 ≤ kq) ∧ Aside0 (SR w0 k d wr ∧ (∀ h, m ≤ h → h < i → St.lt d[h]! d[a]! = true) ∧ (∀ h, j ≤ h → h < b → St.lt d[h]! d[a]! = false)))
  case atStart => exact ⟨m, b, rfl, rfl, ⟨by have := HB.out; omega⟩, ⟨S0.out, fun h q1 q2 => by omega, fun h q1 q2 => by omega⟩⟩
  case round =>
    clear S0
    obtain ⟨i, j, rfl, rfl, HK, HS⟩ := hrel
    have hb := HB.out
    have hk := HK.out
    by_cases hij : i < j
    · obtain ⟨k1, rfl⟩ : ∃ k1, gk = k1 + 1 := ⟨gk - 1, by omega⟩
      obtain ⟨h, hh⟩ : ∃ h, (i + j) / 2 = h := ⟨_, rfl⟩
      have hih : i ≤ h ∧ h < j := by omega
      obtain ⟨su, hsu⟩ : ∃ s, d[h]! = s := ⟨_, rfl⟩
      obtain ⟨sv, hsv⟩ : ∃ s, d[a]! = s := ⟨_, rfl⟩
      have hud : h < d.size := by omega
      have hvd : a < d.size := by omega
      have bu := HS.out.1.bd h hud
      have bv := HS.out.1.bd a hvd
      rw [hsu] at bu
      rw [hsv] at bv
      have HC := Lib.hid (fun w => cmp_is su sv w bu bv)
      have u0 : ∀ V : World, SR w0 k d V → V.cell? ⟨k, h * 3, none⟩ = some (.int .i64 su.q) := fun V h => by have q := (h.cell hud).1; rw [hsu] at q; exact q
      have u1 : ∀ V : World, SR w0 k d V → V.cell? ⟨k, h * 3 + 1, none⟩ = some (.int .i64 su.r) := fun V h => by have q := (h.cell hud).2.1; rw [hsu] at q; exact q
      have u2 : ∀ V : World, SR w0 k d V → V.cell? ⟨k, h * 3 + 2, none⟩ = some (.int .i64 su.p) := fun V h => by have q := (h.cell hud).2.2; rw [hsu] at q; exact q
      have v0 : ∀ V : World, SR w0 k d V → V.cell? ⟨k, a * 3, none⟩ = some (.int .i64 sv.q) := fun V h => by have q := (h.cell hvd).1; rw [hsv] at q; exact q
      have v1 : ∀ V : World, SR w0 k d V → V.cell? ⟨k, a * 3 + 1, none⟩ = some (.int .i64 sv.r) := fun V h => by have q := (h.cell hvd).2.1; rw [hsv] at q; exact q
      have v2 : ∀ V : World, SR w0 k d V → V.cell? ⟨k, a * 3 + 2, none⟩ = some (.int .i64 sv.p) := fun V h => by have q := (h.cell hvd).2.2; rw [hsv] at q; exact q
      have EH := Lib.hid (show wrap64 (IntKind.u64.wrap (wrap64 ((i : Int) + (j : Int))) / 2) = (h : Int) by rw [mid_w i j (by omega), hh])
      clear hb hk
      go_upto_region 5 with fail
      rw [EH.out]
      have th : ((h : Int)).toNat = h := by omega
      have ph : ((0 : Int) ≤ (h : Int)) = True := eq_true (by omega)
      have lh : ((h : Int) < (z : Int)) = True := eq_true (by have := HB.out; omega)
      have ta : ((a : Int)).toNat = a := by omega
      have pa : ((0 : Int) ≤ (a : Int)) = True := eq_true (by omega)
      have la : ((a : Int) < (z : Int)) = True := eq_true (by have := HB.out; omega)
      clear hh
      by_cases hlt : cmpV su sv < 0
      · have c1 : decide (cmpV su sv < 0) = true := decide_eq_true hlt
        have KD := Lib.hid HS.out.1.drew
        have KW := Lib.hid HS.out.1
        go_region_held3 (fun w' => SR w0 k d w')
            (first | with_reducible exact KD.out | with_reducible exact K5 | (go_split_ands; with_reducible (repeat (first | assumption | exact K5 | refine SR.drew ?_))))
            (first | (go_at_call 18; go_split_ands; refine (HC.out _).mono ?_; rintro e w5 ⟨rfl, B5⟩; have K5 := SR.below (by assumption) B5))
        have E1 := Lib.hid (show wrap64 ((h : Int) + 1) = ((h + 1 : Nat) : Int) by unfold wrap64; have := HB.out; omega)
        all_goals go_wp2
        go_roundg k1
        case measure => omega
        case rel =>
          have hb := HB.out
          have hk := HK.out
          refine ⟨h + 1, j, by rw [E1.out], rfl, ⟨by omega⟩, ⟨K5, fun g q1 q2 => ?_, HS.out.2.2⟩⟩
          have hl : St.lt d[h]! d[a]! = true := by rw [hsu, hsv, lt_def]; exact c1
          exact pre_true swo (SortedIn.le swo H2.out q1 (by omega) (by omega)) hl
      · have c1 : decide (cmpV su sv < 0) = false := decide_eq_false hlt
        have KD := Lib.hid HS.out.1.drew
        have KW := Lib.hid HS.out.1
        go_region_held3 (fun w' => SR w0 k d w')
            (first | with_reducible exact KD.out | with_reducible exact K5 | (go_split_ands; with_reducible (repeat (first | assumption | exact K5 | refine SR.drew ?_))))
            (first | (go_at_call 18; go_split_ands; refine (HC.out _).mono ?_; rintro e w5 ⟨rfl, B5⟩; have K5 := SR.below (by assumption) B5))
        all_goals go_wp2
        go_roundg k1
        case measure => omega
        case rel =>
          have hb := HB.out
          have hk := HK.out
          refine ⟨i, h, rfl, rfl, ⟨by omega⟩, ⟨K5, HS.out.2.1, fun g q1 q2 => ?_⟩⟩
          have hl : St.lt d[h]! d[a]! = false := by rw [hsu, hsv, lt_def]; exact c1
          exact swo.ntrans _ _ _ (SortedIn.le swo H2.out (by omega) q1 q2) hl
    · obtain rfl : i = j := by omega
      have HF := Lib.hid (And.intro hk HS.out.2)
      obtain ⟨ip, hip⟩ : ∃ ip, i - 1 = ip := ⟨_, rfl⟩
      have RI := Lib.hid (show wrap64 ((i : Int) - 1) = (ip : Int) by unfold wrap64; have := HM.out; omega)
      have HIP := Lib.hid hip
      have HS1 := Lib.hid HS.out.1
      clear hb hk hip HS HK
      go_wp2_with fail
      go_loopg [13] (b + 1) (fun kq v13 wr => ∃ (t : Nat) (dk : Array Sh), v13 = .int .i64 (t : Int) ∧ Aside0 (a ≤ t ∧ t ≤ ip ∧ ip - t + 1 ≤ kq) ∧ Aside0 (SR w0 k dk wr ∧ Rot a (a + 1) (t + 1) d dk ∧ PermIn a b d dk))
      case atStart => exact ⟨a, d, rfl, ⟨by have := HB.out; have := HF.out.1; have := HIP.out; have := HM.out; omega⟩, ⟨HS1.out, Rot.nil2 a (a + 1) d, permIn_refl d a b⟩⟩
      case round =>
        clear HS1
        obtain ⟨t, dk, rfl, HK, HS⟩ := hrel
        have hb := HB.out
        have hk := HK.out
        have hs : dk.size = z := HS.out.2.2.1.trans hb.2.2.2.2
        have hf := HF.out.1
        have hip := HIP.out
        have hm := HM.out
        have ri := RI.out
        by_cases htp : t < ip
        · obtain ⟨k2, rfl⟩ : ∃ k1, gk = k1 + 1 := ⟨gk - 1, by clear ri; omega⟩
          obtain ⟨y, hy⟩ : ∃ y, t + 1 = y := ⟨_, rfl⟩
          clear ri
          have R1 := Lib.hid (show wrap64 ((t : Int) + 1) = (y : Int) by unfold wrap64; omega)
          have hxd : t < dk.size := by omega
          have hyd : y < dk.size := by omega
          have HXD := Lib.hid (And.intro hxd hyd)
          obtain ⟨c0, c1, c2⟩ := HS.out.1.cell hxd
          obtain ⟨d0, d1, d2⟩ := HS.out.1.cell hyd
          have f0 := HS.out.1.frozen (t * 3)
          have f1 := HS.out.1.frozen (t * 3 + 1)
          have f2 := HS.out.1.frozen (t * 3 + 2)
          have f3 := HS.out.1.frozen (y * 3)
          have f4 := HS.out.1.frozen (y * 3 + 1)
          have f5 := HS.out.1.frozen (y * 3 + 2)
          have n00 : ¬ t * 3 = y * 3 := by omega
          have m00 : ¬ y * 3 = t * 3 := by omega
          have n01 : ¬ t * 3 = y * 3 + 1 := by omega
          have m01 : ¬ y * 3 + 1 = t * 3 := by omega
          have n02 : ¬ t * 3 = y * 3 + 2 := by omega
          have m02 : ¬ y * 3 + 2 = t * 3 := by omega
          have n10 : ¬ t * 3 + 1 = y * 3 := by omega
          have m10 : ¬ y * 3 = t * 3 + 1 := by omega
          have n11 : ¬ t * 3 + 1 = y * 3 + 1 := by omega
          have m11 : ¬ y * 3 + 1 = t * 3 + 1 := by omega
          have n12 : ¬ t * 3 + 1 = y * 3 + 2 := by omega
          have m12 : ¬ y * 3 + 2 = t * 3 + 1 := by omega
          have n20 : ¬ t * 3 + 2 = y * 3 := by omega
          have m20 : ¬ y * 3 = t * 3 + 2 := by omega
          have n21 : ¬ t * 3 + 2 = y * 3 + 1 := by omega
          have m21 : ¬ y * 3 + 1 = t * 3 + 2 := by omega
          have n22 : ¬ t * 3 + 2 = y * 3 + 2 := by omega
          have m22 : ¬ y * 3 + 2 = t * 3 + 2 := by omega
          obtain ⟨sx, hsx⟩ : ∃ s, dk[t]! = s := ⟨_, rfl⟩
          obtain ⟨sy, hsy⟩ : ∃ s, dk[y]! = s := ⟨_, rfl⟩
          rw [hsx] at c0 c1 c2
          rw [hsy] at d0 d1 d2
          have HSW := Lib.hid (And.intro hsx hsy)
          clear hsx hsy hxd hyd
          have tt : ((t : Int)).toNat = t := by omega
          have pt : ((0 : Int) ≤ (t : Int)) = True := eq_true (by omega)
          have lt : ((t : Int) < (z : Int)) = True := eq_true (by omega)
          have ty : ((y : Int)).toNat = y := by omega
          have py : ((0 : Int) ≤ (y : Int)) = True := eq_true (by omega)
          have ly : ((y : Int) < (z : Int)) = True := eq_true (by omega)
          have HY := Lib.hid hy
          clear hb hk hs hf hip hm hy
          have ri := RI.out
          have r1 := R1.out
          go_upto_region 11 with fail
          go_big_region
          all_goals go_wp2
          go_roundg k2
          case measure => omega
          case rel =>
            have hb := HB.out
            have hk := HK.out
            have hs : dk.size = z := HS.out.2.2.1.trans hb.2.2.2.2
            have hf := HF.out.1
            have hip := HIP.out
            have hm := HM.out
            have hy := HY.out
            clear ri r1
            refine ⟨y, swp dk t y, by rw [R1.out], ⟨by omega⟩, ⟨?_, ?_, ?_⟩⟩
            · have := (HS.out.1.swap HXD.out.1 HXD.out.2).drew
              rw [HSW.out.1, HSW.out.2] at this
              exact this
            · subst hy
              exact HS.out.2.1.up (by omega) (by omega)
            · exact permIn_trans d dk _ a b HS.out.2.2 (swp_permIn dk a b t y (by omega) (by omega) (by omega) (by omega) (by omega))
        · clear hb hk hs hip hf hm
          go_wp2
          (try simp only [Exit.inBlock, Exit.then])
          refine bodyPost_ret (results_none rfl _ _ _) rfl ?_
          have hb := HB.out
          have hk := HK.out
          have hf := HF.out.1
          have hip := HIP.out
          have hm := HM.out
          clear ri
          refine ⟨rfl, dk, HS.out.1, HS.out.2.2, ?_⟩
          have hr := HS.out.2.1
          rw [show t + 1 = i by omega] at hr
          exact up_done swo hm (by omega) (by omega) H2.out HF.out.2.1 HF.out.2.2 hr
set_option maxRecDepth 100000 in
set_option maxHeartbeats 4000000 in
theorem sym_down (w0 w : World) (k cap a m b z : Nat) (d : Array Sh) (S : SR w0 k d w) (hz : d.size = z) (ham : a < m) (hmb : m < b) (hb : b ≤ z) (hsz : z ≤ 5000) (h1 : SortedIn St.lt a m d) (h2 : SortedIn St.lt m b d) (hbm : b = m + 1) (hma : m ≠ a + 1) :
    Calls Try.prog 45 #[.slice (some ⟨k, 0, none⟩) z cap, .int .i64 a, .int .i64 m, .int .i64 b, fv] w fun e w' => e = .returned (.tuple #[]) ∧ ∃ d', SR w0 k d' w' ∧ PermIn a b d d' ∧ SortedIn St.lt a b d' := by
  have S0 := Lib.hid S
  have HB := Lib.hid (And.intro ham (And.intro hmb (And.intro hb (And.intro hsz hz))))
  have H1 := Lib.hid h1
  have H2 := Lib.hid h2
  obtain ⟨ma, hma2⟩ : ∃ x, m - a = x := ⟨_, rfl⟩
  have r0 : wrap64 ((m : Int) - (a : Int)) = (ma : Int) := by unfold wrap64; omega
  have r1 : wrap64 ((b : Int) - (m : Int)) = 1 := by unfold wrap64; omega
  have RQ := Lib.hid (And.intro r0 r1)
  clear r0 r1
  have q0 : ¬ (ma : Int) = 1 := by omega
  have q2 : ((ma : Int) == 1) = false := by simpa using q0
  have HM := Lib.hid hbm
  clear S hz ham hmb hb hsz h1 h2 hbm hma hma2
  have r0 := RQ.out.1
  have r1 := RQ.out.2
  go_enter Try.func45, Try.ntmps45
  go_wp2_with fail
  clear r0 r1 q0 q2 RQ
  go_loopg [14, 15] (b + 1) (fun kq v10 v11 wr => ∃ (i j : Nat), v10 = .int .i64 (i : Int) ∧ v11 = .int .i64 (j : Int) ∧ Aside0 (a ≤ i ∧ i ≤ j ∧ j ≤ m ∧ j - i + 1 ≤ kq) ∧ Aside0 (SR w0 k d wr ∧ (∀ h, a ≤ h → h < i → St.lt d[m]! d[h]! = false) ∧ (∀ h, j ≤ h → h < m → St.lt d[m]! d[h]! = true)))
  case atStart => exact ⟨a, m, rfl, rfl, ⟨by have := HB.out; omega⟩, ⟨S0.out, fun h q1 q2 => by omega, fun h q1 q2 => by omega⟩⟩
  case round =>
    clear S0
    obtain ⟨i, j, rfl, rfl, HK, HS⟩ := hrel
    have hb := HB.out
    have hk := HK.out
    by_cases hij : i < j
    · obtain ⟨k1, rfl⟩ : ∃ k1, gk = k1 + 1 := ⟨gk - 1, by omega⟩
      obtain ⟨h, hh⟩ : ∃ h, (i + j) / 2 = h := ⟨_, rfl⟩
      have hih : i ≤ h ∧ h < j := by omega
      obtain ⟨su, hsu⟩ : ∃ s, d[m]! = s := ⟨_, rfl⟩
      obtain ⟨sv, hsv⟩ : ∃ s, d[h]! = s := ⟨_, rfl⟩
      have hud : m < d.size := by omega
      have hvd : h < d.size := by omega
      have bu := HS.out.1.bd m hud
      have bv := HS.out.1.bd h hvd
      rw [hsu] at bu
      rw [hsv] at bv
      have HC := Lib.hid (fun w => cmp_is su sv w bu bv)
      have u0 : ∀ V : World, SR w0 k d V → V.cell? ⟨k, m * 3, none⟩ = some (.int .i64 su.q) := fun V h => by have q := (h.cell hud).1; rw [hsu] at q; exact q
      have u1 : ∀ V : World, SR w0 k d V → V.cell? ⟨k, m * 3 + 1, none⟩ = some (.int .i64 su.r) := fun V h => by have q := (h.cell hud).2.1; rw [hsu] at q; exact q
      have u2 : ∀ V : World, SR w0 k d V → V.cell? ⟨k, m * 3 + 2, none⟩ = some (.int .i64 su.p) := fun V h => by have q := (h.cell hud).2.2; rw [hsu] at q; exact q
      have v0 : ∀ V : World, SR w0 k d V → V.cell? ⟨k, h * 3, none⟩ = some (.int .i64 sv.q) := fun V h => by have q := (h.cell hvd).1; rw [hsv] at q; exact q
      have v1 : ∀ V : World, SR w0 k d V → V.cell? ⟨k, h * 3 + 1, none⟩ = some (.int .i64 sv.r) := fun V h => by have q := (h.cell hvd).2.1; rw [hsv] at q; exact q
      have v2 : ∀ V : World, SR w0 k d V → V.cell? ⟨k, h * 3 + 2, none⟩ = some (.int .i64 sv.p) := fun V h => by have q := (h.cell hvd).2.2; rw [hsv] at q; exact q
      have EH := Lib.hid (show wrap64 (IntKind.u64.wrap (wrap64 ((i : Int) + (j : Int))) / 2) = (h : Int) by rw [mid_w i j (by omega), hh])
      clear hb hk
      go_upto_region 17 with fail
      rw [EH.out]
      have th : ((h : Int)).toNat = h := by omega
      have ph : ((0 : Int) ≤ (h : Int)) = True := eq_true (by omega)
      have lh : ((h : Int) < (z : Int)) = True := eq_true (by have := HB.out; omega)
      have tm : ((m : Int)).toNat = m := by omega
      have pm : ((0 : Int) ≤ (m : Int)) = True := eq_true (by omega)
      have lm : ((m : Int) < (z : Int)) = True := eq_true (by have := HB.out; omega)
      clear hh
      by_cases hlt : cmpV su sv < 0
      · have c1 : decide (cmpV su sv < 0) = true := decide_eq_true hlt
        have KD := Lib.hid HS.out.1.drew
        have KW := Lib.hid HS.out.1
        go_region_held3 (fun w' => SR w0 k d w')
            (first | with_reducible exact KD.out | with_reducible exact K5 | (go_split_ands; with_reducible (repeat (first | assumption | exact K5 | refine SR.drew ?_))))
            (first | (go_at_call 18; go_split_ands; refine (HC.out _).mono ?_; rintro e w5 ⟨rfl, B5⟩; have K5 := SR.below (by assumption) B5))
        all_goals go_wp2
        go_roundg k1
        case measure => omega
        case rel =>
          have hb := HB.out
          have hk := HK.out
          refine ⟨i, h, rfl, rfl, ⟨by omega⟩, ⟨K5, HS.out.2.1, fun g q1 q2 => ?_⟩⟩
          have hl : St.lt d[m]! d[h]! = true := by rw [hsu, hsv, lt_def]; exact c1
          exact post_true swo (SortedIn.le swo H1.out (by omega) q1 q2) hl
      · have c1 : decide (cmpV su sv < 0) = false := decide_eq_false hlt
        have KD := Lib.hid HS.out.1.drew
        have KW := Lib.hid HS.out.1
        go_region_held3 (fun w' => SR w0 k d w')
            (first | with_reducible exact KD.out | with_reducible exact K5 | (go_split_ands; with_reducible (repeat (first | assumption | exact K5 | refine SR.drew ?_))))
            (first | (go_at_call 18; go_split_ands; refine (HC.out _).mono ?_; rintro e w5 ⟨rfl, B5⟩; have K5 := SR.below (by assumption) B5))
        have E1 := Lib.hid (show wrap64 ((h : Int) + 1) = ((h + 1 : Nat) : Int) by unfold wrap64; have := HB.out; omega)
        all_goals go_wp2
        go_roundg k1
        case measure => omega
        case rel =>
          have hb := HB.out
          have hk := HK.out
          refine ⟨h + 1, j, by rw [E1.out], rfl, ⟨by omega⟩, ⟨K5, fun g q1 q2 => ?_, HS.out.2.2⟩⟩
          have hl : St.lt d[m]! d[h]! = false := by rw [hsu, hsv, lt_def]; exact c1
          exact swo.ntrans _ _ _ hl (SortedIn.le swo H1.out q1 (by omega) (by omega))
    · obtain rfl : i = j := by omega
      have HF := Lib.hid (And.intro hk HS.out.2)
      have HS1 := Lib.hid HS.out.1
      clear hb hk HS HK
      go_wp2_with fail
      go_loopg [17] (b + 1) (fun kq v13 wr => ∃ (t : Nat) (dk : Array Sh), v13 = .int .i64 (t : Int) ∧ Aside0 (i ≤ t ∧ t ≤ m ∧ t + 1 ≤ kq) ∧ Aside0 (SR w0 k dk wr ∧ Rot t m (m + 1) d dk ∧ PermIn a b d dk))
      case atStart => exact ⟨m, d, rfl, ⟨by have := HB.out; have := HF.out.1; omega⟩, ⟨HS1.out, Rot.nil1 m (m + 1) d, permIn_refl d a b⟩⟩
      case round =>
        clear HS1
        obtain ⟨t, dk, rfl, HK, HS⟩ := hrel
        have hb := HB.out
        have hk := HK.out
        have hs : dk.size = z := HS.out.2.2.1.trans hb.2.2.2.2
        have hf := HF.out.1
        have hm := HM.out
        by_cases htp : i < t
        · obtain ⟨k2, rfl⟩ : ∃ k1, gk = k1 + 1 := ⟨gk - 1, by omega⟩
          obtain ⟨y, hy⟩ : ∃ y, t - 1 = y := ⟨_, rfl⟩
          have R1 := Lib.hid (show wrap64 ((t : Int) - 1) = (y : Int) by unfold wrap64; omega)
          have hxd : t < dk.size := by omega
          have hyd : y < dk.size := by omega
          have HXD := Lib.hid (And.intro hxd hyd)
          obtain ⟨c0, c1, c2⟩ := HS.out.1.cell hxd
          obtain ⟨d0, d1, d2⟩ := HS.out.1.cell hyd
          have f0 := HS.out.1.frozen (t * 3)
          have f1 := HS.out.1.frozen (t * 3 + 1)
          have f2 := HS.out.1.frozen (t * 3 + 2)
          have f3 := HS.out.1.frozen (y * 3)
          have f4 := HS.out.1.frozen (y * 3 + 1)
          have f5 := HS.out.1.frozen (y * 3 + 2)
          have n00 : ¬ t * 3 = y * 3 := by omega
          have m00 : ¬ y * 3 = t * 3 := by omega
          have n01 : ¬ t * 3 = y * 3 + 1 := by omega
          have m01 : ¬ y * 3 + 1 = t * 3 := by omega
          have n02 : ¬ t * 3 = y * 3 + 2 := by omega
          have m02 : ¬ y * 3 + 2 = t * 3 := by omega
          have n10 : ¬ t * 3 + 1 = y * 3 := by omega
          have m10 : ¬ y * 3 = t * 3 + 1 := by omega
          have n11 : ¬ t * 3 + 1 = y * 3 + 1 := by omega
          have m11 : ¬ y * 3 + 1 = t * 3 + 1 := by omega
          have n12 : ¬ t * 3 + 1 = y * 3 + 2 := by omega
          have m12 : ¬ y * 3 + 2 = t * 3 + 1 := by omega
          have n20 : ¬ t * 3 + 2 = y * 3 := by omega
          have m20 : ¬ y * 3 = t * 3 + 2 := by omega
          have n21 : ¬ t * 3 + 2 = y * 3 + 1 := by omega
          have m21 : ¬ y * 3 + 1 = t * 3 + 2 := by omega
          have n22 : ¬ t * 3 + 2 = y * 3 + 2 := by omega
          have m22 : ¬ y * 3 + 2 = t * 3 + 2 := by omega
          obtain ⟨sx, hsx⟩ : ∃ s, dk[t]! = s := ⟨_, rfl⟩
          obtain ⟨sy, hsy⟩ : ∃ s, dk[y]! = s := ⟨_, rfl⟩
          rw [hsx] at c0 c1 c2
          rw [hsy] at d0 d1 d2
          have HSW := Lib.hid (And.intro hsx hsy)
          clear hsx hsy hxd hyd
          have tt : ((t : Int)).toNat = t := by omega
          have pt : ((0 : Int) ≤ (t : Int)) = True := eq_true (by omega)
          have lt : ((t : Int) < (z : Int)) = True := eq_true (by omega)
          have ty : ((y : Int)).toNat = y := by omega
          have py : ((0 : Int) ≤ (y : Int)) = True := eq_true (by omega)
          have ly : ((y : Int) < (z : Int)) = True := eq_true (by omega)
          have HY := Lib.hid hy
          clear hb hk hs hf hm hy
          have r1 := R1.out
          go_upto_region 23 with fail
          go_big_region
          all_goals go_wp2
          go_roundg k2
          case measure => omega
          case rel =>
            have hb := HB.out
            have hk := HK.out
            have hs : dk.size = z := HS.out.2.2.1.trans hb.2.2.2.2
            have hf := HF.out.1
            have hm := HM.out
            have hy := HY.out
            clear r1
            refine ⟨y, swp dk t y, by rw [R1.out], ⟨by omega⟩, ⟨?_, ?_, ?_⟩⟩
            · have := (HS.out.1.swap HXD.out.1 HXD.out.2).drew
              rw [HSW.out.1, HSW.out.2] at this
              exact this
            · obtain rfl : t = y + 1 := by omega
              exact HS.out.2.1.down (by omega) (by omega)
            · exact permIn_trans d dk _ a b HS.out.2.2 (swp_permIn dk a b t y (by omega) (by omega) (by omega) (by omega) (by omega))
        · clear hb hk hs hf hm
          go_wp2
          (try simp only [Exit.inBlock, Exit.then])
          refine bodyPost_ret (results_none rfl _ _ _) rfl ?_
          have hb := HB.out
          have hk := HK.out
          have hf := HF.out.1
          have hm := HM.out
          refine ⟨rfl, dk, HS.out.1, HS.out.2.2, ?_⟩
          have hr := HS.out.2.1
          rw [show t = i by omega] at hr
          exact down_done swo hm (by omega) (by omega) H1.out HF.out.2.1 HF.out.2.2 hr
end Go.Proofs.Ytlllgfkdapjomaa.srt
