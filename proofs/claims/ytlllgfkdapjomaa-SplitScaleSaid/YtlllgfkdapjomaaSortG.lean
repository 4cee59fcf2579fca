/- slices.insertionSortCmpFunc at split.share, walked: a run is sorted. No conditions. -/
import Derived.Test.YtlllgfkdapjomaaSortF
namespace Go.Proofs.Ytlllgfkdapjomaa.srt
open Go.RowKit Go.Proofs.Ytlllgfkdapjomaa.base St
open Go.Sort (swp PermIn SortedIn SWO swp_get size_swp permIn_trans permIn_refl swp_permIn permIn_mono permIn_all Ins)
open Go.Proofs.YtlllgfkdapjomaaW.PrintWords
set_option linter.unusedSimpArgs false
attribute [local go_sem] Oper.semAt_some
set_option maxRecDepth 100000 in
set_option maxHeartbeats 4000000 in
theorem insertion_is (w0 w : World) (k cap a b z : Nat) (d : Array Sh) (S : SR w0 k d w) (hz : d.size = z) (hab : a ≤ b) (hb : b ≤ z) (hsz : z ≤ 5000) :
    Calls Try.prog 44 #[.slice (some ⟨k, 0, none⟩) z cap, .int .i64 a, .int .i64 b, fv] w fun e w' => e = .returned (.tuple #[]) ∧ ∃ d', SR w0 k d' w' ∧ PermIn a b d d' ∧ SortedIn St.lt a b d' := by
  have S0 := Lib.hid S
  have HB := Lib.hid (And.intro hab (And.intro hb (And.intro hsz hz)))
  have R0 := Lib.hid (show wrap64 ((a : Int) + 1) = ((a + 1 : Nat) : Int) by unfold wrap64; omega)
  clear S hz hab hb hsz
  go_enter Try.func44, Try.ntmps44
  go_wp2
  go_loopg [8] (b + 2) (fun kq v8 wr => ∃ (i : Nat) (dk : Array Sh), v8 = .int .i64 (i : Int) ∧ Aside0 (a < i ∧ (i ≤ b ∨ i = a + 1) ∧ b + 2 ≤ kq + i) ∧ Aside0 (SR w0 k dk wr ∧ PermIn a b d dk ∧ SortedIn St.lt a i dk))
  case atStart => exact ⟨a + 1, d, by rw [R0.out], ⟨by omega⟩, ⟨S0.out, permIn_refl d a b, sorted_one St.lt (Nat.le_refl _) d⟩⟩
  case round =>
    clear S0 R0
    obtain ⟨i, dk, rfl, HK, HO⟩ := hrel
    by_cases hib : i < b
    · obtain ⟨k1, rfl⟩ : ∃ k1, gk = k1 + 1 := ⟨gk - 1, by have := HK.out; omega⟩
      have E3 := Lib.hid (show wrap64 ((i : Int) + 1) = ((i + 1 : Nat) : Int) by unfold wrap64; have := HB.out; omega)
      go_wp2
      go_loopg [9] (i + 1) (fun kq v9 wr => ∃ (j : Nat) (dj : Array Sh), v9 = .int .i64 (j : Int) ∧ Aside0 (a ≤ j ∧ j ≤ i ∧ j + 1 ≤ kq) ∧ Aside0 (SR w0 k dj wr ∧ PermIn a b d dj ∧ Ins St.lt a j i dj))
      case atStart => exact ⟨i, dk, rfl, ⟨by have := HK.out; omega⟩, ⟨HO.out.1, HO.out.2.1, ⟨fun p q q1 q2 q3 q4 q5 => HO.out.2.2 p q q1 q2 (by omega), fun q q1 q2 => by omega⟩⟩⟩
      case round =>
        clear HO
        obtain ⟨j, dj, rfl, HJ, HS⟩ := hrel
        have hb := HB.out
        have hj := HJ.out
        have hs : dj.size = z := HS.out.2.1.1.trans hb.2.2.2
        by_cases haj : a < j
        · obtain ⟨y, hy⟩ : ∃ y, j - 1 = y := ⟨_, rfl⟩
          obtain ⟨su, hsu⟩ : ∃ s, dj[j]! = s := ⟨_, rfl⟩
          obtain ⟨sv, hsv⟩ : ∃ s, dj[y]! = s := ⟨_, rfl⟩
          have hud : j < dj.size := by omega
          have hvd : y < dj.size := by omega
          have bu := HS.out.1.bd j hud
          have bv := HS.out.1.bd y hvd
          rw [hsu] at bu
          rw [hsv] at bv
          have HC := Lib.hid (fun w => cmp_is su sv w bu bv)
          have u0 : ∀ V : World, SR w0 k dj V → V.cell? ⟨k, j * 3, none⟩ = some (.int .i64 su.q) := fun V h => by have q := (h.cell hud).1; rw [hsu] at q; exact q
          have u1 : ∀ V : World, SR w0 k dj V → V.cell? ⟨k, j * 3 + 1, none⟩ = some (.int .i64 su.r) := fun V h => by have q := (h.cell hud).2.1; rw [hsu] at q; exact q
          have u2 : ∀ V : World, SR w0 k dj V → V.cell? ⟨k, j * 3 + 2, none⟩ = some (.int .i64 su.p) := fun V h => by have q := (h.cell hud).2.2; rw [hsu] at q; exact q
          have v0 : ∀ V : World, SR w0 k dj V → V.cell? ⟨k, y * 3, none⟩ = some (.int .i64 sv.q) := fun V h => by have q := (h.cell hvd).1; rw [hsv] at q; exact q
          have v1 : ∀ V : World, SR w0 k dj V → V.cell? ⟨k, y * 3 + 1, none⟩ = some (.int .i64 sv.r) := fun V h => by have q := (h.cell hvd).2.1; rw [hsv] at q; exact q
          have v2 : ∀ V : World, SR w0 k dj V → V.cell? ⟨k, y * 3 + 2, none⟩ = some (.int .i64 sv.p) := fun V h => by have q := (h.cell hvd).2.2; rw [hsv] at q; exact q
          have tj : ((j : Int)).toNat = j := by omega
          have pj : ((0 : Int) ≤ (j : Int)) = True := eq_true (by omega)
          have lj : ((j : Int) < (z : Int)) = True := eq_true (by omega)
          have ty : ((y : Int)).toNat = y := by omega
          have py : ((0 : Int) ≤ (y : Int)) = True := eq_true (by omega)
          have ly : ((y : Int) < (z : Int)) = True := eq_true (by omega)
          have R1 := Lib.hid (show wrap64 ((j : Int) - 1) = (y : Int) by unfold wrap64; omega)
          have hjz : (a : Int) < (j : Int) := by omega
          have HY := Lib.hid hy
          clear hb hj hs hy
          have r1 := R1.out
          have r9 : IntKind.i64.wrap ((j : Int) - 1) = (y : Int) := (Go.Proofs.YtlllgfkdapjomaaW.PrintLast.i64_w _).trans R1.out
          go_upto_region 4 with fail
          by_cases hlt : cmpV su sv < 0
          · have c1 : decide (cmpV su sv < 0) = true := decide_eq_true hlt
            have KD := Lib.hid HS.out.1.drew
            have KW := Lib.hid HS.out.1
            go_region_held3 (fun w' => SR w0 k dj w')
                (first | with_reducible exact KD.out | with_reducible exact K5 | (go_split_ands; with_reducible (repeat (first | assumption | exact K5 | refine SR.drew ?_))))
                (first | (go_at_call 18; go_split_ands; refine (HC.out _).mono ?_; rintro e w5 ⟨rfl, B5⟩; have K5 := SR.below (by assumption) B5))
            all_goals go_upto_region 6 with fail
            have HS2 := Lib.hid K5
            clear KD KW B5 u0 u1 u2 v0 v1 v2 HC
            have CQ := Lib.hid c1
            clear c1
            have HX := Lib.hid (And.intro hsu hsv)
            have hb := HB.out
            have hj := HJ.out
            have hs : dj.size = z := HS.out.2.1.1.trans hb.2.2.2
            have hy := HY.out
            clear r1 r9
            have hxd : j < dj.size := by omega
            have hyd : y < dj.size := by omega
            have HXD := Lib.hid (And.intro hxd hyd)
            obtain ⟨c0, c1, c2⟩ := HS2.out.cell hxd
            obtain ⟨d0, d1, d2⟩ := HS2.out.cell hyd
            have f0 := HS2.out.frozen (j * 3)
            have f1 := HS2.out.frozen (j * 3 + 1)
            have f2 := HS2.out.frozen (j * 3 + 2)
            have f3 := HS2.out.frozen (y * 3)
            have f4 := HS2.out.frozen (y * 3 + 1)
            have f5 := HS2.out.frozen (y * 3 + 2)
            have n00 : ¬ j * 3 = y * 3 := by omega
            have m00 : ¬ y * 3 = j * 3 := by omega
            have n01 : ¬ j * 3 = y * 3 + 1 := by omega
            have m01 : ¬ y * 3 + 1 = j * 3 := by omega
            have n02 : ¬ j * 3 = y * 3 + 2 := by omega
            have m02 : ¬ y * 3 + 2 = j * 3 := by omega
            have n10 : ¬ j * 3 + 1 = y * 3 := by omega
            have m10 : ¬ y * 3 = j * 3 + 1 := by omega
            have n11 : ¬ j * 3 + 1 = y * 3 + 1 := by omega
            have m11 : ¬ y * 3 + 1 = j * 3 + 1 := by omega
            have n12 : ¬ j * 3 + 1 = y * 3 + 2 := by omega
            have m12 : ¬ y * 3 + 2 = j * 3 + 1 := by omega
            have n20 : ¬ j * 3 + 2 = y * 3 := by omega
            have m20 : ¬ y * 3 = j * 3 + 2 := by omega
            have n21 : ¬ j * 3 + 2 = y * 3 + 1 := by omega
            have m21 : ¬ y * 3 + 1 = j * 3 + 2 := by omega
            have n22 : ¬ j * 3 + 2 = y * 3 + 2 := by omega
            have m22 : ¬ y * 3 + 2 = j * 3 + 2 := by omega
            obtain ⟨sx, hsx⟩ : ∃ s, dj[j]! = s := ⟨_, rfl⟩
            obtain ⟨sy, hsy⟩ : ∃ s, dj[y]! = s := ⟨_, rfl⟩
            rw [hsx] at c0 c1 c2
            rw [hsy] at d0 d1 d2
            have HSW := Lib.hid (And.intro hsx hsy)
            clear hsx hsy hxd hyd
            clear hb hj hs hy hud hvd
            have r1 := R1.out
            have r9 : IntKind.i64.wrap ((j : Int) - 1) = (y : Int) := (Go.Proofs.YtlllgfkdapjomaaW.PrintLast.i64_w _).trans R1.out
            go_big_region
            all_goals go_wp2
            obtain ⟨k2, rfl⟩ : ∃ k1, gk = k1 + 1 := ⟨gk - 1, by have := HJ.out; clear r1 r9; omega⟩
            go_roundg k2
            case measure => omega
            case rel =>
              have hb := HB.out
              have hj := HJ.out
              have hy := HY.out
              have hs : dj.size = z := HS.out.2.1.1.trans hb.2.2.2
              clear r1 r9
              refine ⟨y, swp dj j y, by first | rfl | rw [R1.out], ⟨by omega⟩, ⟨?_, ?_, ?_⟩⟩
              · have := (HS2.out.swap HXD.out.1 HXD.out.2).drew
                rw [HSW.out.1, HSW.out.2] at this
                exact this
              · exact permIn_trans d dj _ a b HS.out.2.1 (swp_permIn dj a b j y (by omega) (by omega) (by omega) (by omega) (by omega))
              · obtain rfl : j = y + 1 := by omega
                refine HS.out.2.2.step ?_ (by omega) (by omega)
                rw [HX.out.1, HX.out.2, lt_def]
                exact CQ.out
          · have c1 : decide (cmpV su sv < 0) = false := decide_eq_false hlt
            have KD := Lib.hid HS.out.1.drew
            have KW := Lib.hid HS.out.1
            go_region_held3 (fun w' => SR w0 k dj w')
                (first | with_reducible exact KD.out | with_reducible exact K5 | (go_split_ands; with_reducible (repeat (first | assumption | exact K5 | refine SR.drew ?_))))
                (first | (go_at_call 18; go_split_ands; refine (HC.out _).mono ?_; rintro e w5 ⟨rfl, B5⟩; have K5 := SR.below (by assumption) B5))
            all_goals go_wp2
            go_roundg k1
            case measure => omega
            case rel =>
              have hb := HB.out
              have hj := HJ.out
              exact ⟨i + 1, dj, by rw [E3.out], ⟨by have := HK.out; omega⟩, ⟨K5, HS.out.2.1, HS.out.2.2.stop swo (.inr (by rw [show j - 1 = y from HY.out, hsu, hsv, lt_def]; exact c1))⟩⟩
        · have hjz : ¬ (a : Int) < (j : Int) := by omega
          have HD := Lib.hid HS.out.1.drew
          clear hb hj hs
          go_upto_region 4 with fail
          go_big_region
          all_goals go_wp2
          go_roundg k1
          case measure => omega
          case rel =>
            have hb := HB.out
            have hj := HJ.out
            exact ⟨i + 1, dj, by rw [E3.out], ⟨by have := HK.out; omega⟩, ⟨HD.out, HS.out.2.1, HS.out.2.2.stop swo (.inl (by omega))⟩⟩
    · go_wp2
      go_end0
      have hk := HK.out
      refine ⟨rfl, dk, HO.out.1, HO.out.2.1, fun p q q1 q2 q3 => HO.out.2.2 p q q1 q2 (by omega)⟩
end Go.Proofs.Ytlllgfkdapjomaa.srt
