/- slices.stableCmpFunc and slices.SortStableFunc at split.share, walked: the row is sorted. No conditions. -/
import Derived.Test.YtlllgfkdapjomaaSortG
import Derived.Test.YtlllgfkdapjomaaStabMath2
namespace Go.Proofs.Ytlllgfkdapjomaa.srt
open Go.RowKit Go.Proofs.Ytlllgfkdapjomaa.base St
open Go.Sort (swp PermIn SortedIn SWO swp_get size_swp permIn_trans permIn_refl swp_permIn permIn_mono permIn_all)
open Go.Proofs.YtlllgfkdapjomaaW.PrintWords
set_option linter.unusedSimpArgs false
attribute [local go_sem] Oper.semAt_some
set_option maxRecDepth 100000 in
set_option maxHeartbeats 4000000 in
theorem stable_is (w0 w : World) (k cap z : Nat) (d : Array Sh) (S : SR w0 k d w) (hz : d.size = z) (hsz : z ≤ 5000) :
    Calls Try.prog 36 #[.slice (some ⟨k, 0, none⟩) z cap, .int .i64 z, fv] w fun e w' => e = .returned (.tuple #[]) ∧ ∃ d', SR w0 k d' w' ∧ PermIn 0 z d d' ∧ SortedIn St.lt 0 z d' := by
  have S0 := Lib.hid S
  have HB := Lib.hid (And.intro hz hsz)
  clear S hz hsz
  go_enter Try.func36, Try.ntmps36
  go_wp2
  go_loopg [7, 8] (z + 1) (fun kq v7 v8 wr => ∃ (t a b : Nat) (dk : Array Sh), v7 = .int .i64 (a : Int) ∧ v8 = .int .i64 (b : Int) ∧ Aside0 (t * 20 = a ∧ a + 20 = b ∧ a ≤ z ∧ z + 1 ≤ kq + a) ∧ Aside0 (SR w0 k dk wr ∧ PermIn 0 z d dk ∧ One St.lt 20 t dk))
  case atStart => exact ⟨0, 0, 20, d, rfl, rfl, ⟨by omega⟩, ⟨S0.out, permIn_refl d 0 z, One.zero _ _ _⟩⟩
  case round =>
    clear S0
    obtain ⟨t, a, b, dk, rfl, rfl, HK, HS⟩ := hrel
    have hs : dk.size = z := HS.out.2.1.1.trans HB.out.1
    by_cases hbz : b ≤ z
    · obtain ⟨k1, rfl⟩ : ∃ k1, gk = k1 + 1 := ⟨gk - 1, by have := HK.out; omega⟩
      obtain ⟨b2, hb2⟩ : ∃ b2, b + 20 = b2 := ⟨_, rfl⟩
      have R1 := Lib.hid (show wrap64 ((b : Int) + 20) = (b2 : Int) by unfold wrap64; have := HB.out; omega)
      have HC := Lib.hid (fun w (h : SR w0 k dk w) => insertion_is w0 w k cap a b z dk h hs (by have := HK.out; omega) hbz HB.out.2)
      have HB2 := Lib.hid hb2
      clear hs hb2
      go_wp2_with fail
      refine (HC.out _ HS.out.1).mono ?_
      rintro e w1 ⟨rfl, d2, S2, P2, Q2⟩
      have HN := Lib.hid (And.intro S2 (And.intro P2 Q2))
      clear S2 P2 Q2 HC
      go_wp2
      go_roundg k1
      case measure => omega
      case rel =>
        have hk := HK.out
        have hh := HB2.out
        have hp := HN.out.2.1
        rw [← hk.2.1] at hp
        have hq := HN.out.2.2
        rw [← hk.2.1] at hq
        exact ⟨t + 1, b, b2, d2, rfl, by rw [R1.out], ⟨by omega⟩, ⟨HN.out.1, permIn_trans d dk d2 0 z HS.out.2.1 (permIn_mono dk d2 a b 0 z (by omega) hbz (by rw [HS.out.2.1.1, HB.out.1]; omega) HN.out.2.1), HS.out.2.2.next hk.1 hp hq⟩⟩
    · have HC := Lib.hid (fun w (h : SR w0 k dk w) => insertion_is w0 w k cap a z z dk h hs (by have := HK.out; omega) (Nat.le_refl z) HB.out.2)
      clear hs
      go_wp2_with fail
      refine (HC.out _ HS.out.1).mono ?_
      rintro e w1 ⟨rfl, d2, S2, P2, Q2⟩
      have HN := Lib.hid (show SR w0 k d2 w1 ∧ PermIn 0 z d d2 ∧ Blk St.lt 20 z d2 from ⟨S2, permIn_trans d dk d2 0 z HS.out.2.1 (permIn_mono dk d2 a z 0 z (by omega) (Nat.le_refl z) (by rw [HS.out.2.1.1, HB.out.1]; omega) P2), HS.out.2.2.last HK.out.1 (by have := HK.out; omega) (by have := HK.out; omega) P2 Q2⟩)
      clear S2 P2 Q2 HC HS HK hbz
      go_wp2
      go_loopg [6] (z + 1) (fun kq v6 wr => ∃ (c : Nat) (dk : Array Sh), v6 = .int .i64 (c : Int) ∧ Aside0 (20 ≤ c ∧ c ≤ 20000 ∧ z + 1 ≤ kq + c) ∧ Aside0 (SR w0 k dk wr ∧ PermIn 0 z d dk ∧ Blk St.lt c z dk))
      case atStart => exact ⟨20, d2, rfl, ⟨by omega⟩, ⟨HN.out.1, HN.out.2.1, HN.out.2.2⟩⟩
      case round =>
        clear HN
        obtain ⟨c, dj, rfl, HC, HO⟩ := hrel
        by_cases hcz : c < z
        · obtain ⟨k1, rfl⟩ : ∃ k1, gk = k1 + 1 := ⟨gk - 1, by have := HC.out; omega⟩
          obtain ⟨cc, hcc⟩ : ∃ cc, 2 * c = cc := ⟨_, rfl⟩
          have R1 := Lib.hid (show wrap64 (2 * (c : Int)) = (cc : Int) by unfold wrap64; have := HC.out; omega)
          have R2 := Lib.hid (show wrap64 ((c : Int) * 2) = (cc : Int) by unfold wrap64; have := HC.out; omega)
          have HCC := Lib.hid hcc
          clear hcc
          have r1 := R1.out
          go_wp2
          simp only [r1]
          clear r1
          go_loopg [7, 8] (z + 1) (fun kq v7 v8 wr => ∃ (t a b : Nat) (dk : Array Sh), v7 = .int .i64 (a : Int) ∧ v8 = .int .i64 (b : Int) ∧ Aside0 (t * (2 * c) = a ∧ a + 2 * c = b ∧ a ≤ z ∧ z + 1 ≤ kq + a) ∧ Aside0 (SR w0 k dk wr ∧ PermIn 0 z d dk ∧ Two St.lt c z t dk))
          case atStart => exact ⟨0, 0, cc, dj, rfl, by first | rfl | rw [R1.out], ⟨by have := HCC.out; omega⟩, ⟨HO.out.1, HO.out.2.1, Two.zero HO.out.2.2⟩⟩
          case round =>
            clear HO
            obtain ⟨t, a, b, dk, rfl, rfl, HK, HS⟩ := hrel
            have hs : dk.size = z := HS.out.2.1.1.trans HB.out.1
            have hk := HK.out
            have hc := HC.out
            obtain ⟨m, hm⟩ : ∃ m, a + c = m := ⟨_, rfl⟩
            have R3 := Lib.hid (show wrap64 ((a : Int) + (c : Int)) = (m : Int) by unfold wrap64; have := HB.out; omega)
            have HM := Lib.hid hm
            by_cases hbz : b ≤ z
            · obtain ⟨k2, rfl⟩ : ∃ k1, gk = k1 + 1 := ⟨gk - 1, by omega⟩
              obtain ⟨b2, hb2⟩ : ∃ b2, b + cc = b2 := ⟨_, rfl⟩
              have R4 := Lib.hid (show wrap64 ((b : Int) + (cc : Int)) = (b2 : Int) by unfold wrap64; have := HB.out; have := HCC.out; omega)
              have HX := Lib.hid (fun w (h : SR w0 k dk w) => symMerge_is w0 k cap z HB.out.2 (b - a) a m b dk w (Nat.le_refl _) h hs (by omega) (by omega) hbz (hm ▸ HS.out.2.2.left hk.1 (by omega)) (hm ▸ HS.out.2.2.right hk.1 (by rw [Nat.min_eq_left (by omega)]; omega)))
              have HB2 := Lib.hid hb2
              clear hs hk hc hm hb2
              have r1 := R1.out
              have r3 := R3.out
              have r4 := R4.out
              go_wp2_with fail
              refine (HX.out _ HS.out.1).mono ?_
              rintro e w1 ⟨rfl, d2, S2, P2, Q2⟩
              have HN := Lib.hid (And.intro S2 (And.intro P2 Q2))
              clear S2 P2 Q2 HX
              go_wp2
              go_roundg k2
              case measure => omega
              case rel =>
                clear r1 r3 r4
                have hk := HK.out
                have hh := HB2.out
                have hcc := HCC.out
                have hp := HN.out.2.1
                rw [← hk.2.1] at hp
                have hq := HN.out.2.2
                rw [← hk.2.1] at hq
                exact ⟨t + 1, b, b2, d2, rfl, by first | rfl | rw [R4.out] | rw [R1.out, R4.out], ⟨by have := HC.out; rw [Nat.add_mul, Nat.one_mul]; omega⟩, ⟨HN.out.1, permIn_trans d dk d2 0 z HS.out.2.1 (permIn_mono dk d2 a b 0 z (by omega) hbz (by rw [HS.out.2.1.1, HB.out.1]; omega) HN.out.2.1), HS.out.2.2.next hk.1 hp hq⟩⟩
            · by_cases hmz : m < z
              · have HX := Lib.hid (fun w (h : SR w0 k dk w) => symMerge_is w0 k cap z HB.out.2 (z - a) a m z dk w (Nat.le_refl _) h hs (by omega) hmz (Nat.le_refl z) (hm ▸ HS.out.2.2.left hk.1 (by omega)) (hm ▸ HS.out.2.2.right hk.1 (by rw [Nat.min_eq_right (by omega)])))
                clear hs hk hc hm
                have r1 := R1.out
                have r2 := R2.out
                have r3 := R3.out
                go_upto_region 14 with fail
                rw [r3]
                go_wp2_with fail
                refine (HX.out _ HS.out.1).mono ?_
                rintro e w1 ⟨rfl, d2, S2, P2, Q2⟩
                have HN := Lib.hid (And.intro S2 (And.intro P2 Q2))
                clear S2 P2 Q2 HX
                go_wp2
                go_roundg k1
                case measure => omega
                case rel =>
                  clear r1 r2 r3
                  have hk := HK.out
                  have hcc := HCC.out
                  have hc := HC.out
                  have hb := HB.out
                  have hB := HS.out.2.2.last hk.1 hk.2.2.1 (by omega) HN.out.2.1 HN.out.2.2
                  rw [hcc] at hB
                  exact ⟨cc, d2, by first | rfl | rw [R2.out], ⟨by omega⟩, ⟨HN.out.1, permIn_trans d dk d2 0 z HS.out.2.1 (permIn_mono dk d2 a z 0 z (by omega) (Nat.le_refl z) (by rw [HS.out.2.1.1]; omega) HN.out.2.1), hB⟩⟩
              · clear hs hk hc hm
                have r1 := R1.out
                have r2 := R2.out
                have r3 := R3.out
                go_upto_region 14 with fail
                rw [r3]
                go_wp2
                go_roundg k1
                case measure => omega
                case rel =>
                  clear r1 r2 r3
                  have hk := HK.out
                  have hcc := HCC.out
                  have hc := HC.out
                  have hb := HB.out
                  have hm := HM.out
                  have hB := HS.out.2.2.last hk.1 hk.2.2.1 (by omega) (permIn_refl dk a z) (HS.out.2.2.alone hk.1 (by omega))
                  rw [hcc] at hB
                  exact ⟨cc, dk, by first | rfl | rw [R2.out], ⟨by omega⟩, ⟨HS.out.1, HS.out.2.1, hB⟩⟩
        · go_wp2
          go_end0
          exact ⟨rfl, dj, HO.out.1, HO.out.2.1, HO.out.2.2.whole (by omega)⟩
theorem sortStable_is (w0 w : World) (k cap z : Nat) (d : Array Sh) (S : SR w0 k d w) (hz : d.size = z) (hsz : z ≤ 5000) :
    Calls Try.prog 30 #[.slice (some ⟨k, 0, none⟩) z cap, fv] w fun e w' => e = .returned (.tuple #[]) ∧ ∃ d', SR w0 k d' w' ∧ PermIn 0 z d d' ∧ SortedIn St.lt 0 z d' := by
  have HC := Lib.hid (stable_is w0 w k cap z d S hz hsz)
  clear S hz hsz
  go_enter Try.func30, Try.ntmps30
  go_wp2_with fail
  refine HC.out.mono ?_
  rintro e w1 ⟨rfl, d2, S2, P2, Q2⟩
  go_wp2
  go_end0
  exact ⟨rfl, d2, S2, P2, Q2⟩
end Go.Proofs.Ytlllgfkdapjomaa.srt
