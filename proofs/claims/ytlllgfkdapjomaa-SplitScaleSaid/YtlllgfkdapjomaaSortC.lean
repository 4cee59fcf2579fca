/- slices.rotateCmpFunc at split.share, walked. No conditions. -/
import Derived.Test.YtlllgfkdapjomaaSortB
namespace Go.Proofs.Ytlllgfkdapjomaa.srt
open Go.RowKit Go.Proofs.Ytlllgfkdapjomaa.base St
open Go.Sort (swp PermIn SortedIn SWO swp_get size_swp permIn_trans permIn_refl swp_permIn permIn_mono permIn_all)
open Go.Proofs.YtlllgfkdapjomaaW.PrintWords
set_option linter.unusedSimpArgs false
attribute [local go_sem] Oper.semAt_some
set_option maxRecDepth 100000 in
set_option maxHeartbeats 4000000 in
theorem rotate_is (w0 w : World) (k cap a m b z : Nat) (d : Array Sh) (f : Value) (S : SR w0 k d w) (hz : d.size = z) (ham : a < m) (hmb : m < b) (hb : b ≤ z) (hsz : z ≤ 5000) :
    Calls Try.prog 52 #[.slice (some ⟨k, 0, none⟩) z cap, .int .i64 a, .int .i64 m, .int .i64 b, f] w fun e w' => e = .returned (.tuple #[]) ∧
      ∃ d', SR w0 k d' w' ∧ Rot a m b d d' ∧ PermIn a b d d' := by
  have S0 := Lib.hid S
  have HB := Lib.hid (And.intro ham (And.intro hmb (And.intro hb (And.intro hsz hz))))
  have R1 := Lib.hid (show wrap64 ((m : Int) - (a : Int)) = ((m - a : Nat) : Int) by unfold wrap64; omega)
  have R2 := Lib.hid (show wrap64 ((b : Int) - (m : Int)) = ((b - m : Nat) : Int) by unfold wrap64; omega)
  clear S hz ham hmb hb hsz
  have r1 := R1.out
  have r2 := R2.out
  go_enter Try.func52, Try.ntmps52
  go_wp2
  clear r1 r2
  go_loopg [10, 11] (b - a) (fun kq v10 v11 wr => ∃ (i j : Nat) (dk : Array Sh), v10 = .int .i64 (i : Int) ∧ v11 = .int .i64 (j : Int) ∧ Aside0 (1 ≤ i ∧ 1 ≤ j ∧ i ≤ m - a ∧ j ≤ b - m ∧ i + j ≤ kq) ∧
    Aside0 (SR w0 k dk wr ∧ (∀ d', Rot (m - i) m (m + j) dk d' → Rot a m b d d') ∧ PermIn a b d dk))
  case atStart =>
    refine ⟨m - a, b - m, d, by rw [R1.out], by rw [R2.out], ⟨by have := HB.out; omega⟩, ⟨S0.out, fun d' h => ?_, permIn_refl d a b⟩⟩
    have := HB.out
    rw [show m - (m - a) = a by omega, show m + (b - m) = b by omega] at h
    exact h
  case round =>
    clear S0 R1 R2
    obtain ⟨i, j, dk, rfl, rfl, HK, HS⟩ := hrel
    have hb := HB.out
    have hk := HK.out
    have hs : dk.size = z := HS.out.2.2.1.trans hb.2.2.2.2
    by_cases hij : i = j
    · subst hij
      have R3 := Lib.hid (show wrap64 ((m : Int) - (i : Int)) = ((m - i : Nat) : Int) by unfold wrap64; omega)
      have HC := Lib.hid (fun w (h : SR w0 k dk w) => swapRange_is w0 w k cap (m - i) m i z dk f h hs (by omega) (by omega) hb.2.2.2.1)
      clear hb hk hs
      have r3 := R3.out
      go_wp2_with fail
      refine (HC.out _ HS.out.1).mono ?_
      rintro e w1 ⟨rfl, d', S1, X1, P1⟩
      go_wp2
      go_end0
      have hb := HB.out
      have hk := HK.out
      refine ⟨rfl, d', S1, HS.out.2.1 d' (Rot.last (by omega) X1), permIn_trans d dk d' a b HS.out.2.2 (P1 a b (by omega) (by omega) (by rw [HS.out.2.2.1]; omega))⟩
    · by_cases hlt : j < i
      · obtain ⟨k1, rfl⟩ : ∃ k1, gk = k1 + 1 := ⟨gk - 1, by omega⟩
        have R3 := Lib.hid (show wrap64 ((m : Int) - (i : Int)) = ((m - i : Nat) : Int) by unfold wrap64; omega)
        have R4 := Lib.hid (show wrap64 ((i : Int) - (j : Int)) = ((i - j : Nat) : Int) by unfold wrap64; omega)
        have HC := Lib.hid (fun w (h : SR w0 k dk w) => swapRange_is w0 w k cap (m - i) m j z dk f h hs (by omega) (by omega) hb.2.2.2.1)
        clear hb hk hs
        have r3 := R3.out
        have hij' : ¬ (i : Int) = (j : Int) := by omega
        go_wp2_with fail
        refine (HC.out _ HS.out.1).mono ?_
        rintro e w1 ⟨rfl, d', S1, X1, P1⟩
        have HN := Lib.hid (And.intro S1 (And.intro X1 P1))
        clear S1 X1 P1
        go_wp2
        go_roundg k1
        case measure => omega
        case rel =>
          have hb := HB.out
          have hk := HK.out
          refine ⟨i - j, j, d', by rw [R4.out], rfl, ⟨by omega⟩, ⟨HN.out.1, fun d2 h => HS.out.2.1 d2 (Rot.more (by omega) hlt HN.out.2.1 h), permIn_trans d dk d' a b HS.out.2.2 (HN.out.2.2 a b (by omega) (by omega) (by rw [HS.out.2.2.1]; omega))⟩⟩
      · obtain ⟨k1, rfl⟩ : ∃ k1, gk = k1 + 1 := ⟨gk - 1, by omega⟩
        have R3 := Lib.hid (show wrap64 ((m : Int) - (i : Int)) = ((m - i : Nat) : Int) by unfold wrap64; omega)
        have R4 := Lib.hid (show wrap64 ((j : Int) - (i : Int)) = ((j - i : Nat) : Int) by unfold wrap64; omega)
        obtain ⟨t, ht⟩ : ∃ t, m + j = t := ⟨_, rfl⟩
        obtain ⟨u, hu⟩ : ∃ u, m + j - i = u := ⟨_, rfl⟩
        have R5 := Lib.hid (show wrap64 ((m : Int) + (j : Int)) = (t : Int) by unfold wrap64; omega)
        have R6 := Lib.hid (show wrap64 ((t : Int) - (i : Int)) = (u : Int) by unfold wrap64; omega)
        have HC := Lib.hid (fun w (h : SR w0 k dk w) => swapRange_is w0 w k cap (m - i) u i z dk f h hs (by omega) (by omega) hb.2.2.2.1)
        have HU := Lib.hid hu
        clear ht hu
        clear hb hk hs
        have r3 := R3.out
        have r5 := R5.out
        have r6 := R6.out
        have hij' : ¬ (i : Int) = (j : Int) := by omega
        go_wp2_with fail
        refine (HC.out _ HS.out.1).mono ?_
        rintro e w1 ⟨rfl, d', S1, X1, P1⟩
        have HN := Lib.hid (And.intro S1 (And.intro X1 P1))
        clear S1 X1 P1
        go_wp2
        go_roundg k1
        case measure => omega
        case rel =>
          have hb := HB.out
          have hk := HK.out
          have hu := HU.out
          subst hu
          refine ⟨i, j - i, d', rfl, by rw [R4.out], ⟨by omega⟩, ⟨HN.out.1, fun d2 h => HS.out.2.1 d2 (Rot.less (by omega) (by omega) HN.out.2.1 h), permIn_trans d dk d' a b HS.out.2.2 (HN.out.2.2 a b (by omega) (by omega) (by rw [HS.out.2.2.1]; omega))⟩⟩
end Go.Proofs.Ytlllgfkdapjomaa.srt
