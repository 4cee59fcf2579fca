/- slices.swapRangeCmpFunc at split.share, walked. No conditions. -/
import Derived.Test.YtlllgfkdapjomaaSortA
import Derived.WalkKit
import Derived.RegionTactic
import Derived.BigRegion
import Derived.Deep.QuietTactic
namespace Go.Proofs.Ytlllgfkdapjomaa.srt
open Go.RowKit Go.Proofs.Ytlllgfkdapjomaa.base St
open Go.Sort (swp PermIn SortedIn SWO swp_get size_swp permIn_trans permIn_refl swp_permIn permIn_mono permIn_all)
open Go.Proofs.YtlllgfkdapjomaaW.PrintWords
set_option linter.unusedSimpArgs false
attribute [local go_sem] Oper.semAt_some
set_option maxRecDepth 100000 in
set_option maxHeartbeats 4000000 in
theorem swapRange_is (w0 w : World) (k cap a b n z : Nat) (d : Array Sh) (f : Value) (S : SR w0 k d w) (hz : d.size = z) (hab : a + n ≤ b) (hb : b + n ≤ z) (hsz : z ≤ 5000) :
    Calls Try.prog 53 #[.slice (some ⟨k, 0, none⟩) z cap, .int .i64 a, .int .i64 b, .int .i64 n, f] w fun e w' => e = .returned (.tuple #[]) ∧
      ∃ d', SR w0 k d' w' ∧ Xch a b n d d' ∧ ∀ lo hi, lo ≤ a → b + n ≤ hi → hi ≤ d.size → PermIn lo hi d d' := by
  subst hz
  have S0 := Lib.hid S
  have HB := Lib.hid (And.intro hab (And.intro hb hsz))
  clear S hab hb hsz
  go_enter Try.func53, Try.ntmps53
  go_wp2
  go_loopg [10] n (fun kq v wr => ∃ (i : Nat) (dk : Array Sh), v = .int .i64 (i : Int) ∧ Aside0 (i ≤ n ∧ n ≤ kq + i) ∧ Aside0 (SR w0 k dk wr ∧ Xch a b i d dk ∧ ∀ lo hi, lo ≤ a → b + n ≤ hi → hi ≤ d.size → PermIn lo hi d dk))
  case atStart => exact ⟨0, d, rfl, ⟨by omega⟩, ⟨S0.out, Xch.refl a b d, fun lo hi _ _ _ => permIn_refl d lo hi⟩⟩
  case round =>
    clear S0
    obtain ⟨i, dk, rfl, HK, HS⟩ := hrel
    by_cases hi : i < n
    · obtain ⟨k1, rfl⟩ : ∃ k1, gk = k1 + 1 := ⟨gk - 1, by have := HK.out; omega⟩
      have hsk : dk.size = d.size := HS.out.2.1.1
      have hb := HB.out
      obtain ⟨x, hx⟩ : ∃ x, a + i = x := ⟨_, rfl⟩
      obtain ⟨y, hy⟩ : ∃ y, b + i = y := ⟨_, rfl⟩
      have HX := Lib.hid (And.intro hx hy)
      have t1 : ((x : Int)).toNat = x := by omega
      have t2 : ((y : Int)).toNat = y := by omega
      have p1 : ((0 : Int) ≤ (x : Int)) = True := eq_true (by omega)
      have p2 : ((0 : Int) ≤ (y : Int)) = True := eq_true (by omega)
      have q1 : ((x : Int) < (d.size : Int)) = True := eq_true (by omega)
      have q2 : ((y : Int) < (d.size : Int)) = True := eq_true (by omega)
      have g1 : decide ((i : Int) < (n : Int)) = true := decide_eq_true (by omega)
      have hxd : x < dk.size := by omega
      have hyd : y < dk.size := by omega
      have n00 : ¬ x * 3 = y * 3 := by omega
      have m00 : ¬ y * 3 = x * 3 := by omega
      have n01 : ¬ x * 3 = y * 3 + 1 := by omega
      have m01 : ¬ y * 3 + 1 = x * 3 := by omega
      have n02 : ¬ x * 3 = y * 3 + 2 := by omega
      have m02 : ¬ y * 3 + 2 = x * 3 := by omega
      have n10 : ¬ x * 3 + 1 = y * 3 := by omega
      have m10 : ¬ y * 3 = x * 3 + 1 := by omega
      have n11 : ¬ x * 3 + 1 = y * 3 + 1 := by omega
      have m11 : ¬ y * 3 + 1 = x * 3 + 1 := by omega
      have n12 : ¬ x * 3 + 1 = y * 3 + 2 := by omega
      have m12 : ¬ y * 3 + 2 = x * 3 + 1 := by omega
      have n20 : ¬ x * 3 + 2 = y * 3 := by omega
      have m20 : ¬ y * 3 = x * 3 + 2 := by omega
      have n21 : ¬ x * 3 + 2 = y * 3 + 1 := by omega
      have m21 : ¬ y * 3 + 1 = x * 3 + 2 := by omega
      have n22 : ¬ x * 3 + 2 = y * 3 + 2 := by omega
      have m22 : ¬ y * 3 + 2 = x * 3 + 2 := by omega
      have HXD := Lib.hid (And.intro hxd hyd)
      have E3 := Lib.hid (show wrap64 ((i : Int) + 1) = ((i + 1 : Nat) : Int) by unfold wrap64; omega)
      have R1 := Lib.hid (show wrap64 ((a : Int) + (i : Int)) = (x : Int) by unfold wrap64; omega)
      have R2 := Lib.hid (show wrap64 ((b : Int) + (i : Int)) = (y : Int) by unfold wrap64; omega)
      obtain ⟨c0, c1, c2⟩ := HS.out.1.cell hxd
      obtain ⟨d0, d1, d2⟩ := HS.out.1.cell hyd
      have f0 := HS.out.1.frozen (x * 3)
      have f1 := HS.out.1.frozen (x * 3 + 1)
      have f2 := HS.out.1.frozen (x * 3 + 2)
      have f3 := HS.out.1.frozen (y * 3)
      have f4 := HS.out.1.frozen (y * 3 + 1)
      have f5 := HS.out.1.frozen (y * 3 + 2)
      obtain ⟨sx, hsx⟩ : ∃ s, dk[x]! = s := ⟨_, rfl⟩
      obtain ⟨sy, hsy⟩ : ∃ s, dk[y]! = s := ⟨_, rfl⟩
      rw [hsx] at c0 c1 c2
      rw [hsy] at d0 d1 d2
      have HSW := Lib.hid (And.intro hsx hsy)
      have HI := Lib.hid (And.intro hi hsk)
      have r1 := R1.out
      have r2 := R2.out
      clear hb hx hy hxd hyd hsk hsx hsy
      go_upto_region 3 with fail
      go_big_region
      all_goals go_wp2
      go_roundg k1
      case measure => omega
      case rel =>
        have hb := HB.out
        have hh := HX.out
        have hj := HI.out
        refine ⟨i + 1, swp dk x y, by rw [E3.out], ⟨by have := HK.out; omega⟩, ⟨?_, ?_, fun lo hi2 q1 q2 q3 => ?_⟩⟩
        · have := (HS.out.1.swap HXD.out.1 HXD.out.2).drew
          rw [HSW.out.1, HSW.out.2] at this
          exact this
        · rw [← hh.1, ← hh.2]
          exact HS.out.2.1.step hj.1 hb.1 hb.2.1
        · exact permIn_trans d dk _ lo hi2 (HS.out.2.2 lo hi2 q1 q2 q3) (swp_permIn dk lo hi2 x y (by omega) (by omega) (by omega) (by omega) (by omega))
    · have g1 : decide ((i : Int) < (n : Int)) = false := decide_eq_false (by omega)
      have hin : i = n := by have := HK.out; omega
      have HS2 := HS
      go_wp2
      go_end0
      exact ⟨rfl, dk, HS2.out.1, hin ▸ HS2.out.2.1, HS2.out.2.2⟩
end Go.Proofs.Ytlllgfkdapjomaa.srt
