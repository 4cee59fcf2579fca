/- slices.Min at []int64 and split.sum, walked. No conditions but that numbers are of 64 bits. -/
import Derived.Test.YtlllgfkdapjomaaBase
import Derived.Test.YtlllgfkdapjomaaPSum10
import Derived.WalkKit
import Derived.Deep.QuietTactic
namespace Go.Proofs.Ytlllgfkdapjomaa.spl
open Go.RowKit Go.Proofs.Ytlllgfkdapjomaa.base
open Go.Proofs.YtlllgfkdapjomaaW.PrintWords
set_option linter.unusedSimpArgs false
attribute [local go_sem] Oper.semAt_some Go.Proofs.YtlllgfkdapjomaaW.PrintMore.min2_int Go.Proofs.YtlllgfkdapjomaaW.PrintMore.min_two
theorem cell_at {w : World} {A : Option Addr} {xs : List Int} (h : Kd.C (Kd.int .i64) w A xs.length xs) (i : Nat) (hi : i < xs.length) : ∃ ad, A = some ad ∧ w.cell? (ad.add i) = some (.int .i64 (xs.getD i 0)) := by
  obtain ⟨ad, c, e, _, hK, hu⟩ := Kd.C_get h 0 (i : Int) (by omega) (by omega)
  have hK' : c = [.int .i64 (xs.getD i 0)] := hK
  subst hK'
  exact ⟨ad, e, by simpa [Kd.int, Kd.scalar] using hu 0 _ rfl⟩
set_option maxRecDepth 100000 in
theorem min_is (w : World) (A : Option Addr) (c : Nat) (xs : List Int) (hC : Kd.C (Kd.int .i64) w A xs.length xs) (h0 : 0 < xs.length) (hn : xs.length ≤ 5000) :
    Calls Try.prog 28 #[.slice A xs.length c] w fun e w' => ∃ m, e = .returned (.int .i64 m) ∧ (m < 0 ↔ ∃ i : Nat, i < xs.length ∧ xs.getD i 0 < 0) ∧ Drawn0 w w' := by
  obtain ⟨ad, rfl, hx0⟩ := cell_at hC 0 h0
  have hx : w.cell? ad = some (.int .i64 (xs.getD 0 0)) := by simpa [Addr.add] using hx0
  have HC := Lib.hid hC
  obtain ⟨n, hnn⟩ : ∃ n, xs.length = n := ⟨_, rfl⟩
  have HL := Lib.hid hnn
  rw [hnn] at h0 hn ⊢
  have HN := Lib.hid (And.intro h0 hn)
  obtain ⟨a0, ha0⟩ : ∃ a, xs.getD 0 0 = a := ⟨_, rfl⟩
  rw [ha0] at hx
  have HA := Lib.hid ha0
  have p1 : ¬ (n : Int) < 1 := by omega
  have p2 : ¬ n = 0 := by omega
  have p3 : (0 : Int) < (n : Int) := by omega
  clear hC hx0 hnn hn ha0
  go_enter Try.func28, Try.ntmps28
  go_wp2
  go_loopg [3, 4] (n + 1) (fun kq v3 v4 w' => ∃ (m : Int) (i : Nat), v3 = .int .i64 m ∧ v4 = .int .i64 (i : Int) ∧ Aside0 (1 ≤ i ∧ i ≤ n ∧ n + 1 ≤ kq + i) ∧ Aside0 (m < 0 ↔ ∃ j : Nat, j < i ∧ xs.getD j 0 < 0) ∧ Drawn0 w w')
  case atStart =>
    refine ⟨a0, 1, rfl, rfl, ⟨by omega⟩, ⟨⟨fun q => ⟨0, by omega, by rw [HA.out]; exact q⟩, fun ⟨j, q1, q2⟩ => ?_⟩⟩, by repeat (first | exact Drawn0.refl _ | apply Drawn0.step)⟩
    obtain rfl : j = 0 := by omega
    rw [HA.out] at q2
    exact q2
  case round =>
    clear hx
    obtain ⟨m, i, rfl, rfl, HK, HM, ⟨q, rfl⟩⟩ := hrel
    by_cases hi : i < n
    · obtain ⟨k1, rfl⟩ : ∃ k1, gk = k1 + 1 := ⟨gk - 1, by have := HK.out; omega⟩
      obtain ⟨ad', e, hc⟩ := cell_at HC.out i (by rw [HL.out]; exact hi)
      cases e
      obtain ⟨ai, hai⟩ : ∃ a, xs.getD i 0 = a := ⟨_, rfl⟩
      rw [hai] at hc
      have HAI := Lib.hid hai
      have E3 := Lib.hid (show wrap64 ((i : Int) + 1) = ((i + 1 : Nat) : Int) by unfold wrap64; have := HN.out; omega)
      have t1 : ((i : Int)).toNat = i := by omega
      have p5 : ((0 : Int) ≤ (i : Int)) = True := eq_true (by omega)
      have p6 : ((i : Int) < (n : Int)) = True := eq_true (by omega)
      clear hai
      by_cases hlt : ai < m
      · go_wp2
        go_roundg k1
        case measure => omega
        case rel =>
          refine ⟨ai, i + 1, rfl, by rw [E3.out], ⟨by have := HK.out; omega⟩, ⟨⟨fun z => ⟨i, by omega, by rw [HAI.out]; exact z⟩, fun ⟨j, z1, z2⟩ => ?_⟩⟩, by repeat (first | exact Drawn0.refl _ | apply Drawn0.step)⟩
          by_cases hj : j = i
          · subst hj; rw [HAI.out] at z2; exact z2
          · have := HM.out.2 ⟨j, by omega, z2⟩
            omega
      · go_wp2
        go_roundg k1
        case measure => omega
        case rel =>
          refine ⟨m, i + 1, rfl, by rw [E3.out], ⟨by have := HK.out; omega⟩, ⟨⟨fun z => ?_, fun ⟨j, z1, z2⟩ => ?_⟩⟩, by repeat (first | exact Drawn0.refl _ | apply Drawn0.step)⟩
          · obtain ⟨j, z1, z2⟩ := HM.out.1 z
            exact ⟨j, by omega, z2⟩
          · by_cases hj : j = i
            · subst hj; rw [HAI.out] at z2; omega
            · exact HM.out.2 ⟨j, by omega, z2⟩
    · have hin : i = n := by have := HK.out; omega
      go_wp2
      go_ret
      exact ⟨m, rfl, by have := HM.out; rw [hin] at this; exact this, ⟨⟨_, rfl⟩⟩⟩
end Go.Proofs.Ytlllgfkdapjomaa.spl
