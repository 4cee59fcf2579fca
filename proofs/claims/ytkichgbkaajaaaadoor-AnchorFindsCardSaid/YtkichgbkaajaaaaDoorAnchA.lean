/- What anchor.within, At and Check answer (walks). The table of the days ahead of months holds its numbers. -/
import Derived.Test.YtkichgbkaajaaaaDoorAnchMath
import Derived.Test.YtkichgbkaajaaaaDoorCivilB
import Derived.Test.YtkichgbkaajaaaaDoorBase
import Derived.OpenShut
namespace Go.Proofs.YtkichgbkaajaaaaDoor.anch
open Go.RowKit Go.Proofs.YtkichgbkaajaaaaDoor.base
open Go.Proofs.YtkichgbkaajaaaaDoor.civ (Tab)

/-- Numbers from 1 to a most, pair by pair. -/
def win (F : Nat → Int) : Nat → Bool
  | 0 => true
  | n + 1 => win F n && decide (1 ≤ F (2 * n)) && decide (F (2 * n) ≤ F (2 * n + 1))
theorem win_no {F : Nat → Int} {k : Nat} : ∀ n, k < n → ¬ (1 ≤ F (2 * k) ∧ F (2 * k) ≤ F (2 * k + 1)) → win F n = false
  | 0, h, _ => by omega
  | n + 1, h, g => by
    rcases (by omega : k = n ∨ k < n) with rfl | hk
    · unfold win; simp; omega
    · unfold win; rw [win_no n hk g]; rfl
theorem win_step {F : Nat → Int} {k : Nat} (h : win F k = true) (g1 : 1 ≤ F (2 * k)) (g2 : F (2 * k) ≤ F (2 * k + 1)) : win F (k + 1) = true := by unfold win; simp [h, g1, g2]
set_option maxHeartbeats 400000 in
theorem within_any (F : Nat → Int) (n b c : Nat) (w : World) (hn : n ≤ 100) (hc : ∀ j, j < 2 * n → w.cell? ⟨b, j, none⟩ = some (.int .i64 (F j))) :
    Calls Tryd.prog 20 #[.slice (some ⟨b, 0, none⟩) (2 * n) c] w fun e w' => e = .returned (.bool (win F n)) ∧ Below w.heap.size w w' := by
  have HC := Lib.hid hc
  clear hc
  obtain ⟨N, hN⟩ : ∃ N, N = 2 * n := ⟨_, rfl⟩
  rw [← hN]
  have HN := Lib.hid hN
  clear hN
  go_enter Tryd.func20, Tryd.ntmps20
  go_wp2
  go_loopw [3] (fun i wr => ∃ k m : Nat, k ≤ n ∧ m = 2 * k ∧ i = .int .i64 m ∧ win F k = true ∧ Below w.heap.size w wr) (fun i _ => (N - intOf i).toNat)
  case atStart => exact ⟨0, 0, by omega, rfl, rfl, rfl, Below.refl _ _⟩
  case round =>
    obtain ⟨k, m, hk, hm, rfl, hw, hB⟩ := hrel
    have HW := Lib.hid hw
    clear hw
    have hN := HN.out
    by_cases hlt : k < n
    · have c0 := HC.out m (by omega)
      have c1 := HC.out (m + 1) (by omega)
      have lb : b < w.heap.size := lt_of_cell c0
      have d0 : wr.cell? ⟨b, m, none⟩ = some (.int .i64 (F m)) := (hB.cell (p := ⟨b, m, none⟩) lb).trans c0
      have d1 : wr.cell? ⟨b, m + 1, none⟩ = some (.int .i64 (F (m + 1))) := (hB.cell (p := ⟨b, m + 1, none⟩) lb).trans c1
      have N1 := Lib.hid (win_no (F := F) (k := k) n hlt)
      have N2 := Lib.hid (win_step HW.out)
      rw [← hm] at N1 N2
      have i1 : (0 : Int) ≤ m := by omega
      have i2 : (m : Int) < N := by omega
      have i3 : (m : Int) + 1 < N := by omega
      have i4 : N ≤ 200 := by omega
      have e1 : IntKind.i64.wrap ((m : Int) + 1) = (m : Int) + 1 := by rw [IntKind.wrap_i64]; omega
      have i5 : (0 : Int) ≤ (m : Int) + 1 := by omega
      have e2 : ((m : Int) + 1).toNat = m + 1 := by omega
      clear c0 c1
      have HM := Lib.hid hm
      generalize F m = x at *
      generalize F (m + 1) = y at *
      clear hm hN
      by_cases h1 : x < 1
      · go_wp2
        go_quiet (fail)
        go_wp2
        go_ret
        exact ⟨ret_bool (N1.out (by omega)).symm, below_drewN hB _⟩
      · by_cases h2 : y < x
        · go_wp2
          go_quiet (fail)
          go_wp2
          go_ret
          exact ⟨ret_bool (N1.out (by omega)).symm, below_drewN hB _⟩
        · have G1 := Lib.hid (N2.out (by omega) (by omega))
          go_wp2
          go_quiet (fail)
          go_wp2
          go_roundw
          case rel => exact ⟨k + 1, m + 2, by omega, by have := HM.out; omega, by go_num, G1.out, below_drewN hB _⟩
          case measure => simp [intOf]; omega
    · obtain rfl : k = n := by omega
      obtain rfl : m = N := by omega
      go_wp2
      go_ret
      exact ⟨ret_bool HW.out.symm, hB⟩
end Go.Proofs.YtkichgbkaajaaaaDoor.anch
