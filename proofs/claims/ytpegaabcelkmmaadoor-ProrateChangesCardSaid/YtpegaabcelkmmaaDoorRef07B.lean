/- What the functions of package quittanceref07 answer (walks, second part): products, numbers, quotients. No conditions but that numbers are of 64 bits. -/
import Derived.Test.YtpegaabcelkmmaaDoorRef07
import Derived.Deep.RegionHeld3
namespace Go.Proofs.YtpegaabcelkmmaaDoor.ref07
open Go.RowKit Go.Proofs.YtpegaabcelkmmaaDoor.base

theorem IsB.after {w w' : World} {b : Nat} {x : Int} (h : IsB w b x) (hb : Below w.heap.size w w') : IsB w' b x := Row.after h (by decide) hb
theorem IsB.of {w : World} {b : Nat} {x y : Int} (h : IsB w b x) (e : x = y) : IsB w b y := e ▸ h

theorem twice_any (x : Int) (p : Nat) (w : World) (hx : IsB w p x) : Calls Tryd.prog 47 #[.slice (some ⟨p, 0, none⟩) 136 136] w fun e w' => ∃ b, e = .returned (.slice (some ⟨b, 0, none⟩) 136 136) ∧ w.heap.size ≤ b ∧ IsB w' b (2 * x) ∧ Below w.heap.size w w' := by
  have HX := Lib.hid hx
  clear hx
  go_enter Tryd.func47, Tryd.ntmps47
  go_wp2_with (go_at_call 46; refine (plus_any x x p p _ HX.out HX.out).mono ?_; rintro e w1 ⟨b, rfl, hb, h1, B1⟩)
  go_ret
  exact ⟨_, rfl, hb, h1.of (by omega), B1⟩

theorem below_t (x : Int) (p : Nat) (w : World) (hx : IsB w p x) (h1 : -(2 ^ 135) ≤ x) (h2 : x < 2 ^ 135) (h : x < 0) : Calls Tryd.prog 42 #[.slice (some ⟨p, 0, none⟩) 136 136] w fun e w' => e = .returned (.bool true) ∧ w = w' := by
  have hc : w.cell? ⟨p, 135, none⟩ = some (.int .i64 1) := by rw [hx.cell 135 (by omega), Ar.bit_top x h1 h2, if_pos h]
  clear hx h1 h2
  go_enter Tryd.func42, Tryd.ntmps42
  go_wp2
  go_ret
  exact ⟨rfl, rfl⟩
theorem below_f (x : Int) (p : Nat) (w : World) (hx : IsB w p x) (h1 : -(2 ^ 135) ≤ x) (h2 : x < 2 ^ 135) (h : ¬ x < 0) : Calls Tryd.prog 42 #[.slice (some ⟨p, 0, none⟩) 136 136] w fun e w' => e = .returned (.bool false) ∧ w = w' := by
  have hc : w.cell? ⟨p, 135, none⟩ = some (.int .i64 0) := by rw [hx.cell 135 (by omega), Ar.bit_top x h1 h2, if_neg h]
  clear hx h1 h2
  go_enter Tryd.func42, Tryd.ntmps42
  go_wp2
  go_ret
  exact ⟨rfl, rfl⟩

set_option maxRecDepth 100000 in
set_option maxHeartbeats 800000 in
theorem times_any (x n : Int) (p : Nat) (w : World) (hx : IsB w p x) (hn : Ar.fits n = true) : Calls Tryd.prog 31 #[.slice (some ⟨p, 0, none⟩) 136 136, .int .i64 n] w fun e w' => ∃ b, e = .returned (.slice (some ⟨b, 0, none⟩) 136 136) ∧ w.heap.size ≤ b ∧ IsB w' b (x * n) ∧ Below w.heap.size w w' := by
  have HX := Lib.hid hx
  have HN := Lib.hid hn
  clear hx hn
  go_enter Tryd.func31, Tryd.ntmps31
  go_wp2_with fail
  refine (bits_any n _ HN.out).mono ?_
  rintro e w1 ⟨pb, rfl, gb, h1, B1⟩
  go_wp2_with fail
  refine (bits_any 0 _ (by decide)).mono ?_
  rintro e w2 ⟨ps, rfl, gs, h2, B2⟩
  have hpb := (h1.after B2)
  have hpa := (HX.out.after B1).after B2
  have hB := B1.trans (B2.mono B1.size)
  have gs' : w.heap.size ≤ ps := Nat.le_trans B1.size gs
  clear B1 B2 h1
  go_wp2
  go_loopw [0, 6, 7] (fun a s i wr => ∃ (k pa pq : Nat), k ≤ 64 ∧ i = .int .i64 k ∧ a = .slice (some ⟨pa, 0, none⟩) 136 136 ∧ s = .slice (some ⟨pq, 0, none⟩) 136 136 ∧ w.heap.size ≤ pq ∧ IsB wr pa (x * 2 ^ k) ∧ IsB wr pq (x * (n % 2 ^ k)) ∧ IsB wr pb n ∧ Below w.heap.size w wr) (fun _ _ i _ => 64 - (intOf i).toNat)
  case atStart => exact ⟨0, p, ps, by omega, rfl, rfl, rfl, gs', hpa.of (by simp), h2.of (by simp [Int.emod_one]), hpb, hB⟩
  case round =>
    obtain ⟨k, pa, pq, hk, rfl, rfl, rfl, gq, ha, hq, hb, hB'⟩ := hrel
    have M := Lib.hid (Ar.mul_next x n k)
    have e2 := Lib.hid (show 2 * (x * 2 ^ k) = x * 2 ^ (k + 1) by rw [Ar.p2_succ, Int.mul_left_comm])
    by_cases hlt : k < 64
    · have A := Lib.hid ha
      have Q := Lib.hid hq
      have Bb := Lib.hid hb
      have HB := Lib.hid hB'
      rcases Ar.bit_01 k n with h0 | h0
      · have hc : wr.cell? ⟨pb, k, none⟩ = some (.int .i64 0) := by rw [hb.cell k (by omega), h0]
        have H0 := Lib.hid h0
        clear ha hq hb hB' h0 hpa hpb h2
        go_wp2_with (go_at_call 47; refine (twice_any _ pa _ A.out).mono ?_; rintro e w3 ⟨b3, rfl, g3, h3, B3⟩)
        go_roundw
        case rel =>
          exact ⟨k + 1, b3, pq, by omega, by go_num, rfl, rfl, gq, h3.of e2.out, (Q.out.after B3).of (by rw [M.out, H0.out, if_neg (by decide)]; omega), Bb.out.after B3, HB.out.trans (B3.mono HB.out.size)⟩
        case measure => simp [intOf]; omega
      · have hc : wr.cell? ⟨pb, k, none⟩ = some (.int .i64 1) := by rw [hb.cell k (by omega), h0]
        have H0 := Lib.hid h0
        clear ha hq hb hB' h0 hpa hpb h2
        go_wp2_with fail
        refine (plus_any _ _ pq pa _ Q.out A.out).mono ?_
        rintro e w3 ⟨b3, rfl, g3, h3, B3⟩
        have A3 := Lib.hid (A.out.after B3)
        go_wp2_with (go_at_call 47; refine (twice_any _ pa _ A3.out).mono ?_; rintro e w4 ⟨b4, rfl, g4, h4, B4⟩)
        go_roundw
        case rel =>
          have BB := HB.out.trans (B3.mono HB.out.size)
          exact ⟨k + 1, b4, b3, by omega, by go_num, rfl, rfl, Nat.le_trans HB.out.size g3, h4.of e2.out, (h3.after B4).of (by rw [M.out, H0.out, if_pos rfl]), (Bb.out.after B3).after B4, BB.trans (B4.mono BB.size)⟩
        case measure => simp [intOf]; omega
    · obtain rfl : k = 64 := by omega
      have MF := Lib.hid (Ar.mul_full x n HN.out)
      have A := Lib.hid ha
      have Q := Lib.hid hq
      have HB := Lib.hid hB'
      have GQ := Lib.hid gq
      clear ha hq hb hB' hpa hpb h2 gq
      by_cases hneg : n < 0
      · go_wp2_with fail
        refine (minus_any _ pa _ A.out).mono ?_
        rintro e w3 ⟨b3, rfl, g3, h3, B3⟩
        have Q3 := Lib.hid (Q.out.after B3)
        go_wp2_with fail
        refine (plus_any _ _ pq b3 _ Q3.out h3).mono ?_
        rintro e w4 ⟨b4, rfl, g4, h4, B4⟩
        go_wp2
        go_ret
        have BB := HB.out.trans (B3.mono HB.out.size)
        exact ⟨_, rfl, Nat.le_trans BB.size g4, h4.of (by rw [MF.out, if_pos hneg]), BB.trans (B4.mono BB.size)⟩
      · go_wp2
        go_ret
        exact ⟨_, rfl, GQ.out, Q.out.of (by rw [MF.out, if_neg (by omega)]; omega), HB.out⟩

set_option maxRecDepth 100000 in
set_option maxHeartbeats 800000 in
theorem number_any (x : Int) (p : Nat) (w : World) (hx : IsB w p x) (x1 : -(2 ^ 135) ≤ x) (x2 : x < 2 ^ 135) : Calls Tryd.prog 33 #[.slice (some ⟨p, 0, none⟩) 136 136] w fun e w' => e = .returned (.tuple #[.int .i64 (Ar.fitV x), .bool (Ar.fits x)]) ∧ Below w.heap.size w w' := by
  have HX := Lib.hid hx
  have X12 := Lib.hid (And.intro x1 x2)
  clear hx x1 x2
  go_enter Tryd.func33, Tryd.ntmps33
  go_wp2
  go_loop [4, 5] (fun u i => ∃ k : Nat, k ≤ 64 ∧ i = .int .i64 ((k : Int) - 1) ∧ u = .int .u64 (Ar.hv x k)) (fun _ i => (intOf i + 1).toNat)
  case atStart => exact ⟨64, by omega, rfl, by rw [Ar.hv_top]⟩
  case round =>
    obtain ⟨k, hk, rfl, rfl⟩ := hrel
    by_cases hpos : 0 < k
    · obtain ⟨k, rfl⟩ : ∃ j, k = j + 1 := ⟨k - 1, by omega⟩
      have hc : w.cell? ⟨p, k, none⟩ = some (.int .i64 (Ar.bit k x)) := HX.out.cell k (by omega)
      have hp := Ar.hv_prev x k (by omega)
      obtain ⟨v1, v2⟩ := Ar.hv_bd x k
      obtain ⟨v3, v4⟩ := Ar.hv_bd x (k + 1)
      obtain ⟨v5, v6⟩ := Ar.bit_bd k x
      have v7 : 2 * Ar.hv x (k + 1) + Ar.bit k x ≤ 18446744073709551615 := by omega
      have e0 : ((k + 1 : Nat) : Int) - 1 = k := by omega
      rw [e0]
      have i1 : (0 : Int) ≤ k := by omega
      have i2 : (k : Int) < 136 := by omega
      have HP := Lib.hid hp
      clear hp v2 v4 e0
      go_wp2
      go_round
      case rel => exact ⟨k, by omega, rfl, by rw [← HP.out]⟩
      case measure => simp [intOf]
    · obtain rfl : k = 0 := by omega
      have U0 := Lib.hid (Ar.hv_zero x)
      obtain ⟨v1, v2⟩ := Ar.hv_bd x 0
      cases hf : Ar.fits x
      · have F := Lib.hid hf
        clear hf
        go_wp2
        go_loopw [6] (fun i wr => ∃ k : Nat, 63 ≤ k ∧ k ≤ 136 ∧ i = .int .i64 k ∧ (∀ j, 63 ≤ j → j < k → Ar.bit j x = Ar.bit 63 x) ∧ Below w.heap.size w wr) (fun i _ => (136 - intOf i).toNat)
        case atStart => exact ⟨63, by omega, by omega, rfl, fun j h1 h2 => by omega, Below.refl _ _⟩
        case round =>
          obtain ⟨k, k1, k2, rfl, hall, hB⟩ := hrel
          by_cases hlt : k < 136
          · have c1 : wr.cell? ⟨p, k, none⟩ = some (.int .i64 (Ar.bit k x)) := (hB.cell (p := ⟨p, k, none⟩) HX.out.lt).trans (HX.out.cell k hlt)
            have c2 : wr.cell? ⟨p, 63, none⟩ = some (.int .i64 (Ar.bit 63 x)) := (hB.cell (p := ⟨p, 63, none⟩) HX.out.lt).trans (HX.out.cell 63 (by omega))
            have HA := Lib.hid hall
            have i1 : (0 : Int) ≤ k := by omega
            have i2 : (k : Int) < 136 := by omega
            clear hall
            by_cases e : Ar.bit k x = Ar.bit 63 x
            · have eb : (Ar.bit k x != Ar.bit 63 x) = false := by simpa using e
              have E := Lib.hid e
              clear e
              go_wp2
              go_quiet (fail)
              go_wp2
              go_roundw
              case rel =>
                refine ⟨k + 1, by omega, by omega, by go_num, fun j h1 h2 => ?_, below_drewN hB _⟩
                by_cases q : j = k
                · rw [q]; exact E.out
                · exact HA.out j h1 (by omega)
              case measure => simp [intOf]; omega
            · have eb : (Ar.bit k x != Ar.bit 63 x) = true := by simpa using e
              clear e
              go_wp2
              go_quiet (fail)
              go_wp2
              go_ret2
              exact ⟨ret_ib (by simp [Ar.fitV, F.out]) F.out.symm, below_drewN hB _⟩
          · exfalso
            have := Ar.fit_of_bits X12.out.1 X12.out.2 (fun i h1 h2 => hall i h1 (by omega))
            rw [F.out] at this; cases this
      · have F := Lib.hid hf
        have W := Lib.hid (show wrap64 (Ar.hv x 0) = x by
          rw [U0.out]; have := Ar.fits_t hf; unfold wrap64; omega)
        clear hf
        go_wp2
        go_loopw [6] (fun i wr => ∃ k : Nat, 63 ≤ k ∧ k ≤ 136 ∧ i = .int .i64 k ∧ Below w.heap.size w wr) (fun i _ => (136 - intOf i).toNat)
        case atStart => exact ⟨63, by omega, by omega, rfl, Below.refl _ _⟩
        case round =>
          obtain ⟨k, k1, k2, rfl, hB⟩ := hrel
          by_cases hlt : k < 136
          · have c1 : wr.cell? ⟨p, k, none⟩ = some (.int .i64 (Ar.bit 63 x)) := by
              rw [← Ar.bit_fit F.out k k1]; exact (hB.cell (p := ⟨p, k, none⟩) HX.out.lt).trans (HX.out.cell k hlt)
            have c2 : wr.cell? ⟨p, 63, none⟩ = some (.int .i64 (Ar.bit 63 x)) := (hB.cell (p := ⟨p, 63, none⟩) HX.out.lt).trans (HX.out.cell 63 (by omega))
            have i1 : (0 : Int) ≤ k := by omega
            have i2 : (k : Int) < 136 := by omega
            go_wp2
            go_quiet (fail)
            go_wp2
            go_roundw
            case rel => exact ⟨k + 1, by omega, by omega, by go_num, below_drewN hB _⟩
            case measure => simp [intOf]; omega
          · go_wp2
            go_ret2
            exact ⟨ret_ib (by rw [W.out]; simp [Ar.fitV, F.out]) F.out.symm, hB⟩
end Go.Proofs.YtpegaabcelkmmaaDoor.ref07
