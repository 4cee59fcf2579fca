/- What the functions of package quittanceref07 answer (walks, third part): quotients, and the whole functions. No conditions but that numbers are of 64 bits. -/
import Derived.Test.YtpegaabcelkmmaaDoorRef07B
namespace Go.Proofs.YtpegaabcelkmmaaDoor.ref07
open Go.RowKit Go.Proofs.YtpegaabcelkmmaaDoor.base

theorem pow_top : (2 : Int) ^ 135 = 43556142965880123323311949751266331066368 := by decide

set_option maxRecDepth 100000 in
theorem same_zero (x : Int) (p q : Nat) (w : World) (hx : IsB w p x) (hq : IsB w q 0) (x0 : 0 ≤ x) (x1 : x < 2 ^ 135) : Calls Tryd.prog 45 #[.slice (some ⟨p, 0, none⟩) 136 136, .slice (some ⟨q, 0, none⟩) 136 136] w fun e w' => e = .returned (.bool (decide (x = 0))) ∧ Below w.heap.size w w' := by
  have HX := Lib.hid hx
  have HQ := Lib.hid hq
  have X12 := Lib.hid (And.intro x0 x1)
  clear hx hq x0 x1
  by_cases hz : x = 0
  · have ez := Lib.hid hz
    clear hz
    go_enter Tryd.func45, Tryd.ntmps45
    go_wp2
    go_loopw [5] (fun i wr => ∃ k : Nat, k ≤ 136 ∧ i = .int .i64 k ∧ Below w.heap.size w wr) (fun i _ => (136 - intOf i).toNat)
    case atStart => exact ⟨0, by omega, rfl, Below.refl _ _⟩
    case round =>
      obtain ⟨k, k2, rfl, hB⟩ := hrel
      by_cases hlt : k < 136
      · have c1 : wr.cell? ⟨p, k, none⟩ = some (.int .i64 0) := by
          have := (hB.cell (p := ⟨p, k, none⟩) HX.out.lt).trans (HX.out.cell k hlt)
          rw [this, ez.out, Ar.bit_zero]
        have c2 : wr.cell? ⟨q, k, none⟩ = some (.int .i64 0) := by
          have := (hB.cell (p := ⟨q, k, none⟩) HQ.out.lt).trans (HQ.out.cell k hlt)
          rw [this, Ar.bit_zero]
        have i1 : (0 : Int) ≤ k := by omega
        have i2 : (k : Int) < 136 := by omega
        go_wp2
        go_quiet (fail)
        go_wp2
        go_roundw
        case rel => exact ⟨k + 1, by omega, by go_num, below_drewN hB _⟩
        case measure => simp [intOf]; omega
      · go_wp2
        go_ret
        exact ⟨ret_bool (by simp [ez.out]), hB⟩
  · have nz := Lib.hid hz
    clear hz
    go_enter Tryd.func45, Tryd.ntmps45
    go_wp2
    go_loopw [5] (fun i wr => ∃ k : Nat, k ≤ 136 ∧ i = .int .i64 k ∧ (∀ j, j < k → Ar.bit j x = 0) ∧ Below w.heap.size w wr) (fun i _ => (136 - intOf i).toNat)
    case atStart => exact ⟨0, by omega, rfl, fun j h => by omega, Below.refl _ _⟩
    case round =>
      obtain ⟨k, k2, rfl, hall, hB⟩ := hrel
      have HA := Lib.hid hall
      clear hall
      by_cases hlt : k < 136
      · have c2 : wr.cell? ⟨q, k, none⟩ = some (.int .i64 0) := by
          have := (hB.cell (p := ⟨q, k, none⟩) HQ.out.lt).trans (HQ.out.cell k hlt)
          rw [this, Ar.bit_zero]
        have c1 := (hB.cell (p := ⟨p, k, none⟩) HX.out.lt).trans (HX.out.cell k hlt)
        have i1 : (0 : Int) ≤ k := by omega
        have i2 : (k : Int) < 136 := by omega
        rcases Ar.bit_01 k x with h0 | h0
        · have E := Lib.hid h0
          rw [h0] at c1
          clear h0
          go_wp2
          go_quiet (fail)
          go_wp2
          go_roundw
          case rel =>
            refine ⟨k + 1, by omega, by go_num, fun j h2 => ?_, below_drewN hB _⟩
            by_cases q : j = k
            · rw [q]; exact E.out
            · exact HA.out j (by omega)
          case measure => simp [intOf]; omega
        · rw [h0] at c1
          clear h0
          go_wp2
          go_quiet (fail)
          go_wp2
          go_ret
          exact ⟨ret_bool (by simp [nz.out]), below_drewN hB _⟩
      · exfalso
        obtain rfl : k = 136 := by omega
        exact nz.out (Ar.zero_of_bits X12.out.1 X12.out.2 (fun i h => HA.out i (by omega)))
theorem keep0 {a : Addr} {v : Value} {w : World} (h : w.cell? a = some v) : w.drew.cell? a = some v ∧ Below w.heap.size w w.drew := ⟨h, (Below.refl _ _).drew⟩
theorem keepS {a : Addr} {v : Value} {w x y : World} (h : x.cell? a = some v) (hx : Below w.heap.size w x) (hy : Below x.heap.size x y) : y.cell? a = some v ∧ Below w.heap.size w y :=
  ⟨(hy.cell (lt_of_cell h)).trans h, hx.trans (hy.mono hx.size)⟩
/-- The pair of slices that a division answers. -/
def Pair (w w' : World) (e : Ending) (x y : Int) : Prop := ∃ b c : Nat, e = .returned (.tuple #[.slice (some ⟨b, 0, none⟩) 136 136, .slice (some ⟨c, 0, none⟩) 136 136]) ∧ IsB w' b x ∧ IsB w' c y ∧ Below w.heap.size w w'

set_option maxRecDepth 100000 in
set_option maxHeartbeats 1000000 in
theorem upon_any (x c : Int) (p : Nat) (w : World) (hx : IsB w p x) (x1 : 0 ≤ x) (x2 : x < 2 ^ 135) (c1 : 1 ≤ c) (hc : Ar.fits c = true) : Calls Tryd.prog 43 #[.slice (some ⟨p, 0, none⟩) 136 136, .int .i64 c] w fun e w' => Pair w w' e (x / c) (x % c) := by
  have HX := Lib.hid hx
  have X12 := Lib.hid (And.intro x1 x2)
  have HC := Lib.hid hc
  clear hx x1 x2 hc
  go_enter Tryd.func43, Tryd.ntmps43
  go_wp2_with fail
  refine (bits_any 0 _ (by decide)).mono ?_
  rintro e w1 ⟨pq, rfl, gq, h1, B1⟩
  go_wp2_with fail
  refine (bits_any 0 _ (by decide)).mono ?_
  rintro e w2 ⟨pr, rfl, gr, h2, B2⟩
  have hq := h1.after B2
  have hB := B1.trans (B2.mono B1.size)
  clear h1 B1 B2
  go_wp2
  go_loopw [6, 7, 8] (fun q r i wr => ∃ (k pq pr : Nat), k ≤ 136 ∧ i = .int .i64 ((k : Int) - 1) ∧ q = .slice (some ⟨pq, 0, none⟩) 136 136 ∧ r = .slice (some ⟨pr, 0, none⟩) 136 136 ∧ IsB wr pq (x / 2 ^ k / c) ∧ IsB wr pr (x / 2 ^ k % c) ∧ Below w.heap.size w wr) (fun _ _ i _ => (intOf i + 1).toNat)
  case atStart =>
    have e : x / 2 ^ 136 = 0 := Ar.top_div X12.out.1 X12.out.2
    exact ⟨136, pq, pr, by omega, rfl, rfl, rfl, hq.of (by rw [e]; simp), h2.of (by rw [e]; simp), hB⟩
  case round =>
    obtain ⟨k, pq, pr, hk, rfl, rfl, rfl, ha, hb, hB'⟩ := hrel
    by_cases hpos : 0 < k
    · obtain ⟨k, rfl⟩ : ∃ j, k = j + 1 := ⟨k - 1, by omega⟩
      have e0 : ((k + 1 : Nat) : Int) - 1 = k := by omega
      rw [e0]
      clear e0
      have D := Lib.hid (Ar.div_next (A := x / 2 ^ (k + 1)) (A' := x / 2 ^ k) (b := Ar.bit k x) (c := c) (by omega) rfl rfl (Ar.half x k) (Ar.bit_bd k x).1 (Ar.bit_bd k x).2)
      have r0 := Int.emod_nonneg (x / 2 ^ (k + 1)) (show c ≠ 0 by omega)
      have r1 := Int.emod_lt_of_pos (x / 2 ^ (k + 1)) (show 0 < c by omega)
      generalize x / 2 ^ (k + 1) / c = Q at *
      generalize x / 2 ^ (k + 1) % c = R at *
      obtain ⟨v5, v6⟩ := Ar.bit_bd k x
      have hf : Ar.fits (Ar.bit k x) = true := Ar.fits_mk (by omega) (by omega)
      have HF := Lib.hid hf
      have cb := Ar.fits_t HC.out
      have A := Lib.hid ha
      have Bq := Lib.hid hb
      have HB := Lib.hid hB'
      have i1 : (0 : Int) ≤ k := by omega
      have i2 : (k : Int) < 136 := by omega
      have RB := Lib.hid (And.intro r0 (And.intro r1 cb))
      clear ha hb hB' hq h2 hB hf r0 r1 cb
      go_wp2_with fail
      refine (twice_any _ pq _ A.out).mono ?_
      rintro e w3 ⟨b3, rfl, g3, h3, B3⟩
      have Br := Bq.out.after B3
      have HB3 := HB.out.trans (B3.mono HB.out.size)
      have hc3 : w3.cell? ⟨p, k, none⟩ = some (.int .i64 (Ar.bit k x)) := (HB3.cell (p := ⟨p, k, none⟩) HX.out.lt).trans (HX.out.cell k (by omega))
      go_wp2
      go_region_held3 (fun w' => w'.cell? ⟨p, k, none⟩ = some (.int .i64 (Ar.bit k x)) ∧ Below w3.heap.size w3 w')
        (first
          | exact keep0 hc3
          | (go_split_ands; exact keepS (by assumption) (by assumption) B4)
          | (go_split_ands; exact keepS (by assumption) (by assumption) B5)
          | (go_split_ands; exact keepS (by assumption) (by assumption) B6))
        (first
          | (go_at_call 47; refine (twice_any R pr _ (Br.after (by go_split_ands; assumption))).mono ?_; rintro e w4 ⟨b4, rfl, g4, h4, B4⟩)
          | (go_at_call 32; refine (bits_any (Ar.bit k x) _ HF.out).mono ?_; rintro e w5 ⟨b5, rfl, g5, h5, B5⟩)
          | (go_at_call 46; refine (plus_any _ _ _ _ _ (h4.after B5) h5).mono ?_; rintro e w6 ⟨b6, rfl, g6, h6, B6⟩))
      have hS : w6.cell? ⟨p, k, none⟩ = some (.int .i64 (Ar.bit k x)) ∧ Below w3.heap.size w3 w6 := by assumption
      have HB6 := HB3.trans (hS.2.mono HB3.size)
      have hq6 := Lib.hid (h3.after hS.2)
      have hr6 := Lib.hid h6
      clear B4 B5 B6 h4 h5 h6 hc3 hS h3 HB3
      go_wp2_with fail
      refine (bits_any c _ HC.out).mono ?_
      rintro e w7 ⟨b7, rfl, g7, h7, B7⟩
      go_wp2_with fail
      refine (minus_any _ _ _ h7).mono ?_
      rintro e w8 ⟨b8, rfl, g8, h8, B8⟩
      go_wp2_with fail
      refine (plus_any _ _ _ _ _ ((hr6.out.after B7).after B8) h8).mono ?_
      rintro e w9 ⟨b9, rfl, g9, h9, B9⟩
      have hl := h9.of (show 2 * R + Ar.bit k x + -c = 2 * R + Ar.bit k x - c by omega)
      have hr9 := Lib.hid (((hr6.out.after B7).after B8).after B9)
      have hq9 := Lib.hid (((hq6.out.after B7).after B8).after B9)
      have HB7 := HB6.trans (B7.mono HB6.size)
      have HB8 := HB7.trans (B8.mono HB7.size)
      have HB9 := Lib.hid (HB8.trans (B9.mono HB8.size))
      have rng : -(2 ^ 135) ≤ 2 * R + Ar.bit k x - c ∧ 2 * R + Ar.bit k x - c < 2 ^ 135 := by
        obtain ⟨r0, r1, c0, c1⟩ := RB.out
        rw [pow_top]; omega
      have RN := Lib.hid rng
      have HL := Lib.hid hl
      clear B7 B8 B9 h7 h8 h9 HB6 HB7 HB8 hl rng
      by_cases hs : 2 * R + Ar.bit k x - c < 0
      · have E := Lib.hid (D.out.1 hs)
        have HS := Lib.hid hs
        clear hs
        go_wp2_with fail
        refine (below_t _ _ _ HL.out RN.out.1 RN.out.2 HS.out).mono ?_
        rintro e w' ⟨rfl, rfl⟩
        go_wp2
        go_roundw
        case rel => exact ⟨k, b3, b6, by omega, rfl, rfl, rfl, hq9.out.of E.out.1.symm, hr9.out.of E.out.2.symm, HB9.out⟩
        case measure => simp [intOf]
      · have E := Lib.hid (D.out.2 (by omega))
        have HS := Lib.hid hs
        clear hs
        go_wp2_with fail
        refine (below_f _ _ _ HL.out RN.out.1 RN.out.2 (by have := HS.out; omega)).mono ?_
        rintro e w' ⟨rfl, rfl⟩
        go_wp2_with fail
        refine (bits_any 1 _ (by decide)).mono ?_
        rintro e w10 ⟨b10, rfl, g10, h10, B10⟩
        go_wp2_with fail
        refine (plus_any _ _ _ _ _ (hq9.out.after B10) h10).mono ?_
        rintro e w11 ⟨b11, rfl, g11, h11, B11⟩
        have HL11 := Lib.hid ((HL.out.after B10).after B11)
        have H11 := Lib.hid h11
        have HB10 := HB9.out.trans (B10.mono HB9.out.size)
        have HB11 := Lib.hid (HB10.trans (B11.mono HB10.size))
        clear B10 B11 h10 h11 HB10
        go_wp2
        go_roundw
        case rel => exact ⟨k, b11, b9, by omega, rfl, rfl, rfl, H11.out.of E.out.1.symm, HL11.out.of E.out.2.symm, HB11.out⟩
        case measure => simp [intOf]
    · obtain rfl : k = 0 := by omega
      have A := Lib.hid ha
      have Bq := Lib.hid hb
      have HB := Lib.hid hB'
      clear ha hb hB'
      go_wp2
      go_ret2
      exact ⟨pq, pr, rfl, A.out.of (by simp), Bq.out.of (by simp), HB.out⟩
end Go.Proofs.YtpegaabcelkmmaaDoor.ref07
