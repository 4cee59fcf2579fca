/- What the functions of package quittanceref07 answer (walks): integers as bits. No conditions but that numbers are of 64 bits. -/
import Derived.Test.YtpegaabcelkmmaaDoorBase
import Derived.Test.YtpegaabcelkmmaaDoorArithMath
namespace Go.Proofs.YtpegaabcelkmmaaDoor.ref07
open Go.RowKit Go.Proofs.YtpegaabcelkmmaaDoor.base

theorem infoInt : (Tryd.prog.info? 3).map (fun i => (i.zero, i.size, i.bytes)) = some (some (.int .i64 0), 1, 8) := by kernel_rfl
theorem make136 (w : World) : (Instr.makeSlice 63 (.int .i64 136) (.int .i64 136)).run Tryd.prog w = .ok (.slice (some ⟨w.heap.size, 0, none⟩) 136 136) (w.alloc (.cells (madeCells #[.int .i64 0] 136) 3)) := by
  obtain ⟨i0, hi, hz0, hz1, hz2⟩ := info_parts infoInt
  have h := run_make (P := Tryd.prog) w 63 3 i0 (.int .i64 0) Tryd.underlying63 hi hz0 .i64 .i64 136 136 (by omega) (by omega) (by rw [hz2]; decide) (by omega)
  rw [hz1] at h
  exact h
/-- Block b holds the bits of x. -/
def IsB (w : World) (b : Nat) (x : Int) : Prop := Row w b 136 (fun j => .int .i64 (Ar.bit j x))
def sl (b : Nat) : Value := .slice (some ⟨b, 0, none⟩) 136 136
theorem IsB.cell {w : World} {b : Nat} {x : Int} (h : IsB w b x) (j : Nat) (hj : j < 136) : w.cell? ⟨b, j, none⟩ = some (.int .i64 (Ar.bit j x)) := (h j hj).1
theorem IsB.lt {w : World} {b : Nat} {x : Int} (h : IsB w b x) : b < w.heap.size := Row.lt h (by decide)

set_option maxRecDepth 100000 in
set_option maxHeartbeats 400000 in
theorem bits_any (n : Int) (w : World) (hn : Ar.fits n = true) : Calls Tryd.prog 32 #[.int .i64 n] w fun e w' => ∃ b, e = .returned (.slice (some ⟨b, 0, none⟩) 136 136) ∧ w.heap.size ≤ b ∧ IsB w' b n ∧ Below w.heap.size w w' := by
  obtain ⟨n1, n2⟩ := Ar.fits_t hn
  have HN := Lib.hid hn
  clear hn
  obtain ⟨Z, hZ⟩ : ∃ Z, Z = madeCells #[.int .i64 0] 136 := ⟨_, rfl⟩
  have hmk : (Instr.makeSlice 63 (.int .i64 136) (.int .i64 136)).run Tryd.prog w = .ok (.slice (some ⟨w.heap.size, 0, none⟩) 136 136) (w.alloc (.cells Z 3)) := by rw [hZ]; exact make136 w
  have RZ := Lib.hid (show Row (w.alloc (.cells Z 3)) w.heap.size 136 (fun _ => .int .i64 0) by rw [hZ]; exact Row.made w _ _ _)
  clear hZ
  have N := Lib.hid (And.intro n1 n2)
  clear n1 n2
  go_enter Tryd.func32, Tryd.ntmps32
  go_wp2
  go_loopw [4, 5] (fun u i wr => ∃ (k : Nat) (U : Int), k ≤ 136 ∧ i = .int .i64 k ∧ u = .int .u64 U ∧ U = Ar.hv n (min k 64) ∧ Row wr w.heap.size 136 (fun j => .int .i64 (if j < k then Ar.bit j n else 0)) ∧ Below w.heap.size w wr) (fun _ i _ => 136 - (intOf i).toNat)
  case atStart => exact ⟨0, _, by omega, rfl, rfl, (Ar.hv_zero n).symm, RZ.out.congr (fun j _ => by simp), (Below.refl _ _).alloc (Nat.le_refl _) _⟩
  case round =>
    obtain ⟨k, U, hk, rfl, rfl, hU, hR, hB⟩ := hrel
    have hUb := Ar.hv_bd n (min k 64)
    rw [← hU] at hUb
    obtain ⟨u1, u2⟩ := hUb
    by_cases hlt : k < 136
    · have hc := (hR k hlt).1
      have hf := (hR k hlt).2
      have HR := Lib.hid hR
      have HU := Lib.hid hU
      clear hR hU
      by_cases h64 : k < 64
      · have NB := Lib.hid (Ar.hv_bit n k h64)
        go_wp2
        go_roundw
        case rel =>
          refine ⟨k + 1, U / 2, by omega, by go_num, by rfl, ?_, ?_, hB.setCell (by simp) _⟩
          · rw [HU.out, Nat.min_eq_left (by omega), Nat.min_eq_left (by omega), Ar.hv_succ]
          · refine (HR.out.set _ hlt).congr (fun j _ => ?_)
            by_cases e : j = k
            · subst e; rw [if_pos rfl, if_pos (by omega), HU.out, Nat.min_eq_left (by omega), NB.out]
            · rw [if_neg e]; by_cases q : j < k
              · rw [if_pos q, if_pos (by omega)]
              · rw [if_neg q, if_neg (by omega)]
        case measure => simp [intOf]; omega
      · have NB := Lib.hid (Ar.bit_high HN.out k (by omega))
        by_cases hneg : n < 0
        · go_wp2
          go_roundw
          case rel =>
            refine ⟨k + 1, U, by omega, by go_num, rfl, ?_, ?_, hB.setCell (by simp) _⟩
            · rw [HU.out, Nat.min_eq_right (by omega), Nat.min_eq_right (by omega)]
            · refine (HR.out.set _ hlt).congr (fun j _ => ?_)
              by_cases e : j = k
              · subst e; rw [if_pos rfl, if_pos (by omega), NB.out, if_pos hneg]
              · rw [if_neg e]; by_cases q : j < k
                · rw [if_pos q, if_pos (by omega)]
                · rw [if_neg q, if_neg (by omega)]
          case measure => simp [intOf]; omega
        · go_wp2
          go_roundw
          case rel =>
            refine ⟨k + 1, U, by omega, by go_num, rfl, ?_, ?_, hB⟩
            · rw [HU.out, Nat.min_eq_right (by omega), Nat.min_eq_right (by omega)]
            · refine HR.out.congr (fun j _ => ?_)
              by_cases e : j = k
              · subst e; rw [if_neg (by omega), if_pos (by omega), NB.out, if_neg hneg]
              · by_cases q : j < k
                · rw [if_pos q, if_pos (by omega)]
                · rw [if_neg q, if_neg (by omega)]
          case measure => simp [intOf]; omega
    · go_wp2
      go_ret
      exact ⟨_, rfl, Nat.le_refl _, hR.congr (fun j hj => by rw [if_pos (by omega)]), hB⟩

/-- One place of the sum is laid. -/
theorem laid_next {wr : World} {B k : Nat} {G : Nat → Int} {v : Int} (hR : Row wr B 136 (fun j => .int .i64 (if j < k then G j else 0))) (hk : k < 136) (hv : v = G k) :
    Row (wr.setCell ⟨B, k, none⟩ (.int .i64 v)) B 136 (fun j => .int .i64 (if j < k + 1 then G j else 0)) := by
  refine (hR.set _ hk).congr (fun j _ => ?_)
  by_cases e : j = k
  · subst e; rw [if_pos rfl, if_pos (by omega), hv]
  · rw [if_neg e]; by_cases q : j < k
    · rw [if_pos q, if_pos (by omega)]
    · rw [if_neg q, if_neg (by omega)]

set_option maxRecDepth 100000 in
set_option maxHeartbeats 400000 in
theorem plus_any (x y : Int) (p q : Nat) (w : World) (hx : IsB w p x) (hy : IsB w q y) : Calls Tryd.prog 46 #[.slice (some ⟨p, 0, none⟩) 136 136, .slice (some ⟨q, 0, none⟩) 136 136] w fun e w' => ∃ b, e = .returned (.slice (some ⟨b, 0, none⟩) 136 136) ∧ w.heap.size ≤ b ∧ IsB w' b (x + y) ∧ Below w.heap.size w w' := by
  have hp := hx.lt
  have hq := hy.lt
  obtain ⟨Z, hZ⟩ : ∃ Z, Z = madeCells #[.int .i64 0] 136 := ⟨_, rfl⟩
  have hmk : (Instr.makeSlice 63 (.int .i64 136) (.int .i64 136)).run Tryd.prog w = .ok (.slice (some ⟨w.heap.size, 0, none⟩) 136 136) (w.alloc (.cells Z 3)) := by rw [hZ]; exact make136 w
  have RZ := Lib.hid (show Row (w.alloc (.cells Z 3)) w.heap.size 136 (fun _ => .int .i64 0) by rw [hZ]; exact Row.made w _ _ _)
  have HX := Lib.hid hx
  have HY := Lib.hid hy
  clear hZ hx hy
  go_enter Tryd.func46, Tryd.ntmps46
  go_wp2
  go_loopw [6, 7] (fun u i wr => ∃ (k : Nat) (c : Int), k ≤ 136 ∧ i = .int .i64 k ∧ u = .int .i64 c ∧ c = Ar.car k x y 0 ∧ Row wr w.heap.size 136 (fun j => .int .i64 (if j < k then Ar.bit j (x + y) else 0)) ∧ Below w.heap.size w wr) (fun _ i _ => 136 - (intOf i).toNat)
  case atStart => exact ⟨0, 0, by omega, rfl, rfl, (Ar.car_zero x y 0).symm, RZ.out.congr (fun j _ => by simp), (Below.refl _ _).alloc (Nat.le_refl _) _⟩
  case round =>
    obtain ⟨k, c, hk, rfl, rfl, hU, hR, hB⟩ := hrel
    obtain ⟨u1, u2⟩ := Ar.car_bd k x y 0 (by omega) (by omega)
    rw [← hU] at u1 u2
    by_cases hlt : k < 136
    · have c1 : wr.cell? ⟨p, k, none⟩ = some (.int .i64 (Ar.bit k x)) := (hB.cell (p := ⟨p, k, none⟩) hp).trans (HX.out.cell k hlt)
      have c2 : wr.cell? ⟨q, k, none⟩ = some (.int .i64 (Ar.bit k y)) := (hB.cell (p := ⟨q, k, none⟩) hq).trans (HY.out.cell k hlt)
      have hc := (hR k hlt).1
      have hf := (hR k hlt).2
      obtain ⟨a1, a2⟩ := Ar.bit_bd k x
      obtain ⟨b1, b2⟩ := Ar.bit_bd k y
      have HR := Lib.hid hR
      have HU := Lib.hid hU
      have i1 : (0 : Int) ≤ k := by omega
      have i2 : (k : Int) < 136 := by omega
      clear hR hU
      go_wp2
      go_quiet (fail)
      go_wp2
      go_roundw
      case rel =>
        refine ⟨k + 1, (Ar.bit k x + Ar.bit k y + c) / 2, by omega, by go_num, rfl, ?_, ?_, (below_drewN hB _).setCell (by simp) _⟩
        · rw [Ar.car_succ, ← HU.out]
        · exact laid_next (HR.out.drewN _) hlt (by have := Ar.bit_add k x y 0; rw [Int.add_zero] at this; rw [this, ← HU.out])
      case measure => simp [intOf]; omega
    · go_wp2
      go_ret
      exact ⟨_, rfl, Nat.le_refl _, hR.congr (fun j hj => by rw [if_pos (by omega)]), hB⟩

set_option maxRecDepth 100000 in
set_option maxHeartbeats 400000 in
theorem minus_any (x : Int) (p : Nat) (w : World) (hx : IsB w p x) : Calls Tryd.prog 44 #[.slice (some ⟨p, 0, none⟩) 136 136] w fun e w' => ∃ b, e = .returned (.slice (some ⟨b, 0, none⟩) 136 136) ∧ w.heap.size ≤ b ∧ IsB w' b (-x) ∧ Below w.heap.size w w' := by
  have hp := hx.lt
  obtain ⟨Z, hZ⟩ : ∃ Z, Z = madeCells #[.int .i64 0] 136 := ⟨_, rfl⟩
  have hmk : (Instr.makeSlice 63 (.int .i64 136) (.int .i64 136)).run Tryd.prog w = .ok (.slice (some ⟨w.heap.size, 0, none⟩) 136 136) (w.alloc (.cells Z 3)) := by rw [hZ]; exact make136 w
  have RZ := Lib.hid (show Row (w.alloc (.cells Z 3)) w.heap.size 136 (fun _ => .int .i64 0) by rw [hZ]; exact Row.made w _ _ _)
  have HX := Lib.hid hx
  clear hZ hx
  go_enter Tryd.func44, Tryd.ntmps44
  go_wp2
  go_loopw [4, 5] (fun u i wr => ∃ (k : Nat) (c : Int), k ≤ 136 ∧ i = .int .i64 k ∧ u = .int .i64 c ∧ c = Ar.car k (-1 - x) 0 1 ∧ Row wr w.heap.size 136 (fun j => .int .i64 (if j < k then Ar.bit j (-x) else 0)) ∧ Below w.heap.size w wr) (fun _ i _ => 136 - (intOf i).toNat)
  case atStart => exact ⟨0, 1, by omega, rfl, rfl, (Ar.car_zero _ 0 1).symm, RZ.out.congr (fun j _ => by simp), (Below.refl _ _).alloc (Nat.le_refl _) _⟩
  case round =>
    obtain ⟨k, c, hk, rfl, rfl, hU, hR, hB⟩ := hrel
    obtain ⟨u1, u2⟩ := Ar.car_bd k (-1 - x) 0 1 (by omega) (by omega)
    rw [← hU] at u1 u2
    by_cases hlt : k < 136
    · have c1 : wr.cell? ⟨p, k, none⟩ = some (.int .i64 (Ar.bit k x)) := (hB.cell (p := ⟨p, k, none⟩) hp).trans (HX.out.cell k hlt)
      have hc := (hR k hlt).1
      have hf := (hR k hlt).2
      obtain ⟨a1, a2⟩ := Ar.bit_bd k x
      have HR := Lib.hid hR
      have HU := Lib.hid hU
      clear hR hU
      go_wp2
      go_roundw
      case rel =>
        refine ⟨k + 1, (1 - Ar.bit k x + c) / 2, by omega, by go_num, rfl, ?_, ?_, hB.setCell (by simp) _⟩
        · rw [Ar.car_succ, ← HU.out, Ar.bit_not, Ar.bit_zero, Int.add_zero]
        · refine laid_next HR.out hlt ?_
          have h := Ar.bit_add k (-1 - x) 0 1
          rw [show (-1 - x + 0 + 1 : Int) = -x by omega] at h
          rw [h, ← HU.out, Ar.bit_not, Ar.bit_zero, Int.add_zero]
      case measure => simp [intOf]; omega
    · go_wp2
      go_ret
      exact ⟨_, rfl, Nat.le_refl _, hR.congr (fun j hj => by rw [if_pos (by omega)]), hB⟩
end Go.Proofs.YtpegaabcelkmmaaDoor.ref07
