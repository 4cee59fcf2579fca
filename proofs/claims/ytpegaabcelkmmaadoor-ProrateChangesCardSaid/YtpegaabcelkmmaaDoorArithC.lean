/- What the functions of package arith answer (walks, third part): the closures, and the whole functions. No conditions but that numbers are of 64 bits. -/
import Derived.Test.YtpegaabcelkmmaaDoorArithB
import Derived.RegionTactic
import Derived.ChangeAlike
namespace Go.Proofs.YtpegaabcelkmmaaDoor.arith
open Go.RowKit Go.Proofs.YtpegaabcelkmmaaDoor.base

theorem hilo (N : Int) : hi N * 18446744073709551616 + lo N = N := by unfold hi lo; omega
theorem hl_bd {N : Int} (h0 : 0 ≤ N) (h1 : N ≤ 85070591730234615865843651857942052864) : 0 ≤ hi N ∧ hi N ≤ 4611686018427387904 ∧ 0 ≤ lo N ∧ lo N ≤ 18446744073709551615 := by unfold hi lo; omega
theorem sg_big {N : Int} (neg : Bool) (h : 18446744073709551616 ≤ N) : Ar.fits (sg N neg) = false := by
  apply Ar.fits_no; unfold sg; split <;> omega

theorem sg_abs (x : Int) : sg x.natAbs (decide (x < 0)) = x := by
  unfold sg
  by_cases h : x < 0
  · simp [h]; omega
  · simp [h]; omega
theorem abs_bd {a b : Int} (ha : Ar.fits a = true) (hb : Ar.fits b = true) : ((a * b).natAbs : Int) ≤ 85070591730234615865843651857942052864 := by
  have := Ar.prod_bd ha hb
  have e : (2 : Int) ^ 126 = 85070591730234615865843651857942052864 := by decide
  rw [e] at this; omega
/-- The quotient and the rest of a size with a sign. -/
theorem quo_pos {N c : Int} : sg N false / c = N / c ∧ sg N false % c = N % c := ⟨rfl, rfl⟩
theorem quo_neg0 {N c : Int} (hc : 0 < c) (h : N % c = 0) : sg N true / c = sg (N / c) true ∧ sg N true % c = N % c := by
  have := (Ar.neg_div (x := -N) (c := c) hc).1 (by rw [Int.neg_neg]; exact h)
  rw [Int.neg_neg] at this
  exact this
theorem quo_neg1 {N c : Int} (hc : 0 < c) (h : ¬ N % c = 0) : sg N true / c = sg (N / c + 1) true ∧ sg N true % c = c - N % c := by
  have := (Ar.neg_div (x := -N) (c := c) hc).2 (by rw [Int.neg_neg]; exact h)
  rw [Int.neg_neg] at this
  refine ⟨this.1, this.2.trans (by omega)⟩
/-- A quotient of more than 2^63 fits no more. -/
theorem quo_big {N c : Int} (neg : Bool) (hc : 0 < c) (h : 9223372036854775808 < N / c) : Ar.fits (sg N neg / c) = false := by
  apply Ar.fits_no
  cases neg
  · show N / c < _ ∨ _ < N / c; omega
  · by_cases g : N % c = 0
    · rw [(quo_neg0 hc g).1]; unfold sg; simp; omega
    · rw [(quo_neg1 hc g).1]; unfold sg; simp; omega
/-- What MulDiv's closure leaves. -/
def Left (B : Nat) (w w' : World) (pr : Addr) (X c : Int) : Prop := Below B w w' ∧ w'.frozen? pr = false ∧ ∃ r : Int, w'.cell? pr = some (.int .i64 r) ∧ (Ar.fits (X / c) = true → r = X % c)

theorem left_of {B br : Nat} {w W : World} {X c r0 r : Int} (cr : w.cell? ⟨br, 0, none⟩ = some (.int .i64 r0)) (fr : w.frozen? ⟨br, 0, none⟩ = false) (hB : B ≤ br) (hBw : B ≤ w.heap.size) (hb : Below w.heap.size w W) (hr : r = X % c) :
    Left B w (W.setCell ⟨br, 0, none⟩ (.int .i64 r)) ⟨br, 0, none⟩ X c := by
  have lr := lt_of_cell cr
  refine ⟨(hb.mono hBw).setCell hB _, ?_, r, ?_, fun _ => hr⟩
  · rw [World.frozen?_setCell, hb.frozen (p := ⟨br, 0, none⟩) lr]; exact fr
  · exact World.cell?_setCell_same _ _ _ ((hb.cell (p := ⟨br, 0, none⟩) lr).trans cr)
set_option maxRecDepth 100000 in
set_option maxHeartbeats 1000000 in
theorem mulDivC (N c r0 : Int) (neg : Bool) (bc br B : Nat) (w : World) (h0 : 0 ≤ N) (h1 : N ≤ 85070591730234615865843651857942052864) (c0 : 1 ≤ c) (hc : Ar.fits c = true)
    (cc : w.cell? ⟨bc, 0, none⟩ = some (.int .i64 c)) (cr : w.cell? ⟨br, 0, none⟩ = some (.int .i64 r0)) (fr : w.frozen? ⟨br, 0, none⟩ = false) (hB : B ≤ br) (hBw : B ≤ w.heap.size) :
    Calls Tryd.prog 49 #[.agg #[.int .u64 (hi N), .int .u64 (lo N)], .bool neg, .pointer (some ⟨bc, 0, none⟩), .pointer (some ⟨br, 0, none⟩)] w fun e w' => e = .returned (.tuple #[.int .i64 (Ar.fitV (sg N neg / c)), .bool (Ar.fits (sg N neg / c))]) ∧ Left B w w' ⟨br, 0, none⟩ (sg N neg) c := by
  obtain ⟨a1, a2, a3, a4⟩ := hl_bd h0 h1
  obtain ⟨c1, c2⟩ := Ar.fits_t hc
  have lc := lt_of_cell cc
  have lr := lt_of_cell cr
  have hl := hilo N
  by_cases hh : c ≤ hi N
  · have F := Lib.hid (quo_big neg (show 0 < c by omega) (show 9223372036854775808 < N / c by
      have : c * 18446744073709551616 ≤ N := by omega
      have : 18446744073709551616 ≤ N / c := Int.le_ediv_of_mul_le (by omega) (by rw [Int.mul_comm]; exact this)
      omega))
    generalize hi N = H at *
    generalize lo N = L at *
    have H1 := Lib.hid (And.intro h1 hl)
    clear h1 hl hc
    go_enter Tryd.func49, Tryd.ntmps49
    go_wp2
    go_ret2
    refine ⟨ret_ib (by simp [Ar.fitV, F.out]) F.out.symm, (Below.refl _ _).alloc hBw _, ?_, r0, ?_, fun q => by rw [F.out] at q; cases q⟩
    · rw [World.frozen?_alloc_past _ _ _ lr]; exact fr
    · rw [World.cell?_alloc_past _ _ _ lr]; exact cr
  · have DV := Lib.hid (fun w => div_any (hi N) (lo N) c w a1 (by omega) a3 a4 (by omega))
    rw [hl] at DV
    have q0 := Int.ediv_nonneg h0 (show 0 ≤ c by omega)
    have r1 := Int.emod_nonneg N (show c ≠ 0 by omega)
    have r2 := Int.emod_lt_of_pos N (show 0 < c by omega)
    by_cases hb : 9223372036854775808 < N / c
    · have F := Lib.hid (quo_big neg (show 0 < c by omega) hb)
      generalize hi N = H at *
      generalize lo N = L at *
      have H1 := Lib.hid (And.intro h1 hl)
      clear h1 hl hc h0
      generalize N / c = Q at *
      generalize N % c = R at *
      go_enter Tryd.func49, Tryd.ntmps49
      go_wp2_with (go_at_call 50; refine (DV.out _).mono ?_; rintro e w' ⟨rfl, n, rfl⟩)
      go_ret2
      refine ⟨ret_ib (by simp [Ar.fitV, F.out]) F.out.symm, below_drewN ((Below.refl _ _).alloc hBw _) _, ?_, r0, ?_, fun q => by rw [F.out] at q; cases q⟩
      · show (w.alloc _).frozen? _ = false; rw [World.frozen?_alloc_past _ _ _ lr]; exact fr
      · show (w.alloc _).cell? _ = _; rw [World.cell?_alloc_past _ _ _ lr]; exact cr
    · have hb' : N / c ≤ 9223372036854775808 := by omega
      cases neg
      · have QP := Lib.hid (quo_pos (N := N) (c := c))
        generalize hi N = H at *
        generalize lo N = L at *
        have H1 := Lib.hid (And.intro h1 hl)
        clear h1 hl hc h0 hb
        generalize N / c = Q at *
        generalize N % c = R at *
        go_enter Tryd.func49, Tryd.ntmps49
        go_wp2_with (first | (go_at_call 50; refine (DV.out _).mono ?_; rintro e w' ⟨rfl, n, rfl⟩) | (go_at_call 51; refine (signed_any Q false _ q0 (by omega)).mono ?_; rintro e w' ⟨rfl, rfl⟩))
        go_ret2
        refine ⟨ret_ib (by rw [QP.out.1]; rfl) (by rw [QP.out.1]; rfl), ?_⟩
        exact left_of cr fr hB hBw (below_drewN ((Below.refl _ _).alloc (Nat.le_refl _) _) _) QP.out.2.symm
      · by_cases hz : N % c = 0
        · have QP := Lib.hid (quo_neg0 (N := N) (c := c) (by omega) hz)
          generalize hi N = H at *
          generalize lo N = L at *
          have H1 := Lib.hid (And.intro h1 hl)
          clear h1 hl hc h0 hb
          generalize N / c = Q at *
          generalize N % c = R at *
          subst hz
          go_enter Tryd.func49, Tryd.ntmps49
          go_wp2_with (first | (go_at_call 50; refine (DV.out _).mono ?_; rintro e w' ⟨rfl, n, rfl⟩) | (go_at_call 51; refine (signed_any Q true _ q0 (by omega)).mono ?_; rintro e w' ⟨rfl, rfl⟩))
          go_ret2
          exact ⟨ret_ib (by rw [QP.out.1]) (by rw [QP.out.1]), left_of cr fr hB hBw (below_drewN ((Below.refl _ _).alloc (Nat.le_refl _) _) _) QP.out.2.symm⟩
        · have QP := Lib.hid (quo_neg1 (N := N) (c := c) (by omega) hz)
          generalize hi N = H at *
          generalize lo N = L at *
          have H1 := Lib.hid (And.intro h1 hl)
          clear h1 hl hc h0 hb
          generalize N / c = Q at *
          generalize N % c = R at *
          have rp : 0 < R := by omega
          have k1 : 0 ≤ c - R := by omega
          have k2 : c - R ≤ 9223372036854775807 := by omega
          have k3 : Q + 1 ≤ 9223372036854775809 := by omega
          have cw : ∀ o : Obj, (w.alloc o).cell? ⟨bc, 0, none⟩ = some (.int .i64 c) := fun o => by rw [World.cell?_alloc_past _ _ _ lc]; exact cc
          have CW := Lib.hid cw
          clear hz cw
          go_enter Tryd.func49, Tryd.ntmps49
          go_wp2_with (first | (go_at_call 50; refine (DV.out _).mono ?_; rintro e w' ⟨rfl, n, rfl⟩))
          go_quiet (fail)
          go_wp2_with (first | (go_at_call 51; refine (signed_any (Q + 1) true _ (by omega) (by omega)).mono ?_; rintro e w' ⟨rfl, rfl⟩))
          go_ret2
          exact ⟨ret_ib (by rw [QP.out.1]) (by rw [QP.out.1]), left_of cr fr hB hBw (below_drewN ((Below.refl _ _).alloc (Nat.le_refl _) _) _) QP.out.2.symm⟩

set_option maxRecDepth 100000 in
theorem mulDiv_any (a b c : Int) (w : World) (ha : Ar.fits a = true) (hb : Ar.fits b = true) (hc : Ar.fits c = true) : Calls Tryd.prog 36 #[.int .i64 a, .int .i64 b, .int .i64 c] w fun e w' => e = .returned (.tuple #[.int .i64 (Ar.mdQ a b c), .int .i64 (Ar.mdR a b c), .bool (Ar.mdI a b c)]) ∧ Below w.heap.size w w' := by
  by_cases h0 : 0 < c
  · obtain ⟨c1, c2⟩ := Ar.fits_t hc
    have T := Lib.hid (fun (W : World) (bc br : Nat) (cc : W.cell? ⟨bc, 0, none⟩ = some (.int .i64 c)) (cr : W.cell? ⟨br, 0, none⟩ = some (.int .i64 0)) (fr : W.frozen? ⟨br, 0, none⟩ = false) (B : Nat) (hB : B ≤ br) (hBw : B ≤ W.heap.size) =>
      whole_mulDiv a b (Ar.fitV (a * b / c)) (Ar.fits (a * b / c)) ⟨bc, 0, none⟩ ⟨br, 0, none⟩ W (fun w' => Left B W w' ⟨br, 0, none⟩ (a * b) c) ha hb (fun w1 B1 => by
        have k1 := (B1.cell (p := ⟨bc, 0, none⟩) (lt_of_cell cc)).trans cc
        have k2 := (B1.cell (p := ⟨br, 0, none⟩) (lt_of_cell cr)).trans cr
        have k3 := (B1.frozen (p := ⟨br, 0, none⟩) (lt_of_cell cr)).trans fr
        have := mulDivC (a * b).natAbs c 0 (decide (a * b < 0)) bc br B w1 (by omega) (abs_bd ha hb) h0 hc k1 k2 k3 hB (Nat.le_trans hBw B1.size)
        rw [sg_abs] at this
        exact this.mono fun _ _ ⟨p, q, q2⟩ => ⟨p, (B1.mono hBw).trans q, q2⟩))
    have E := Lib.hid (show Ar.mdQ a b c = Ar.fitV (a * b / c) ∧ Ar.mdI a b c = Ar.fits (a * b / c) ∧ (Ar.fits (a * b / c) = true → Ar.mdR a b c = a * b % c) ∧ (Ar.fits (a * b / c) = false → Ar.mdR a b c = 0) from
      ⟨by simp [Ar.mdQ, h0], by simp [Ar.mdI, h0], fun h => by simp [Ar.mdR, h, h0], fun h => by simp [Ar.mdR, h]⟩)
    have FV := Lib.hid (fun h : Ar.fits (a * b / c) = false => show Ar.fitV (a * b / c) = 0 by simp [Ar.fitV, h])
    clear ha hb hc
    go_enter Tryd.func36, Tryd.ntmps36
    go_wp2_with fail
    refine (T.out _ w.heap.size (w.heap.size + 1) ?_ ?_ ?_ w.heap.size (by omega) (by simp; omega)).mono ?_
    · simp [go_sem]
    · simp [go_sem]
    · simp [go_sem]
    rintro e w1 ⟨rfl, B1, fr1, r, cr1, hr⟩
    clear T
    cases hf : Ar.fits (a * b / c)
    · have HF := Lib.hid hf
      have B2 := Lib.hid B1
      clear hf hr B1
      have hcs := World.cell?_setCell_same _ _ (.int .i64 0) cr1
      go_wp2
      exact bodyPost_ret (v := .tuple #[.int .i64 0, .int .i64 0, .bool false]) (by simp [results, Tryd.results36, go_sem, hcs]) rfl
        ⟨ret_iib (by rw [E.out.1, FV.out HF.out]) (E.out.2.2.2 HF.out).symm (by rw [E.out.2.1, HF.out]), ((((Below.refl _ _).alloc (Nat.le_refl _) _).alloc (by simp) _).trans B2.out).setCell (by simp) _⟩
    · have HF := Lib.hid hf
      have B2 := Lib.hid B1
      have HR := Lib.hid (hr hf)
      clear hf hr B1
      have hcs := World.cell?_setCell_same _ _ (.int .i64 r) cr1
      go_wp2
      go_region
      all_goals go_wp2
      all_goals exact bodyPost_ret (v := .tuple #[.int .i64 (Ar.fitV (a * b / c)), .int .i64 r, .bool true]) (by simp [results, Tryd.results36, go_sem, hcs]) rfl ⟨ret_iib (by rw [E.out.1]) (by rw [E.out.2.2.1 HF.out, HR.out]) (by rw [E.out.2.1, HF.out]), (((((Below.refl _ _).alloc (Nat.le_refl _) _).alloc (by simp) _).trans B2.out).setCell (by simp) _).drew⟩
  · have e1 := Lib.hid (show Ar.mdQ a b c = 0 by simp [Ar.mdQ, h0])
    have e2 := Lib.hid (show Ar.mdR a b c = 0 by simp [Ar.mdR, h0])
    have e3 := Lib.hid (show Ar.mdI a b c = false by simp [Ar.mdI, h0])
    clear ha hb hc
    go_enter Tryd.func36, Tryd.ntmps36
    go_wp2
    exact bodyPost_ret (v := .tuple #[.int .i64 0, .int .i64 0, .bool false]) (by simp [results, Tryd.results36, go_sem]) rfl
      ⟨ret_iib e1.out.symm e2.out.symm e3.out.symm, ((Below.refl _ _).alloc (Nat.le_refl _) _).alloc (by simp) _⟩
end Go.Proofs.YtpegaabcelkmmaaDoor.arith
