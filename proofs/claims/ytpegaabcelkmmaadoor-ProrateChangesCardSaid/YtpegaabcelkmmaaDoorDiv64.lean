/- math/bits.Div64, walked: the quotient and the rest of a number of two words. Conditions: 0 < y < 2^63, hi < y. -/
import Derived.Test.YtpegaabcelkmmaaDoorArithA
import Derived.Test.YtpegaabcelkmmaaDoorDivMath
import Derived.Deep.DeepCutAuto
import Derived.Deep.CutBlock
namespace Go.Proofs.YtpegaabcelkmmaaDoor.arith
open Go.RowKit Go.Proofs.YtpegaabcelkmmaaDoor.base

theorem div_small (l y : Int) (w : World) (l0 : 0 ≤ l) (l1 : l ≤ 18446744073709551615) (y0 : 1 ≤ y) (y1 : y ≤ 9223372036854775807) : Calls Tryd.prog 50 #[.int .u64 0, .int .u64 l, .int .u64 y] w fun e w' => e = .returned (.tuple #[.int .u64 (l / y), .int .u64 (l % y)]) ∧ ∃ n, w' = w.drewN n := by
  have hy : (y == 0) = false := by simp; omega
  have h2 : ¬ y ≤ 0 := by omega
  have q0 := Int.ediv_nonneg l0 (show 0 ≤ y by omega)
  have q1 : l / y ≤ 18446744073709551615 := by have := Int.ediv_le_self y l0; omega
  have r0 := Int.emod_nonneg l (show y ≠ 0 by omega)
  have r1 := Int.emod_lt_of_pos l (show 0 < y by omega)
  have t1 : l.tdiv y = l / y := Int.tdiv_eq_ediv_of_nonneg l0
  have t2 : l.tmod y = l % y := Int.tmod_eq_emod_of_nonneg l0
  have w1 : IntKind.u64.wrap (l / y) = l / y := by rw [wrapU]; omega
  have w2 : IntKind.u64.wrap (l % y) = l % y := by rw [wrapU]; omega
  go_enter Tryd.func50, Tryd.ntmps50
  go_wp2
  go_quiet (fail)
  go_wp2
  go_ret2
  exact ⟨rfl, _, rfl⟩
/-- A digit of the quotient, guessed and corrected: the loop's two ways out meet. -/
def Digit (P Z A u : Int) : Int := (A * 4294967296 + u) / (P * 4294967296 + Z)
set_option maxRecDepth 100000 in
set_option maxHeartbeats 1000000 in
theorem div_core (h l y V A T P Z U1 U0 : Int) (s : Nat) (w : World) (h0 : 1 ≤ h) (h1 : h < y) (_l0 : 0 ≤ l) (_l1 : l ≤ 18446744073709551615) (y0 : 1 ≤ y) (y1 : y ≤ 9223372036854775807)
    (lz : ∀ w, Calls Tryd.prog 56 #[.int .u64 y] w fun e w' => e = .returned (.int .i64 (s : Int)) ∧ w = w') (s1 : 1 ≤ s) (s2 : s ≤ 63)
    (e1 : IntKind.u64.wrap (y * 2 ^ s) = V) (e2 : bits BinOp.or IntKind.u64 (IntKind.u64.wrap (h * 2 ^ s)) (l / 2 ^ (64 - s)) = A) (e3 : IntKind.u64.wrap (l * 2 ^ s) = T)
    (e4 : V / 4294967296 = P) (e5 : bits BinOp.and IntKind.u64 V 4294967295 = Z) (e6 : T / 4294967296 = U1) (e7 : bits BinOp.and IntKind.u64 T 4294967295 = U0) (e7' : T % 4294967296 = U0)
    (k1 : Dv.Ok P Z A U1) (k2 : P * 4294967296 + Z = V) (v2 : V ≤ 18446744073709551615) (k3 : A * 18446744073709551616 + T = (h * 18446744073709551616 + l) * 2 ^ s) (k4 : V = y * 2 ^ s) :
    Calls Tryd.prog 50 #[.int .u64 h, .int .u64 l, .int .u64 y] w fun e w' => e = .returned (.tuple #[.int .u64 ((h * 18446744073709551616 + l) / y), .int .u64 ((h * 18446744073709551616 + l) % y)]) ∧ ∃ n, w' = w.drewN n := by
  have hy : (y == 0) = false := by simp; omega
  have h2 : ¬ y ≤ h := by omega
  have hh : (h == 0) = false := by simp; omega
  have LZ := Lib.hid lz
  have K1 := Lib.hid k1
  have K2 := Lib.hid k2
  have K34 := Lib.hid (And.intro k3 k4)
  obtain ⟨p1, p2, z1, z2, a1, a2, u1, u2⟩ := k1
  clear lz k2 k3 k4
  have a3 : A ≤ 18446744073709551615 := by omega
  have I := Lib.hid (Dv.start K1.out)
  obtain ⟨i1, i2, i3, i4, i5, i6⟩ := I.out
  have t1 : A.tdiv P = A / P := Int.tdiv_eq_ediv_of_nonneg a1
  have w1 : IntKind.u64.wrap (A / P) = A / P := by rw [wrapU]; omega
  have m0 := Int.mul_nonneg i5 (show 0 ≤ P by omega)
  have w2 : IntKind.u64.wrap (A / P * P) = A / P * P := by rw [wrapU]; omega
  have w3 : A - A / P * P = A % P := by omega
  have w4 : IntKind.u64.wrap (A % P) = A % P := by rw [wrapU]; omega
  clear i1 i2 i3 i4 i5 i6 m0
  go_enter Tryd.func50, Tryd.ntmps50
  go_upto_block 0 with (go_at_call 56; refine (LZ.out _).mono ?_; rintro e w' ⟨rfl, rfl⟩)
  clear e1 e2 e3 t1 w1 w2 w3 w4
  go_cut [15] (fun a wx => a = .int .u64 (Digit P Z A U1) ∧ w = wx)
  case first =>
    go_wp2
    go_loop [15, 16] (fun a b => ∃ q r : Int, a = .int .u64 q ∧ b = .int .u64 r ∧ Dv.Inv P Z A U1 q r) (fun a _ => (intOf a).toNat)
    case atStart => exact ⟨_, _, rfl, rfl, I.out⟩
    case round =>
      obtain ⟨q, r, rfl, rfl, hi⟩ := hrel
      have HI := Lib.hid hi
      obtain ⟨_, _, i3, i4, i5, i6⟩ := hi
      by_cases c1 : 4294967296 ≤ q
      · have D := Lib.hid (Dv.down K1.out HI.out (Or.inl c1))
        by_cases g : r + P < 4294967296
        · have N := Lib.hid (Dv.down_inv K1.out HI.out (Or.inl c1) g)
          go_wp2
          go_round
          case rel => exact ⟨_, _, rfl, rfl, N.out⟩
          case measure => simp [intOf]; omega
        · have N := Lib.hid (Dv.down_end K1.out HI.out (Or.inl c1) (by omega))
          go_wp2
          go_meet
          exact ⟨by rw [N.out]; rfl, rfl⟩
      · obtain ⟨m1, m2⟩ := Dv.mulZ K1.out HI.out (by omega)
        have m3 : IntKind.u64.wrap (q * Z) = q * Z := by rw [wrapU]; omega
        have m4 : IntKind.u64.wrap (4294967296 * r) = 4294967296 * r := by rw [wrapU]; omega
        have m5 : IntKind.u64.wrap (4294967296 * r + U1) = 4294967296 * r + U1 := by rw [wrapU]; omega
        by_cases c2 : 4294967296 * r + U1 < q * Z
        · have D := Lib.hid (Dv.down K1.out HI.out (Or.inr c2))
          have d1 : 1 ≤ q := D.out.1
          by_cases g : r + P < 4294967296
          · have N := Lib.hid (Dv.down_inv K1.out HI.out (Or.inr c2) g)
            go_wp2
            go_round
            case rel => exact ⟨_, _, rfl, rfl, N.out⟩
            case measure => simp [intOf]; omega
          · have N := Lib.hid (Dv.down_end K1.out HI.out (Or.inr c2) (by omega))
            go_wp2
            go_meet
            exact ⟨by rw [N.out]; rfl, rfl⟩
        · have N := Lib.hid (Dv.stop K1.out HI.out (by omega))
          go_wp2
          go_meet
          exact ⟨by rw [N.out]; rfl, rfl⟩
  case rest =>
    obtain ⟨rfl, rfl⟩ := hcut
    obtain ⟨X, hX⟩ : ∃ X, X = (A * 4294967296 + U1) % V := ⟨_, rfl⟩
    have V0 : 0 < V := by omega
    have x0 : 0 ≤ X := by rw [hX]; exact Int.emod_nonneg _ (by omega)
    have x1 : X < V := by rw [hX]; exact Int.emod_lt_of_pos _ V0
    have hQ1 : Digit P Z A U1 = (A * 4294967296 + U1) / V := by unfold Digit; rw [K2.out]
    obtain ⟨q10, q11⟩ := Dv.dig_bd K1.out
    change 0 ≤ Digit P Z A U1 at q10
    change Digit P Z A U1 ≤ 4294967295 at q11
    have f1 : IntKind.u64.wrap (IntKind.u64.wrap (IntKind.u64.wrap (A * 4294967296) + U1) - IntKind.u64.wrap (Digit P Z A U1 * V)) = X := by
      rw [wrapU, wrapU, wrapU, wrapU, hX]; exact Dv.rest V0 v2 hQ1
    have K3 := Lib.hid (show Dv.Ok P Z X U0 from ⟨p1, p2, z1, z2, x0, by have := K2.out; omega, by rw [← e7']; omega, by rw [← e7']; omega⟩)
    obtain ⟨_, _, _, _, _, _, u3, u4⟩ := K3.out
    have J := Lib.hid (Dv.start K3.out)
    obtain ⟨i1, i2, i3, i4, i5, i6⟩ := J.out
    have t1 : X.tdiv P = X / P := Int.tdiv_eq_ediv_of_nonneg x0
    have w1 : IntKind.u64.wrap (X / P) = X / P := by rw [wrapU]; omega
    have m0 := Int.mul_nonneg i5 (show 0 ≤ P by omega)
    have w2 : IntKind.u64.wrap (X / P * P) = X / P * P := by rw [wrapU]; omega
    have w3 : X - X / P * P = X % P := by omega
    have w4 : IntKind.u64.wrap (X % P) = X % P := by rw [wrapU]; omega
    have HX := Lib.hid hX
    have HQ1 := Lib.hid hQ1
    have E6 := Lib.hid (And.intro e6 e7')
    clear i1 i2 i3 i4 i5 i6 m0 hX hQ1 e4 e5 e6 e7 e7'
    generalize Digit P Z A U1 = Q1 at *
    go_upto_block 2 with (fail)
    clear t1 w1 w2 w3 w4 f1
    go_cut [18] (fun a wx => a = .int .u64 (Digit P Z X U0) ∧ w = wx)
    case first =>
      go_wp2
      go_loop [18, 16] (fun a b => ∃ q r : Int, a = .int .u64 q ∧ b = .int .u64 r ∧ Dv.Inv P Z X U0 q r) (fun a _ => (intOf a).toNat)
      case atStart => exact ⟨_, _, rfl, rfl, J.out⟩
      case round =>
        obtain ⟨q, r, rfl, rfl, hi⟩ := hrel
        have HI := Lib.hid hi
        obtain ⟨_, _, i3, i4, i5, i6⟩ := hi
        by_cases c1 : 4294967296 ≤ q
        · have D := Lib.hid (Dv.down K3.out HI.out (Or.inl c1))
          by_cases g : r + P < 4294967296
          · have N := Lib.hid (Dv.down_inv K3.out HI.out (Or.inl c1) g)
            go_wp2
            go_round
            case rel => exact ⟨_, _, rfl, rfl, N.out⟩
            case measure => simp [intOf]; omega
          · have N := Lib.hid (Dv.down_end K3.out HI.out (Or.inl c1) (by omega))
            go_wp2
            go_meet
            exact ⟨by rw [N.out]; rfl, rfl⟩
        · obtain ⟨m1, m2⟩ := Dv.mulZ K3.out HI.out (by omega)
          have m3 : IntKind.u64.wrap (q * Z) = q * Z := by rw [wrapU]; omega
          have m4 : IntKind.u64.wrap (4294967296 * r) = 4294967296 * r := by rw [wrapU]; omega
          have m5 : IntKind.u64.wrap (4294967296 * r + U0) = 4294967296 * r + U0 := by rw [wrapU]; omega
          by_cases c2 : 4294967296 * r + U0 < q * Z
          · have D := Lib.hid (Dv.down K3.out HI.out (Or.inr c2))
            have d1 : 1 ≤ q := D.out.1
            by_cases g : r + P < 4294967296
            · have N := Lib.hid (Dv.down_inv K3.out HI.out (Or.inr c2) g)
              go_wp2
              go_round
              case rel => exact ⟨_, _, rfl, rfl, N.out⟩
              case measure => simp [intOf]; omega
            · have N := Lib.hid (Dv.down_end K3.out HI.out (Or.inr c2) (by omega))
              go_wp2
              go_meet
              exact ⟨by rw [N.out]; rfl, rfl⟩
          · have N := Lib.hid (Dv.stop K3.out HI.out (by omega))
            go_wp2
            go_meet
            exact ⟨by rw [N.out]; rfl, rfl⟩
    case rest =>
      obtain ⟨rfl, rfl⟩ := hcut
      obtain ⟨q00, q01⟩ := Dv.dig_bd K3.out
      change 0 ≤ Digit P Z X U0 at q00
      change Digit P Z X U0 ≤ 4294967295 at q01
      have hQ0 : Digit P Z X U0 = (X * 4294967296 + U0) / V := by unfold Digit; rw [K2.out]
      have hb := Dv.both (A := A) (t := T) (V := V) (q1 := Q1) (q0 := Digit P Z X U0) V0 (by rw [E6.out.1]; exact HQ1.out) (by rw [E6.out.1, E6.out.2, ← HX.out]; exact hQ0)
      rw [E6.out.1, E6.out.2, ← HX.out, K34.out.1, K34.out.2] at hb
      obtain ⟨g1, g2⟩ := Dv.shifted (N := h * 18446744073709551616 + l) (y := y) (S := 2 ^ s) (Ar.p2_pos s)
      rw [g1, g2] at hb
      have w5 : Q1 * 4294967296 + Digit P Z X U0 = (h * 18446744073709551616 + l) / y := hb.1
      have w6 : IntKind.u64.wrap (IntKind.u64.wrap (IntKind.u64.wrap (X * 4294967296) + U0) - IntKind.u64.wrap (Digit P Z X U0 * V)) / 2 ^ s = (h * 18446744073709551616 + l) % y := by
        rw [wrapU, wrapU, wrapU, wrapU, Dv.rest V0 v2 hQ0, K34.out.2, hb.2]; exact Int.mul_ediv_cancel _ (Int.ne_of_gt (Ar.p2_pos s))
      have W := Lib.hid (And.intro w5 w6)
      clear hQ0 hb g1 g2 w5 w6
      go_wp2
      go_ret2
      exact ⟨ret_two W.out.1 W.out.2, 0, rfl⟩

theorem bitLen_bd : ∀ (n x : Nat), x ≤ n → x ≠ 0 → x < 2 ^ 64 → 1 ≤ Lib.bitLen x ∧ 2 ^ (Lib.bitLen x - 1) ≤ x ∧ x < 2 ^ Lib.bitLen x := by
  intro n
  induction n with
  | zero => intro x h1 h2; omega
  | succ n ih =>
    intro x h1 h2 h3
    have e := Lib.bitLen_half x h2 h3
    by_cases h : x / 2 = 0
    · have hx : x = 1 := by omega
      subst hx
      have : Lib.bitLen (1 / 2) = 0 := by decide
      rw [e, this]; decide
    · obtain ⟨a, b, c⟩ := ih (x / 2) (by omega) h (by omega)
      rw [e]
      refine ⟨by omega, ?_, ?_⟩
      · obtain ⟨m, hm⟩ : ∃ m, Lib.bitLen (x / 2) = m + 1 := ⟨Lib.bitLen (x / 2) - 1, by omega⟩
        rw [hm] at b ⊢
        have : 1 + (m + 1) - 1 = m + 1 := by omega
        rw [this, Nat.pow_succ]
        have : m + 1 - 1 = m := by omega
        rw [this] at b
        omega
      · rw [Nat.add_comm 1, Nat.pow_succ]; omega
theorem div_any (h l y : Int) (w : World) (h0 : 0 ≤ h) (h1 : h < y) (l0 : 0 ≤ l) (l1 : l ≤ 18446744073709551615) (y1 : y ≤ 9223372036854775807) :
    Calls Tryd.prog 50 #[.int .u64 h, .int .u64 l, .int .u64 y] w fun e w' => e = .returned (.tuple #[.int .u64 ((h * 18446744073709551616 + l) / y), .int .u64 ((h * 18446744073709551616 + l) % y)]) ∧ ∃ n, w' = w.drewN n := by
  by_cases hz : h = 0
  · subst hz
    have e : (0 : Int) * 18446744073709551616 + l = l := by omega
    rw [e]
    exact div_small l y w l0 l1 (by omega) y1
  · obtain ⟨Y, rfl⟩ := Int.eq_ofNat_of_zero_le (show 0 ≤ y by omega)
    obtain ⟨b1, b2, b3⟩ := bitLen_bd Y Y (Nat.le_refl _) (by omega) (by omega)
    have b4 : Lib.bitLen Y ≤ 63 := by
      by_cases g : Lib.bitLen Y ≤ 63
      · exact g
      · exfalso
        have : (2 : Nat) ^ 63 ≤ 2 ^ (Lib.bitLen Y - 1) := Nat.pow_le_pow_right (by omega) (by omega)
        omega
    obtain ⟨s, hs⟩ : ∃ s, s = 64 - Lib.bitLen Y := ⟨_, rfl⟩
    have lz : ∀ w, Calls Tryd.prog 56 #[.int .u64 Y] w fun e w' => e = .returned (.int .i64 (s : Int)) ∧ w = w' := fun w =>
      (shelf.s_bits_LeadingZeros64 Y w (by omega) (by omega)).mono fun _ _ ⟨p, q⟩ => ⟨p.trans (ret_int (by simp; omega)), q.symm⟩
    have v1 : (2 : Nat) ^ 63 ≤ Y * 2 ^ s := by
      have : (2 : Nat) ^ 63 = 2 ^ (Lib.bitLen Y - 1) * 2 ^ s := by rw [← Nat.pow_add]; congr 1; omega
      rw [this]; exact Nat.mul_le_mul_right _ b2
    have v2 : Y * 2 ^ s < 2 ^ 64 := by
      have : (2 : Nat) ^ 64 = 2 ^ Lib.bitLen Y * 2 ^ s := by rw [← Nat.pow_add]; congr 1; omega
      rw [this]; exact Nat.mul_lt_mul_of_pos_right b3 (Nat.two_pow_pos s)
    have v1' : (9223372036854775808 : Int) ≤ Y * 2 ^ s := by
      have : ((2 ^ 63 : Nat) : Int) ≤ ((Y * 2 ^ s : Nat) : Int) := by exact_mod_cast v1
      simpa using this
    have v2' : (Y : Int) * 2 ^ s ≤ 18446744073709551615 := by
      have : ((Y * 2 ^ s : Nat) : Int) < ((2 ^ 64 : Nat) : Int) := by exact_mod_cast v2
      have e : ((Y * 2 ^ s : Nat) : Int) = (Y : Int) * 2 ^ s := by simp
      rw [e] at this
      have : (Y : Int) * 2 ^ s < 18446744073709551616 := by simpa using this
      omega
    have s1 : 1 ≤ s := by omega
    have s2 : s ≤ 63 := by omega
    clear v1 v2 b1 b2 b3 hs b4
    have p64 : (18446744073709551616 : Int) = 2 ^ (64 - s) * 2 ^ s := by
      rw [← Int.pow_add, show 64 - s + s = 64 by omega]; rfl
    have ps := Ar.p2_pos s
    have pt := Ar.p2_pos (64 - s)
    generalize hS : (2 : Int) ^ s = S at *
    generalize hR : (2 : Int) ^ (64 - s) = R at *
    have c1 : l / R < S := Int.ediv_lt_of_lt_mul pt (by rw [Int.mul_comm, ← p64]; omega)
    have c0 : 0 ≤ l / R := Int.ediv_nonneg l0 (by omega)
    have hh : h * S + S ≤ Y * S := by
      have : (h + 1) * S ≤ Y * S := Int.mul_le_mul_of_nonneg_right (by omega) (by omega)
      rw [Int.add_mul] at this; omega
    have h00 : 0 ≤ h * S := Int.mul_nonneg h0 (by omega)
    have eT : l * S / 18446744073709551616 = l / R := by rw [p64]; exact Int.mul_ediv_mul_of_pos_left _ _ ps
    have ew : IntKind.u64.wrap (h * S) = h * S := by rw [wrapU]; omega
    have W64 : ∀ n : Int, 0 ≤ n → n < 2 ^ 64 → IntKind.u64.wrap n = n := fun n a b => by
      have : n < 18446744073709551616 := b
      rw [wrapU]; omega
    refine div_core h l Y (Y * S) (h * S + l / R) (l * S % 18446744073709551616) (Y * S / 4294967296) (Y * S % 4294967296) (l * S % 18446744073709551616 / 4294967296) (l * S % 18446744073709551616 % 4294967296) s w (by omega) h1 l0 l1 (by omega) y1 lz s1 s2 ?_ ?_ ?_ rfl ?_ rfl ?_ rfl ⟨by omega, by omega, by omega, by omega, by omega, by omega, by omega, by omega⟩ (by omega) (by omega) ?_ (by rw [hS])
    · rw [hS, wrapU]; omega
    · rw [hS, hR, ew]
      refine bits_join .u64 64 (by decide) W64 s _ _ h00 (by rw [hS]; exact Int.mul_emod_left _ _) ?_ c0 (by rw [hS]; exact c1) ?_
      · show _ < (18446744073709551616 : Int); omega
      · show _ < (18446744073709551616 : Int); omega
    · rw [hS, wrapU]
    · exact bits_mask .u64 64 (by decide) W64 32 (by decide) _ (by omega) (by show _ < (18446744073709551616 : Int); omega)
    · exact bits_mask .u64 64 (by decide) W64 32 (by decide) _ (by omega) (by show _ < (18446744073709551616 : Int); omega)
    · rw [hS, Int.add_mul, Int.add_mul, Int.mul_right_comm h S]
      omega
end Go.Proofs.YtpegaabcelkmmaaDoor.arith
