/- The statements ArithSums and ArithDivs of chapter 07 (arith), walked: each answers true. No conditions but that numbers are of 64 bits. -/
import Derived.Test.YtneomiaghenpgaaRef07E
import Derived.Test.YtneomiaghenpgaaArithD
namespace Go.Proofs.Ytneomiaghenpgaa.law07
open Go.RowKit Go.Proofs.Ytneomiaghenpgaa.base

/-- What a call of constants answers. -/
theorem k1 (w : World) : Calls Try.prog 8 #[.int .i64 9223372036854775807, .int .i64 1] w fun e w' => e = .returned (.tuple #[.int .i64 0, .bool false]) ∧ Below w.heap.size w w' :=
  (arith.add_any _ _ w (by decide) (by decide)).mono fun _ _ ⟨a, b⟩ => ⟨a.trans (ret_ib (by decide) (by decide)), b⟩
theorem k2 (w : World) : Calls Try.prog 14 #[.int .i64 (-9223372036854775808)] w fun e w' => e = .returned (.tuple #[.int .i64 0, .bool false]) ∧ w = w' :=
  (arith.neg_any _ w (by decide)).mono fun _ _ ⟨a, b⟩ => ⟨a.trans (ret_ib (by decide) (by decide)), b⟩
theorem k3 (w : World) : Calls Try.prog 12 #[.int .i64 4294967296, .int .i64 2147483648] w fun e w' => e = .returned (.tuple #[.int .i64 0, .bool false]) ∧ Below w.heap.size w w' :=
  (arith.mul_any _ _ w (by decide) (by decide)).mono fun _ _ ⟨a, b⟩ => ⟨a.trans (ret_ib (by decide) (by decide)), b⟩
theorem k4 (w : World) (b c : Nat) (h0 : w.cell? ⟨b, 0, none⟩ = some (.int .i64 9223372036854775807)) (h1 : w.cell? ⟨b, 1, none⟩ = some (.int .i64 1)) (h2 : w.cell? ⟨b, 2, none⟩ = some (.int .i64 (-5))) :
    Calls Try.prog 16 #[.slice (some ⟨b, 0, none⟩) 3 c] w fun e w' => e = .returned (.tuple #[.int .i64 9223372036854775803, .bool true]) ∧ Below w.heap.size w w' := by
  refine (arith.sum_any [9223372036854775807, 1, -5] b 0 c w (by decide) ?_ ?_).mono fun _ _ ⟨p, q⟩ => ⟨p.trans (ret_ib (by decide) (by decide)), q⟩
  · intro j hj
    have : j = 0 ∨ j = 1 ∨ j = 2 := by simp at hj; omega
    rcases this with rfl | rfl | rfl
    · simpa using h0
    · simpa using h1
    · simpa using h2
  · intro j hj
    have : j = 0 ∨ j = 1 ∨ j = 2 := by simp at hj; omega
    rcases this with rfl | rfl | rfl <;> decide
theorem k5 (w : World) : Calls Try.prog 18 #[.int .i64 (-7), .int .i64 3, .int .i64 2] w fun e w' => e = .returned (.tuple #[.int .i64 (-11), .int .i64 1, .bool true]) ∧ Below w.heap.size w w' :=
  (arith.mulDiv_any _ _ _ w (by decide) (by decide) (by decide)).mono fun _ _ ⟨a, b⟩ => ⟨a.trans (ret_iib (by decide) (by decide) (by decide)), b⟩
theorem k6 (w : World) : Calls Try.prog 20 #[.int .i64 1, .int .i64 1, .int .i64 2] w fun e w' => e = .returned (.tuple #[.int .i64 1, .bool true]) ∧ Below w.heap.size w w' :=
  (arith.near_any _ _ _ w (by decide) (by decide) (by decide)).mono fun _ _ ⟨a, b⟩ => ⟨a.trans (ret_ib (by decide) (by decide)), b⟩
theorem k7 (w : World) : Calls Try.prog 20 #[.int .i64 (-1), .int .i64 1, .int .i64 2] w fun e w' => e = .returned (.tuple #[.int .i64 0, .bool true]) ∧ Below w.heap.size w w' :=
  (arith.near_any _ _ _ w (by decide) (by decide) (by decide)).mono fun _ _ ⟨a, b⟩ => ⟨a.trans (ret_ib (by decide) (by decide)), b⟩
theorem k8 (w : World) : Calls Try.prog 18 #[.int .i64 1, .int .i64 1, .int .i64 0] w fun e w' => e = .returned (.tuple #[.int .i64 0, .int .i64 0, .bool false]) ∧ Below w.heap.size w w' :=
  (arith.mulDiv_any _ _ _ w (by decide) (by decide) (by decide)).mono fun _ _ ⟨a, b⟩ => ⟨a.trans (ret_iib (by decide) (by decide) (by decide)), b⟩

set_option maxRecDepth 100000 in
theorem head_any (w : World) : Calls Try.prog 15 #[] w fun e w' => e = .returned (.bool true) ∧ Below w.heap.size w w' := by
  go_enter Try.func15, Try.ntmps15
  go_wp2_with fail
  refine (k1 _).mono ?_
  rintro e w1 ⟨rfl, B1⟩
  go_wp2_with fail
  refine (k2 _).mono ?_
  rintro e w' ⟨rfl, rfl⟩
  go_wp2_with fail
  refine (k3 _).mono ?_
  rintro e w3 ⟨rfl, B3⟩
  have K3 := Lib.hid (B1.trans (B3.mono B1.size))
  clear B1 B3
  go_wp2_with fail
  refine (k4 _ _ _ ?_ ?_ ?_).mono ?_
  · simp [go_sem]
  · simp [go_sem]
  · simp [go_sem]
  rintro e w4 ⟨rfl, B4⟩
  have K4 := Lib.hid ((K3.out.alloc K3.out.size _).trans (B4.mono (by have := K3.out.size; simp; omega)))
  clear B4
  go_wp2_with fail
  refine (k5 _).mono ?_
  rintro e w5 ⟨rfl, B5⟩
  have K5 := Lib.hid (K4.out.trans (B5.mono K4.out.size))
  clear B5
  go_wp2_with fail
  refine (k6 _).mono ?_
  rintro e w6 ⟨rfl, B6⟩
  have K6 := Lib.hid (K5.out.trans (B6.mono K5.out.size))
  clear B6
  go_wp2_with fail
  refine (k7 _).mono ?_
  rintro e w7 ⟨rfl, B7⟩
  have K7 := Lib.hid (K6.out.trans (B7.mono K6.out.size))
  clear B7
  go_wp2_with fail
  refine (k8 _).mono ?_
  rintro e w8 ⟨rfl, B8⟩
  have K8 := Lib.hid (K7.out.trans (B8.mono K7.out.size))
  clear B8
  go_wp2
  go_ret
  exact ⟨rfl, K8.out⟩

set_option maxRecDepth 100000 in
set_option maxHeartbeats 400000 in
theorem arithSums (a b : Int) (w : World) (ba : -9223372036854775808 ≤ a ∧ a ≤ 9223372036854775807) (bb : -9223372036854775808 ≤ b ∧ b ≤ 9223372036854775807) :
    Calls Try.prog 3 #[.int .i64 a, .int .i64 b] w fun e w' => e = .returned (.bool true) ∧ Below w.heap.size w w' := by
  have FA := Lib.hid (Ar.fits_mk ba.1 ba.2)
  have FB := Lib.hid (Ar.fits_mk bb.1 bb.2)
  clear ba bb
  go_enter Try.func3, Try.ntmps3
  go_wp2_with fail
  refine (arith.add_any a b _ FA.out FB.out).mono ?_
  rintro e w1 ⟨rfl, B1⟩
  have K1 := Lib.hid B1
  clear B1
  go_wp2_with fail
  refine (ref07.add_any a b _ FA.out FB.out).mono ?_
  rintro e w2 ⟨rfl, B2⟩
  have K2 := Lib.hid (K1.out.trans (B2.mono K1.out.size))
  clear B2
  go_wp2_with fail
  refine (arith.sub_any a b _ FA.out FB.out).mono ?_
  rintro e w' ⟨rfl, rfl⟩
  go_wp2_with fail
  refine (ref07.sub_any a b _ FA.out FB.out).mono ?_
  rintro e w3 ⟨rfl, B3⟩
  have K3 := Lib.hid (K2.out.trans (B3.mono K2.out.size))
  clear B3
  go_wp2_with fail
  refine (arith.mul_any a b _ FA.out FB.out).mono ?_
  rintro e w4 ⟨rfl, B4⟩
  have K4 := Lib.hid (K3.out.trans (B4.mono K3.out.size))
  clear B4
  go_wp2_with fail
  refine (ref07.mul_any a b _ FA.out FB.out).mono ?_
  rintro e w5 ⟨rfl, B5⟩
  have K5 := Lib.hid (K4.out.trans (B5.mono K4.out.size))
  clear B5
  obtain ⟨v, i, T1, T2⟩ : ∃ v i, (∀ w, Calls Try.prog 14 #[.int .i64 a] w fun e w' => e = .returned (.tuple #[.int .i64 v, .bool i]) ∧ w = w') ∧
      (∀ w, Calls Try.prog 11 #[.int .i64 0, .int .i64 a] w fun e w' => e = .returned (.tuple #[.int .i64 v, .bool i]) ∧ Below w.heap.size w w') :=
    ⟨_, _, fun w => arith.neg_any a w FA.out, fun w => ref07.sub_any 0 a w (by decide) FA.out⟩
  have N1 := Lib.hid T1
  have N2 := Lib.hid T2
  clear T1 T2
  go_wp2_with fail
  refine (N1.out _).mono ?_
  rintro e w' ⟨rfl, rfl⟩
  go_wp2_with fail
  refine (N2.out _).mono ?_
  rintro e w6 ⟨rfl, B6⟩
  have K6 := Lib.hid (K5.out.trans (B6.mono K5.out.size))
  clear B6
  go_wp2_with fail
  refine (head_any _).mono ?_
  rintro e w7 ⟨rfl, B7⟩
  have K7 := Lib.hid (K6.out.trans (B7.mono K6.out.size))
  clear B7
  go_wp2
  go_ret
  exact ⟨rfl, K7.out⟩
theorem arithDivs (a b c : Int) (w : World) (ba : -9223372036854775808 ≤ a ∧ a ≤ 9223372036854775807) (bb : -9223372036854775808 ≤ b ∧ b ≤ 9223372036854775807) (bc : -9223372036854775808 ≤ c ∧ c ≤ 9223372036854775807) :
    Calls Try.prog 5 #[.int .i64 a, .int .i64 b, .int .i64 c] w fun e w' => e = .returned (.bool true) ∧ Below w.heap.size w w' := by
  have FA := Lib.hid (Ar.fits_mk ba.1 ba.2)
  have FB := Lib.hid (Ar.fits_mk bb.1 bb.2)
  have FC := Lib.hid (Ar.fits_mk bc.1 bc.2)
  clear ba bb bc
  go_enter Try.func5, Try.ntmps5
  go_wp2_with fail
  refine (arith.mulDiv_any a b c _ FA.out FB.out FC.out).mono ?_
  rintro e w1 ⟨rfl, B1⟩
  have K1 := Lib.hid B1
  clear B1
  go_wp2_with fail
  refine (ref07.mulDiv_any a b c _ FA.out FB.out FC.out).mono ?_
  rintro e w2 ⟨rfl, B2⟩
  have K2 := Lib.hid (K1.out.trans (B2.mono K1.out.size))
  clear B2
  go_wp2_with fail
  refine (arith.near_any a b c _ FA.out FB.out FC.out).mono ?_
  rintro e w3 ⟨rfl, B3⟩
  have K3 := Lib.hid (K2.out.trans (B3.mono K2.out.size))
  clear B3
  go_wp2_with fail
  refine (ref07.near_any a b c _ FA.out FB.out FC.out).mono ?_
  rintro e w4 ⟨rfl, B4⟩
  have K4 := Lib.hid (K3.out.trans (B4.mono K3.out.size))
  clear B4
  go_wp2_with fail
  refine (head_any _).mono ?_
  rintro e w7 ⟨rfl, B7⟩
  have K7 := Lib.hid (K4.out.trans (B7.mono K4.out.size))
  clear B7
  go_wp2
  go_ret
  exact ⟨rfl, K7.out⟩
end Go.Proofs.Ytneomiaghenpgaa.law07
