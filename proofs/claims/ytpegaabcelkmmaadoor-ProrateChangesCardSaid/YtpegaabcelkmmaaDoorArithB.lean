/- What the functions of package arith answer (walks, second part): products and quotients by closures. No conditions but that numbers are of 64 bits. -/
import Derived.Test.YtpegaabcelkmmaaDoorDiv64
namespace Go.Proofs.YtpegaabcelkmmaaDoor.arith
open Go.RowKit Go.Proofs.YtpegaabcelkmmaaDoor.base

theorem of_any (a : Int) (ha : Ar.fits a = true) : ∃ (x : Int) (m : Bool), (∀ w, Calls Tryd.prog 54 #[.int .i64 a] w fun e w' => e = .returned (.tuple #[.int .u64 x, .bool m]) ∧ w = w') ∧ 0 ≤ x ∧ x ≤ 9223372036854775808 ∧ (m = true ∧ 0 < x ∧ a = -x ∨ m = false ∧ a = x) := by
  have f := Ar.fits_t ha
  by_cases h : a < 0
  · exact ⟨-a, true, fun w => of_neg a w ha h, by omega, by omega, Or.inl ⟨rfl, by omega, by omega⟩⟩
  · exact ⟨a, false, fun w => of_pos a w ha h, by omega, by omega, Or.inr ⟨rfl, rfl⟩⟩
theorem prod_abs {a b x y : Int} {m n : Bool} (hx : m = true ∧ 0 < x ∧ a = -x ∨ m = false ∧ a = x) (hy : n = true ∧ 0 < y ∧ b = -y ∨ n = false ∧ b = y) (x0 : 0 ≤ x) (y0 : 0 ≤ y) : ((a * b).natAbs : Int) = x * y := by
  have h := Int.mul_nonneg x0 y0
  rcases hx with ⟨_, _, rfl⟩ | ⟨_, rfl⟩ <;> rcases hy with ⟨_, _, rfl⟩ | ⟨_, rfl⟩
  · rw [Int.neg_mul_neg]; omega
  · rw [Int.neg_mul]; omega
  · rw [Int.mul_neg]; omega
  · omega

set_option maxRecDepth 100000 in
set_option maxHeartbeats 1000000 in
theorem whole_mulDiv (a b v : Int) (i : Bool) (pc pr : Addr) (w : World) (R : World → Prop) (ha : Ar.fits a = true) (hb : Ar.fits b = true)
    (HC : ∀ w1, Below w.heap.size w w1 → Calls Tryd.prog 49 #[.agg #[.int .u64 (hi (a * b).natAbs), .int .u64 (lo (a * b).natAbs)], .bool (decide (a * b < 0)), .pointer (some pc), .pointer (some pr)] w1 fun e w' => e = .returned (.tuple #[.int .i64 v, .bool i]) ∧ R w') :
    Calls Tryd.prog 48 #[.int .i64 a, .int .i64 b, .func (.func 49) #[] #[.pointer (some pc), .pointer (some pr)]] w fun e w' => e = .returned (.tuple #[.int .i64 v, .bool i]) ∧ R w' := by
  obtain ⟨x, m, ox, x0, x1, hx⟩ := of_any a ha
  obtain ⟨y, n, oy, y0, y1, hy⟩ := of_any b hb
  have OX := Lib.hid ox
  have OY := Lib.hid oy
  have HN := Lib.hid (prod_abs hx hy x0 y0)
  clear ox oy ha hb
  have pr : ∃ H L : Int, (∀ w, Calls Tryd.prog 55 #[.int .u64 x, .int .u64 y] w fun e w' => e = .returned (.agg #[.int .u64 H, .int .u64 L]) ∧ Below w.heap.size w w') ∧
      ∀ t : Bool, decide (a * b < 0) = t → ∀ w1, Below w.heap.size w w1 → Calls Tryd.prog 49 #[.agg #[.int .u64 H, .int .u64 L], .bool t, .pointer (some pc), .pointer (some pr)] w1 fun e w' => e = .returned (.tuple #[.int .i64 v, .bool i]) ∧ R w' := by
    refine ⟨hi (x * y), lo (x * y), fun w => product_any x y w (by omega) (by omega) (by omega) (by omega), ?_⟩
    intro t ht w1 h1
    have := HC w1 h1
    rw [ht, HN.out] at this
    exact this
  clear HC HN
  obtain ⟨H, L, pr, key⟩ := pr
  have PR := Lib.hid pr
  clear pr
  rcases hx with ⟨rfl, xp, rfl⟩ | ⟨rfl, rfl⟩ <;> rcases hy with ⟨rfl, yp, rfl⟩ | ⟨rfl, rfl⟩
  · have T := Lib.hid (key false (by have := Int.mul_pos xp yp; rw [Int.neg_mul_neg]; simp; omega))
    clear key
    go_enter Tryd.func48, Tryd.ntmps48
    go_wp2_with (first | (go_at_call 54; with_reducible (refine (OX.out _).mono ?_); rintro e w' ⟨rfl, rfl⟩) | (go_at_call 54; with_reducible (refine (OY.out _).mono ?_); rintro e w' ⟨rfl, rfl⟩) | (go_at_call 55; refine (PR.out _).mono ?_; rintro e w1 ⟨rfl, B1⟩) | (go_at_call 49; refine (T.out _ B1).mono ?_; rintro e w2 ⟨rfl, hR⟩))
    go_ret2
    exact ⟨rfl, hR⟩
  · by_cases yz : b = 0
    · subst yz
      have T := Lib.hid (key false (by simp))
      clear key
      go_enter Tryd.func48, Tryd.ntmps48
      go_wp2_with (first | (go_at_call 54; with_reducible (refine (OX.out _).mono ?_); rintro e w' ⟨rfl, rfl⟩) | (go_at_call 54; with_reducible (refine (OY.out _).mono ?_); rintro e w' ⟨rfl, rfl⟩) | (go_at_call 55; refine (PR.out _).mono ?_; rintro e w1 ⟨rfl, B1⟩) | (go_at_call 49; refine (T.out _ B1).mono ?_; rintro e w2 ⟨rfl, hR⟩))
      go_ret2
      exact ⟨rfl, hR⟩
    · have yp : 0 < b := by omega
      have T := Lib.hid (key true (by have := Int.mul_pos xp yp; rw [Int.neg_mul]; simp; omega))
      clear key
      go_enter Tryd.func48, Tryd.ntmps48
      go_wp2_with (first | (go_at_call 54; with_reducible (refine (OX.out _).mono ?_); rintro e w' ⟨rfl, rfl⟩) | (go_at_call 54; with_reducible (refine (OY.out _).mono ?_); rintro e w' ⟨rfl, rfl⟩) | (go_at_call 55; refine (PR.out _).mono ?_; rintro e w1 ⟨rfl, B1⟩) | (go_at_call 49; refine (T.out _ B1).mono ?_; rintro e w2 ⟨rfl, hR⟩))
      go_ret2
      exact ⟨rfl, hR⟩
  · by_cases xz : a = 0
    · subst xz
      have T := Lib.hid (key false (by simp))
      clear key
      go_enter Tryd.func48, Tryd.ntmps48
      go_wp2_with (first | (go_at_call 54; with_reducible (refine (OX.out _).mono ?_); rintro e w' ⟨rfl, rfl⟩) | (go_at_call 54; with_reducible (refine (OY.out _).mono ?_); rintro e w' ⟨rfl, rfl⟩) | (go_at_call 55; refine (PR.out _).mono ?_; rintro e w1 ⟨rfl, B1⟩) | (go_at_call 49; refine (T.out _ B1).mono ?_; rintro e w2 ⟨rfl, hR⟩))
      go_ret2
      exact ⟨rfl, hR⟩
    · have xp : 0 < a := by omega
      have T := Lib.hid (key true (by have := Int.mul_pos xp yp; rw [Int.mul_neg]; simp; omega))
      clear key
      go_enter Tryd.func48, Tryd.ntmps48
      go_wp2_with (first | (go_at_call 54; with_reducible (refine (OX.out _).mono ?_); rintro e w' ⟨rfl, rfl⟩) | (go_at_call 54; with_reducible (refine (OY.out _).mono ?_); rintro e w' ⟨rfl, rfl⟩) | (go_at_call 55; refine (PR.out _).mono ?_; rintro e w1 ⟨rfl, B1⟩) | (go_at_call 49; refine (T.out _ B1).mono ?_; rintro e w2 ⟨rfl, hR⟩))
      go_ret2
      exact ⟨rfl, hR⟩
  · have T := Lib.hid (key false (by have := Int.mul_nonneg x0 y0; simp; omega))
    clear key
    go_enter Tryd.func48, Tryd.ntmps48
    go_wp2_with (first | (go_at_call 54; with_reducible (refine (OX.out _).mono ?_); rintro e w' ⟨rfl, rfl⟩) | (go_at_call 54; with_reducible (refine (OY.out _).mono ?_); rintro e w' ⟨rfl, rfl⟩) | (go_at_call 55; refine (PR.out _).mono ?_; rintro e w1 ⟨rfl, B1⟩) | (go_at_call 49; refine (T.out _ B1).mono ?_; rintro e w2 ⟨rfl, hR⟩))
    go_ret2
    exact ⟨rfl, hR⟩

end Go.Proofs.YtpegaabcelkmmaaDoor.arith
