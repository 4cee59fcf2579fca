/- What prorate.On answers (a walk; it calls a method value), in the printed form. No conditions but that numbers are of 64 bits. -/
import Derived.Test.YtibkbimhedoafaaDoorPHx4
import Derived.Test.YtibkbimhedoafaaDoorBase
import Derived.Test.YtibkbimhedoafaaDoorMP
namespace Pr
/-- May so many days, from one on, of all be asked of an amount? -/
def onOk (x f n all : Int) : Bool := decide (0 ≤ x) && decide (x < 4611686018427387904) && decide (1 ≤ all) && decide (all ≤ 3652059) && decide (0 ≤ f) && decide (f ≤ n) && decide (n ≤ all)
def onV (x f n all : Int) : Int := if onOk x f n all = true then x * n / all - x * f / all else 0
def onE (x f n all : Int) : Int := if onOk x f n all = true then 0 else 2
theorem onOk_t {x f n all : Int} (h : onOk x f n all = true) : 0 ≤ x ∧ x < 4611686018427387904 ∧ 1 ≤ all ∧ all ≤ 3652059 ∧ 0 ≤ f ∧ f ≤ n ∧ n ≤ all := by unfold onOk at h; simp at h; omega
theorem onOk_mk {x f n all : Int} (h : 0 ≤ x ∧ x < 4611686018427387904 ∧ 1 ≤ all ∧ all ≤ 3652059 ∧ 0 ≤ f ∧ f ≤ n ∧ n ≤ all) : onOk x f n all = true := by unfold onOk; simp; omega
theorem onOk_no {x f n all : Int} (h : ¬ (0 ≤ x ∧ x < 4611686018427387904 ∧ 1 ≤ all ∧ all ≤ 3652059 ∧ 0 ≤ f ∧ f ≤ n ∧ n ≤ all)) : onOk x f n all = false := by
  cases q : onOk x f n all with
  | false => rfl
  | true => exact absurd (onOk_t q) h
theorem due_bd {x n all : Int} (h0 : 0 ≤ x) (h1 : 1 ≤ all) (h2 : 0 ≤ n) (h3 : n ≤ all) : 0 ≤ x * n / all ∧ x * n / all ≤ x :=
  ⟨Int.ediv_nonneg (Int.mul_nonneg h0 h2) (by omega), Int.ediv_le_of_le_mul (by omega) (Int.mul_le_mul_of_nonneg_left h3 h0)⟩
theorem due_mono {x f n all : Int} (h0 : 0 ≤ x) (h1 : 1 ≤ all) (h : f ≤ n) : x * f / all ≤ x * n / all :=
  Int.ediv_le_ediv (by omega) (Int.mul_le_mul_of_nonneg_left h h0)
end Pr
namespace Go.Proofs.YtibkbimhedoafaaDoor.PH
open Go.RowKit Go.Proofs.YtibkbimhedoafaaDoorW.PrintWords Go.Proofs.YtibkbimhedoafaaDoor.base

theorem due_f {x n all : Int} (h0 : 0 ≤ x) (h0' : x < 4611686018427387904) (h1 : 1 ≤ all) (h1' : all ≤ 3652059) (h2 : 0 ≤ n) (h3 : n ≤ all) : prorate_period_due.f all x n = some (x * n / all) := by
  have hb := Pr.due_bd h0 h1 h2 h3
  have f1 : Ar.fits x = true := Ar.fits_mk (by omega) (by omega)
  have f2 : Ar.fits n = true := Ar.fits_mk (by omega) (by omega)
  have f3 : Ar.fits all = true := Ar.fits_mk (by omega) (by omega)
  have f4 : Ar.fits (x * n / all) = true := Ar.fits_mk (by omega) (by omega)
  unfold prorate_period_due.f arith_MulDiv.f
  rw [if_pos ⟨f1, f2, f3⟩, Option.bind_some]
  unfold Ar.mdQ Ar.fitV
  rw [if_pos (by omega), if_pos f4]
theorem due_is {x n all : Int} (w : World) (h0 : 0 ≤ x) (h0' : x < 4611686018427387904) (h1 : 1 ≤ all) (h1' : all ≤ 3652059) (h2 : 0 ≤ n) (h3 : n ≤ all) :
    Calls Tryd.prog 58 #[.int .i64 all, .int .i64 x, .int .i64 n] w fun e w' => e = .returned (.int .i64 (x * n / all)) ∧ Below w.heap.size w w' :=
  prorate_period_due.calls all x n _ w (due_f h0 h0' h1 h1' h2 h3)
theorem may_is {x : Int} (v : Bool) (w : World) (h : decide (0 ≤ x ∧ x < 4611686018427387904) = v) :
    Calls Tryd.prog 57 #[.int .i64 x] w fun e w' => e = .returned (.bool v) ∧ w = w' := by
  subst h
  by_cases h1 : 0 ≤ x
  · by_cases h2 : x < 4611686018427387904
    · have e : decide (0 ≤ x ∧ x < 4611686018427387904) = true := by simp; omega
      rw [e]
      clear e
      go_enter Tryd.func57, Tryd.ntmps57
      go_wp2
      go_ret
      exact ⟨rfl, rfl⟩
    · have e : decide (0 ≤ x ∧ x < 4611686018427387904) = false := by simp; omega
      rw [e]
      clear e
      go_enter Tryd.func57, Tryd.ntmps57
      go_wp2
      go_ret
      exact ⟨rfl, rfl⟩
  · have e : decide (0 ≤ x ∧ x < 4611686018427387904) = false := by simp; omega
    rw [e]
    clear e
    go_enter Tryd.func57, Tryd.ntmps57
    go_wp2
    go_ret
    exact ⟨rfl, rfl⟩
theorem has_is {p d : Int} (v : Bool) (w : World) (h : decide (1 ≤ p ∧ p ≤ 3652059 ∧ 0 ≤ d ∧ d ≤ p) = v) :
    Calls Tryd.prog 56 #[.int .i64 p, .int .i64 d] w fun e w' => e = .returned (.bool v) ∧ w = w' := by
  subst h
  by_cases h1 : 1 ≤ p
  · by_cases h2 : p ≤ 3652059
    · by_cases h3 : 0 ≤ d
      · by_cases h4 : d ≤ p
        · have e : decide (1 ≤ p ∧ p ≤ 3652059 ∧ 0 ≤ d ∧ d ≤ p) = true := by simp; omega
          rw [e]
          clear e
          go_enter Tryd.func56, Tryd.ntmps56
          go_wp2
          go_ret
          exact ⟨rfl, rfl⟩
        · have e : decide (1 ≤ p ∧ p ≤ 3652059 ∧ 0 ≤ d ∧ d ≤ p) = false := by simp; omega
          rw [e]
          clear e
          go_enter Tryd.func56, Tryd.ntmps56
          go_wp2
          go_ret
          exact ⟨rfl, rfl⟩
      · have e : decide (1 ≤ p ∧ p ≤ 3652059 ∧ 0 ≤ d ∧ d ≤ p) = false := by simp; omega
        rw [e]
        clear e
        go_enter Tryd.func56, Tryd.ntmps56
        go_wp2
        go_ret
        exact ⟨rfl, rfl⟩
    · have e : decide (1 ≤ p ∧ p ≤ 3652059 ∧ 0 ≤ d ∧ d ≤ p) = false := by simp; omega
      rw [e]
      clear e
      go_enter Tryd.func56, Tryd.ntmps56
      go_wp2
      go_ret
      exact ⟨rfl, rfl⟩
  · have e : decide (1 ≤ p ∧ p ≤ 3652059 ∧ 0 ≤ d ∧ d ≤ p) = false := by simp; omega
    rw [e]
    clear e
    go_enter Tryd.func56, Tryd.ntmps56
    go_wp2
    go_ret
    exact ⟨rfl, rfl⟩
set_option maxHeartbeats 800000 in
theorem on_any (x f n all : Int) (w : World) : Calls Tryd.prog 42 #[.int .i64 x, .int .i64 f, .int .i64 n, .int .i64 all] w fun e w' =>
    e = .returned (.tuple #[.int .i64 (Pr.onV x f n all), .int .i64 (Pr.onE x f n all)]) ∧ Below w.heap.size w w' := by
  obtain ⟨m, hm⟩ : ∃ m, decide (0 ≤ x ∧ x < 4611686018427387904) = m := ⟨_, rfl⟩
  obtain ⟨a, ha⟩ : ∃ a, decide (1 ≤ all ∧ all ≤ 3652059 ∧ 0 ≤ f ∧ f ≤ all) = a := ⟨_, rfl⟩
  obtain ⟨b, hb⟩ : ∃ b, decide (1 ≤ all ∧ all ≤ 3652059 ∧ 0 ≤ n ∧ n ≤ all) = b := ⟨_, rfl⟩
  have M := Lib.hid (fun w => may_is m w hm)
  have A := Lib.hid (fun w => has_is a w ha)
  have B := Lib.hid (fun w => has_is b w hb)
  cases m with
  | false =>
    have Z := Lib.hid (Pr.onOk_no (x := x) (f := f) (n := n) (all := all) (by simp at hm; omega))
    clear hm ha hb
    go_enter Tryd.func42, Tryd.ntmps42
    go_wp2_with fail
    refine (M.out _).mono ?_
    rintro e w' ⟨rfl, rfl⟩
    go_wp2
    go_ret2
    exact ⟨ret_two (by simp [Pr.onV, Z.out]) (by simp [Pr.onE, Z.out]), Below.refl _ _⟩
  | true =>
    cases a with
    | false =>
      have Z := Lib.hid (Pr.onOk_no (x := x) (f := f) (n := n) (all := all) (by simp at hm ha; omega))
      clear hm ha hb
      go_enter Tryd.func42, Tryd.ntmps42
      go_wp2_with fail
      refine (M.out _).mono ?_
      rintro e w' ⟨rfl, rfl⟩
      go_wp2_with fail
      refine (A.out _).mono ?_
      rintro e w' ⟨rfl, rfl⟩
      go_wp2
      go_ret2
      exact ⟨ret_two (by simp [Pr.onV, Z.out]) (by simp [Pr.onE, Z.out]), Below.refl _ _⟩
    | true =>
      cases b with
      | false =>
        have Z := Lib.hid (Pr.onOk_no (x := x) (f := f) (n := n) (all := all) (by simp at hm ha hb; omega))
        clear hm ha hb
        go_enter Tryd.func42, Tryd.ntmps42
        go_wp2_with fail
        refine (M.out _).mono ?_
        rintro e w' ⟨rfl, rfl⟩
        go_wp2_with fail
        refine (A.out _).mono ?_
        rintro e w' ⟨rfl, rfl⟩
        go_wp2_with fail
        refine (B.out _).mono ?_
        rintro e w' ⟨rfl, rfl⟩
        go_wp2
        go_ret2
        exact ⟨ret_two (by simp [Pr.onV, Z.out]) (by simp [Pr.onE, Z.out]), Below.refl _ _⟩
      | true =>
        by_cases hg : n < f
        · have Z := Lib.hid (Pr.onOk_no (x := x) (f := f) (n := n) (all := all) (by omega))
          clear hm ha hb
          go_enter Tryd.func42, Tryd.ntmps42
          go_wp2_with fail
          refine (M.out _).mono ?_
          rintro e w' ⟨rfl, rfl⟩
          go_wp2_with fail
          refine (A.out _).mono ?_
          rintro e w' ⟨rfl, rfl⟩
          go_wp2_with fail
          refine (B.out _).mono ?_
          rintro e w' ⟨rfl, rfl⟩
          go_wp2
          go_ret2
          exact ⟨ret_two (by simp [Pr.onV, Z.out]) (by simp [Pr.onE, Z.out]), Below.refl _ _⟩
        · simp at hm ha hb
          obtain ⟨q1, q2⟩ := hm
          obtain ⟨q3, q4, q5, q6⟩ := ha
          obtain ⟨_, _, q7, q8⟩ := hb
          have Z := Lib.hid (Pr.onOk_mk (x := x) (f := f) (n := n) (all := all) (by omega))
          have D1 := Lib.hid (fun w => due_is (x := x) (n := n) (all := all) w q1 q2 q3 q4 q7 q8)
          have D2 := Lib.hid (fun w => due_is (x := x) (n := f) (all := all) w q1 q2 q3 q4 q5 q6)
          have V := Lib.hid (show Pr.onV x f n all = x * n / all - x * f / all by simp [Pr.onV, Z.out])
          have b1 := Pr.due_bd q1 q3 q7 q8
          have b2 := Pr.due_bd q1 q3 q5 q6
          have b3 := Pr.due_mono q1 q3 (show f ≤ n by omega)
          generalize x * n / all = P at *
          generalize x * f / all = R at *
          obtain ⟨b11, b12⟩ := b1
          obtain ⟨b21, b22⟩ := b2
          go_enter Tryd.func42, Tryd.ntmps42
          go_wp2_with fail
          refine (M.out _).mono ?_
          rintro e w' ⟨rfl, rfl⟩
          go_wp2_with fail
          refine (A.out _).mono ?_
          rintro e w' ⟨rfl, rfl⟩
          go_wp2_with fail
          refine (B.out _).mono ?_
          rintro e w' ⟨rfl, rfl⟩
          go_wp2_with fail
          refine (D1.out _).mono ?_
          rintro e w1 ⟨rfl, B1⟩
          go_wp2_with fail
          refine (D2.out _).mono ?_
          rintro e w2 ⟨rfl, B2⟩
          have K := Lib.hid (B1.trans (B2.mono B1.size))
          clear B1 B2
          go_wp2
          go_ret2
          exact ⟨ret_two V.out.symm (by simp [Pr.onE, Z.out]), K.out⟩
def prorate_On.f (a0 a1 a2 a3 : Int) : Option (Int × Int) := some (Pr.onV a0 a1 a2 a3, Pr.onE a0 a1 a2 a3)
theorem prorate_On.calls (a0 a1 a2 a3 : Int) (r1 r2 : Int) (w : World) (h : prorate_On.f a0 a1 a2 a3 = some (r1, r2)) :
    Calls Tryd.prog 42 #[.int .i64 a0, .int .i64 a1, .int .i64 a2, .int .i64 a3] w fun e w' => e = .returned (.tuple #[.int .i64 r1, .int .i64 r2]) ∧ Below w.heap.size w w' := by
  simp only [prorate_On.f, Option.some.injEq, Prod.mk.injEq] at h
  obtain ⟨rfl, rfl⟩ := h
  exact on_any a0 a1 a2 a3 w
end Go.Proofs.YtibkbimhedoafaaDoor.PH
