/- split.sum, walked. No conditions but that numbers are of 64 bits. -/
import Derived.Test.YtlllgfkdapjomaaSplA
import Derived.Deep.QuietTactic
namespace Sp
/-- May these be weights? -/
def okW (xs : List Int) : Prop := 1 ≤ xs.length ∧ xs.length ≤ 4096 ∧ ∀ x ∈ xs, 0 ≤ x
instance (xs : List Int) : Decidable (okW xs) := by unfold okW; infer_instance
def sumV (xs : List Int) : Int := if okW xs then Ar.fitV xs.sum else 0
def sumB (xs : List Int) : Bool := decide (okW xs) && (Ar.fits xs.sum && decide (0 < Ar.fitV xs.sum) && decide (Ar.fitV xs.sum < 4611686018427387904))
theorem sum_no {xs : List Int} (h : ¬ okW xs) : sumV xs = 0 ∧ sumB xs = false := by simp [sumV, sumB, h]
end Sp
namespace Go.Proofs.Ytlllgfkdapjomaa.spl
open Go.RowKit Go.Proofs.Ytlllgfkdapjomaa.base
open Go.Proofs.YtlllgfkdapjomaaW.PrintWords
set_option linter.unusedSimpArgs false
attribute [local go_sem] Oper.semAt_some
set_option maxRecDepth 100000 in
set_option maxHeartbeats 1000000 in
theorem sum_is (w : World) (A : Option Addr) (c : Nat) (xs : List Int) (hC : Kd.C (Kd.int .i64) w A xs.length xs) (hc : xs.length ≤ c) (hf : ∀ x ∈ xs, Ar.fits x = true) :
    Calls Try.prog 15 #[.slice A xs.length c] w fun e w' => e = .returned (.tuple #[.int .i64 (Sp.sumV xs), .bool (Sp.sumB xs)]) ∧ Below w.heap.size w w' := by
  obtain ⟨n, hnn⟩ : ∃ n, xs.length = n := ⟨_, rfl⟩
  by_cases h0 : 0 < xs.length
  · by_cases h1 : xs.length ≤ 4096
    · have HM := Lib.hid (min_is w A c xs hC h0 (by omega))
      by_cases h2 : ∀ x ∈ xs, 0 ≤ x
      · -- it may be
        have hok : Sp.okW xs := ⟨h0, h1, h2⟩
        have hs : PH.arith_Sum.f xs = some (Ar.fitV xs.sum, Ar.fits xs.sum) := by
          unfold PH.arith_Sum.f
          rw [if_pos ⟨by intro q; subst q; simp at h0, by omega, hf⟩]
        have HS := Lib.hid (fun w' (q : Kd.C (Kd.int .i64) w' A xs.length xs) => PH.arith_Sum.calls A c xs _ _ w' q hc hs)
        have HC := Lib.hid hC
        have hneg : ∀ m : Int, (m < 0 ↔ ∃ i : Nat, i < xs.length ∧ xs.getD i 0 < 0) → ¬ m < 0 := fun m q r => by
          obtain ⟨i, q1, q2⟩ := q.1 r
          rw [List.getD_eq_getElem?_getD, List.getElem?_eq_getElem q1] at q2
          have := h2 _ (List.getElem_mem q1)
          simp only [Option.getD_some] at q2
          omega
        have HNG := Lib.hid hneg
        have ev : Sp.sumV xs = Ar.fitV xs.sum := if_pos hok
        have eb : Sp.sumB xs = (Ar.fits xs.sum && decide (0 < Ar.fitV xs.sum) && decide (Ar.fitV xs.sum < 4611686018427387904)) := by simp [Sp.sumB, hok]
        rw [ev, eb]
        clear hC hc hf h2 hok hs hneg ev eb
        rw [hnn] at h0 h1 HM HS ⊢
        generalize Ar.fitV xs.sum = v at HS ⊢
        generalize Ar.fits xs.sum = b at HS ⊢
        have p1 : ¬ (n : Int) < 1 := by omega
        have p2 : ¬ (n : Int) > 4096 := by omega
        have p3 : ¬ n = 0 := by omega
        go_enter Try.func15, Try.ntmps15
        go_wp2_with fail
        refine HM.out.mono ?_
        rintro e w1 ⟨m, rfl, hm, ⟨q, rfl⟩⟩
        have hm' := HNG.out m (by rw [hnn]; exact hm)
        clear hm
        go_wp2_with fail
        have hD : Below w.heap.size w (w.drewN q) := pw_below_drewN (Below.refl _ _) q
        refine (HS.out _ (hnn ▸ Kd.C_below HC.out hD)).mono ?_
        rintro e w2 ⟨rfl, B2⟩
        have HD := Lib.hid (hD.trans B2)
        clear hD B2
        cases b with
        | false =>
          go_wp2
          go_ret2
          exact ⟨rfl, HD.out⟩
        | true =>
          by_cases q1 : 0 < v
          · have g1 : decide (v > 0) = true := decide_eq_true q1
            have g2 : decide (0 < v) = true := decide_eq_true q1
            go_wp2
            go_ret2
            exact ⟨by simp [q1], HD.out⟩
          · have g1 : decide (v > 0) = false := decide_eq_false q1
            have g2 : decide (0 < v) = false := decide_eq_false q1
            go_wp2
            go_ret2
            exact ⟨by simp; omega, HD.out⟩
      · -- one is below 0
        have hno : ¬ Sp.okW xs := fun q => h2 q.2.2
        obtain ⟨e1, e2⟩ := Sp.sum_no hno
        rw [e1, e2]
        have hneg : ∀ m : Int, (m < 0 ↔ ∃ i : Nat, i < xs.length ∧ xs.getD i 0 < 0) → m < 0 := fun m q => by
          refine q.2 ?_
          have ⟨x, hx⟩ : ∃ x, x ∈ xs ∧ ¬ 0 ≤ x := Classical.byContradiction fun h => h2 fun x hx => Classical.byContradiction fun h' => h ⟨x, hx, h'⟩
          obtain ⟨i, q1, q2⟩ := List.mem_iff_getElem.1 hx.1
          refine ⟨i, q1, ?_⟩
          rw [List.getD_eq_getElem?_getD, List.getElem?_eq_getElem q1]
          simp only [Option.getD_some, q2]
          omega
        have HNG := Lib.hid hneg
        clear hC hc hf h2 hno e1 e2 hneg
        rw [hnn] at h0 h1 HM ⊢
        have p1 : ¬ (n : Int) < 1 := by omega
        have p2 : ¬ (n : Int) > 4096 := by omega
        have p3 : ¬ n = 0 := by omega
        go_enter Try.func15, Try.ntmps15
        go_wp2_with fail
        refine HM.out.mono ?_
        rintro e w1 ⟨m, rfl, hm, ⟨q, rfl⟩⟩
        have hm' := HNG.out m (by rw [hnn]; exact hm)
        clear hm
        go_wp2
        go_ret2
        exact ⟨rfl, pw_below_drewN (Below.refl _ _) _⟩
    · have hno : ¬ Sp.okW xs := fun q => h1 q.2.1
      obtain ⟨e1, e2⟩ := Sp.sum_no hno
      rw [e1, e2, hnn]
      rw [hnn] at h0 h1
      clear hC hc hf hno e1 e2
      have p1 : ¬ (n : Int) < 1 := by omega
      have p2 : (n : Int) > 4096 := by omega
      have p3 : ¬ n = 0 := by omega
      go_enter Try.func15, Try.ntmps15
      go_wp2
      go_ret2
      exact ⟨rfl, Below.refl _ _⟩
  · have hno : ¬ Sp.okW xs := fun q => h0 q.1
    obtain ⟨e1, e2⟩ := Sp.sum_no hno
    rw [e1, e2, hnn]
    rw [hnn] at h0
    obtain rfl : n = 0 := by omega
    clear hC hc hf hno e1 e2 h0
    go_enter Try.func15, Try.ntmps15
    go_wp2
    go_ret2
    exact ⟨rfl, Below.refl _ _⟩
end Go.Proofs.Ytlllgfkdapjomaa.spl
