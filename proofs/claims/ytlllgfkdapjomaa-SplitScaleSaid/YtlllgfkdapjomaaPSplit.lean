/- split.Split and split.Even in the printed form. No conditions but that numbers are of 64 bits. -/
import Derived.Test.YtlllgfkdapjomaaSplF
namespace Sp
noncomputable def outOf (T : Int) (xs : List Int) : List Int := open Classical in if h : ∃ out, IsSplit T xs out then h.choose else []
theorem outOf_is {T : Int} {xs out : List Int} (h : IsSplit T xs out) : outOf T xs = out := by
  have hx : ∃ out, IsSplit T xs out := ⟨out, h⟩
  unfold outOf
  rw [dif_pos hx]
  exact hx.choose_spec.unique h
/-- May it be split? -/
def okB (T : Int) (xs : List Int) : Bool := sumB xs && decide (0 ≤ T) && decide (T < 4611686018427387904)
theorem okB_iff {T : Int} {xs : List Int} : okB T xs = true ↔ Ok T xs := by
  simp only [okB, sumB, Bool.and_eq_true, decide_eq_true_eq]
  constructor
  · rintro ⟨⟨⟨h1, ⟨h2, h3⟩, h4⟩, h5⟩, h6⟩
    rw [Ar.fitV, if_pos h2] at h3 h4
    exact ⟨h5, h6, h1.1, h1.2.1, h1.2.2, h3, h4⟩
  · rintro ⟨h1, h2, h3, h4, h5, h6, h7⟩
    have hf : Ar.fits xs.sum = true := by simp [Ar.fits]; omega
    rw [Ar.fitV, if_pos hf]
    exact ⟨⟨⟨⟨h3, h4, h5⟩, ⟨hf, h6⟩, h7⟩, h1⟩, h2⟩
end Sp
namespace Go.Proofs.Ytlllgfkdapjomaa.PH
open Go.RowKit Go.Proofs.YtlllgfkdapjomaaW.PrintWords Go.Proofs.Ytlllgfkdapjomaa.spl
noncomputable def split_Split.f (T : Int) (xs : List Int) : Option (List Int × Int) :=
  if ∀ x ∈ xs, Ar.fits x = true then some (if Sp.okB T xs = true then (Sp.outOf T xs, 0) else ([], 2)) else none
theorem split_Split.calls (T : Int) (A1 : Option Addr) (c1 : Nat) (l1 : List Int) (r1 : List Int) (r2 : Int) (w : World) (hr1 : Kd.C (Kd.int .i64) w A1 l1.length l1) (hc1 : l1.length ≤ c1) (h : split_Split.f T l1 = some (r1, r2)) :
    Calls Try.prog 8 #[.int .i64 T, .slice A1 l1.length c1] w fun e w' => ∃ v0_, e = .returned (.tuple #[v0_, .int .i64 r2]) ∧ Kd.R (Kd.int .i64) 2 w' w.heap.size (fun _ => True) v0_ r1 ∧ Below w.heap.size w w' := by
  unfold split_Split.f at h
  split at h
  · rename_i hf
    simp only [Option.some.injEq] at h
    by_cases hk : Sp.okB T l1 = true
    · rw [if_pos hk] at h
      simp only [Prod.mk.injEq] at h
      obtain ⟨rfl, rfl⟩ := h
      refine (split_is w T A1 c1 l1 hr1 hc1 hf (Sp.okB_iff.1 hk)).mono ?_
      rintro e w' ⟨v, out, rfl, hR, hS, hB⟩
      rw [Sp.outOf_is hS]
      exact ⟨v, rfl, hR, hB⟩
    · rw [if_neg hk] at h
      simp only [Prod.mk.injEq] at h
      obtain ⟨rfl, rfl⟩ := h
      refine (split_no w T A1 c1 l1 hr1 hc1 hf ?_).mono ?_
      · simp only [Sp.okB, Bool.and_eq_true, decide_eq_true_eq, not_and] at hk
        by_cases h1 : Sp.sumB l1 = true
        · by_cases h2 : 0 ≤ T
          · exact .inr (.inr (by have := hk ⟨h1, h2⟩; omega))
          · exact .inr (.inl (by omega))
        · exact .inl (by simpa using h1)
      · rintro e w' ⟨rfl, hB⟩
        exact ⟨_, rfl, Kd.R_nil _ _ _ _ _, hB⟩
  · cases h
noncomputable def split_Even.f (T n : Int) : Option (List Int × Int) :=
  if n < 1 ∨ 4096 < n then some ([], 2) else split_Split.f T (List.replicate n.toNat 1)
set_option linter.unusedSimpArgs false
attribute [local go_sem] Oper.semAt_some
theorem even_no (T n : Int) (w : World) (h : n < 1 ∨ 4096 < n) :
    Calls Try.prog 11 #[.int .i64 T, .int .i64 n] w fun e w' => e = .returned (.tuple #[.slice none 0 0, .int .i64 2]) ∧ w' = w := by
  by_cases h1 : n < 1
  · have g1 : decide (n < 1) = true := decide_eq_true h1
    clear h
    go_enter Try.func11, Try.ntmps11
    go_wp2
    go_ret2
    exact ⟨rfl, rfl⟩
  · have g1 : decide (n < 1) = false := decide_eq_false h1
    have g2 : decide (n > 4096) = true := decide_eq_true (by omega)
    have g3 : decide (4096 < n) = true := g2
    clear h
    go_enter Try.func11, Try.ntmps11
    go_wp2
    go_ret2
    exact ⟨rfl, rfl⟩
theorem split_Even.calls (T n : Int) (r1 : List Int) (r2 : Int) (w : World) (h : split_Even.f T n = some (r1, r2)) :
    Calls Try.prog 11 #[.int .i64 T, .int .i64 n] w fun e w' => ∃ v0_, e = .returned (.tuple #[v0_, .int .i64 r2]) ∧ Kd.R (Kd.int .i64) 2 w' w.heap.size (fun _ => True) v0_ r1 ∧ Below w.heap.size w w' := by
  unfold split_Even.f at h
  by_cases hn : n < 1 ∨ 4096 < n
  · rw [if_pos hn] at h
    simp only [Option.some.injEq, Prod.mk.injEq] at h
    obtain ⟨rfl, rfl⟩ := h
    refine (even_no T n w hn).mono ?_
    rintro e w' ⟨rfl, rfl⟩
    exact ⟨_, rfl, Kd.R_nil _ _ _ _ _, Below.refl _ _⟩
  · rw [if_neg hn] at h
    obtain ⟨m, rfl⟩ : ∃ m : Nat, n = (m : Int) := ⟨n.toNat, by omega⟩
    rw [show ((m : Int)).toNat = m from rfl] at h
    have HH := Lib.hid h
    have g1 : decide ((m : Int) < 1) = false := decide_eq_false (by omega)
    have g2 : decide ((m : Int) > 4096) = false := decide_eq_false (by omega)
    have g3 : decide (4096 < (m : Int)) = false := g2
    have HM := Lib.hid (show 1 ≤ m ∧ m ≤ 4096 by omega)
    clear h hn
    go_enter Try.func11, Try.ntmps11
    go_wp2_with fail
    have hcell : (w.alloc (.cells #[.int .i64 1] 2)).cell? ⟨w.heap.size, 0, none⟩ = some (.int .i64 1) := by simp
    refine (spl.repeat_is (w.alloc (.cells #[.int .i64 1] 2)) ⟨w.heap.size, 0, none⟩ 1 m HM.out.1 HM.out.2 hcell).mono ?_
    rintro e w2 ⟨g, cap, rfl, hle, hR, hB⟩
    have hB2 : Below w.heap.size w w2 := (below_alloc (Below.refl _ _) _).trans (hB.mono (by simp))
    have hC := Kd.R_reads' hR
    rw [List.length_replicate] at hC
    have H2 := Lib.hid (And.intro hB2 hC.2)
    have hS := split_Split.calls T (some ⟨g, 0, none⟩) cap (List.replicate m 1) r1 r2 w2
    rw [List.length_replicate] at hS
    have HS := Lib.hid (hS hC.2.2 hle HH.out)
    clear hS hC hR hB hB2 hle hcell HH
    go_wp2_with fail
    refine HS.out.mono ?_
    rintro e w3 ⟨v0, rfl, hR, hB⟩
    have H3 := Lib.hid (And.intro hR hB)
    clear hR hB HS
    go_wp2
    go_ret2
    exact ⟨_, rfl, Kd.R_lower H3.out.1 H2.out.1.size, H2.out.1.trans (H3.out.2.mono H2.out.1.size)⟩
end Go.Proofs.Ytlllgfkdapjomaa.PH
