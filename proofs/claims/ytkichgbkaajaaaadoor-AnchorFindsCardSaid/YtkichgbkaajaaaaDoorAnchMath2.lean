/- The bounds of periods, month by month (as the document's answer goes): plain arithmetic. No conditions. -/
import Derived.Test.YtkichgbkaajaaaaDoorAnchMath
namespace An
open Cv
/-- Behind n months j bounds have come besides the 0th. -/
def inv (s a E n j : Int) : Prop := (n = 0 ∧ j = 0) ∨ (1 ≤ n ∧ mon s a E j < ofD s + n ∧ ofD s + n ≤ mon s a E (j + 1))
theorem step_yes {s a E n j : Int} (h : ok s a E = true) (hi : inv s a E n j) (hm : ofD s + n ≤ 119988) (h1 : n % E = 0) (h2 : s < at_ (ofD s + n) a) :
    inv s a E (n + 1) (j + 1) ∧ at_ (ofD s + n) a = at_ (mon s a E (j + 1)) a ∧ j + 1 ≤ top s a E := by
  obtain ⟨⟨g1, g2⟩, ⟨g3, g4⟩, g5, g6⟩ := ok_t h
  have key : mon s a E (j + 1) = ofD s + n := by
    rcases hi with ⟨rfl, rfl⟩ | ⟨k1, k2, k3⟩
    · have e0 : k0 s a = 1 := by
        unfold k0; rw [if_neg]; rw [Int.add_zero] at h2; omega
      unfold mon; rw [e0]; omega
    · have e1 := mon_succ s a E j
      unfold mon at k2 k3 ⊢
      have e2 := Int.mul_ediv_add_emod n E
      rw [h1] at e2
      generalize n / E = m at *
      have a1 : (j - k0 s a) * E < m * E := by rw [Int.mul_comm m E]; omega
      have a2 : m * E ≤ (j + 1 - k0 s a) * E := by rw [Int.mul_comm m E]; omega
      have b1 := Int.lt_of_mul_lt_mul_right a1 (by omega)
      have b2 := Int.le_of_mul_le_mul_right a2 (by omega)
      have : m = j + 1 - k0 s a := by omega
      rw [← this, Int.mul_comm m E]; omega
  have e3 := mon_succ s a E (j + 1)
  refine ⟨.inr ⟨?_, by omega, by omega⟩, by rw [key], (top_iff g5).2 (by omega)⟩
  rcases hi with ⟨rfl, rfl⟩ | ⟨k1, k2, k3⟩ <;> omega
theorem step_no {s a E n j : Int} (h : ok s a E = true) (hi : inv s a E n j) (hm : ofD s + n ≤ 119988) (hn : ¬ (n % E = 0 ∧ s < at_ (ofD s + n) a)) : inv s a E (n + 1) j := by
  obtain ⟨⟨g1, g2⟩, ⟨g3, g4⟩, g5, g6⟩ := ok_t h
  have hs := ofD_spec g1 g2
  rcases hi with ⟨rfl, rfl⟩ | ⟨k1, k2, k3⟩
  · have e0 : k0 s a = 0 := by
      unfold k0; rw [if_pos]
      rw [Int.add_zero] at hn
      have : ¬ s < at_ (ofD s) a := fun q => hn ⟨by simp, q⟩
      omega
    refine .inr ⟨by omega, ?_, ?_⟩ <;> unfold mon <;> rw [e0] <;> omega
  · have hat := at_lo (M := ofD s + n) (a := a) (by omega) hm g3
    have hf := fst_mono (a := ofD s + 1) (b := ofD s + n) (by omega) (by omega) (by omega)
    have h1 : ¬ n % E = 0 := fun q => hn ⟨q, by omega⟩
    refine .inr ⟨by omega, by omega, ?_⟩
    have : ¬ ofD s + n = mon s a E (j + 1) := by
      intro q
      unfold mon at q
      have : n = (j + 1 - k0 s a) * E := by omega
      rw [this] at h1
      exact h1 (Int.mul_emod_left _ _)
    omega
/-- Where the months are over, all have come. -/
theorem inv_end {s a E n j : Int} (h : ok s a E = true) (hi : inv s a E n j) (hm : 119988 < ofD s + n) (hj : j ≤ top s a E) : j = top s a E := by
  obtain ⟨⟨g1, g2⟩, _, g5, _⟩ := ok_t h
  have hs := ofD_spec g1 g2
  rcases hi with ⟨rfl, rfl⟩ | ⟨k1, k2, k3⟩
  · omega
  · have : ¬ j + 1 ≤ top s a E := fun q => by have := (top_iff g5).1 q; omega
    omega
end An
