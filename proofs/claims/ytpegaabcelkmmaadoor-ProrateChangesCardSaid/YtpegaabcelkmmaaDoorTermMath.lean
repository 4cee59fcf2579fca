/- The months of a term, as numbers: plain arithmetic. No conditions. -/
import Derived.Test.YtpegaabcelkmmaaDoorCivilMath
namespace Tm
open Cv
theorem ofD_mono {a b : Int} (h1 : 1 ≤ a) (h : a ≤ b) (h2 : b ≤ 3652059) : ofD a ≤ ofD b := by
  have s1 := ofD_spec h1 (by omega)
  have s2 := ofD_spec (d := b) (by omega) h2
  rcases Int.lt_or_le (ofD b) (ofD a) with z | z
  · have := fst_mono (a := ofD b + 1) (b := ofD a) (by omega) (by omega) (by omega)
    omega
  · exact z
/-- How many months have some of the days from f on, ahead of n. -/
noncomputable def cnt (f n : Int) : Nat := (ofD (n - 1) - ofD f + 1).toNat
/-- Where the i-th of them begins. -/
noncomputable def cur (f n : Int) (i : Nat) : Int := if i = 0 then f else min (fst (ofD f + i)) n
noncomputable def ent (f n : Int) (i : Nat) : Int × Int := (ofD f + i, cur f n (i + 1) - cur f n i)
noncomputable def terms (f n : Int) (k : Nat) : List (Int × Int) := (List.range k).map (ent f n)
theorem terms_len (f n : Int) (k : Nat) : (terms f n k).length = k := by simp [terms]
theorem terms_succ (f n : Int) (k : Nat) : terms f n (k + 1) = terms f n k ++ [ent f n k] := by simp [terms, List.range_succ]
theorem cur_zero (f n : Int) : cur f n 0 = f := by simp [cur]
theorem cur_succ (f n : Int) (k : Nat) : cur f n (k + 1) = min (fst (ofD f + k + 1)) n := by
  unfold cur; rw [if_neg (by omega), show ofD f + ((k + 1 : Nat) : Int) = ofD f + k + 1 by omega]
structure Ok (f n : Int) : Prop where
  f1 : 1 ≤ f
  fn : f < n
  nm : n ≤ 3652060
theorem cnt_spec {f n : Int} (h : Ok f n) : (cnt f n : Int) = ofD (n - 1) - ofD f + 1 ∧ 1 ≤ cnt f n ∧ cnt f n ≤ 119988 ∧ 1 ≤ ofD f ∧ ofD f + cnt f n ≤ 119989 := by
  obtain ⟨h1, h2, h3⟩ := h
  have s1 := ofD_spec (d := f) h1 (by omega)
  have s2 := ofD_spec (d := n - 1) (by omega) (by omega)
  have := ofD_mono h1 (show f ≤ n - 1 by omega) (by omega)
  unfold cnt; omega
/-- A round's month, and what it has. -/
theorem at_k {f n : Int} (h : Ok f n) {k : Nat} (hk : k < cnt f n) : okM (ofD f + k) = true ∧ 1 ≤ ofD f + k ∧ ofD f + k ≤ 119988 ∧ 1 ≤ cur f n k ∧ fst (ofD f + k) ≤ cur f n k ∧ cur f n k < n ∧ cur f n k < fst (ofD f + k + 1) ∧ cur f n k < cur f n (k + 1) ∧ cur f n (k + 1) ≤ n := by
  have c := cnt_spec h
  obtain ⟨h1, h2, h3⟩ := h
  have s1 := ofD_spec (d := f) h1 (by omega)
  have s2 := ofD_spec (d := n - 1) (by omega) (by omega)
  have e := cur_succ f n k
  have m1 : 1 ≤ ofD f + k := by omega
  have m2 : ofD f + k ≤ 119988 := by omega
  have l := fst_lo m1 m2
  have b := fst_bd m1 (show ofD f + k ≤ 119989 by omega)
  rcases Nat.eq_zero_or_pos k with rfl | hp
  · rw [cur_zero]
    simp only [Int.natCast_zero, Int.add_zero] at *
    refine ⟨okM_mk m1 m2, m1, m2, h1, s1.2.2.1, by omega, s1.2.2.2, by omega, by omega⟩
  · have mo := fst_mono (a := ofD f + k) (b := ofD (n - 1)) m1 (by omega) (by omega)
    have ec : cur f n k = fst (ofD f + k) := by unfold cur; rw [if_neg (by omega)]; omega
    rw [ec]
    refine ⟨okM_mk m1 m2, m1, m2, by omega, by omega, by omega, by omega, by omega, by omega⟩
theorem at_end {f n : Int} (h : Ok f n) : cur f n (cnt f n) = n := by
  have c := cnt_spec h
  obtain ⟨h1, h2, h3⟩ := h
  have s2 := ofD_spec (d := n - 1) (by omega) (by omega)
  unfold cur; rw [if_neg (by omega), show ofD f + (cnt f n : Int) = ofD (n - 1) + 1 by omega]; omega
end Tm
