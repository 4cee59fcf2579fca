/- Kinds and Fit answer as the document's. Plain law. No conditions. -/
import Derived.Test.YtbghkjoejbfnbaaDoorPHx7
import Derived.Test.YtbghkjoejbfnbaaDoorLaw12H
noncomputable section
namespace Go.Proofs.YtbghkjoejbfnbaaDoor.law12
open Go.RowKit Go.Proofs.YtbghkjoejbfnbaaDoorW.PrintWords Go.Proofs.YtbghkjoejbfnbaaDoor Go.Proofs.YtbghkjoejbfnbaaDoor.PH
/-- What Kinds tells. -/
def kd (a : ByteArray) : Bool := decide (a.size ≤ 16) && (Lib.trimS a.data.toList [110, 105, 115]).isEmpty
theorem kinds_kd (a : ByteArray) : order_Kinds.f a = some (kd a) := orf.kinds_some a
theorem kd_ok (a : ByteArray) : kd a = true ↔ orf.KindsOk a := by
  rw [← orf.kinds_ok, kinds_kd, Option.some.injEq]
def good (c : Int) : Prop := c = 110 ∨ c = 105 ∨ c = 115
theorem refKinds_l0 (a : ByteArray) (h : a.size ≤ 40) : ∀ (n i k : Nat), a.size - i = n → i ≤ a.size → n < k → (∀ j : Nat, j < i → good (bt a (j : Int))) → quittanceref12_Kinds.l0 k a (i : Int) = some (kd a)
  | 0, i, k, hn, hi, hk, hg => by
    obtain ⟨k, rfl⟩ : ∃ j, k = j + 1 := ⟨k - 1, by omega⟩
    obtain rfl : i = a.size := by omega
    unfold quittanceref12_Kinds.l0
    rw [if_neg (by omega)]
    congr 1
    rw [Bool.eq_iff_iff, decide_eq_true_eq, kd_ok]
    exact ⟨fun q => ⟨by omega, fun j hj => hg j hj⟩, fun q => by have := q.1; omega⟩
  | n + 1, i, k, hn, hi, hk, hg => by
    obtain ⟨k, rfl⟩ : ∃ j, k = j + 1 := ⟨k - 1, by omega⟩
    have ew : wrap64 ((i : Int) + 1) = ((i + 1 : Nat) : Int) := by unfold wrap64; omega
    have ih : good (bt a (i : Int)) → quittanceref12_Kinds.l0 k a ((i + 1 : Nat) : Int) = some (kd a) := fun q => refKinds_l0 a h n (i + 1) k (by omega) (by omega) (by omega) (fun j hj => by
      rcases Nat.lt_or_ge j i with c | c
      · exact hg j c
      · obtain rfl : j = i := by omega
        exact q)
    unfold quittanceref12_Kinds.l0
    rw [if_pos (by omega), if_pos (by omega), ew]
    by_cases c1 : bt a (i : Int) = 110
    · rw [if_pos c1]; exact ih (.inl c1)
    · rw [if_neg c1]
      by_cases c2 : bt a (i : Int) = 105
      · rw [if_pos c2]; exact ih (.inr (.inl c2))
      · rw [if_neg c2]
        by_cases c3 : bt a (i : Int) = 115
        · rw [if_pos c3]; exact ih (.inr (.inr c3))
        · rw [if_neg c3]
          congr 1
          symm
          rw [Bool.eq_false_iff]
          intro q
          rcases ((kd_ok a).1 q).2 i (by omega) with e | e | e
          · exact c1 e
          · exact c2 e
          · exact c3 e
theorem refKinds (a : ByteArray) (h : a.size ≤ 40) (k : Nat) (hk : 60 ≤ k) : quittanceref12_Kinds.f k a = some (kd a) :=
  refKinds_l0 a h a.size 0 k (by omega) (by omega) (by omega) (fun j hj => absurd hj (by omega))
theorem empty_is (b : ByteArray) : (b.toList == ([] : List UInt8)) = b.toList.isEmpty := by cases b.toList <;> rfl
theorem refFits (c : Int) (x : S47) : quittanceref12_fits.f c x.f0 x.f1 x.f2 = some (ord.fit1 c x) := by
  unfold quittanceref12_fits.f ord.fit1
  rw [empty_is]
  by_cases c1 : c = 110
  · rw [if_pos c1, if_pos c1]
    by_cases c2 : x.f1 = 0
    · rw [if_pos c2, c2]; rfl
    · rw [if_neg c2, beq_eq_false_iff_ne.2 c2]; rfl
  · rw [if_neg c1, if_neg c1]
    by_cases c2 : c = 105
    · rw [if_pos c2, if_pos c2]
      by_cases c3 : x.f0 = 0
      · rw [if_pos c3, c3]; rfl
      · rw [if_neg c3, beq_eq_false_iff_ne.2 c3]; rfl
    · rw [if_neg c2, if_neg c2]
      by_cases c3 : x.f0 = 0
      · rw [if_pos c3, c3]; rfl
      · rw [if_neg c3, beq_eq_false_iff_ne.2 c3]; rfl
end Go.Proofs.YtbghkjoejbfnbaaDoor.law12
