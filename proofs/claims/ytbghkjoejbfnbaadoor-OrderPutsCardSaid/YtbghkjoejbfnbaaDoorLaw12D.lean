/- What the statements on order look at: great, as plain Lean; Same. Plain law. No conditions. -/
import Derived.Test.YtbghkjoejbfnbaaDoorLaw12C
import Derived.Test.YtbghkjoejbfnbaaDoorPHx2
noncomputable section
namespace Go.Proofs.YtbghkjoejbfnbaaDoor.law12
open Go.RowKit Go.Proofs.YtbghkjoejbfnbaaDoorW.PrintWords Go.Proofs.YtbghkjoejbfnbaaDoor Go.Proofs.YtbghkjoejbfnbaaDoor.PH
/-- Are fields more than a statement looks at? -/
def gr (a : ByteArray) (l : List S47) : Bool := l.any (fun x => decide (1200 < x.f2.size)) || decide (40 < l.length) || decide (40 < a.size)
theorem great_l0 (a : ByteArray) (l : List S47) (h : l.length ≤ 9223372036854775807) : ∀ (n i k : Nat), l.length - i = n → i ≤ l.length → n < k →
    quittancelaw12_great.l0 k a l (i : Int) = some ((l.drop i).any (fun x => decide (1200 < x.f2.size)) || decide (40 < l.length) || decide (40 < a.size))
  | 0, i, k, hn, hi, hk => by
    obtain ⟨k, rfl⟩ : ∃ j, k = j + 1 := ⟨k - 1, by omega⟩
    unfold quittancelaw12_great.l0
    rw [if_neg (by omega), List.drop_eq_nil_of_le (by omega)]
    by_cases c : 40 < l.length
    · rw [if_pos (by omega), decide_eq_true c]; rfl
    · rw [if_neg (by omega), decide_eq_false c]
      by_cases d : 40 < a.size
      · rw [decide_eq_true (by omega), decide_eq_true d]; rfl
      · rw [decide_eq_false (by omega), decide_eq_false d]; rfl
  | n + 1, i, k, hn, hi, hk => by
    obtain ⟨k, rfl⟩ : ∃ j, k = j + 1 := ⟨k - 1, by omega⟩
    have ew : wrap64 ((i : Int) + 1) = ((i + 1 : Nat) : Int) := by unfold wrap64; omega
    have hil : i < l.length := by omega
    unfold quittancelaw12_great.l0
    rw [if_pos (by omega), if_pos (by omega), rd_at l i hil, List.drop_eq_getElem_cons hil, List.any_cons]
    by_cases c : 1200 < l[i].f2.size
    · rw [if_pos (by omega), decide_eq_true c]; rfl
    · rw [if_neg (by omega), decide_eq_false c, ew, great_l0 a l h n (i + 1) k (by omega) (by omega) (by omega)]; rfl
theorem great_is (a : ByteArray) (l : List S47) (h : l.length ≤ 9223372036854775807) (k : Nat) (hk : l.length < k) : quittancelaw12_great.f k a l = some (gr a l) :=
  great_l0 a l h l.length 0 k rfl (by omega) hk
theorem gr_no {a : ByteArray} {l : List S47} (h : gr a l = false) : l.length ≤ 40 ∧ a.size ≤ 40 ∧ ∀ x ∈ l, x.f2.size ≤ 1200 := by
  unfold gr at h
  rw [Bool.or_eq_false_iff, Bool.or_eq_false_iff, decide_eq_false_iff_not, decide_eq_false_iff_not, List.any_eq_false] at h
  refine ⟨by omega, by omega, fun x hx => ?_⟩
  have := h.1.1 x hx
  simpa using this
theorem b_inj' {a b : ByteArray} (h : a.data.toList = b.data.toList) : a = b := by
  cases a; cases b
  congr
  exact Array.toList_inj.1 h
theorem toList_eq_iff (a b : ByteArray) : (a.toList == b.toList) = true ↔ a = b := by
  rw [beq_iff_eq, Lib.toList_data, Lib.toList_data]
  exact ⟨b_inj', fun h => by rw [h]⟩
/-- Same tells equality. -/
theorem same_l0 (l m : List S47) (h : l.length = m.length) (hl : l.length ≤ 9223372036854775807) : ∀ (n i k : Nat), l.length - i = n → i ≤ l.length → n < k →
    ∃ b, quittanceref12_Same.l0 k l m (i : Int) = some b ∧ (b = true ↔ l.drop i = m.drop i)
  | 0, i, k, hn, hi, hk => by
    obtain ⟨k, rfl⟩ : ∃ j, k = j + 1 := ⟨k - 1, by omega⟩
    refine ⟨true, ?_, by rw [List.drop_eq_nil_of_le (by omega), List.drop_eq_nil_of_le (by omega)]; simp⟩
    unfold quittanceref12_Same.l0
    rw [if_neg (by omega)]
  | n + 1, i, k, hn, hi, hk => by
    obtain ⟨k, rfl⟩ : ∃ j, k = j + 1 := ⟨k - 1, by omega⟩
    have ew : wrap64 ((i : Int) + 1) = ((i + 1 : Nat) : Int) := by unfold wrap64; omega
    have hil : i < l.length := by omega
    have him : i < m.length := by omega
    obtain ⟨b, hb, hbi⟩ := same_l0 l m h hl n (i + 1) k (by omega) (by omega) (by omega)
    have hx : ∀ x y : S47, ((!(x.f0 == y.f0) || (!(x.f1 == y.f1) || (!(x.f2.toList == y.f2.toList)))) = true) ↔ x ≠ y := by
      intro x y
      obtain ⟨x0, x1, x2⟩ := x
      obtain ⟨y0, y1, y2⟩ := y
      have := toList_eq_iff x2 y2
      constructor
      · rintro q e
        injection e with e0 e1 e2
        subst e0 e1 e2
        simp at q
      · intro q
        by_cases c0 : x0 = y0
        · by_cases c1 : x1 = y1
          · have c2 : x2 ≠ y2 := fun e => q (by rw [c0, c1, e])
            have : (x2.toList == y2.toList) = false := by rw [Bool.eq_false_iff]; exact fun e => c2 (this.1 e)
            dsimp only
            rw [this]; simp
          · have : (x1 == y1) = false := by simpa using c1
            dsimp only
            rw [this]; simp
        · have : (x0 == y0) = false := by simpa using c0
          dsimp only
          rw [this]; simp
    unfold quittanceref12_Same.l0
    rw [if_pos (by omega), if_pos (by omega), if_pos (by omega), rd_at l i hil, rd_at m i him, List.drop_eq_getElem_cons hil, List.drop_eq_getElem_cons him]
    by_cases c : l[i] = m[i]
    · rw [if_neg (by rw [hx]; exact fun q => q c), ew]
      refine ⟨b, hb, ?_⟩
      rw [hbi, List.cons.injEq]
      exact ⟨fun q => ⟨c, q⟩, fun q => q.2⟩
    · rw [if_pos ((hx _ _).2 c)]
      refine ⟨false, rfl, ⟨fun q => (by cases q), fun q => ?_⟩⟩
      rw [List.cons.injEq] at q
      exact absurd q.1 c
theorem same_is (l m : List S47) (hl : l.length ≤ 9223372036854775807) (k : Nat) (hk : l.length < k) : ∃ b, quittanceref12_Same.f k l m = some b ∧ (b = true ↔ l = m) := by
  unfold quittanceref12_Same.f
  by_cases h : l.length = m.length
  · rw [if_pos (by omega)]
    exact same_l0 l m h hl l.length 0 k rfl (by omega) hk
  · rw [if_neg (by omega)]
    exact ⟨false, rfl, ⟨fun q => (by cases q), fun q => absurd (by rw [q]) h⟩⟩
end Go.Proofs.YtbghkjoejbfnbaaDoor.law12
