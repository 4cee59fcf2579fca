/- Compare answers as the document's. Plain law. No conditions. -/
import Derived.Test.YtbghkjoejbfnbaaDoorMLa
import Derived.Test.YtbghkjoejbfnbaaDoorLaw12L
import Derived.Test.YtbghkjoejbfnbaaDoorPHx14
noncomputable section
namespace Go.Proofs.YtbghkjoejbfnbaaDoor.law12
open Go.RowKit Go.Proofs.YtbghkjoejbfnbaaDoorW.PrintWords Go.Proofs.YtbghkjoejbfnbaaDoor Go.Proofs.YtbghkjoejbfnbaaDoor.PH
def sd (b : Bool) : Int := if b = true then -1 else 1
theorem side_is (b : Bool) : quittanceref12_side.f b = some (sd b) := by
  unfold quittanceref12_side.f sd
  cases b <;> rfl
theorem cmpI_eq (a b : Int) : ord.cmpI a b = 0 ↔ a = b := by
  unfold ord.cmpI
  split
  · exact ⟨fun h => (by cases h), fun h => (by omega)⟩
  · split
    · exact ⟨fun h => (by cases h), fun h => (by omega)⟩
    · exact ⟨fun _ => (by omega), fun _ => rfl⟩
theorem cmpI_ne (a b : Int) (h : a ≠ b) : ord.cmpI a b = sd (decide (a < b)) := by
  unfold ord.cmpI sd
  by_cases c : a < b
  · rw [if_pos c, decide_eq_true c]; rfl
  · rw [if_neg c, if_pos (by omega), decide_eq_false c]; rfl
theorem cmpB_eq : ∀ a b : List UInt8, Lib.compareBytes a b = 0 ↔ a = b
  | [], [] => by simp [Lib.compareBytes]
  | [], _ :: _ => by simp [Lib.compareBytes]
  | _ :: _, [] => by simp [Lib.compareBytes]
  | a :: x, b :: y => by
    unfold Lib.compareBytes
    rw [List.cons.injEq]
    rcases Nat.lt_trichotomy a.toNat b.toNat with h | h | h
    · rw [if_pos (show a < b from h)]
      exact ⟨fun q => (by cases q), fun q => (by rw [q.1] at h; omega)⟩
    · obtain rfl := UInt8.toNat_inj.1 h
      rw [if_neg (by rw [u8_lt]; omega), if_neg (by rw [u8_lt]; omega), cmpB_eq x y]
      exact ⟨fun q => ⟨rfl, q⟩, fun q => q.2⟩
    · rw [if_neg (by rw [u8_lt]; omega), if_pos (show b < a from h)]
      exact ⟨fun q => (by cases q), fun q => (by rw [q.1] at h; omega)⟩
theorem cmpB_ne : ∀ a b : List UInt8, a ≠ b → Lib.compareBytes a b = sd (Op.bytesLess a b)
  | [], [], h => absurd rfl h
  | [], _ :: _, _ => rfl
  | _ :: _, [], _ => rfl
  | a :: x, b :: y, h => by
    unfold Lib.compareBytes
    rw [less_cons]
    rcases Nat.lt_trichotomy a.toNat b.toNat with c | c | c
    · rw [if_pos (show a < b from c), decide_eq_true (show a < b from c)]; rfl
    · obtain rfl := UInt8.toNat_inj.1 c
      have hlt : ¬ a < a := by rw [u8_lt]; omega
      rw [if_neg hlt, if_neg hlt, cmpB_ne x y (fun q => h (by rw [q])), decide_eq_false hlt]
      simp
    · have hne : (a == b) = false := by rw [beq_eq_false_iff_ne]; rintro rfl; omega
      have hlt : ¬ a < b := by rw [u8_lt]; omega
      rw [if_neg hlt, if_pos (show b < a from c), decide_eq_false hlt, hne]; rfl
theorem refCompare_l0 (l m : List S47) (hl : l.length ≤ 9223372036854775807) : ∀ (n i k : Nat), l.length - i = n → i ≤ l.length → i ≤ m.length → 2 * n + 2 ≤ k →
    quittanceref12_Compare.l0 k l m (i : Int) = some (ord.cL (l.drop i) (m.drop i)) := by
  intro n
  induction n with
  | zero =>
    intro i k hn hi him hk
    obtain ⟨k, rfl⟩ : ∃ j, k = j + 2 := ⟨k - 2, by omega⟩
    rw [quittanceref12_Compare.l0, if_neg (by omega), quittanceref12_Compare.j1, if_neg (by decide), show l.drop i = [] from List.drop_eq_nil_of_le (by omega)]
    by_cases c : l.length = m.length
    · rw [if_pos (by omega), List.drop_eq_nil_of_le (by omega)]; rfl
    · rw [if_neg (by omega), List.drop_eq_getElem_cons (show i < m.length by omega), side_is, decide_eq_true (by omega)]; rfl
  | succ n ih =>
    intro i k hn hi him hk
    obtain ⟨k, rfl⟩ : ∃ j, k = j + 2 := ⟨k - 2, by omega⟩
    have ew : wrap64 ((i : Int) + 1) = ((i + 1 : Nat) : Int) := by unfold wrap64; omega
    have hil : i < l.length := by omega
    rw [quittanceref12_Compare.l0, if_pos (by omega), List.drop_eq_getElem_cons hil]
    by_cases hm : i < m.length
    · rw [decide_eq_true (by omega), quittanceref12_Compare.j1, if_pos rfl, if_pos (by omega), if_pos (by omega), if_pos (by omega), rd_at l i hil, rd_at m i hm, List.drop_eq_getElem_cons hm]
      rw [ord.cL]
      generalize l[i] = x
      generalize m[i] = y
      unfold ord.cF
      by_cases c0 : x.f0 = y.f0
      · rw [if_pos c0, if_pos ((cmpI_eq _ _).2 c0)]
        by_cases c1 : x.f1 = y.f1
        · rw [if_pos c1, if_pos ((cmpI_eq _ _).2 c1), Lib.toList_data, Lib.toList_data]
          by_cases c2 : x.f2.data.toList = y.f2.data.toList
          · rw [if_pos c2, if_pos ((cmpB_eq _ _).2 c2), ew, ih (i + 1) k (by omega) (by omega) (by omega) (by omega)]
          · rw [if_neg c2, side_is, if_neg (fun q => c2 ((cmpB_eq _ _).1 q)), cmpB_ne _ _ c2]; rfl
        · rw [if_neg c1, side_is, if_neg (fun q => c1 ((cmpI_eq _ _).1 q)), if_neg (fun q => c1 ((cmpI_eq _ _).1 q)), cmpI_ne _ _ c1]; rfl
      · rw [if_neg c0, side_is, if_neg (fun q => c0 ((cmpI_eq _ _).1 q)), if_neg (fun q => c0 ((cmpI_eq _ _).1 q)), cmpI_ne _ _ c0]; rfl
    · rw [decide_eq_false (by omega), quittanceref12_Compare.j1, if_neg (by decide), if_neg (by omega), show m.drop i = [] from List.drop_eq_nil_of_le (by omega), side_is, decide_eq_false (by omega)]; rfl
theorem refCompare (l m : List S47) (hl : l.length ≤ 9223372036854775807) (k : Nat) (hk : 2 * l.length + 2 ≤ k) : quittanceref12_Compare.f k l m = some (ord.cL l m) :=
  refCompare_l0 l m hl l.length 0 k rfl (by omega) (by omega) hk
end Go.Proofs.YtbghkjoejbfnbaaDoor.law12
