/- Fit answers as the document's. Plain law. No conditions. -/
import Derived.Test.YtbghkjoejbfnbaaDoorLaw12B
noncomputable section
namespace Go.Proofs.YtbghkjoejbfnbaaDoor.law12
open Go.RowKit Go.Proofs.YtbghkjoejbfnbaaDoorW.PrintWords Go.Proofs.YtbghkjoejbfnbaaDoor Go.Proofs.YtbghkjoejbfnbaaDoor.PH
theorem rd_at (l : List S47) (i : Nat) (h : i < l.length) : rd_T47 l (i : Int) = l[i] := by
  unfold rd_T47
  rw [Int.toNat_natCast, List.getD_eq_getElem?_getD, List.getElem?_eq_getElem h]
  rfl
theorem refFit_l0 (a : ByteArray) (l : List S47) (h : l.length ≤ a.size) (hs : a.size ≤ 40) : ∀ (n i k : Nat), l.length - i = n → i ≤ l.length → n < k → quittanceref12_Fit.l0 k a l (i : Int) = some (ord.fitL a i (l.drop i))
  | 0, i, k, hn, hi, hk => by
    obtain ⟨k, rfl⟩ : ∃ j, k = j + 1 := ⟨k - 1, by omega⟩
    unfold quittanceref12_Fit.l0
    rw [if_neg (by omega), List.drop_eq_nil_of_le (by omega)]
    rfl
  | n + 1, i, k, hn, hi, hk => by
    obtain ⟨k, rfl⟩ : ∃ j, k = j + 1 := ⟨k - 1, by omega⟩
    have ew : wrap64 ((i : Int) + 1) = ((i + 1 : Nat) : Int) := by unfold wrap64; omega
    have hil : i < l.length := by omega
    unfold quittanceref12_Fit.l0
    rw [if_pos (by omega), if_pos (by omega), if_pos (by omega), rd_at l i hil, refFits, Option.bind_some, List.drop_eq_getElem_cons hil]
    unfold ord.fitL
    cases hf : ord.fit1 (bt a (i : Int)) l[i] with
    | true => rw [if_pos rfl, ew, refFit_l0 a l h hs n (i + 1) k (by omega) (by omega) (by omega)]; rfl
    | false => rw [if_neg (by decide)]; rfl
theorem refFit (a : ByteArray) (l : List S47) (hs : a.size ≤ 40) (k : Nat) (hk : 100 ≤ k) : quittanceref12_Fit.f k a l = some (ord.fitB a (kd a) l) := by
  unfold quittanceref12_Fit.f ord.fitB
  rw [refKinds a hs k (by omega), Option.bind_some]
  obtain ⟨k, rfl⟩ : ∃ j, k = j + 1 := ⟨k - 1, by omega⟩
  cases hkd : kd a with
  | false => rw [if_neg (by decide), quittanceref12_Fit.j0, if_pos rfl]; rfl
  | true =>
    rw [if_pos rfl, quittanceref12_Fit.j0]
    by_cases hl : l.length ≤ a.size
    · rw [decide_eq_false (by omega), if_neg (by decide), show (0 : Int) = ((0 : Nat) : Int) from rfl, refFit_l0 a l hl hs l.length 0 k (by omega) (by omega) (by omega), decide_eq_true hl]
      rfl
    · rw [decide_eq_true (by omega), if_pos rfl, decide_eq_false hl]
      rfl
theorem putFit (a : ByteArray) (l : List S47) (hs : a.size ≤ 40) : order_Fit.f a l = some (ord.fitB a (kd a) l) := by
  unfold order_Fit.f
  rw [kinds_kd, Option.bind_some, if_pos (by omega)]
end Go.Proofs.YtbghkjoejbfnbaaDoor.law12
