/- Put answers as the document's. Plain law. No conditions. -/
import Derived.Test.YtbghkjoejbfnbaaDoorMLa
noncomputable section
namespace Go.Proofs.YtbghkjoejbfnbaaDoor.law12
open Go.RowKit Go.Proofs.YtbghkjoejbfnbaaDoorW.PrintWords Go.Proofs.YtbghkjoejbfnbaaDoor Go.Proofs.YtbghkjoejbfnbaaDoor.PH
/-- What Put writes. -/
def body (a : ByteArray) : Nat → List S47 → List Int
  | _, [] => []
  | i, x :: l => fb (bt a (i : Int)) x ++ body a (i + 1) l
def fin (xs : List Int) : ByteArray × Int := if xs.length > 1024 then (⟨#[]⟩, 3) else (strOfNums xs, 0)
def putV (a : ByteArray) (l : List S47) : ByteArray × Int :=
  if kd a = true then (if ord.fitB a (kd a) l = true then fin (body a 0 l) else (⟨#[]⟩, 5)) else (⟨#[]⟩, 2)
theorem kd_good {a : ByteArray} (h : kd a = true) : a.size ≤ 16 ∧ ∀ i : Nat, i < a.size → good (bt a (i : Int)) := by
  have := (kd_ok a).1 h
  exact ⟨this.1, fun i hi => this.2 i hi⟩
theorem fitB_len {a : ByteArray} {k : Bool} {l : List S47} (h : ord.fitB a k l = true) : l.length ≤ a.size := by
  unfold ord.fitB at h
  simp only [Bool.and_eq_true, decide_eq_true_eq] at h
  exact h.1.2
theorem put_l0 (a : ByteArray) (l : List S47) (hg : ∀ i : Nat, i < a.size → good (bt a (i : Int))) (h16 : a.size ≤ 16) (hl : l.length ≤ a.size) (hw : ∀ x ∈ l, Wf x) :
    ∀ (n i k : Nat) (acc : List Int), l.length - i = n → i ≤ l.length → n + 12 ≤ k → acc.length + 2402 * n ≤ 60000 → order_Put.l0 k a acc l (l.length : Int) (i : Int) = some (fin (acc ++ body a i (l.drop i)))
  | 0, i, k, acc, hn, hi, hk, ha => by
    obtain ⟨k, rfl⟩ : ∃ q, k = q + 1 := ⟨k - 1, by omega⟩
    rw [order_Put.l0, if_neg (by omega), show l.drop i = [] from List.drop_eq_nil_of_le (by omega), body, List.append_nil, fin]
    by_cases c : acc.length > 1024
    · rw [if_pos (by omega), if_pos c]
    · rw [if_neg (by omega), if_neg c]
  | n + 1, i, k, acc, hn, hi, hk, ha => by
    obtain ⟨k, rfl⟩ : ∃ q, k = q + 1 := ⟨k - 1, by omega⟩
    have hil : i < l.length := by omega
    have ew : wrap64 ((i : Int) + 1) = ((i + 1 : Nat) : Int) := by unfold wrap64; omega
    have hx := hw l[i] (List.getElem_mem hil)
    have hf := fb_len (c := bt a (i : Int)) hx
    rw [order_Put.l0, if_pos (by omega), if_pos (by omega), if_pos (by omega), if_pos (by omega), rd_at l i hil, put_is (hg i (by omega)) hx acc k (by omega) (by omega), Option.bind_some, ew,
      put_l0 a l hg h16 hl hw n (i + 1) k (acc ++ fb (bt a (i : Int)) l[i]) (by omega) (by omega) (by omega) (by rw [List.length_append]; omega), List.drop_eq_getElem_cons hil, body, List.append_assoc]
theorem ref_l0 (a : ByteArray) (l : List S47) (hg : ∀ i : Nat, i < a.size → good (bt a (i : Int))) (h16 : a.size ≤ 16) (hl : l.length ≤ a.size) (hw : ∀ x ∈ l, Wf x) (K0 : Nat) (hK0 : 3000 ≤ K0) :
    ∀ (n i k : Nat) (acc : ByteArray), l.length - i = n → i ≤ l.length → n + 2 + K0 ≤ k → acc.size + 2402 * n ≤ 60000 → quittanceref12_Put.l0 k a l acc (i : Int) = some (fin (bytesOf acc ++ body a i (l.drop i)))
  | 0, i, k, acc, hn, hi, hk, ha => by
    obtain ⟨k, rfl⟩ : ∃ q, k = q + 1 := ⟨k - 1, by omega⟩
    rw [quittanceref12_Put.l0, if_neg (by omega), show l.drop i = [] from List.drop_eq_nil_of_le (by omega), body, List.append_nil, fin, bytesOf_length, str_bytes]
    by_cases c : acc.size > 1024
    · rw [if_pos (by omega), if_pos c]
    · rw [if_neg (by omega), if_neg c]
  | n + 1, i, k, acc, hn, hi, hk, ha => by
    obtain ⟨k, rfl⟩ : ∃ q, k = q + 1 := ⟨k - 1, by omega⟩
    have hil : i < l.length := by omega
    have ew : wrap64 ((i : Int) + 1) = ((i + 1 : Nat) : Int) := by unfold wrap64; omega
    have hx := hw l[i] (List.getElem_mem hil)
    have hf := fb_len (c := bt a (i : Int)) hx
    have hs : (strOfNums (fb (bt a (i : Int)) l[i])).size = (fb (bt a (i : Int)) l[i]).length := strOfNums_size _
    have hk3 : 3000 ≤ k := Nat.le_trans hK0 (by omega)
    have hr := ref_is (hg i (by omega)) hx k hk3
    rw [quittanceref12_Put.l0, if_pos (by omega), if_pos (by omega), if_pos (by omega), rd_at l i hil, hr, Option.bind_some, if_pos (by omega), ew,
      ref_l0 a l hg h16 hl hw K0 hK0 n (i + 1) k (acc ++ strOfNums (fb (bt a (i : Int)) l[i])) (by omega) (by omega) (by omega) (by rw [ByteArray.size_append]; omega), List.drop_eq_getElem_cons hil, body, bytes_app, bytes_str _ (fb_rng hx), List.append_assoc]
theorem putF (a : ByteArray) (l : List S47) (hs : a.size ≤ 40) (hw : ∀ x ∈ l, Wf x) (k : Nat) (hk : 100 ≤ k) : order_Put.f k a l = some (putV a l) := by
  unfold order_Put.f putV
  rw [kinds_kd, Option.bind_some]
  by_cases h : kd a = true
  · obtain ⟨h16, hg⟩ := kd_good h
    rw [if_pos h, if_pos h, putFit a l hs, Option.bind_some]
    by_cases hf : ord.fitB a (kd a) l = true
    · have hl := fitB_len hf
      rw [if_pos hf, if_pos hf]
      have := put_l0 a l hg h16 hl hw l.length 0 k [] (by omega) (by omega) (by omega) (by simp; omega)
      rw [List.drop_zero, List.nil_append] at this
      exact this
    · rw [if_neg hf, if_neg hf]
  · rw [if_neg h, if_neg h]
theorem refF (a : ByteArray) (l : List S47) (hs : a.size ≤ 40) (hw : ∀ x ∈ l, Wf x) (k : Nat) (hk : 4000 ≤ k) : quittanceref12_Put.f k a l = some (putV a l) := by
  unfold quittanceref12_Put.f putV
  rw [refKinds a hs k (by omega), Option.bind_some]
  by_cases h : kd a = true
  · obtain ⟨h16, hg⟩ := kd_good h
    rw [if_pos h, if_pos h, refFit a l hs k (by omega), Option.bind_some]
    by_cases hf : ord.fitB a (kd a) l = true
    · have hl := fitB_len hf
      rw [if_pos hf, if_pos hf]
      have e0 : (⟨#[]⟩ : ByteArray).size = 0 := rfl
      have := ref_l0 a l hg h16 hl hw 3000 (Nat.le_refl _) l.length 0 k ⟨#[]⟩ (by omega) (by omega) (by omega) (by omega)
      rw [List.drop_zero] at this
      exact this
    · rw [if_neg hf, if_neg hf]
  · rw [if_neg h, if_neg h]
/-- Numbers within their kinds: what a row gives. -/
structure Nb (x : S47) : Prop where
  n0 : 0 ≤ x.f0
  n1 : x.f0 < 18446744073709551616
  i0 : -9223372036854775808 ≤ x.f1
  i1 : x.f1 < 9223372036854775808
theorem Nb.wf {x : S47} (h : Nb x) (hs : x.f2.size ≤ 1200) : Wf x := ⟨h.n0, h.n1, h.i0, h.i1, hs⟩
end Go.Proofs.YtbghkjoejbfnbaaDoor.law12
