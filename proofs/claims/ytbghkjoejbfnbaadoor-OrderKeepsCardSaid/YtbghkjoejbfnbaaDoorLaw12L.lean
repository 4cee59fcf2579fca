/- Texts that begin with a text stand between it and the least one above: plain law. No conditions. -/
import Derived.Test.YtbghkjoejbfnbaaDoorPOrdA
namespace Go.Proofs.YtbghkjoejbfnbaaDoor.law12
open Go.RowKit Go.Proofs.YtbghkjoejbfnbaaDoorW.PrintWords Go.Proofs.YtbghkjoejbfnbaaDoor
theorem less_nil (t : List UInt8) : Op.bytesLess t [] = false := by cases t <;> rfl
theorem less_cons (a b : UInt8) (x y : List UInt8) : Op.bytesLess (a :: x) (b :: y) = (decide (a < b) || (a == b && Op.bytesLess x y)) := rfl
theorem u8_lt (a b : UInt8) : a < b ↔ a.toNat < b.toNat := Iff.rfl
theorem pre_ff : ∀ (f t : List UInt8), (∀ c ∈ f, c = 255) → f.isPrefixOf t = !(Op.bytesLess t f)
  | [], t, _ => by rw [less_nil]; simp
  | c :: f, [], _ => rfl
  | c :: f, a :: t, h => by
    obtain rfl := h c (by simp)
    have ih := pre_ff f t (fun x hx => h x (by simp [hx]))
    rw [less_cons, List.isPrefixOf, ih]
    by_cases ha : a = 255
    · subst ha; simp
    · have : a < 255 := by
        rw [u8_lt]
        have h1 := a.toNat_lt
        have h2 : a.toNat ≠ 255 := fun q => ha (UInt8.toNat_inj.1 q)
        have h3 : (255 : UInt8).toNat = 255 := rfl
        omega
      have hne : (255 == a) = false := by rw [beq_eq_false_iff_ne]; exact fun q => ha q.symm
      simp [this, hne]
theorem pre_up : ∀ (p f t : List UInt8) (c : UInt8), c ≠ 255 → (∀ x ∈ f, x = 255) → (p ++ c :: f).isPrefixOf t = (!(Op.bytesLess t (p ++ c :: f)) && Op.bytesLess t (p ++ [c + 1]))
  | [], f, [], c, _, _ => rfl
  | [], f, a :: t, c, hc, hf => by
    have ih := pre_ff f t hf
    have hc1 : (c + 1).toNat = c.toNat + 1 := by
      have h1 := c.toNat_lt
      have h2 : c.toNat ≠ 255 := fun q => hc (UInt8.toNat_inj.1 q)
      rw [UInt8.toNat_add]
      have h3 : (1 : UInt8).toNat = 1 := rfl
      omega
    rw [List.nil_append, List.nil_append, less_cons, less_cons, List.isPrefixOf, ih, less_nil]
    rcases Nat.lt_trichotomy a.toNat c.toNat with h | h | h
    · have h1 : a < c := h
      have h2 : (c == a) = false := by rw [beq_eq_false_iff_ne]; rintro rfl; omega
      simp [h1, h2]
    · obtain rfl := UInt8.toNat_inj.1 h
      have h1 : a < a + 1 := by rw [u8_lt, hc1]; omega
      have h2 : ¬ a < a := by rw [u8_lt]; omega
      simp [h1, h2]
    · have h1 : ¬ a < c := by rw [u8_lt]; omega
      have h2 : (c == a) = false := by rw [beq_eq_false_iff_ne]; rintro rfl; omega
      have h3 : ¬ a < c + 1 := by rw [u8_lt, hc1]; omega
      simp [h2, h3]
  | d :: p, f, [], c, _, _ => rfl
  | d :: p, f, a :: t, c, hc, hf => by
    have ih := pre_up p f t c hc hf
    rw [List.cons_append, List.cons_append, less_cons, less_cons, List.isPrefixOf, ih]
    rcases Nat.lt_trichotomy a.toNat d.toNat with h | h | h
    · have h1 : a < d := h
      have h2 : (d == a) = false := by rw [beq_eq_false_iff_ne]; rintro rfl; omega
      simp [h1, h2]
    · obtain rfl := UInt8.toNat_inj.1 h
      have h2 : ¬ a < a := by rw [u8_lt]; omega
      simp [h2]
    · have h1 : ¬ a < d := by rw [u8_lt]; omega
      have h2 : (d == a) = false := by rw [beq_eq_false_iff_ne]; rintro rfl; omega
      have h3 : (a == d) = false := by rw [beq_eq_false_iff_ne]; rintro rfl; omega
      simp [h1, h2, h3]
/-- How a text stands, told by its last bytes that are ff. -/
theorem strip_shape (s : ByteArray) : ∀ n, n ≤ s.size → ∃ f : List UInt8, (∀ x ∈ f, x = 255) ∧ s.data.toList.take n = s.data.toList.take (ord.stripN s n) ++ f
  | 0, _ => ⟨[], by simp, by simp [ord.stripN]⟩
  | n + 1, hn => by
    unfold ord.stripN
    by_cases h : bt s (n : Int) = 255
    · rw [if_pos h]
      obtain ⟨f, h1, h2⟩ := strip_shape s n (by omega)
      have hl : n < s.data.toList.length := by rw [Array.length_toList]; exact hn
      refine ⟨f ++ [255], ?_, ?_⟩
      · intro x hx
        rcases List.mem_append.1 hx with hx | hx
        · exact h1 x hx
        · simpa using hx
      · rw [List.take_succ_eq_append_getElem hl, h2, List.append_assoc]
        congr 2
        have e := bt_at s (n : Int) (show (n : Int).toNat < s.size by simpa using (show n < s.size from hn))
        rw [h] at e
        have e2 : s.data.toList[n] = s[n]'hn := by simp; rfl
        rw [e2]
        have : (s[n]'hn).toNat = 255 := by have := e; simp at this; omega
        rw [UInt8.toNat_inj.1 (show (s[n]'hn).toNat = (255 : UInt8).toNat from this)]
    · rw [if_neg h]
      exact ⟨[], by simp, by simp⟩
end Go.Proofs.YtbghkjoejbfnbaaDoor.law12
