/- Chapter 10, as numbers: the statement SplitOrder, and its walk. No conditions but that numbers are of 64 bits. -/
import Derived.Test.YtlllgfkdapjomaaPHx11
import Derived.Test.YtlllgfkdapjomaaPure10B
namespace Go.Proofs.Ytlllgfkdapjomaa.PH
open Go.RowKit Go.Proofs.YtlllgfkdapjomaaW.PrintWords Sp
section
variable {T : Int} {l out : List Int}
theorem order_l1 (hs : IsSplit T l out) (h : Ok T l) (i : Nat) (hi : i < l.length) : ∀ (d j k : Nat), j + d = l.length →
    quittancelaw10_SplitOrder.l1 (k + d + 1) l out i j = quittancelaw10_SplitOrder.l0 k l out ((i + 1 : Nat) : Int) := by
  have hn := h.n1
  have hl := hs.len
  intro d
  induction d with
  | zero =>
    intro j k hj
    rw [quittancelaw10_SplitOrder.l1, if_neg (by omega), next_nat i (by omega)]
  | succ d ih =>
    intro j k hj
    have hjl : j < l.length := by omega
    rw [quittancelaw10_SplitOrder.l1, if_pos (by omega), if_pos (by omega), if_pos (by omega), if_pos (by omega)]
    simp only [rd_nat, next_nat j (show j < 9000000000000000000 by omega)]
    have hm := hs.mono h i j hi hjl
    have e := ih (j + 1) k (by omega)
    have hc1 : (i : Int) < (out.length : Int) := by omega
    have hc2 : (j : Int) < (out.length : Int) := by omega
    rw [show k + (d + 1) = k + d + 1 by omega]
    by_cases a1 : l.getD i 0 > l.getD j 0
    · rw [if_pos a1, if_pos hc1, if_pos hc2, if_neg (by have := hm (.inl a1); omega), e]
    · rw [if_neg a1]
      by_cases a2 : l.getD i 0 = l.getD j 0
      · rw [if_pos a2]
        by_cases a3 : (i : Int) < (j : Int)
        · rw [if_pos a3, if_pos hc1, if_pos hc2, if_neg (by have := hm (.inr ⟨a2.symm, by omega⟩); omega), e]
        · rw [if_neg a3, e]
      · rw [if_neg a2, e]
theorem order_l0 (hs : IsSplit T l out) (h : Ok T l) : ∀ (d i k : Nat), i + d = l.length → d * (l.length + 4) + 5010 < k → quittancelaw10_SplitOrder.l0 k l out i = some true := by
  have hn := h.n1
  have hl := hs.len
  intro d
  induction d with
  | zero =>
    intro i k hi hk
    obtain ⟨k, rfl⟩ : ∃ m, k = m + 1 := ⟨k - 1, by omega⟩
    rw [quittancelaw10_SplitOrder.l0, if_neg (by omega), head_is k (by omega)]
    rfl
  | succ d ih =>
    intro i k hi hk
    rw [Nat.succ_mul] at hk
    have hil : i < l.length := by omega
    obtain ⟨k, rfl⟩ : ∃ c, k = c + l.length + 1 + 1 + 1 := ⟨k - (l.length + 3), by omega⟩
    have e := order_l1 hs h i hil l.length 0 k (by omega)
    have e2 := ih (i + 1) k (by omega) (by omega)
    have hj : quittancelaw10_SplitOrder.j2 (k + l.length + 1 + 1) l out i false = some true := by
      rw [quittancelaw10_SplitOrder.j2, if_neg (by decide)]
      exact e.trans e2
    have hnn := hs.nn h i hil
    rw [quittancelaw10_SplitOrder.l0, if_pos (by omega), if_pos (by omega)]
    simp only [rd_nat]
    have hc1 : (i : Int) < (out.length : Int) := by omega
    by_cases a1 : l.getD i 0 = 0
    · rw [if_pos a1, if_pos hc1, if_pos (hs.zero h i hil a1), decide_eq_false (by omega)]
      exact hj
    · rw [if_neg a1, if_pos hc1, decide_eq_false (by omega)]
      exact hj
end
theorem order (T : Int) (l : List Int) (hf : ∀ x ∈ l, Ar.fits x = true) : quittancelaw10_SplitOrder.f 200000 T l = some true := by
  unfold quittancelaw10_SplitOrder.f
  rw [split_f hf, Option.bind_some]
  by_cases h : Ok T l
  · have hs := outOf_ok h
    rw [ans_ok h]
    simp only [if_pos]
    rw [quittancelaw10_SplitOrder.j0]
    by_cases hl : (l.length : Int) > 300
    · rw [if_pos (decide_eq_true hl), head_is _ (by omega)]
      rfl
    · rw [if_neg (by simpa using hl), if_pos (by rw [hs.len])]
      have hmul : l.length * (l.length + 4) ≤ 300 * 304 := Nat.mul_le_mul (by omega) (by omega)
      exact order_l0 hs h l.length 0 _ (by omega) (by omega)
  · rw [ans_no h]
    simp only [show ¬ ((2 : Int) = 0) by omega, if_false]
    rw [quittancelaw10_SplitOrder.j0, if_pos rfl, head_is _ (by omega)]
    rfl
end Go.Proofs.Ytlllgfkdapjomaa.PH
namespace Go.Proofs.Ytlllgfkdapjomaa.law10
open Go.RowKit Go.ChangeShapes Go.Proofs.Ytlllgfkdapjomaa.PH Go.Proofs.YtlllgfkdapjomaaW.PrintWords
theorem splitOrder (a0 : Int) (a1 : Option Addr) (len1 cap1 : Nat) (z1 : List Int) (w : World) (_ : (Lit.int .i64 a0).wf = true) (w1 : Row w a1 len1 cap1 z1) :
    Calls Try.prog 5 #[.int .i64 a0, .slice a1 len1 cap1] w fun e w' => e = .returned (.bool true) ∧ Below w.heap.size w w' := by
  obtain ⟨l1, rfl, hr1, hm1, hw1, hc1⟩ := ReadsInt.ofRowC w1
  exact quittancelaw10_SplitOrder.calls 200000 a0 _ _ l1 true w (Kd.C_of_reads (d := (0 : Int)) (h1 := fun _ => rfl) hr1) hc1 (order a0 l1 (fits_of hw1))
end Go.Proofs.Ytlllgfkdapjomaa.law10
