/- Chapter 10, as numbers: the statement SplitScale, and its walk. No conditions but that numbers are of 64 bits. -/
import Derived.Test.YtlllgfkdapjomaaPHx13
import Derived.Test.YtlllgfkdapjomaaPure10B
namespace Go.Proofs.Ytlllgfkdapjomaa.PH
open Go.RowKit Go.Proofs.YtlllgfkdapjomaaW.PrintWords Sp
theorem scale_l0 (T : Int) (l : List Int) (c : Int) (hc : 0 < c) (hc1 : c ≤ 70000) (hf : ∀ x ∈ l, Ar.fits x = true) (hl : l.length ≤ 300) : ∀ (d i k : Nat), i + d = l.length → d + 100000 < k → (∀ x ∈ l.take i, Ar.fits (c * x) = true) →
    quittancelaw10_SplitScale.l0 k T l c ((l.take i).map (c * ·)) i = some true := by
  intro d
  induction d with
  | zero =>
    intro i k hi hk hfit
    obtain ⟨k, rfl⟩ : ∃ m, k = m + 1 := ⟨k - 1, by omega⟩
    rw [List.take_of_length_le (by omega)] at hfit ⊢
    have hf2 : ∀ x ∈ l.map (c * ·), Ar.fits x = true := fun x hx => by
      obtain ⟨y, hy, rfl⟩ := List.mem_map.1 hx
      exact hfit y hy
    rw [quittancelaw10_SplitScale.l0, if_neg (by omega), split_f hf, Option.bind_some, split_f hf2, Option.bind_some]
    by_cases h : Ok T (l.map (c * ·))
    · have h' := h.unscale c hc
      have hs := outOf_ok h'
      rw [ans_ok h, ans_ok h', outOf_is (hs.scale c hc)]
      simp only [if_pos]
      rw [same_self _ (by rw [hs.len]; omega) k (by omega)]
      simp only [Option.bind_some, if_pos, head_is k (by omega)]
    · rw [ans_no h]
      simp only [show ¬ ((2 : Int) = 0) by omega, if_false, List.length_nil, Int.natCast_zero, if_pos, head_is k (by omega), Option.bind_some]
  | succ d ih =>
    intro i k hi hk hfit
    obtain ⟨k, rfl⟩ : ∃ m, k = m + 1 := ⟨k - 1, by omega⟩
    have hil : i < l.length := by omega
    have hfc : Ar.fits c = true := by simp [Ar.fits]; omega
    have hfi : Ar.fits (l.getD i 0) = true := by
      rw [List.getD_eq_getElem?_getD, List.getElem?_eq_getElem hil]
      exact hf _ (List.getElem_mem hil)
    rw [quittancelaw10_SplitScale.l0, if_pos (by omega), if_pos (by omega), rd_nat, arith_Mul.f, if_pos ⟨hfi, hfc⟩, Option.bind_some]
    by_cases hx : Ar.fits (l.getD i 0 * c) = true
    · simp only [hx, if_pos, Ar.fitV]
      rw [if_pos (by simp; omega), next_nat i (by omega)]
      have e : (l.take i).map (c * ·) ++ [l.getD i 0 * c] = (l.take (i + 1)).map (c * ·) := by rw [take_at l i hil, List.map_append, Int.mul_comm]; rfl
      rw [e]
      refine ih (i + 1) k (by omega) (by omega) (fun x hx' => ?_)
      rw [take_at l i hil] at hx'
      rcases List.mem_append.1 hx' with q | q
      · exact hfit x q
      · rw [List.mem_singleton.1 q, Int.mul_comm]
        exact hx
    · simp only [hx, Bool.false_eq_true, if_false, head_is k (by omega), Option.bind_some]
theorem scale (T : Int) (l : List Int) (a : Int) (ha0 : 0 ≤ a) (ha1 : a < 65536) (hf : ∀ x ∈ l, Ar.fits x = true) : quittancelaw10_SplitScale.f 200000 T l a = some true := by
  unfold quittancelaw10_SplitScale.f
  by_cases hl : (l.length : Int) > 300
  · rw [if_pos hl, head_is _ (by omega)]
    rfl
  · rw [if_neg hl, w10 (x := a) (by omega) (by omega), w10 (by omega) (by omega)]
    have := scale_l0 T l (1 + a) (by omega) (by omega) hf (by omega) l.length 0 200000 (by omega) (by omega) (by simp)
    simpa using this
end Go.Proofs.Ytlllgfkdapjomaa.PH
namespace Go.Proofs.Ytlllgfkdapjomaa.law10
open Go.RowKit Go.ChangeShapes Go.Proofs.Ytlllgfkdapjomaa.PH Go.Proofs.YtlllgfkdapjomaaW.PrintWords
theorem splitScale (a0 : Int) (a1 : Option Addr) (len1 cap1 : Nat) (z1 : List Int) (a2 : Int) (w : World) (_ : (Lit.int .i64 a0).wf = true) (w1 : Row w a1 len1 cap1 z1) (w2 : (Lit.int .u16 a2).wf = true) :
    Calls Try.prog 6 #[.int .i64 a0, .slice a1 len1 cap1, .int .u16 a2] w fun e w' => e = .returned (.bool true) ∧ Below w.heap.size w w' := by
  obtain ⟨l1, rfl, hr1, hm1, hw1, hc1⟩ := ReadsInt.ofRowC w1
  have hb : 0 ≤ a2 ∧ a2 < 65536 := by
    have := bounds_u16 w2
    omega
  exact quittancelaw10_SplitScale.calls 200000 a0 _ _ l1 a2 true w (Kd.C_of_reads (d := (0 : Int)) (h1 := fun _ => rfl) hr1) hc1 (scale a0 l1 a2 hb.1 hb.2 (fits_of hw1))
end Go.Proofs.Ytlllgfkdapjomaa.law10
