/- Chapter 10, as numbers: the statement SplitTells, and its walk. No conditions but that numbers are of 64 bits. -/
import Derived.Test.YtlllgfkdapjomaaPHx8
import Derived.Test.YtlllgfkdapjomaaPure10B
namespace Go.Proofs.Ytlllgfkdapjomaa.PH
open Go.RowKit Go.Proofs.YtlllgfkdapjomaaW.PrintWords Sp
theorem ones_fit (m : Nat) : ∀ x ∈ List.replicate m (1 : Int), Ar.fits x = true := fun x hx => by rw [(List.mem_replicate.1 hx).2]; decide
theorem tells_j3 (T n : Int) (k : Nat) (hk : 110000 ≤ k) (m : Nat) (hm : (n ≤ 0 ∧ m = 0) ∨ ((m : Int) = n ∧ 1 ≤ n ∧ n ≤ 100) ∨ (m = 4097 ∧ 4096 < n)) :
    quittancelaw10_SplitTells.j3 k T n (List.replicate m 1) = some true := by
  obtain ⟨k, rfl⟩ : ∃ m, k = m + 1 := ⟨k - 1, by omega⟩
  have h1 : split_Even.f T n = some (ans T (List.replicate m 1)) := by
    unfold split_Even.f
    rcases hm with ⟨h, rfl⟩ | ⟨h, _⟩ | ⟨rfl, h⟩
    · rw [if_pos (by omega), ans_no]
      intro q
      have := q.n0
      simp at this
    · rw [if_neg (by omega), show n.toNat = m by omega, split_f (ones_fit m)]
    · rw [if_pos (by omega), ans_no]
      intro q
      have := q.n1
      rw [List.length_replicate] at this
      omega
  rw [quittancelaw10_SplitTells.j3, h1, Option.bind_some, ref_f (ones_fit m) (by simp; omega) (by omega), Option.bind_some]
  simp only [same_self _ (Nat.le_trans (ans_len T _) (by decide)) k (by omega), Option.bind_some, if_pos, head_is k (by omega)]
theorem tells_l0 (T n : Int) (hn : ¬ (100 < n ∧ n ≤ 4096)) : ∀ (d i k : Nat), i + d = 4097 → (i : Int) ≤ max n 0 → d + 110000 < k → quittancelaw10_SplitTells.l0 k T n (List.replicate i 1) i = some true := by
  intro d
  induction d with
  | zero =>
    intro i k hi hle hk
    obtain ⟨k, rfl⟩ : ∃ m, k = m + 1 := ⟨k - 1, by omega⟩
    rw [quittancelaw10_SplitTells.l0]
    by_cases h1 : (i : Int) < n
    · rw [if_pos h1, if_neg (by omega)]
      exact tells_j3 T n k (by omega) i (by omega)
    · rw [if_neg h1]
      exact tells_j3 T n k (by omega) i (by omega)
  | succ d ih =>
    intro i k hi hle hk
    obtain ⟨k, rfl⟩ : ∃ m, k = m + 1 := ⟨k - 1, by omega⟩
    rw [quittancelaw10_SplitTells.l0]
    by_cases h1 : (i : Int) < n
    · rw [if_pos h1, if_pos (by omega), if_pos (by simp; omega), next_nat i (by omega), ← List.replicate_succ']
      exact ih (i + 1) k (by omega) (by omega) (by omega)
    · rw [if_neg h1]
      exact tells_j3 T n k (by omega) i (by omega)
theorem tells_j0 (T : Int) (l : List Int) (n : Int) (k : Nat) (hk : 200000 ≤ k) (hf : ∀ x ∈ l, Ar.fits x = true) (b : Bool) (hb : b = false → (l.length ≤ 100 ∨ 4096 < l.length) ∧ l.length ≤ 4200 ∧ ¬ (100 < n ∧ n ≤ 4096)) :
    quittancelaw10_SplitTells.j0 k T l n b = some true := by
  obtain ⟨k, rfl⟩ : ∃ m, k = m + 1 := ⟨k - 1, by omega⟩
  rw [quittancelaw10_SplitTells.j0]
  cases b with
  | true => simp only [if_pos, head_is k (by omega), Option.bind_some]
  | false =>
    obtain ⟨h1, h2, h3⟩ := hb rfl
    simp only [Bool.false_eq_true, if_false, Option.bind_some, List.nil_append]
    rw [if_pos (by simp; omega), split_f hf, Option.bind_some, ref_f hf (by omega) (by omega), Option.bind_some]
    simp only [same_self _ (Nat.le_trans (ans_len T _) (by decide)) k (by omega), same_self l (by omega) k (by omega), Option.bind_some, if_pos, Bool.not_true]
    obtain ⟨k, rfl⟩ : ∃ m, k = m + 1 := ⟨k - 1, by omega⟩
    rw [quittancelaw10_SplitTells.j1, if_neg (by decide)]
    exact tells_l0 T n h3 4097 0 k (by omega) (by omega) (by omega)
theorem tells (T : Int) (l : List Int) (n : Int) (hf : ∀ x ∈ l, Ar.fits x = true) : quittancelaw10_SplitTells.f 200000 T l n = some true := by
  unfold quittancelaw10_SplitTells.f
  split
  · split
    · exact tells_j0 T l n _ (by omega) hf _ (fun q => by cases q)
    · split
      · exact tells_j0 T l n _ (by omega) hf _ (fun q => by cases q)
      · split
        · exact tells_j0 T l n _ (by omega) hf _ (fun q => by have := of_decide_eq_false q; omega)
        · exact tells_j0 T l n _ (by omega) hf _ (fun q => by omega)
  · split
    · exact tells_j0 T l n _ (by omega) hf _ (fun q => by cases q)
    · split
      · exact tells_j0 T l n _ (by omega) hf _ (fun q => by have := of_decide_eq_false q; omega)
      · exact tells_j0 T l n _ (by omega) hf _ (fun q => by omega)
end Go.Proofs.Ytlllgfkdapjomaa.PH
namespace Go.Proofs.Ytlllgfkdapjomaa.law10
open Go.RowKit Go.ChangeShapes Go.Proofs.Ytlllgfkdapjomaa.PH Go.Proofs.YtlllgfkdapjomaaW.PrintWords
theorem splitTells (a0 : Int) (a1 : Option Addr) (len1 cap1 : Nat) (z1 : List Int) (a2 : Int) (w : World) (_ : (Lit.int .i64 a0).wf = true) (w1 : Row w a1 len1 cap1 z1) (_ : (Lit.int .i64 a2).wf = true) :
    Calls Try.prog 3 #[.int .i64 a0, .slice a1 len1 cap1, .int .i64 a2] w fun e w' => e = .returned (.bool true) ∧ Below w.heap.size w w' := by
  obtain ⟨l1, rfl, hr1, hm1, hw1, hc1⟩ := ReadsInt.ofRowC w1
  exact quittancelaw10_SplitTells.calls 200000 a0 _ _ l1 a2 true w (Kd.C_of_reads (d := (0 : Int)) (h1 := fun _ => rfl) hr1) hc1 (tells a0 l1 a2 (fits_of hw1))
end Go.Proofs.Ytlllgfkdapjomaa.law10
