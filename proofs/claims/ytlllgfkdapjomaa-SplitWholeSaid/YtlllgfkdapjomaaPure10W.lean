/- Chapter 10, as numbers: the statement SplitWhole, and its walk. No conditions but that numbers are of 64 bits. -/
import Derived.Test.YtlllgfkdapjomaaPHx10
import Derived.Test.YtlllgfkdapjomaaPure10B
namespace Go.Proofs.Ytlllgfkdapjomaa.PH
open Go.RowKit Go.Proofs.YtlllgfkdapjomaaW.PrintWords Sp
section
variable {T : Int} {l out : List Int}
/-- Who got a unit more. -/
def mo (T : Int) (l out : List Int) (i : Nat) : List Bool := (List.range i).map (fun j => decide (out.getD j 0 > q T l j))
theorem mo_succ (i : Nat) : mo T l out (i + 1) = mo T l out i ++ [decide (out.getD i 0 > q T l i)] := by simp [mo, List.range_succ]
theorem mo_len (i : Nat) : (mo T l out i).length = i := by simp [mo]
theorem mo_get {n i : Nat} (h : i < n) : rdOf false (mo T l out n) (i : Int) = decide (out.getD i 0 > q T l i) := by
  unfold rdOf mo
  rw [List.getD_eq_getElem?_getD, List.getElem?_map, show ((i : Int)).toNat = i from rfl, List.getElem?_range h]
  rfl
theorem whole_l2 (hs : IsSplit T l out) (h : Ok T l) (i : Nat) (hi : i < l.length) : ∀ (d j k : Nat), j + d = l.length →
    quittancelaw10_SplitWhole.l2 (k + d + 1) l (mo T l out l.length) (rs T l) i j = quittancelaw10_SplitWhole.l1 k l (mo T l out l.length) (rs T l) ((i + 1 : Nat) : Int) := by
  have hn := h.n1
  have hlen : (mo T l out l.length).length = l.length := mo_len _
  have hlr : (rs T l).length = l.length := rs_len
  intro d
  induction d with
  | zero =>
    intro j k hj
    rw [quittancelaw10_SplitWhole.l2, if_neg (by omega), next_nat i (by omega)]
  | succ d ih =>
    intro j k hj
    have hjl : j < l.length := by omega
    have e := ih (j + 1) k (by omega)
    rw [quittancelaw10_SplitWhole.l2, if_pos (by omega), if_pos (by omega), if_pos (by omega)]
    simp only [mo_get hi, mo_get hjl, rd_nat, rs_get hi, rs_get hjl, next_nat j (show j < 9000000000000000000 by omega)]
    rw [show k + (d + 1) = k + d + 1 by omega]
    by_cases a1 : out.getD i 0 > q T l i
    · rw [if_pos (decide_eq_true a1), if_pos (by omega), if_pos (by omega)]
      by_cases a2 : out.getD j 0 > q T l j
      · rw [if_pos (decide_eq_true a2), e]
      · have o1 := hs.one i hi
        have o2 := hs.one j hjl
        have ho := hs.ord i j hi hjl (by omega) (by omega)
        rw [if_neg (by simpa using a2), if_pos (by omega), if_pos (by omega), if_neg (by omega)]
        by_cases a3 : r T l i = r T l j
        · rw [if_pos a3, if_neg (by omega), e]
        · rw [if_neg a3, e]
    · rw [if_neg (by simpa using a1), e]
theorem whole_l1 (hs : IsSplit T l out) (h : Ok T l) : ∀ (d i k : Nat), i + d = l.length → d * (l.length + 4) + 5010 < k → quittancelaw10_SplitWhole.l1 k l (mo T l out l.length) (rs T l) i = some true := by
  have hn := h.n1
  intro d
  induction d with
  | zero =>
    intro i k hi hk
    obtain ⟨k, rfl⟩ : ∃ m, k = m + 1 := ⟨k - 1, by omega⟩
    rw [quittancelaw10_SplitWhole.l1, if_neg (by omega), head_is k (by omega)]
    rfl
  | succ d ih =>
    intro i k hi hk
    rw [Nat.succ_mul] at hk
    have hil : i < l.length := by omega
    obtain ⟨k, rfl⟩ : ∃ c, k = c + l.length + 1 + 1 := ⟨k - (l.length + 2), by omega⟩
    rw [quittancelaw10_SplitWhole.l1, if_pos (by omega)]
    exact (whole_l2 hs h i hil l.length 0 k (by omega)).trans (ih (i + 1) k (by omega) (by omega))
theorem whole_l0 (hs : IsSplit T l out) (h : Ok T l) (hf : ∀ x ∈ l, Ar.fits x = true) : ∀ (d i k : Nat), i + d = l.length → d + l.length * (l.length + 4) + 5011 < k →
    quittancelaw10_SplitWhole.l0 k T l out l.sum (mo T l out i) ((rs T l).take i) i = some true := by
  have hn := h.n1
  have hl := hs.len
  intro d
  induction d with
  | zero =>
    intro i k hi hk
    obtain ⟨k, rfl⟩ : ∃ m, k = m + 1 := ⟨k - 1, by omega⟩
    obtain rfl : i = l.length := by omega
    rw [quittancelaw10_SplitWhole.l0, if_neg (by omega), List.take_of_length_le (by simp)]
    exact whole_l1 hs h l.length 0 k (by omega) (by omega)
  | succ d ih =>
    intro i k hi hk
    obtain ⟨k, rfl⟩ : ∃ m, k = m + 1 := ⟨k - 1, by omega⟩
    have hil : i < l.length := by omega
    have e := ih (i + 1) k (by omega) (by omega)
    rw [mo_succ, take_at _ _ (by simpa using hil), rs_get hil] at e
    have hc1 : (i : Int) < (out.length : Int) := by omega
    have hc2 : (mo T l out i).length < 140737488355328 := by rw [mo_len]; omega
    have hc3 : ((rs T l).take i).length < 17592186044416 := by rw [List.length_take, rs_len]; omega
    rw [quittancelaw10_SplitWhole.l0, if_pos (by omega), if_pos (by omega), rd_nat, spl.md_at h hf i hil, Option.bind_some]
    simp only [if_pos, rd_nat, next_nat i (show i < 9000000000000000000 by omega)]
    rw [if_pos hc1]
    have hq0 := h.q0 i
    have hq1 := h.q1 i
    have ht1 := h.t1
    rcases hs.one i hil with o | o
    · rw [if_pos o, if_pos hc2, if_pos hc3]
      exact e
    · rw [if_neg (by omega), w10 (by omega) (by omega), if_pos o, if_neg (hs.rest h i hil o), if_pos hc2, if_pos hc3]
      exact e
theorem fits_ok (h : Ok T l) : Ar.fits l.sum = true ∧ Ar.fits T = true := by
  have := h.a0
  have := h.a1
  have := h.t0
  have := h.t1
  simp [Ar.fits]
  omega
theorem out_fits (hs : IsSplit T l out) (h : Ok T l) : ∀ x ∈ out, Ar.fits x = true := fun x hx => by
  obtain ⟨j, hj, rfl⟩ := List.mem_iff_getElem.1 hx
  have hl := hs.len
  have hj' : j < l.length := by omega
  have e : out[j] = out.getD j 0 := by rw [List.getD_eq_getElem?_getD, List.getElem?_eq_getElem hj]; rfl
  have := hs.one j hj'
  have := h.q0 j
  have := h.q1 j
  have := h.t1
  rw [e]
  generalize out.getD j 0 = y at *
  simp [Ar.fits]
  omega
end
theorem whole (T : Int) (l : List Int) (hf : ∀ x ∈ l, Ar.fits x = true) : quittancelaw10_SplitWhole.f 200000 T l = some true := by
  unfold quittancelaw10_SplitWhole.f
  rw [split_f hf, Option.bind_some]
  by_cases h : Ok T l
  · have hs := outOf_ok h
    rw [ans_ok h]
    simp only [if_pos]
    rw [quittancelaw10_SplitWhole.j0]
    by_cases hl : (l.length : Int) > 300
    · rw [if_pos (decide_eq_true hl), if_pos rfl, head_is _ (by omega)]
      rfl
    · have hn0 := h.n0
      have hol := hs.len
      have ff := fits_ok h
      have s1 : arith_Sum.f l = some (l.sum, true) := by
        unfold arith_Sum.f
        rw [if_pos ⟨by intro e; rw [e] at hn0; simp at hn0, by omega, hf⟩, Ar.fitV, if_pos ff.1, ff.1]
      have s2 : arith_Sum.f (outOf T l) = some (T, true) := by
        unfold arith_Sum.f
        rw [if_pos ⟨by intro e; rw [e] at hol; simp at hol; omega, by omega, out_fits hs h⟩, hs.sum, Ar.fitV, if_pos ff.2, ff.2]
      have hmul : l.length * (l.length + 4) ≤ 300 * 304 := Nat.mul_le_mul (by omega) (by omega)
      rw [if_neg (by simpa using hl), s1, Option.bind_some, s2, Option.bind_some]
      simp only [if_pos]
      rw [quittancelaw10_SplitWhole.j1, if_neg (by simp [hol])]
      exact whole_l0 hs h hf l.length 0 _ (by omega) (by omega)
  · rw [ans_no h]
    simp only [show ¬ ((2 : Int) = 0) by omega, if_false]
    rw [quittancelaw10_SplitWhole.j0, if_pos rfl, if_neg (by omega), if_pos (show (([] : List Int).length : Int) = 0 from rfl), head_is _ (by omega)]
    rfl
end Go.Proofs.Ytlllgfkdapjomaa.PH
namespace Go.Proofs.Ytlllgfkdapjomaa.law10
open Go.RowKit Go.ChangeShapes Go.Proofs.Ytlllgfkdapjomaa.PH Go.Proofs.YtlllgfkdapjomaaW.PrintWords
theorem splitWhole (a0 : Int) (a1 : Option Addr) (len1 cap1 : Nat) (z1 : List Int) (w : World) (_ : (Lit.int .i64 a0).wf = true) (w1 : Row w a1 len1 cap1 z1) :
    Calls Try.prog 4 #[.int .i64 a0, .slice a1 len1 cap1] w fun e w' => e = .returned (.bool true) ∧ Below w.heap.size w w' := by
  obtain ⟨l1, rfl, hr1, hm1, hw1, hc1⟩ := ReadsInt.ofRowC w1
  exact quittancelaw10_SplitWhole.calls 200000 a0 _ _ l1 true w (Kd.C_of_reads (d := (0 : Int)) (h1 := fun _ => rfl) hr1) hc1 (whole a0 l1 (fits_of hw1))
end Go.Proofs.Ytlllgfkdapjomaa.law10
