/- Chapter 10, as numbers: what the document's Split answers is what split.Split answers. No conditions but that numbers are of 64 bits. -/
import Derived.Test.YtlllgfkdapjomaaPHx4
import Derived.Test.YtlllgfkdapjomaaPHx5
import Derived.Test.YtlllgfkdapjomaaPSplit
import Derived.Test.YtlllgfkdapjomaaSplR
namespace Go.Proofs.Ytlllgfkdapjomaa.PH
open Go.RowKit Go.Proofs.YtlllgfkdapjomaaW.PrintWords Sp
theorem w10 {x : Int} (h1 : -9223372036854775808 ≤ x) (h2 : x ≤ 9223372036854775807) : wrap64 x = x := by unfold wrap64; omega
theorem rd_nat (l : List Int) (i : Nat) : rd l (i : Int) = l.getD i 0 := by simp [rd]
theorem next_nat (i : Nat) (h : i < 9000000000000000000) : wrap64 ((i : Int) + 1) = ((i + 1 : Nat) : Int) := by rw [w10] <;> omega
theorem drop_at (l : List Int) (i : Nat) (h : i < l.length) : l.drop i = l.getD i 0 :: l.drop (i + 1) := by
  rw [List.drop_eq_getElem_cons h, List.getD_eq_getElem?_getD, List.getElem?_eq_getElem h]
  rfl
theorem sum_at (l : List Int) (i : Nat) : l.sum = (l.take i).sum + (l.drop i).sum := by rw [← List.sum_append, List.take_append_drop]
theorem take_at (l : List Int) (i : Nat) (h : i < l.length) : l.take (i + 1) = l.take i ++ [l.getD i 0] := by
  rw [List.take_succ_eq_append_getElem h, List.getD_eq_getElem?_getD, List.getElem?_eq_getElem h]
  rfl
theorem all_l0 (l : List Int) (hn : l.length ≤ 4096) : ∀ (d i k : Nat), i + d = l.length → d < k → 0 ≤ (l.take i).sum → (l.take i).sum < 4611686018427387904 →
    quittanceref10_All.l0 k l (l.take i).sum i = some (open Classical in if (∀ x ∈ l.drop i, 0 ≤ x) ∧ l.sum < 4611686018427387904 then (l.sum, decide (l.sum > 0)) else (0, false)) := by
  intro d
  induction d with
  | zero =>
    intro i k hi hk h0 h1
    obtain ⟨k, rfl⟩ : ∃ m, k = m + 1 := ⟨k - 1, by omega⟩
    have e : l.take i = l := List.take_of_length_le (by omega)
    have e2 : l.drop i = [] := List.drop_eq_nil_of_le (by omega)
    rw [quittanceref10_All.l0, if_neg (by omega)]
    rw [e] at h0 h1 ⊢
    rw [e2, if_pos ⟨by simp, h1⟩]
  | succ d ih =>
    intro i k hi hk h0 h1
    obtain ⟨k, rfl⟩ : ∃ m, k = m + 1 := ⟨k - 1, by omega⟩
    have hil : i < l.length := by omega
    have hd := drop_at l i hil
    have ht := take_at l i hil
    have hs := sum_at l i
    rw [quittanceref10_All.l0, if_pos (by omega), if_pos (by omega), rd_nat]
    rw [hd] at hs ⊢
    generalize l.getD i 0 = x at hs ht ⊢
    rw [List.sum_cons] at hs
    have hmem : (∀ y ∈ x :: l.drop (i + 1), 0 ≤ y) ↔ 0 ≤ x ∧ ∀ y ∈ l.drop (i + 1), 0 ≤ y := by simp
    have hge : (∀ y ∈ l.drop (i + 1), 0 ≤ y) → 0 ≤ (l.drop (i + 1)).sum := sum_ge0 _
    by_cases a1 : x < 0
    · rw [if_pos a1, if_neg (fun q => by have := (hmem.1 q.1).1; omega)]
    · rw [if_neg a1]
      by_cases a2 : x ≥ 4611686018427387904
      · rw [if_pos a2, if_neg (fun q => by have := hge (hmem.1 q.1).2; omega)]
      · rw [if_neg a2, w10 (by omega) (by omega)]
        by_cases a3 : (l.take i).sum + x ≥ 4611686018427387904
        · rw [if_pos a3, if_neg (fun q => by have := hge (hmem.1 q.1).2; omega)]
        · have et : (l.take i).sum + x = (l.take (i + 1)).sum := by rw [ht, List.sum_append]; simp
          rw [if_neg a3, next_nat i (by omega), et]
          rw [ih (i + 1) k (by omega) (by omega) (by omega) (by omega)]
          congr 1
          have hiff : ((∀ y ∈ x :: l.drop (i + 1), 0 ≤ y) ∧ l.sum < 4611686018427387904) ↔ ((∀ y ∈ l.drop (i + 1), 0 ≤ y) ∧ l.sum < 4611686018427387904) := by
            rw [hmem]
            constructor
            · exact fun q => ⟨q.1.2, q.2⟩
            · exact fun q => ⟨⟨by omega, q.1⟩, q.2⟩
          by_cases hc : (∀ y ∈ l.drop (i + 1), 0 ≤ y) ∧ l.sum < 4611686018427387904
          · rw [if_pos hc, if_pos (hiff.2 hc)]
          · rw [if_neg hc, if_neg (fun q => hc (hiff.1 q))]
theorem sumB_iff {l : List Int} : sumB l = true ↔ okW l ∧ 0 < l.sum ∧ l.sum < 4611686018427387904 := by
  simp only [sumB, Bool.and_eq_true, decide_eq_true_eq]
  constructor
  · rintro ⟨h1, ⟨h2, h3⟩, h4⟩
    rw [Ar.fitV, if_pos h2] at h3 h4
    exact ⟨h1, h3, h4⟩
  · rintro ⟨h1, h2, h3⟩
    have hf : Ar.fits l.sum = true := by simp [Ar.fits]; omega
    rw [Ar.fitV, if_pos hf]
    exact ⟨h1, ⟨hf, h2⟩, h3⟩
theorem all_is (l : List Int) (k : Nat) (hk : 4100 ≤ k) : quittanceref10_All.f k l = some (if sumB l = true then (l.sum, true) else (0, false)) := by
  obtain ⟨k, rfl⟩ : ∃ m, k = m + 1 := ⟨k - 1, by omega⟩
  unfold quittanceref10_All.f
  by_cases h1 : (l.length : Int) < 1
  · rw [if_pos h1, quittanceref10_All.j0, if_pos rfl, if_neg]
    intro q
    have := (sumB_iff.1 q).1.1
    omega
  · rw [if_neg h1, quittanceref10_All.j0]
    by_cases h2 : (l.length : Int) > 4096
    · rw [if_pos (decide_eq_true h2), if_neg]
      intro q
      have := (sumB_iff.1 q).1.2.1
      omega
    · rw [if_neg (by simpa using h2)]
      have := all_l0 l (by omega) l.length 0 k (by omega) (by omega) (by simp) (by simp)
      simp only [List.take_zero, List.sum_nil, List.drop_zero, Int.natCast_zero] at this
      rw [this]
      congr 1
      by_cases hc : (∀ y ∈ l, 0 ≤ y) ∧ l.sum < 4611686018427387904
      · rw [if_pos hc]
        have h0 := sum_ge0 l hc.1
        by_cases hp : l.sum > 0
        · rw [if_pos (sumB_iff.2 ⟨⟨by omega, by omega, hc.1⟩, hp, hc.2⟩), decide_eq_true hp]
        · rw [if_neg (fun q => hp (sumB_iff.1 q).2.1), decide_eq_false hp, show l.sum = 0 by omega]
      · rw [if_neg hc, if_neg (fun q => hc ⟨(sumB_iff.1 q).1.2.2, (sumB_iff.1 q).2.2⟩)]
theorem shares_l0 {T : Int} {l : List Int} (h : Ok T l) (hf : ∀ x ∈ l, Ar.fits x = true) : ∀ (d i k : Nat), i + d = l.length → d < k →
    quittanceref10_Shares.l0 k T l l.sum ((qs T l).take i) ((rs T l).take i) i = some (qs T l, rs T l) := by
  have hn := h.n1
  intro d
  induction d with
  | zero =>
    intro i k hi hk
    obtain ⟨k, rfl⟩ : ∃ m, k = m + 1 := ⟨k - 1, by omega⟩
    rw [quittanceref10_Shares.l0, if_neg (by omega), List.take_of_length_le (by simp; omega), List.take_of_length_le (by simp; omega)]
  | succ d ih =>
    intro i k hi hk
    obtain ⟨k, rfl⟩ : ∃ m, k = m + 1 := ⟨k - 1, by omega⟩
    have hil : i < l.length := by omega
    have hmd : quittanceref07_MulDiv.f T (l.getD i 0) l.sum = some (q T l i, r T l i, true) := spl.md_at h hf i hil
    rw [quittanceref10_Shares.l0, if_pos (by omega), if_pos (by omega), rd_nat, hmd, Option.bind_some]
    rw [if_pos (by simp; omega), if_pos (by simp; omega), next_nat i (by omega)]
    have e1 : (qs T l).take i ++ [q T l i] = (qs T l).take (i + 1) := by rw [take_at _ _ (by simpa using hil), qs_get hil]
    have e2 : (rs T l).take i ++ [r T l i] = (rs T l).take (i + 1) := by rw [take_at _ _ (by simpa using hil), rs_get hil]
    simp only [e1, e2]
    exact ih (i + 1) k (by omega) (by omega)
theorem shares_is {T : Int} {l : List Int} (h : Ok T l) (hf : ∀ x ∈ l, Ar.fits x = true) (hb : sumB l = true) (k : Nat) (hk : 4100 ≤ k) : quittanceref10_Shares.f k T l = some (qs T l, rs T l) := by
  have hn := h.n1
  unfold quittanceref10_Shares.f
  rw [all_is l k hk, if_pos hb, Option.bind_some]
  exact shares_l0 h hf l.length 0 k (by omega) (by omega)
theorem left_l0 {T : Int} {l : List Int} (h : Ok T l) (rr : List Int) : ∀ (d i k : Nat), i + d = l.length →
    quittanceref10_Split.l0 (k + d + 1) (qs T l) rr (T - ((qs T l).take i).sum) i = quittanceref10_Split.l1 k (qs T l) rr (T - (qs T l).sum) := by
  have hn := h.n1
  intro d
  induction d with
  | zero =>
    intro i k hi
    rw [quittanceref10_Split.l0, if_neg (by simp; omega), List.take_of_length_le (by simp; omega)]
  | succ d ih =>
    intro i k hi
    have hil : i < l.length := by omega
    have h1 := h.lf (i + 1)
    have h2 := lf_succ (T := T) hil
    have h3 := h.t1
    have h4 := h.t0
    rw [quittanceref10_Split.l0, if_pos (by simp; omega), if_pos (by omega), rd_nat, qs_get hil, w10 (by omega) (by omega), next_nat i (by omega)]
    have := ih (i + 1) k (by omega)
    rw [show T - ((qs T l).take i).sum - q T l i = T - ((qs T l).take (i + 1)).sum by omega, show k + (d + 1) = k + d + 1 by omega]
    exact this
theorem best_l2 (out rr : List Int) (left : Int) (hl : out.length = rr.length) (hn : rr.length ≤ 4096) : ∀ (d i b0 : Nat), i + d = rr.length → b0 < i → (∀ j, j < i → rr.getD j 0 ≤ rr.getD b0 0) → (∀ j, j < b0 → rr.getD j 0 < rr.getD b0 0) →
    ∃ b, b < rr.length ∧ (∀ j, j < rr.length → rr.getD j 0 ≤ rr.getD b 0) ∧ (∀ j, j < b → rr.getD j 0 < rr.getD b 0) ∧ ∀ k, quittanceref10_Split.l2 (k + d + 1) out rr left b0 i = quittanceref10_Split.l1 k (out.set b (wrap64 (out.getD b 0 + 1))) (rr.set b (-1)) (wrap64 (left - 1)) := by
  intro d
  induction d with
  | zero =>
    intro i b0 hi hb hmax hfst
    refine ⟨b0, by omega, fun j hj => hmax j (by omega), hfst, fun k => ?_⟩
    rw [quittanceref10_Split.l2, if_neg (by omega), if_pos (by omega), if_pos (by omega), if_pos (by omega), rd_nat]
    rfl
  | succ d ih =>
    intro i b0 hi hb hmax hfst
    by_cases hgt : rr.getD i 0 > rr.getD b0 0
    · obtain ⟨b, h1, h2, h3, h4⟩ := ih (i + 1) i (by omega) (by omega) (fun j hj => by
        by_cases e : j = i
        · rw [e]; exact Int.le_refl _
        · have := hmax j (by omega)
          omega) (fun j hj => by
        have := hmax j hj
        omega)
      refine ⟨b, h1, h2, h3, fun k => ?_⟩
      rw [quittanceref10_Split.l2, if_pos (by omega), if_pos (by omega), if_pos (by omega), if_pos (by omega), rd_nat, rd_nat, if_pos hgt, next_nat i (by omega)]
      exact h4 k
    · obtain ⟨b, h1, h2, h3, h4⟩ := ih (i + 1) b0 (by omega) (by omega) (fun j hj => by
        by_cases e : j = i
        · rw [e]; omega
        · exact hmax j (by omega)) hfst
      refine ⟨b, h1, h2, h3, fun k => ?_⟩
      rw [quittanceref10_Split.l2, if_pos (by omega), if_pos (by omega), if_pos (by omega), if_pos (by omega), rd_nat, rd_nat, if_neg hgt, next_nat i (by omega)]
      exact h4 k
theorem give_l1 {T : Int} {l : List Int} (h : Ok T l) : ∀ (m : Nat) (out rr : List Int) (k : Nat), G T l out rr (m : Int) → m * (l.length + 1) < k →
    ∃ o, quittanceref10_Split.l1 k out rr (m : Int) = some (o, 0) ∧ IsSplit T l o := by
  have hn := h.n1
  have hn0 := h.n0
  intro m
  induction m with
  | zero =>
    intro out rr k g hk
    obtain ⟨k, rfl⟩ : ∃ m, k = m + 1 := ⟨k - 1, by omega⟩
    rw [quittanceref10_Split.l1, if_neg (by omega)]
    exact ⟨out, rfl, g.fin h (by omega)⟩
  | succ m ih =>
    intro out rr k g hk
    have hr := g.lenr
    have ho := g.len
    rw [Nat.succ_mul] at hk
    obtain ⟨k, rfl⟩ : ∃ c, k = c + (l.length - 1) + 1 + 1 := ⟨k - (l.length + 1), by omega⟩
    obtain ⟨b, h1, h2, h3, h4⟩ := best_l2 out rr ((m + 1 : Nat) : Int) (by omega) (by omega) (rr.length - 1) 1 0 (by omega) (by omega) (fun j hj => by
      obtain rfl : j = 0 := by omega
      exact Int.le_refl _) (fun j hj => by omega)
    rw [quittanceref10_Split.l1, if_pos (by omega)]
    have e4 := h4 k
    rw [hr] at e4 h1 h2
    rw [show ((1 : Nat) : Int) = 1 from rfl, show ((0 : Nat) : Int) = 0 from rfl] at e4
    rw [e4]
    have hb0 := g.st b h1
    have hq0 := h.q0 b
    have hq1 := h.q1 b
    have ht := h.t1
    have hmT : ((m + 1 : Nat) : Int) ≤ 4611686018427387904 := by
      have := g.tot
      have := sum_ge0 out (fun x hx => by
        obtain ⟨j, hj, rfl⟩ := List.mem_iff_getElem.1 hx
        have hj' : j < l.length := by omega
        have := g.st j hj'
        have e : out[j] = out.getD j 0 := by rw [List.getD_eq_getElem?_getD, List.getElem?_eq_getElem hj]; rfl
        have := h.q0 j
        rw [e]
        omega)
      omega
    have gs := g.step h (by omega) h1 h2 h3
    rw [w10 (x := out.getD b 0 + 1) (by omega) (by omega), w10 (x := ((m + 1 : Nat) : Int) - 1) (by omega) (by omega)]
    rw [show ((m + 1 : Nat) : Int) - 1 = (m : Int) by omega] at gs ⊢
    exact ih _ _ k gs (by omega)
theorem ref_split (T : Int) (l : List Int) (k : Nat) (hf : ∀ x ∈ l, Ar.fits x = true) (hl : l.length ≤ 300 ∨ 4096 < l.length) (hk : 100000 ≤ k) :
    quittanceref10_Split.f k T l = some (if okB T l = true then (outOf T l, 0) else ([], 2)) := by
  obtain ⟨k, rfl⟩ : ∃ m, k = m + 1 := ⟨k - 1, by omega⟩
  unfold quittanceref10_Split.f
  rw [all_is l _ (by omega), Option.bind_some]
  by_cases hs : sumB l = true
  · rw [if_pos hs]
    simp only [if_pos]
    by_cases h0 : T < 0
    · rw [if_pos h0, quittanceref10_Split.j0, if_pos rfl, if_neg]
      simp only [okB, hs, Bool.true_and, Bool.and_eq_true, decide_eq_true_eq]
      omega
    · rw [if_neg h0, quittanceref10_Split.j0]
      by_cases h1 : T ≥ 4611686018427387904
      · rw [if_pos (decide_eq_true h1), if_neg]
        simp only [okB, hs, Bool.true_and, Bool.and_eq_true, decide_eq_true_eq]
        omega
      · have hok : okB T l = true := by
          simp only [okB, hs, Bool.true_and, Bool.and_eq_true, decide_eq_true_eq]
          omega
        have h := okB_iff.1 hok
        have hn := h.n1
        rw [if_neg (by simpa using h1), shares_is h hf hs k (by omega), Option.bind_some, if_pos hok]
        simp only
        obtain ⟨k, rfl⟩ : ∃ c, k = c + l.length + 1 := ⟨k - (l.length + 1), by omega⟩
        have e0 := left_l0 h (rs T l) l.length 0 k (by omega)
        simp only [List.take_zero, List.sum_nil, Int.sub_zero, Int.natCast_zero] at e0
        rw [e0]
        have hlo := h.left0
        have hhi := h.left1
        obtain ⟨m, hm⟩ : ∃ m : Nat, T - (qs T l).sum = (m : Int) := ⟨(T - (qs T l).sum).toNat, by omega⟩
        have hg := G.start h
        rw [hm] at hg ⊢
        have hmul : m * (l.length + 1) ≤ 300 * 301 := Nat.mul_le_mul (by omega) (by omega)
        obtain ⟨o, e1, e2⟩ := give_l1 h m _ _ k hg (by omega)
        rw [e1, outOf_is e2]
  · rw [if_neg hs]
    simp only [Bool.false_eq_true, if_false]
    rw [quittanceref10_Split.j0, if_pos rfl, if_neg]
    simp only [okB, Bool.and_eq_true]
    exact fun q => hs q.1.1
/-- An answer there is. -/
theorem outOf_ok {T : Int} {l : List Int} (h : Ok T l) : IsSplit T l (outOf T l) := by
  obtain ⟨m, hm⟩ : ∃ m : Nat, T - (qs T l).sum = (m : Int) := ⟨(T - (qs T l).sum).toNat, by have := h.left0; omega⟩
  have hg := G.start h
  rw [hm] at hg
  obtain ⟨o, _, e2⟩ := give_l1 h m _ _ (m * (l.length + 1) + 1) hg (by omega)
  rw [outOf_is e2]
  exact e2
theorem same_l0 (l : List Int) (hl : l.length ≤ 5000) : ∀ (d k i : Nat), i + d = l.length → d < k → quittanceref10_Same.l0 k l l i = some true := by
  intro d
  induction d with
  | zero =>
    intro k i hi hk
    obtain ⟨k, rfl⟩ : ∃ m, k = m + 1 := ⟨k - 1, by omega⟩
    rw [quittanceref10_Same.l0, if_neg (by omega)]
  | succ d ih =>
    intro k i hi hk
    obtain ⟨k, rfl⟩ : ∃ m, k = m + 1 := ⟨k - 1, by omega⟩
    rw [quittanceref10_Same.l0, if_pos (by omega), if_pos (by omega), if_pos (by omega), if_pos rfl, next_nat i (by omega)]
    exact ih k (i + 1) (by omega) (by omega)
theorem same_self (l : List Int) (hl : l.length ≤ 5000) (k : Nat) (hk : 5001 ≤ k) : quittanceref10_Same.f k l l = some true := by
  unfold quittanceref10_Same.f
  rw [if_pos rfl]
  exact same_l0 l hl l.length k 0 (by omega) (by omega)
end Go.Proofs.Ytlllgfkdapjomaa.PH
