/- Chapter 28, as numbers: the months of a term and the slices of a total, as the document tells them. No conditions but that numbers are of 64 bits. The statement SchedMakes, joined with its numbers. The table of the days ahead of months holds its numbers. -/
import Derived.Test.YtgceecnlgjmghaaDoorPHx10
import Derived.Test.YtgceecnlgjmghaaDoorPHx11
import Derived.Test.YtgceecnlgjmghaaDoorMMon
import Derived.Test.YtgceecnlgjmghaaDoorMSp
import Derived.Test.YtgceecnlgjmghaaDoorPHx13
import Derived.Test.YtgceecnlgjmghaaDoorPure28S
namespace Go.Proofs.YtgceecnlgjmghaaDoor.PH
open Go.RowKit Go.Proofs.YtgceecnlgjmghaaDoorW.PrintWords Go.Proofs.YtgceecnlgjmghaaDoorW.PrintLast Tm Cv
theorem w64 {x : Int} (h1 : -9223372036854775808 ≤ x) (h2 : x ≤ 9223372036854775807) : wrap64 x = x := by unfold wrap64; omega
theorem long_next {M : Int} (h1 : 1 ≤ M) (h2 : M + 1 ≤ 119988) : quittanceref08_Long.f (wrap64 (Int.tdiv (wrap64 ((wrap64 (M + 1)) + 11)) 12)) (wrap64 ((Int.tmod (wrap64 ((wrap64 (M + 1)) + 11)) 12) + 1)) = some (fst (M + 1 + 1) - fst (M + 1)) := by
 have e := fst_succ (M := M + 1) (by omega) h2
 have y : wrap64 (Int.tdiv (wrap64 ((wrap64 (M + 1)) + 11)) 12) = yr (M + 1) := by
  rw [w64 (x := M + 1) (by omega) (by omega), w64 (x := M + 1 + 11) (by omega) (by omega), Int.tdiv_eq_ediv_of_nonneg (by omega), w64] <;> first | omega | (unfold yr; omega)
 have m : wrap64 ((Int.tmod (wrap64 ((wrap64 (M + 1)) + 11)) 12) + 1) = mo (M + 1) := by
  rw [w64 (x := M + 1) (by omega) (by omega), w64 (x := M + 1 + 11) (by omega) (by omega), Int.tmod_eq_emod_of_nonneg (by omega), w64] <;> first | omega | (unfold mo; omega)
 rw [y, m]
 unfold quittanceref08_Long.f
 congr 1
 omega
theorem terms_map (f n : Int) (i : Nat) (M c : Int) (h1 : M = ofD f + i) (h2 : c = cur f n (i + 1) - cur f n i) : (terms f n i).map shr ++ [(⟨M, c⟩ : S88)] = (terms f n (i + 1)).map shr := by
 subst h1 h2
 rw [terms_succ, List.map_append]; rfl
theorem months_tells {f n : Int} (h : Ok f n) : ∀ (d k i : Nat) (day : Int), n - day = d → i < cnt f n → cur f n i ≤ day → day ≤ fst (ofD f + i + 1) → d < k →
  quittanceref11_Months.l0 k n ((terms f n i).map shr) (ofD f + i) (fst (ofD f + i + 1) - 1) (day - cur f n i) day = some ((terms f n (cnt f n)).map shr, 0) := by
 have hc := cnt_spec h
 have hend := at_end h
 obtain ⟨h1, h2, h3⟩ := h
 intro d
 induction d with
 | zero =>
  intro k i day hd hi hlo hhi hk
  obtain ⟨k, rfl⟩ : ∃ m, k = m + 1 := ⟨k - 1, by omega⟩
  have ha := at_k ⟨h1, h2, h3⟩ hi
  have e := cur_succ f n i
  have hl : i + 1 = cnt f n := by
   rcases Nat.lt_or_ge (i + 1) (cnt f n) with q | q
   ·have := (at_k ⟨h1, h2, h3⟩ q).2.2.2.2.2.1
    omega
   ·omega
  have hlen : ((terms f n i).map shr).length < 8796093022208 := by rw [List.length_map, terms_len]; omega
  rw [quittanceref11_Months.l0, if_neg (by omega), if_pos hlen, terms_map f n i _ _ rfl (by omega), hl]
 | succ d ih =>
  intro k i day hd hi hlo hhi hk
  obtain ⟨k, rfl⟩ : ∃ m, k = m + 1 := ⟨k - 1, by omega⟩
  have ha := at_k ⟨h1, h2, h3⟩ hi
  have e := cur_succ f n i
  have hlen : ((terms f n i).map shr).length < 8796093022208 := by rw [List.length_map, terms_len]; omega
  have hb := fst_bd (M := ofD f + i + 1) (by omega) (by omega)
  rw [quittanceref11_Months.l0, if_pos (by omega)]
  by_cases hgt : day > fst (ofD f + i + 1) - 1
  ·have hl : i + 1 < cnt f n := by
    rcases Nat.lt_or_ge (i + 1) (cnt f n) with q | q
    ·exact q
    ·have : i + 1 = cnt f n := by omega
     rw [← this] at hend
     omega
   have hb2 := fst_bd (M := ofD f + i + 1 + 1) (by omega) (by omega)
   have hl2 := fst_lo (M := ofD f + i + 1) (by omega) (by omega)
   rw [if_pos hgt, if_pos hlen, long_next (by omega) (by omega), Option.bind_some, terms_map f n i _ _ rfl (by omega), w64 (x := ofD f + i + 1) (by omega) (by omega), w64 (x := day + 1) (by omega) (by omega)]
   have e2 : wrap64 (fst (ofD f + i + 1) - 1 + (fst (ofD f + i + 1 + 1) - fst (ofD f + i + 1))) = fst (ofD f + i + 1 + 1) - 1 := by rw [w64] <;> omega
   rw [e2]
   have e3 : ofD f + (i : Int) + 1 = ofD f + ((i + 1 : Nat) : Int) := by omega
   have e4 : (0 + 1 : Int) = (day + 1) - cur f n (i + 1) := by omega
   rw [e3] at hl2 e hgt hhi hb hb2 ⊢
   rw [e4]
   exact ih k (i + 1) (day + 1) (by omega) hl (by omega) (by omega) (by omega)
  ·rw [if_neg hgt, w64 (x := day - cur f n i + 1) (by omega) (by omega), w64 (x := day + 1) (by omega) (by omega)]
   have e4 : day - cur f n i + 1 = day + 1 - cur f n i := by omega
   rw [e4]
   exact ih k i (day + 1) (by omega) hi (by omega) (by omega) (by omega)
theorem refMonths_f (f n : Int) (k : Nat) (hk : 4002 < k) (h : pmon.badT f n = true ∨ n - f ≤ 4000) : quittanceref11_Months.f k f n = prorate_Months.f f n := by
 obtain ⟨k, rfl⟩ : ∃ m, k = m + 1 := ⟨k - 1, by omega⟩
 unfold quittanceref11_Months.f prorate_Months.f
 by_cases hb : pmon.badT f n = true
 ·rw [if_pos hb]
  have hb' : f < 1 ∨ n ≤ f ∨ 3652060 < n := by simpa [pmon.badT] using hb
  by_cases h1 : f < 1
  ·rw [if_pos h1, quittanceref11_Months.j0, if_pos rfl]
  ·rw [if_neg h1]
   by_cases h2 : n ≤ f
   ·rw [if_pos h2, quittanceref11_Months.j0, if_pos rfl]
   ·rw [if_neg h2, decide_eq_true (by omega), quittanceref11_Months.j0, if_pos rfl]
 ·rw [if_neg hb]
  have hb' : ¬ (f < 1 ∨ n ≤ f ∨ 3652060 < n) := by simpa [pmon.badT] using hb
  have hok : Ok f n := ⟨by omega, by omega, by omega⟩
  have hs := ofD_spec (d := f) (by omega) (by omega)
  have hc := cnt_spec hok
  have hdf : n - f ≤ 4000 := by
   rcases h with q | q
   ·exact absurd q hb
   ·exact q
  rw [if_neg (by omega), if_neg (by omega), decide_eq_false (by omega), quittanceref11_Months.j0, if_neg (by simp)]
  unfold quittanceref08_Of.f quittanceref08_Days.f
  simp only [Option.bind_some, Cv.ofV, Cv.lstV, okD_mk (show 1 ≤ f by omega) (by omega), okM_mk hs.1 hs.2.1, if_true]
  have := months_tells hok (n - f).toNat k 0 f (by omega) (by omega) (by rw [cur_zero]; omega) (by simp; omega) (by omega)
  simpa [terms, cur_zero] using this
end Go.Proofs.YtgceecnlgjmghaaDoor.PH
namespace Go.Proofs.YtgceecnlgjmghaaDoor.PH
open Go.RowKit Go.Proofs.YtgceecnlgjmghaaDoorW.PrintWords Sp
theorem w10 {x : Int} (h1 : -9223372036854775808 ≤ x) (h2 : x ≤ 9223372036854775807) : wrap64 x = x := by unfold wrap64; omega
theorem rd_nat (l : List Int) (i : Nat) : rd l (i : Int) = l.getD i 0 := by simp [rd]
theorem next_nat (i : Nat) (h : i < 9000000000000000000) : wrap64 ((i : Int) + 1) = ((i + 1 : Nat) : Int) := by rw [w10] <;> omega
theorem drop_at (l : List Int) (i : Nat) (h : i < l.length) : l.drop i = l.getD i 0 :: l.drop (i + 1) := by
 rw [List.drop_eq_getElem_cons h, List.getD_eq_getElem?_getD, List.getElem?_eq_getElem h]
 rfl
theorem sum_at (l : List Int) (i : Nat) : l.sum = (l.take i).sum + (l.drop i).sum := by rw [← List.sum_append, List.take_append_drop]
theorem take_at (l : List Int) (i : Nat) (h : i < l.length) : l.take (i + 1) = l.take i ++ [l.getD i 0] := by
 rw [List.take_succ_eq_append_getElem h, List.getD_eq_getElem?_getD, List.getElem?_eq_getElem h]
 rfl
theorem all_l0 (l : List Int) (hn : l.length ≤ 4096) : ∀ (d i k : Nat), i + d = l.length → d < k → 0 ≤ (l.take i).sum → (l.take i).sum < 4611686018427387904 →
  quittanceref10_All.l0 k l (l.take i).sum i = some (open Classical in if (∀ x ∈ l.drop i, 0 ≤ x) ∧ l.sum < 4611686018427387904 then (l.sum, decide (l.sum > 0)) else (0, false)) := by
 intro d
 induction d with
 | zero =>
  intro i k hi hk h0 h1
  obtain ⟨k, rfl⟩ : ∃ m, k = m + 1 := ⟨k - 1, by omega⟩
  have e : l.take i = l := List.take_of_length_le (by omega)
  have e2 : l.drop i = [] := List.drop_eq_nil_of_le (by omega)
  rw [quittanceref10_All.l0, if_neg (by omega)]
  rw [e] at h0 h1 ⊢
  rw [e2, if_pos ⟨by simp, h1⟩]
 | succ d ih =>
  intro i k hi hk h0 h1
  obtain ⟨k, rfl⟩ : ∃ m, k = m + 1 := ⟨k - 1, by omega⟩
  have hil : i < l.length := by omega
  have hd := drop_at l i hil
  have ht := take_at l i hil
  have hs := sum_at l i
  rw [quittanceref10_All.l0, if_pos (by omega), if_pos (by omega), rd_nat]
  rw [hd] at hs ⊢
  generalize l.getD i 0 = x at hs ht ⊢
  rw [List.sum_cons] at hs
  have hmem : (∀ y ∈ x :: l.drop (i + 1), 0 ≤ y) ↔ 0 ≤ x ∧ ∀ y ∈ l.drop (i + 1), 0 ≤ y := by simp
  have hge : (∀ y ∈ l.drop (i + 1), 0 ≤ y) → 0 ≤ (l.drop (i + 1)).sum := sum_ge0 _
  by_cases a1 : x < 0
  ·rw [if_pos a1, if_neg (fun q => by have := (hmem.1 q.1).1; omega)]
  ·rw [if_neg a1]
   by_cases a2 : x ≥ 4611686018427387904
   ·rw [if_pos a2, if_neg (fun q => by have := hge (hmem.1 q.1).2; omega)]
   ·rw [if_neg a2, w10 (by omega) (by omega)]
    by_cases a3 : (l.take i).sum + x ≥ 4611686018427387904
    ·rw [if_pos a3, if_neg (fun q => by have := hge (hmem.1 q.1).2; omega)]
    ·have et : (l.take i).sum + x = (l.take (i + 1)).sum := by rw [ht, List.sum_append]; simp
     rw [if_neg a3, next_nat i (by omega), et]
     rw [ih (i + 1) k (by omega) (by omega) (by omega) (by omega)]
     congr 1
     have hiff : ((∀ y ∈ x :: l.drop (i + 1), 0 ≤ y) ∧ l.sum < 4611686018427387904) ↔ ((∀ y ∈ l.drop (i + 1), 0 ≤ y) ∧ l.sum < 4611686018427387904) := by
      rw [hmem]
      constructor
      ·exact fun q => ⟨q.1.2, q.2⟩
      ·exact fun q => ⟨⟨by omega, q.1⟩, q.2⟩
     by_cases hc : (∀ y ∈ l.drop (i + 1), 0 ≤ y) ∧ l.sum < 4611686018427387904
     ·rw [if_pos hc, if_pos (hiff.2 hc)]
     ·rw [if_neg hc, if_neg (fun q => hc (hiff.1 q))]
theorem sumB_iff {l : List Int} : sumB l = true ↔ okW l ∧ 0 < l.sum ∧ l.sum < 4611686018427387904 := by
 simp only [sumB, Bool.and_eq_true, decide_eq_true_eq]
 constructor
 ·rintro ⟨h1, ⟨h2, h3⟩, h4⟩
  rw [Ar.fitV, if_pos h2] at h3 h4
  exact ⟨h1, h3, h4⟩
 ·rintro ⟨h1, h2, h3⟩
  have hf : Ar.fits l.sum = true := by simp [Ar.fits]; omega
  rw [Ar.fitV, if_pos hf]
  exact ⟨h1, ⟨hf, h2⟩, h3⟩
theorem all_is (l : List Int) (k : Nat) (hk : 4100 ≤ k) : quittanceref10_All.f k l = some (if sumB l = true then (l.sum, true) else (0, false)) := by
 obtain ⟨k, rfl⟩ : ∃ m, k = m + 1 := ⟨k - 1, by omega⟩
 unfold quittanceref10_All.f
 by_cases h1 : (l.length : Int) < 1
 ·rw [if_pos h1, quittanceref10_All.j0, if_pos rfl, if_neg]
  intro q
  have := (sumB_iff.1 q).1.1
  omega
 ·rw [if_neg h1, quittanceref10_All.j0]
  by_cases h2 : (l.length : Int) > 4096
  ·rw [if_pos (decide_eq_true h2), if_neg]
   intro q
   have := (sumB_iff.1 q).1.2.1
   omega
  ·rw [if_neg (by simpa using h2)]
   have := all_l0 l (by omega) l.length 0 k (by omega) (by omega) (by simp) (by simp)
   simp only [List.take_zero, List.sum_nil, List.drop_zero, Int.natCast_zero] at this
   rw [this]
   congr 1
   by_cases hc : (∀ y ∈ l, 0 ≤ y) ∧ l.sum < 4611686018427387904
   ·rw [if_pos hc]
    have h0 := sum_ge0 l hc.1
    by_cases hp : l.sum > 0
    ·rw [if_pos (sumB_iff.2 ⟨⟨by omega, by omega, hc.1⟩, hp, hc.2⟩), decide_eq_true hp]
    ·rw [if_neg (fun q => hp (sumB_iff.1 q).2.1), decide_eq_false hp, show l.sum = 0 by omega]
   ·rw [if_neg hc, if_neg (fun q => hc ⟨(sumB_iff.1 q).1.2.2, (sumB_iff.1 q).2.2⟩)]
theorem shares_l0 {T : Int} {l : List Int} (h : Ok T l) (hf : ∀ x ∈ l, Ar.fits x = true) : ∀ (d i k : Nat), i + d = l.length → d < k →
  quittanceref10_Shares.l0 k T l l.sum ((qs T l).take i) ((rs T l).take i) i = some (qs T l, rs T l) := by
 have hn := h.n1
 intro d
 induction d with
 | zero =>
  intro i k hi hk
  obtain ⟨k, rfl⟩ : ∃ m, k = m + 1 := ⟨k - 1, by omega⟩
  rw [quittanceref10_Shares.l0, if_neg (by omega), List.take_of_length_le (by simp; omega), List.take_of_length_le (by simp; omega)]
 | succ d ih =>
  intro i k hi hk
  obtain ⟨k, rfl⟩ : ∃ m, k = m + 1 := ⟨k - 1, by omega⟩
  have hil : i < l.length := by omega
  have hmd : quittanceref07_MulDiv.f T (l.getD i 0) l.sum = some (q T l i, r T l i, true) := spl.md_at h hf i hil
  rw [quittanceref10_Shares.l0, if_pos (by omega), if_pos (by omega), rd_nat, hmd, Option.bind_some]
  rw [if_pos (by simp; omega), if_pos (by simp; omega), next_nat i (by omega)]
  have e1 : (qs T l).take i ++ [q T l i] = (qs T l).take (i + 1) := by rw [take_at _ _ (by simpa using hil), qs_get hil]
  have e2 : (rs T l).take i ++ [r T l i] = (rs T l).take (i + 1) := by rw [take_at _ _ (by simpa using hil), rs_get hil]
  simp only [e1, e2]
  exact ih (i + 1) k (by omega) (by omega)
theorem shares_is {T : Int} {l : List Int} (h : Ok T l) (hf : ∀ x ∈ l, Ar.fits x = true) (hb : sumB l = true) (k : Nat) (hk : 4100 ≤ k) : quittanceref10_Shares.f k T l = some (qs T l, rs T l) := by
 have hn := h.n1
 unfold quittanceref10_Shares.f
 rw [all_is l k hk, if_pos hb, Option.bind_some]
 exact shares_l0 h hf l.length 0 k (by omega) (by omega)
theorem left_l0 {T : Int} {l : List Int} (h : Ok T l) (rr : List Int) : ∀ (d i k : Nat), i + d = l.length →
  quittanceref10_Split.l0 (k + d + 1) (qs T l) rr (T - ((qs T l).take i).sum) i = quittanceref10_Split.l1 k (qs T l) rr (T - (qs T l).sum) := by
 have hn := h.n1
 intro d
 induction d with
 | zero =>
  intro i k hi
  rw [quittanceref10_Split.l0, if_neg (by simp; omega), List.take_of_length_le (by simp; omega)]
 | succ d ih =>
  intro i k hi
  have hil : i < l.length := by omega
  have h1 := h.lf (i + 1)
  have h2 := lf_succ (T := T) hil
  have h3 := h.t1
  have h4 := h.t0
  rw [quittanceref10_Split.l0, if_pos (by simp; omega), if_pos (by omega), rd_nat, qs_get hil, w10 (by omega) (by omega), next_nat i (by omega)]
  have := ih (i + 1) k (by omega)
  rw [show T - ((qs T l).take i).sum - q T l i = T - ((qs T l).take (i + 1)).sum by omega, show k + (d + 1) = k + d + 1 by omega]
  exact this
theorem best_l2 (out rr : List Int) (left : Int) (hl : out.length = rr.length) (hn : rr.length ≤ 4096) : ∀ (d i b0 : Nat), i + d = rr.length → b0 < i → (∀ j, j < i → rr.getD j 0 ≤ rr.getD b0 0) → (∀ j, j < b0 → rr.getD j 0 < rr.getD b0 0) →
  ∃ b, b < rr.length ∧ (∀ j, j < rr.length → rr.getD j 0 ≤ rr.getD b 0) ∧ (∀ j, j < b → rr.getD j 0 < rr.getD b 0) ∧ ∀ k, quittanceref10_Split.l2 (k + d + 1) out rr left b0 i = quittanceref10_Split.l1 k (out.set b (wrap64 (out.getD b 0 + 1))) (rr.set b (-1)) (wrap64 (left - 1)) := by
 intro d
 induction d with
 | zero =>
  intro i b0 hi hb hmax hfst
  refine ⟨b0, by omega, fun j hj => hmax j (by omega), hfst, fun k => ?_⟩
  rw [quittanceref10_Split.l2, if_neg (by omega), if_pos (by omega), if_pos (by omega), if_pos (by omega), rd_nat]
  rfl
 | succ d ih =>
  intro i b0 hi hb hmax hfst
  by_cases hgt : rr.getD i 0 > rr.getD b0 0
  ·obtain ⟨b, h1, h2, h3, h4⟩ := ih (i + 1) i (by omega) (by omega) (fun j hj => by
    by_cases e : j = i
    ·rw [e]; exact Int.le_refl _
    ·have := hmax j (by omega)
     omega) (fun j hj => by
    have := hmax j hj
    omega)
   refine ⟨b, h1, h2, h3, fun k => ?_⟩
   rw [quittanceref10_Split.l2, if_pos (by omega), if_pos (by omega), if_pos (by omega), if_pos (by omega), rd_nat, rd_nat, if_pos hgt, next_nat i (by omega)]
   exact h4 k
  ·obtain ⟨b, h1, h2, h3, h4⟩ := ih (i + 1) b0 (by omega) (by omega) (fun j hj => by
    by_cases e : j = i
    ·rw [e]; omega
    ·exact hmax j (by omega)) hfst
   refine ⟨b, h1, h2, h3, fun k => ?_⟩
   rw [quittanceref10_Split.l2, if_pos (by omega), if_pos (by omega), if_pos (by omega), if_pos (by omega), rd_nat, rd_nat, if_neg hgt, next_nat i (by omega)]
   exact h4 k
theorem give_l1 {T : Int} {l : List Int} (h : Ok T l) : ∀ (m : Nat) (out rr : List Int) (k : Nat), G T l out rr (m : Int) → m * (l.length + 1) < k →
  ∃ o, quittanceref10_Split.l1 k out rr (m : Int) = some (o, 0) ∧ IsSplit T l o := by
 have hn := h.n1
 have hn0 := h.n0
 intro m
 induction m with
 | zero =>
  intro out rr k g hk
  obtain ⟨k, rfl⟩ : ∃ m, k = m + 1 := ⟨k - 1, by omega⟩
  rw [quittanceref10_Split.l1, if_neg (by omega)]
  exact ⟨out, rfl, g.fin h (by omega)⟩
 | succ m ih =>
  intro out rr k g hk
  have hr := g.lenr
  have ho := g.len
  rw [Nat.succ_mul] at hk
  obtain ⟨k, rfl⟩ : ∃ c, k = c + (l.length - 1) + 1 + 1 := ⟨k - (l.length + 1), by omega⟩
  obtain ⟨b, h1, h2, h3, h4⟩ := best_l2 out rr ((m + 1 : Nat) : Int) (by omega) (by omega) (rr.length - 1) 1 0 (by omega) (by omega) (fun j hj => by
   obtain rfl : j = 0 := by omega
   exact Int.le_refl _) (fun j hj => by omega)
  rw [quittanceref10_Split.l1, if_pos (by omega)]
  have e4 := h4 k
  rw [hr] at e4 h1 h2
  rw [show ((1 : Nat) : Int) = 1 from rfl, show ((0 : Nat) : Int) = 0 from rfl] at e4
  rw [e4]
  have hb0 := g.st b h1
  have hq0 := h.q0 b
  have hq1 := h.q1 b
  have ht := h.t1
  have hmT : ((m + 1 : Nat) : Int) ≤ 4611686018427387904 := by
   have := g.tot
   have := sum_ge0 out (fun x hx => by
    obtain ⟨j, hj, rfl⟩ := List.mem_iff_getElem.1 hx
    have hj' : j < l.length := by omega
    have := g.st j hj'
    have e : out[j] = out.getD j 0 := by rw [List.getD_eq_getElem?_getD, List.getElem?_eq_getElem hj]; rfl
    have := h.q0 j
    rw [e]
    omega)
   omega
  have gs := g.step h (by omega) h1 h2 h3
  rw [w10 (x := out.getD b 0 + 1) (by omega) (by omega), w10 (x := ((m + 1 : Nat) : Int) - 1) (by omega) (by omega)]
  rw [show ((m + 1 : Nat) : Int) - 1 = (m : Int) by omega] at gs ⊢
  exact ih _ _ k gs (by omega)
theorem ref_split (T : Int) (l : List Int) (k : Nat) (hf : ∀ x ∈ l, Ar.fits x = true) (hl : l.length ≤ 3000 ∨ 4096 < l.length) (hk : 10000000 ≤ k) :
  quittanceref10_Split.f k T l = some (if okB T l = true then (outOf T l, 0) else ([], 2)) := by
 obtain ⟨k, rfl⟩ : ∃ m, k = m + 1 := ⟨k - 1, by omega⟩
 unfold quittanceref10_Split.f
 rw [all_is l _ (by omega), Option.bind_some]
 by_cases hs : sumB l = true
 ·rw [if_pos hs]
  simp only [if_pos]
  by_cases h0 : T < 0
  ·rw [if_pos h0, quittanceref10_Split.j0, if_pos rfl, if_neg]
   simp only [okB, hs, Bool.true_and, Bool.and_eq_true, decide_eq_true_eq]
   omega
  ·rw [if_neg h0, quittanceref10_Split.j0]
   by_cases h1 : T ≥ 4611686018427387904
   ·rw [if_pos (decide_eq_true h1), if_neg]
    simp only [okB, hs, Bool.true_and, Bool.and_eq_true, decide_eq_true_eq]
    omega
   ·have hok : okB T l = true := by
     simp only [okB, hs, Bool.true_and, Bool.and_eq_true, decide_eq_true_eq]
     omega
    have h := okB_iff.1 hok
    have hn := h.n1
    rw [if_neg (by simpa using h1), shares_is h hf hs k (by omega), Option.bind_some, if_pos hok]
    simp only
    obtain ⟨k, rfl⟩ : ∃ c, k = c + l.length + 1 := ⟨k - (l.length + 1), by omega⟩
    have e0 := left_l0 h (rs T l) l.length 0 k (by omega)
    simp only [List.take_zero, List.sum_nil, Int.sub_zero, Int.natCast_zero] at e0
    rw [e0]
    have hlo := h.left0
    have hhi := h.left1
    obtain ⟨m, hm⟩ : ∃ m : Nat, T - (qs T l).sum = (m : Int) := ⟨(T - (qs T l).sum).toNat, by omega⟩
    have hg := G.start h
    rw [hm] at hg ⊢
    have hmul : m * (l.length + 1) ≤ 3000 * 3001 := Nat.mul_le_mul (by omega) (by omega)
    obtain ⟨o, e1, e2⟩ := give_l1 h m _ _ k hg (by omega)
    rw [e1, outOf_is e2]
 ·rw [if_neg hs]
  simp only [Bool.false_eq_true, if_false]
  rw [quittanceref10_Split.j0, if_pos rfl, if_neg]
  simp only [okB, Bool.and_eq_true]
  exact fun q => hs q.1.1
/-- An answer there is. -/
theorem outOf_ok {T : Int} {l : List Int} (h : Ok T l) : IsSplit T l (outOf T l) := by
 obtain ⟨m, hm⟩ : ∃ m : Nat, T - (qs T l).sum = (m : Int) := ⟨(T - (qs T l).sum).toNat, by have := h.left0; omega⟩
 have hg := G.start h
 rw [hm] at hg
 obtain ⟨o, _, e2⟩ := give_l1 h m _ _ (m * (l.length + 1) + 1) hg (by omega)
 rw [outOf_is e2]
 exact e2
end Go.Proofs.YtgceecnlgjmghaaDoor.PH

namespace Go.Proofs.YtgceecnlgjmghaaDoor.pu28
open Go.RowKit Go.Proofs.YtgceecnlgjmghaaDoorW.PrintWords Go.Proofs.YtgceecnlgjmghaaDoor.sch Go.Proofs.YtgceecnlgjmghaaDoor.PH
theorem rd8n (l : List S88) (i : Nat) : rd_T88 l (i : Int) = l.getD i z88 := by simp [rd_T88]
theorem rdi (l : List Int) (i : Nat) : rd l (i : Int) = l.getD i 0 := by simp [rd]
theorem dys_len (l : List Sh8) : (dys l).length = l.length := by simp [dys]
theorem str_l0 (T : Int) (l : List Sh8) (hn : l.length ≤ 4000) : ∀ (d i k : Nat), i + d = l.length →
  quittanceref28_Straight.l0 (k + d + 1) T l (dys (l.take i)) i = (quittanceref10_Split.f k T (dys l)).bind fun bt => quittanceref28_Straight.l1 k l bt.1 bt.2 [] 0 := by
 intro d
 induction d with
 | zero =>
  intro i k hi
  rw [quittanceref28_Straight.l0, if_neg (by omega), List.take_of_length_le (by omega)]
 | succ d ih =>
  intro i k hi
  have hil : i < l.length := by omega
  rw [show k + (d + 1) + 1 = (k + d + 1) + 1 by omega, quittanceref28_Straight.l0, if_pos (by omega), if_pos (by omega), if_pos (by rw [dys_len, List.length_take]; omega), rd8n, nx i (by omega)]
  rw [show dys (l.take i) ++ [(l.getD i z8).f1] = dys (l.take (i + 1)) from (dys_take l i hil).symm]
  exact ih (i + 1) k (by omega)
theorem str_l1 (l : List Sh8) (out : List Int) (e : Int) (hn : out.length ≤ 4000) (hl : out.length ≤ l.length) : ∀ (d i k : Nat), i + d = out.length → d < k →
  quittanceref28_Straight.l1 k l out e (mdl (fun i => (l.getD i z8).f0) out i) i = some (mdl (fun i => (l.getD i z8).f0) out out.length, e) := by
 intro d
 induction d with
 | zero =>
  intro i k hi hk
  obtain ⟨k, rfl⟩ : ∃ m, k = m + 1 := ⟨k - 1, by omega⟩
  rw [quittanceref28_Straight.l1, if_neg (by omega), show i = out.length by omega]
 | succ d ih =>
  intro i k hi hk
  obtain ⟨k, rfl⟩ : ∃ m, k = m + 1 := ⟨k - 1, by omega⟩
  rw [quittanceref28_Straight.l1, if_pos (by omega), if_pos (by omega), if_pos (by omega), if_pos (by simp [mdl]; omega), rd8n, rdi, nx i (by omega), ← mdl_succ]
  exact ih (i + 1) k (by omega) (by omega)
theorem mil_l0 (out : List Int) (e : Int) (hn : out.length ≤ 8000) : ∀ (d i k : Nat), i + d = out.length → d < k →
  quittanceref28_Milestones.l0 k out e (mdl (fun _ => 0) out i) i = some (mdl (fun _ => 0) out out.length, e) := by
 intro d
 induction d with
 | zero =>
  intro i k hi hk
  obtain ⟨k, rfl⟩ : ∃ m, k = m + 1 := ⟨k - 1, by omega⟩
  rw [quittanceref28_Milestones.l0, if_neg (by omega), show i = out.length by omega]
 | succ d ih =>
  intro i k hi hk
  obtain ⟨k, rfl⟩ : ∃ m, k = m + 1 := ⟨k - 1, by omega⟩
  rw [quittanceref28_Milestones.l0, if_pos (by omega), if_pos (by omega), if_pos (by simp [mdl]; omega), rdi, nx i (by omega), ← mdl_succ]
  exact ih (i + 1) k (by omega) (by omega)
theorem split_eq (T : Int) (l : List Int) (k : Nat) (hf : ∀ x ∈ l, Ar.fits x = true) (hl : l.length ≤ 3000) (hk : 10000000 ≤ k) : quittanceref10_Split.f k T l = split_Split.f T l := by
 rw [ref_split T l k hf (.inl hl) hk]
 unfold split_Split.f
 rw [if_pos hf]
theorem split_some (T : Int) (l : List Int) (hf : ∀ x ∈ l, Ar.fits x = true) : ∃ out e, split_Split.f T l = some (out, e) := by
 unfold split_Split.f
 rw [if_pos hf]
 exact ⟨_, _, rfl⟩
theorem milestones_eq (T : Int) (l : List Int) (k : Nat) (hf : ∀ x ∈ l, Ar.fits x = true) (hl : l.length ≤ 60) (hk : 10000010 ≤ k) :
  ∃ o e, quittanceref28_Milestones.f k T l = some (o, e) ∧ sched_Milestones.f T l = some (o, e) ∧ o.length ≤ 8000 := by
 obtain ⟨out, e, hs⟩ := split_some T l hf
 have h3 := Sp.split_len hs
 refine ⟨mdl (fun _ => 0) out out.length, e, ?_, ?_, by simp [mdl]; omega⟩
 ·unfold quittanceref28_Milestones.f
  rw [split_eq T l k hf (by omega) (by omega), hs, Option.bind_some]
  exact mil_l0 out e (by omega) out.length 0 k (by omega) (by omega)
 ·unfold sched_Milestones.f
  rw [hs]
  rfl
theorem cnt_le {f n : Int} (h : Tm.Ok f n) : (Tm.cnt f n : Int) ≤ n - f := by
 have key : ∀ k, k ≤ Tm.cnt f n → f + k ≤ Tm.cur f n k := by
  intro k
  induction k with
  | zero => intro _; rw [Tm.cur_zero]; omega
  | succ k ih =>
   intro hk
   have a := Tm.at_k h (k := k) (by omega)
   have := ih (by omega)
   omega
 have := key _ (Nat.le_refl _)
 rw [Tm.at_end h] at this
 omega
theorem ent_fits {f n : Int} (h : Tm.Ok f n) (k : Nat) (hk : k < Tm.cnt f n) : 0 ≤ (Tm.ent f n k).2 ∧ (Tm.ent f n k).2 ≤ 3652060 := by
 have a := Tm.at_k h hk
 have hn := h.nm
 have e : (Tm.ent f n k).2 = Tm.cur f n (k + 1) - Tm.cur f n k := rfl
 have : Tm.cur f n (k + 1) ≤ n := by rw [Tm.cur_succ]; omega
 omega
theorem straight_eq (T f n : Int) (k : Nat) (hk : 10005000 ≤ k) (h : pmon.badT f n = true ∨ n - f ≤ 2000) :
  ∃ o e, quittanceref28_Straight.f k T f n = some (o, e) ∧ sched_Straight.f T f n = some (o, e) ∧ o.length ≤ 8000 := by
 unfold quittanceref28_Straight.f sched_Straight.f
 rw [refMonths_f f n k (by omega) (by rcases h with q | q; exact .inl q; exact .inr (by omega))]
 by_cases hb : pmon.badT f n = true
 ·have hm : prorate_Months.f f n = some ([], 2) := by unfold prorate_Months.f; rw [if_pos hb]
  rw [hm]
  simp only [Option.bind_some]
  rw [if_pos hb, if_neg (by decide)]
  exact ⟨[], 2, rfl, rfl, Nat.zero_le _⟩
 ·have hm : prorate_Months.f f n = some ((Tm.terms f n (Tm.cnt f n)).map PH.shr, 0) := by unfold prorate_Months.f; rw [if_neg hb]
  rw [hm]
  simp only [Option.bind_some]
  rw [if_neg hb, if_pos trivial]
  have hok : Tm.Ok f n := by
   have : ¬ (f < 1 ∨ n ≤ f ∨ 3652060 < n) := by simpa [pmon.badT] using hb
   exact ⟨by omega, by omega, by omega⟩
  have hdf : n - f ≤ 2000 := by
   rcases h with q | q
   ·exact absurd q hb
   ·exact q
  have hc := cnt_le hok
  have hlen : ((Tm.terms f n (Tm.cnt f n)).map PH.shr).length = Tm.cnt f n := by rw [List.length_map, Tm.terms_len]
  have hfit : ∀ x ∈ dys ((Tm.terms f n (Tm.cnt f n)).map PH.shr), Ar.fits x = true := by
   intro x hx
   simp only [dys, Tm.terms, List.map_map, List.mem_map, List.mem_range] at hx
   obtain ⟨j, hj, rfl⟩ := hx
   have := ent_fits hok j hj
   have e : ((fun x : Sh8 => x.f1) ∘ PH.shr ∘ Tm.ent f n) j = (Tm.ent f n j).2 := rfl
   rw [e]
   exact Ar.fits_mk (by omega) (by omega)
  generalize (Tm.terms f n (Tm.cnt f n)).map PH.shr = l at hlen hfit ⊢
  obtain ⟨out, e, hs⟩ := split_some T (dys l) hfit
  have h3 := Sp.split_len hs
  have h4 := dys_len l
  have e0 := str_l0 T l (by omega) l.length 0 (k - l.length - 1) (by omega)
  rw [show k - l.length - 1 + l.length + 1 = k by omega] at e0
  have e1 := split_eq T (dys l) (k - l.length - 1) hfit (by omega) (by omega)
  have e2 := str_l1 l out e (by omega) (by omega) out.length 0 (k - l.length - 1) (by omega) (by omega)
  refine ⟨mdl (fun i => (l.getD i z8).f0) out out.length, e, ?_, ?_, by simp [mdl]; omega⟩
  ·rw [e1, hs] at e0
   exact e0.trans e2
  ·rw [hs]
   rfl
theorem makes_pure (T f n : Int) (l : List Int) (hf : -9223372036854775808 ≤ f ∧ f ≤ 9223372036854775807) (hn : -9223372036854775808 ≤ n ∧ n ≤ 9223372036854775807) (hl : ∀ x ∈ l, Ar.fits x = true) :
  quittancelaw28_SchedMakes.f 20000000 T f n l = some true := by
 have hd (b : Bool) : quittancelaw28_SchedMakes.j0 20000000 T l true f n = some true := by
  rw [quittancelaw28_SchedMakes.j0, if_pos rfl]; rfl
 have yes : (pmon.badT f n = true ∨ n - f ≤ 2000) → quittancelaw28_SchedMakes.j0 20000000 T l (decide ((l.length : Int) > 60)) f n = some true := by
  intro h
  by_cases h6 : (l.length : Int) > 60
  ·rw [decide_eq_true h6]; exact hd true
  ·rw [decide_eq_false h6, quittancelaw28_SchedMakes.j0, if_neg (by decide)]
   obtain ⟨o1, e1, a1, a2, a3⟩ := straight_eq T f n 19999999 (by omega) h
   obtain ⟨o2, e2, b1, b2, b3⟩ := milestones_eq T l 19999999 hl (by omega) (by omega)
   rw [a2, a1, b2, b1]
   simp only [Option.bind_some]
   rw [slices_is o1 a3 _ (by omega), slices_is o2 b3 _ (by omega)]
   simp only [Option.bind_some, if_true]
   rfl
 unfold quittancelaw28_SchedMakes.f
 have bad : ∀ h : (f < 1 ∨ n ≤ f ∨ 3652060 < n), pmon.badT f n = true := fun h => by simp [pmon.badT, h]
 by_cases h1 : f ≥ 1
 ·rw [if_pos h1]
  by_cases h2 : n ≤ 3652060
  ·rw [if_pos h2]
   by_cases h3 : wrap64 (n - f) > 2000
   ·rw [if_pos h3]; exact hd true
   ·rw [if_neg h3]
    by_cases h4 : n ≤ f
    ·exact yes (.inl (bad (by omega)))
    ·rw [w28 (by omega) (by omega)] at h3
     exact yes (.inr (by omega))
  ·rw [if_neg h2]; exact yes (.inl (bad (by omega)))
 ·rw [if_neg h1]; exact yes (.inl (bad (by omega)))
theorem schedMakes (T f n : Int) (A : Option Addr) (c : Nat) (l : List Int) (w : World) (hT : civ.Tab w) (hf : -9223372036854775808 ≤ f ∧ f ≤ 9223372036854775807) (hn : -9223372036854775808 ≤ n ∧ n ≤ 9223372036854775807)
  (hc : l.length ≤ c) (hC : Kd.C (Kd.int .i64) w A l.length l) (hl : ∀ x ∈ l, -9223372036854775808 ≤ x ∧ x ≤ 9223372036854775807) :
  Calls Tryd.prog 4 #[.int .i64 T, .agg #[.int .i64 f, .int .i64 n], .slice A l.length c] w fun e w' => e = .returned (.bool true) ∧ Below w.heap.size w w' :=
 quittancelaw28_SchedMakes.calls 20000000 T f n A c l true w hC hc ⟨hT⟩ (makes_pure T f n l hf hn fun x hx => Ar.fits_mk (hl x hx).1 (hl x hx).2)
end Go.Proofs.YtgceecnlgjmghaaDoor.pu28

