/- Chapter 11, as numbers: the months of a term, day by day. No conditions but that numbers are of 64 bits. -/
import Derived.Test.YtpegaabcelkmmaaDoorPHx6
import Derived.Test.YtpegaabcelkmmaaDoorPure11A
namespace Go.Proofs.YtpegaabcelkmmaaDoor.PH
open Go.RowKit Go.Proofs.YtpegaabcelkmmaaDoorW.PrintWords Go.Proofs.YtpegaabcelkmmaaDoorW.PrintLast Tm Cv

theorem rd_terms {f n : Int} {C : Nat} (i : Nat) (h : i < C) : rd_T51 ((terms f n C).map shr) (i : Int) = shr (ent f n i) := by
  unfold rd_T51 terms
  rw [List.getD_eq_getElem?_getD, List.map_map, List.getElem?_map, List.getElem?_range (by omega)]
  rfl
theorem same_l0 (l : List S51) (hl : l.length ≤ 9223372036854775806) : ∀ (d k i : Nat), i + d = l.length → d < k → quittanceref11_Same.l0 k l l i = some true := by
  intro d
  induction d with
  | zero =>
    intro k i hi hk
    obtain ⟨k, rfl⟩ : ∃ m, k = m + 1 := ⟨k - 1, by omega⟩
    rw [quittanceref11_Same.l0, if_neg (by omega)]
  | succ d ih =>
    intro k i hi hk
    obtain ⟨k, rfl⟩ : ∃ m, k = m + 1 := ⟨k - 1, by omega⟩
    rw [quittanceref11_Same.l0, if_pos (by omega), if_pos (by omega), if_pos (by omega), if_neg (by simp), w64 (by omega) (by omega)]
    have := ih k (i + 1) (by omega) (by omega)
    rwa [show ((i + 1 : Nat) : Int) = (i : Int) + 1 by omega] at this
theorem same_self (l : List S51) (k : Nat) (hl : l.length < k) (hm : l.length ≤ 9223372036854775806) : quittanceref11_Same.f k l l = some true := by
  unfold quittanceref11_Same.f
  rw [if_pos rfl]
  exact same_l0 l hm l.length k 0 (by omega) hl
theorem long_next {M : Int} (h1 : 1 ≤ M) (h2 : M + 1 ≤ 119988) : quittanceref08_Long.f (wrap64 (Int.tdiv (wrap64 ((wrap64 (M + 1)) + 11)) 12)) (wrap64 ((Int.tmod (wrap64 ((wrap64 (M + 1)) + 11)) 12) + 1)) = some (fst (M + 1 + 1) - fst (M + 1)) := by
  have e := fst_succ (M := M + 1) (by omega) h2
  have y : wrap64 (Int.tdiv (wrap64 ((wrap64 (M + 1)) + 11)) 12) = yr (M + 1) := by
    rw [w64 (x := M + 1) (by omega) (by omega), w64 (x := M + 1 + 11) (by omega) (by omega), Int.tdiv_eq_ediv_of_nonneg (by omega), w64] <;> first | omega | (unfold yr; omega)
  have m : wrap64 ((Int.tmod (wrap64 ((wrap64 (M + 1)) + 11)) 12) + 1) = mo (M + 1) := by
    rw [w64 (x := M + 1) (by omega) (by omega), w64 (x := M + 1 + 11) (by omega) (by omega), Int.tmod_eq_emod_of_nonneg (by omega), w64] <;> first | omega | (unfold mo; omega)
  rw [y, m]
  unfold quittanceref08_Long.f
  congr 1
  omega
theorem terms_map (f n : Int) (i : Nat) (M c : Int) (h1 : M = ofD f + i) (h2 : c = cur f n (i + 1) - cur f n i) : (terms f n i).map shr ++ [(⟨M, c⟩ : S51)] = (terms f n (i + 1)).map shr := by
  subst h1 h2
  rw [terms_succ, List.map_append]; rfl
theorem months_tells {f n : Int} (h : Ok f n) : ∀ (d k i : Nat) (day : Int), n - day = d → i < cnt f n → cur f n i ≤ day → day ≤ fst (ofD f + i + 1) → d < k →
    quittanceref11_Months.l0 k n ((terms f n i).map shr) (ofD f + i) (fst (ofD f + i + 1) - 1) (day - cur f n i) day = some ((terms f n (cnt f n)).map shr, 0) := by
  have hc := cnt_spec h
  have hend := at_end h
  obtain ⟨h1, h2, h3⟩ := h
  intro d
  induction d with
  | zero =>
    intro k i day hd hi hlo hhi hk
    obtain ⟨k, rfl⟩ : ∃ m, k = m + 1 := ⟨k - 1, by omega⟩
    have ha := at_k ⟨h1, h2, h3⟩ hi
    have e := cur_succ f n i
    have hl : i + 1 = cnt f n := by
      rcases Nat.lt_or_ge (i + 1) (cnt f n) with q | q
      · have := (at_k ⟨h1, h2, h3⟩ q).2.2.2.2.2.1
        omega
      · omega
    have hlen : ((terms f n i).map shr).length < 8796093022208 := by rw [List.length_map, terms_len]; omega
    rw [quittanceref11_Months.l0, if_neg (by omega), if_pos hlen, terms_map f n i _ _ rfl (by omega), hl]
  | succ d ih =>
    intro k i day hd hi hlo hhi hk
    obtain ⟨k, rfl⟩ : ∃ m, k = m + 1 := ⟨k - 1, by omega⟩
    have ha := at_k ⟨h1, h2, h3⟩ hi
    have e := cur_succ f n i
    have hlen : ((terms f n i).map shr).length < 8796093022208 := by rw [List.length_map, terms_len]; omega
    have hb := fst_bd (M := ofD f + i + 1) (by omega) (by omega)
    rw [quittanceref11_Months.l0, if_pos (by omega)]
    by_cases hgt : day > fst (ofD f + i + 1) - 1
    · have hl : i + 1 < cnt f n := by
        rcases Nat.lt_or_ge (i + 1) (cnt f n) with q | q
        · exact q
        · have : i + 1 = cnt f n := by omega
          rw [← this] at hend
          omega
      have hb2 := fst_bd (M := ofD f + i + 1 + 1) (by omega) (by omega)
      have hl2 := fst_lo (M := ofD f + i + 1) (by omega) (by omega)
      rw [if_pos hgt, if_pos hlen, long_next (by omega) (by omega), Option.bind_some, terms_map f n i _ _ rfl (by omega), w64 (x := ofD f + i + 1) (by omega) (by omega), w64 (x := day + 1) (by omega) (by omega)]
      have e2 : wrap64 (fst (ofD f + i + 1) - 1 + (fst (ofD f + i + 1 + 1) - fst (ofD f + i + 1))) = fst (ofD f + i + 1 + 1) - 1 := by rw [w64] <;> omega
      rw [e2]
      have e3 : ofD f + (i : Int) + 1 = ofD f + ((i + 1 : Nat) : Int) := by omega
      have e4 : (0 + 1 : Int) = (day + 1) - cur f n (i + 1) := by omega
      rw [e3] at hl2 e hgt hhi hb hb2 ⊢
      rw [e4]
      exact ih k (i + 1) (day + 1) (by omega) hl (by omega) (by omega) (by omega)
    · rw [if_neg hgt, w64 (x := day - cur f n i + 1) (by omega) (by omega), w64 (x := day + 1) (by omega) (by omega)]
      have e4 : day - cur f n i + 1 = day + 1 - cur f n i := by omega
      rw [e4]
      exact ih k i (day + 1) (by omega) hi (by omega) (by omega) (by omega)
theorem refMonths_f (f n : Int) (k : Nat) (hk : 4002 < k) (h : pmon.badT f n = true ∨ n - f ≤ 4000) : quittanceref11_Months.f k f n = prorate_Months.f f n := by
  obtain ⟨k, rfl⟩ : ∃ m, k = m + 1 := ⟨k - 1, by omega⟩
  unfold quittanceref11_Months.f prorate_Months.f
  by_cases hb : pmon.badT f n = true
  · rw [if_pos hb]
    have hb' : f < 1 ∨ n ≤ f ∨ 3652060 < n := by simpa [pmon.badT] using hb
    by_cases h1 : f < 1
    · rw [if_pos h1, quittanceref11_Months.j0, if_pos rfl]
    · rw [if_neg h1]
      by_cases h2 : n ≤ f
      · rw [if_pos h2, quittanceref11_Months.j0, if_pos rfl]
      · rw [if_neg h2, decide_eq_true (by omega), quittanceref11_Months.j0, if_pos rfl]
  · rw [if_neg hb]
    have hb' : ¬ (f < 1 ∨ n ≤ f ∨ 3652060 < n) := by simpa [pmon.badT] using hb
    have hok : Ok f n := ⟨by omega, by omega, by omega⟩
    have hs := ofD_spec (d := f) (by omega) (by omega)
    have hc := cnt_spec hok
    have hdf : n - f ≤ 4000 := by
      rcases h with q | q
      · exact absurd q hb
      · exact q
    rw [if_neg (by omega), if_neg (by omega), decide_eq_false (by omega), quittanceref11_Months.j0, if_neg (by simp)]
    unfold quittanceref08_Of.f quittanceref08_DaysB.f
    simp only [Option.bind_some, Cv.ofV, Cv.lstV, okD_mk (show 1 ≤ f by omega) (by omega), okM_mk hs.1 hs.2.1, if_true]
    have := months_tells hok (n - f).toNat k 0 f (by omega) (by omega) (by rw [cur_zero]; omega) (by simp; omega) (by omega)
    simpa [terms, cur_zero] using this
theorem pure_months (f n : Int) (hf : -9223372036854775808 ≤ f ∧ f ≤ 9223372036854775807) (hn : -9223372036854775808 ≤ n ∧ n ≤ 9223372036854775807) :
    quittancelaw11_ProrateMonths.f 5000 f n = some true := by
  have yes : (pmon.badT f n = true ∨ n - f ≤ 4000) → quittancelaw11_ProrateMonths.j0 5000 f n false = some true := by
    intro h
    rw [quittancelaw11_ProrateMonths.j0, if_neg (by simp), refMonths_f f n 4999 (by omega) h, head_f _ (by omega)]
    have : ∃ l e, prorate_Months.f f n = some (l, e) ∧ l.length < 4999 := by
      unfold prorate_Months.f
      by_cases hb : pmon.badT f n = true
      · rw [if_pos hb]; exact ⟨_, _, rfl, by simp⟩
      · rw [if_neg hb]
        refine ⟨_, _, rfl, ?_⟩
        have hb' : ¬ (f < 1 ∨ n ≤ f ∨ 3652060 < n) := by simpa [pmon.badT] using hb
        have hok : Ok f n := ⟨by omega, by omega, by omega⟩
        have hc := cnt_spec hok
        have hs := ofD_spec (d := f) (by omega) (by omega)
        have hs2 := ofD_spec (d := n - 1) (by omega) (by omega)
        have hm := fst_mono (a := ofD f) (b := ofD (n - 1)) (by omega) (by omega) (by omega)
        have hlo := fst_lo (M := ofD f) (by omega) (by omega)
        have hd : n - f ≤ 4000 := by
          rcases h with q | q
          · exact absurd q hb
          · exact q
        rw [List.length_map, terms_len]
        omega
    obtain ⟨l, e, he, hl⟩ := this
    rw [he]
    simp only [Option.bind_some, if_true]
    rw [same_self l 4999 hl (by omega), Option.bind_some, if_pos rfl]
  unfold quittancelaw11_ProrateMonths.f
  by_cases h1 : f ≥ 1
  · rw [if_pos h1]
    by_cases h2 : n ≤ 3652060
    · rw [if_pos h2]
      rcases Int.lt_or_le (n - f) (-9223372036854775808) with q | q
      · have hb : pmon.badT f n = true := by simp [pmon.badT]; omega
        by_cases h3 : wrap64 (n - f) > 4000
        · rw [decide_eq_true h3, quittancelaw11_ProrateMonths.j0, if_pos rfl, head_f _ (by omega)]; rfl
        · rw [decide_eq_false h3]
          exact yes (.inl hb)
      · rw [w64 q (by omega)]
        by_cases h3 : n - f > 4000
        · rw [decide_eq_true h3, quittancelaw11_ProrateMonths.j0, if_pos rfl, head_f _ (by omega)]; rfl
        · rw [decide_eq_false h3]
          exact yes (.inr (by omega))
    · rw [if_neg h2]
      exact yes (.inl (by simp [pmon.badT]; omega))
  · rw [if_neg h1]
    exact yes (.inl (by simp [pmon.badT]; omega))
theorem prorateMonths (f n : Int) (w : World) (T : civ.Tab w) (hf : -9223372036854775808 ≤ f ∧ f ≤ 9223372036854775807) (hn : -9223372036854775808 ≤ n ∧ n ≤ 9223372036854775807) :
    Calls Tryd.prog 5 #[.int .i64 f, .int .i64 n] w fun e w' => e = .returned (.bool true) ∧ Below w.heap.size w w' :=
  quittancelaw11_ProrateMonths.calls 5000 f n true w ⟨T⟩ (pure_months f n hf hn)
end Go.Proofs.YtpegaabcelkmmaaDoor.PH
