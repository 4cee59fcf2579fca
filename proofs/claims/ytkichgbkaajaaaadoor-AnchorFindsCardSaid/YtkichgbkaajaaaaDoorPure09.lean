/- The document's answer of chapter 09 for bounds, as numbers: what its printed function gives is the bounds' law. No conditions. -/
import Derived.Test.YtkichgbkaajaaaaDoorPHx3
import Derived.Test.YtkichgbkaajaaaaDoorAnchMath2
namespace Go.Proofs.YtkichgbkaajaaaaDoor.PH
open Go.RowKit Go.Proofs.YtkichgbkaajaaaaDoorW.PrintWords Go.Proofs.YtkichgbkaajaaaaDoorW.PrintLast An Cv

theorem w64 {x : Int} (h1 : -9223372036854775808 ≤ x) (h2 : x ≤ 9223372036854775807) : wrap64 x = x := by unfold wrap64; omega
/-- The bounds up to the j-th. -/
noncomputable def bl (s a E : Int) (j : Nat) : List Int := (List.range (j + 1)).map fun i => B s a E (i : Nat)
theorem bl_len (s a E : Int) (j : Nat) : (bl s a E j).length = j + 1 := by simp [bl]
theorem bl_at (s a E : Int) (j : Nat) (i : Nat) (h : i ≤ j) : rd (bl s a E j) (i : Int) = B s a E (i : Nat) := by
  unfold rd bl
  rw [List.getD_eq_getElem?_getD, List.getElem?_map, List.getElem?_range (by omega)]
  simp
theorem bl_next (s a E : Int) (j : Nat) : bl s a E j ++ [B s a E ((j : Int) + 1)] = bl s a E (j + 1) := by
  unfold bl; rw [List.range_succ (n := j + 1), List.map_append]; simp
theorem bl_zero (s a E : Int) : ([s] : List Int) = bl s a E 0 := by simp [bl, B_zero]

theorem y_of {M : Int} (h1 : 1 ≤ M) (h2 : M ≤ 119988) : wrap64 (Int.tdiv (wrap64 (M + 11)) 12) = yr M := by
  rw [w64 (x := M + 11) (by omega) (by omega), Int.tdiv_eq_ediv_of_nonneg (by omega), w64] <;> first | omega | (unfold yr; omega)
theorem m_of {M : Int} (h1 : 1 ≤ M) (h2 : M ≤ 119988) : wrap64 (Int.tmod (wrap64 (M + 11)) 12 + 1) = mo M := by
  rw [w64 (x := M + 11) (by omega) (by omega), Int.tmod_eq_emod_of_nonneg (by omega), w64] <;> first | omega | (unfold mo; omega)
theorem at_of {f a L : Int} (h1 : 1 ≤ f) (h2 : f ≤ 3652060) (h3 : 1 ≤ a) (h4 : a ≤ 31) (h5 : 28 ≤ L ∧ L ≤ 31) : wrap64 (wrap64 (f + mn a L) - 1) = min (f + a - 1) (f + L - 1) := by
  have : mn a L = min a L := by unfold mn; omega
  rw [this, w64 (x := f + min a L), w64] <;> omega
theorem j1_step (k : Nat) (day most : Int) (l : List Int) {M f n s a E A : Int} (hl : l.length < 17592186044416) (h1 : 1 ≤ M) (h2 : M ≤ 119988) (h3 : 1 ≤ f) (h4 : f ≤ 3652060) (h5 : 0 ≤ n) (h6 : n ≤ 119988) (h7 : 1 ≤ a) (h8 : a ≤ 31) (h9 : 1 ≤ E)
    (hA : A = min (f + a - 1) (fst (M + 1) - 1)) (hf : fst (M + 1) = f + lng (yr M) (mo M)) :
    quittanceref09_Bounds.j1 (k + 1) day most l M f n true s a E =
      if n % E = 0 then (if A > s then quittanceref09_Bounds.l0 k day most (l ++ [A]) (M + 1) (fst (M + 1)) (n + 1) s a E else quittanceref09_Bounds.l0 k day most l (M + 1) (fst (M + 1)) (n + 1) s a E)
      else quittanceref09_Bounds.l0 k day most l (M + 1) (fst (M + 1)) (n + 1) s a E := by
  have hlg := lng_bd (yr M) (mo M)
  rw [quittanceref09_Bounds.j1, if_pos rfl, y_of h1 h2, m_of h1 h2]
  unfold quittanceref08_Long.f
  rw [Option.bind_some, if_neg (by omega), Int.tmod_eq_emod_of_nonneg h5, hf]
  rw [hf] at hA
  generalize lng (yr M) (mo M) = L at *
  rw [at_of h3 h4 h7 h8 hlg, ← hA, if_pos hl, w64 (x := M + 1) (by omega) (by omega), w64 (x := f + L) (by omega) (by omega), w64 (x := n + 1) (by omega) (by omega)]
theorem bounds_tells {s a E day most : Int} (h : ok s a E = true) : ∀ (d k n j : Nat), inv s a E n j → (j : Int) ≤ top s a E → ofD s + n + d = 119989 →
    (∀ i : Nat, i < j → B s a E i ≤ day) → ((j : Int) + 1 ≤ most ∨ j = 0) → 2 * d + 2 ≤ k →
    ∃ J : Nat, quittanceref09_Bounds.l0 k day most (bl s a E j) (ofD s + n) (fst (ofD s + n)) n s a E = some (bl s a E J) ∧ (J : Int) ≤ top s a E ∧
      ((J : Int) = top s a E ∨ day < B s a E J ∨ most ≤ (J : Int) + 1) ∧ (∀ i : Nat, i < J → B s a E i ≤ day) ∧ ((J : Int) + 1 ≤ most ∨ J = 0) := by
  have ht := top_bd h
  obtain ⟨⟨g1, g2⟩, ⟨g3, g4⟩, g5, g6⟩ := ok_t h
  have hs := ofD_spec g1 g2
  intro d
  induction d with
  | zero =>
    intro k n j hi hj hd hall hm hk
    obtain ⟨k, rfl⟩ : ∃ m, k = m + 2 := ⟨k - 2, by omega⟩
    refine ⟨j, ?_, hj, .inl (inv_end h hi (by omega) hj), hall, hm⟩
    rw [quittanceref09_Bounds.l0, if_neg (by omega), quittanceref09_Bounds.j1, if_neg (by simp)]
  | succ d ih =>
    intro k n j hi hj hd hall hm hk
    obtain ⟨k, rfl⟩ : ∃ m, k = m + 2 := ⟨k - 2, by omega⟩
    have hl := bl_len s a E j
    have h1j : (1 : Int) ≤ (j : Int) + 1 := by omega
    have e1 : wrap64 (((bl s a E j).length : Int) - 1) = (j : Int) := by rw [hl, w64] <;> omega
    have hB := B_bd h (i := (j : Int)) (by omega) hj
    have hf := fst_bd (M := ofD s + n) (by omega) (by omega)
    have hfs := fst_succ (M := ofD s + n) (by omega) (by omega)
    have hat1 : at_ (ofD s + n) a = min (fst (ofD s + n) + a - 1) (fst (ofD s + n + 1) - 1) := rfl
    rw [quittanceref09_Bounds.l0, if_pos (by omega), e1, if_pos (by omega), if_pos (by omega), bl_at _ _ _ _ _ (Nat.le_refl _)]
    by_cases hday : B s a E (j : Nat) ≤ day
    · rw [if_pos hday, hl]
      by_cases hmost : (((j + 1 : Nat)) : Int) < most
      · rw [decide_eq_true hmost, j1_step k day most (bl s a E j) (A := at_ (ofD s + n) a) (by omega) (by omega) (by omega) hf.1 hf.2 (by omega) (by omega) g3 g4 g5 hat1 hfs]
        have hn1 : ofD s + (n : Int) + 1 = ofD s + ((n + 1 : Nat) : Int) := by omega
        have hn3 : (n : Int) + 1 = ((n + 1 : Nat) : Int) := by omega
        rw [hn1, hn3]
        by_cases hz : (n : Int) % E = 0
        · rw [if_pos hz]
          by_cases hb : at_ (ofD s + n) a > s
          · have st := step_yes h hi (by omega) hz hb
            rw [if_pos hb, st.2.1, ← B_pos (s := s) (E := E) (i := (j : Int) + 1) h1j, bl_next]
            exact ih k (n + 1) (j + 1) (by simpa using st.1) (by have := st.2.2; omega) (by omega) (fun i hi' => by
              rcases (by omega : i < j ∨ i = j) with q | rfl
              · exact hall i q
              · exact hday) (.inl (by omega)) (by omega)
          · rw [if_neg hb]
            exact ih k (n + 1) j (by simpa using step_no h hi (by omega) (fun q => hb q.2)) hj (by omega) hall hm (by omega)
        · rw [if_neg hz]
          exact ih k (n + 1) j (by simpa using step_no h hi (by omega) (fun q => hz q.1)) hj (by omega) hall hm (by omega)
      · rw [decide_eq_false hmost, quittanceref09_Bounds.j1, if_neg (by simp)]
        exact ⟨j, rfl, hj, .inr (.inr (by omega)), hall, hm⟩
    · rw [if_neg hday, quittanceref09_Bounds.j1, if_neg (by simp)]
      exact ⟨j, rfl, hj, .inr (.inl (by omega)), hall, hm⟩
theorem bounds_f {s a E : Int} (day most : Int) (h : ok s a E = true) (k : Nat) (hk : 239980 ≤ k) :
    ∃ J : Nat, quittanceref09_Bounds.f k s a E day most = some (bl s a E J) ∧ (J : Int) ≤ top s a E ∧
      ((J : Int) = top s a E ∨ day < B s a E J ∨ most ≤ (J : Int) + 1) ∧ (∀ i : Nat, i < J → B s a E i ≤ day) ∧ ((J : Int) + 1 ≤ most ∨ J = 0) := by
  have ht := top_bd h
  have hk0 := k0_01 s a
  obtain ⟨⟨g1, g2⟩, ⟨g3, g4⟩, g5, g6⟩ := ok_t h
  have hs := ofD_spec g1 g2
  have := bounds_tells (day := day) (most := most) h (119989 - ofD s).toNat k 0 0 (.inl ⟨rfl, rfl⟩) (by omega) (by omega) (fun i hi => by omega) (.inr rfl) (by omega)
  unfold quittanceref09_Bounds.f quittanceref08_Of.f quittanceref08_Days.f
  simp only [Option.bind_some, Cv.ofV, Cv.fstV, okD_mk g1 g2, okM_mk hs.1 hs.2.1, if_true]
  rw [bl_zero s a E]
  simpa using this
theorem check_f (s a E : Int) : quittanceref09_Check.f s a E = some (ckE s a E) := by
  unfold quittanceref09_Check.f ckE ok
  by_cases h1 : s < 1
  · rw [if_pos h1]; simp; omega
  rw [if_neg h1]
  by_cases h2 : s > 3652059
  · rw [if_pos h2]; simp; omega
  rw [if_neg h2]
  by_cases h3 : a < 1
  · rw [if_pos h3]; simp; omega
  rw [if_neg h3]
  by_cases h4 : a > 31
  · rw [if_pos h4]; simp; omega
  rw [if_neg h4]
  by_cases h5 : E < 1
  · rw [if_pos h5]; simp; omega
  rw [if_neg h5]
  by_cases h6 : E > 120
  · rw [if_pos h6]; simp; omega
  rw [if_neg h6]; simp; omega
theorem ref_bound (s a E i : Int) (k : Nat) (hk : 239981 ≤ k) : quittanceref09_Bound.f k s a E i = some (bV s a E i, bE s a E i) := by
  obtain ⟨k, rfl⟩ : ∃ m, k = m + 1 := ⟨k - 1, by omega⟩
  unfold quittanceref09_Bound.f
  rw [check_f, Option.bind_some]
  cases h : ok s a E with
  | false => simp [ckE, quittanceref09_Bound.j0, bV, bE, bOk, h]
  | true =>
    rw [ckE, h, if_pos rfl, if_pos rfl, quittanceref09_Bound.j0]
    by_cases hi : i < 0
    · rw [decide_eq_true hi, if_pos rfl]; simp [bV, bE, bOk, h]; omega
    · rw [decide_eq_false hi, if_neg (by simp)]
      have hm : mn i 119988 = min i 119988 := by unfold mn; omega
      rw [hm, w64 (by omega) (by omega)]
      obtain ⟨J, e, hJ, hx, _, hy⟩ := bounds_f (s := s) (a := a) (E := E) 3652059 (min i 119988 + 1) h k (by omega)
      have ht := top_bd h
      have hB := B_bd h (i := (J : Int)) (by omega) hJ
      rw [e, Option.bind_some, bl_len]
      by_cases hle : i ≤ top s a E
      · rw [if_neg (by omega), if_pos (by omega), if_pos (by omega)]
        obtain ⟨m, rfl⟩ : ∃ m : Nat, i = m := ⟨i.toNat, by omega⟩
        rw [bl_at _ _ _ _ _ (by omega)]
        simp [bV, bE, bOk, h, hle]
      · rw [if_pos (by omega)]
        simp [bV, bE, bOk, h, hle]; omega
theorem ref_find (s a E d : Int) (k : Nat) (hk : 239981 ≤ k) :
    quittanceref09_Find.f k s a E d = some (fV s a E d (fk s a E d), fV s a E d (B s a E (fk s a E d)), fV s a E d (B s a E (fk s a E d + 1)), fE s a E d) := by
  obtain ⟨k, rfl⟩ : ∃ m, k = m + 1 := ⟨k - 1, by omega⟩
  unfold quittanceref09_Find.f
  rw [check_f, Option.bind_some]
  cases h : ok s a E with
  | false => simp [ckE, quittanceref09_Find.j0, fV, fE, fIn, fOk, h]
  | true =>
    rw [ckE, h, if_pos rfl, if_pos rfl]
    by_cases hd1 : d < 1
    · rw [if_pos hd1, quittanceref09_Find.j0, if_pos rfl]
      have : fOk s a E d = false := by unfold fOk; simp; omega
      simp [fV, fE, fIn, this]
    rw [if_neg hd1]
    by_cases hd2 : d > 3652059
    · rw [decide_eq_true hd2, quittanceref09_Find.j0, if_pos rfl]
      have : fOk s a E d = false := by unfold fOk; simp; omega
      simp [fV, fE, fIn, this]
    rw [decide_eq_false hd2, quittanceref09_Find.j0, if_neg (by simp)]
    have hok : fOk s a E d = true := by unfold fOk; simp [h]; omega
    obtain ⟨J, e, hJ, hx, hall, hy⟩ := bounds_f (s := s) (a := a) (E := E) d 119990 h k (by omega)
    have ht := top_bd h
    have hB := B_bd h (i := (J : Int)) (by omega) hJ
    rw [e, Option.bind_some, bl_len]
    by_cases hs : d < s
    · rw [if_pos hs]
      have : fIn s a E d = false := by unfold fIn; simp; omega
      simp [fV, fE, hok, this]
    rw [if_neg hs]
    have e1 : wrap64 (((J + 1 : Nat) : Int) - 1) = (J : Int) := by rw [w64] <;> omega
    rw [e1, if_pos (by omega), if_pos (by omega), bl_at _ _ _ _ _ (Nat.le_refl _)]
    by_cases hle : B s a E (J : Nat) ≤ d
    · rw [if_pos hle]
      have : (J : Int) = top s a E := by omega
      rw [this] at hle
      obtain ⟨_, q⟩ := f_out h (by omega) hle
      simp [fV, fE, hok, q]
    · rw [if_neg hle]
      have hJ1 : 1 ≤ J := by
        rcases Nat.eq_zero_or_pos J with rfl | q
        · simp only [Int.ofNat_zero, B_zero] at hle; omega
        · exact q
      obtain ⟨j, rfl⟩ : ∃ j, J = j + 1 := ⟨J - 1, by omega⟩
      have e2 : wrap64 (((j + 1 : Nat) : Int) - 1) = (j : Int) := by rw [w64] <;> omega
      rw [e2, if_pos (by omega), if_pos (by omega), bl_at _ _ _ _ _ (by omega)]
      have hc : ((j + 1 : Nat) : Int) = (j : Int) + 1 := by omega
      rw [hc] at hle hJ ⊢
      obtain ⟨q1, q2, q3⟩ := f_in h (k := (j : Int)) (by omega) hJ (hall j (by omega)) (by omega)
      simp [fV, fE, q1, q2, q3]
/-- The laws, as numbers. -/
theorem pure_bounds (s a E i : Int) : quittancelaw09_AnchorBounds.f 239981 s a E i = some true := by
  unfold quittancelaw09_AnchorBounds.f anchor_Bound.f quittancelaw09_head.f
  rw [ref_bound s a E i _ (Nat.le_refl _)]
  simp
theorem pure_finds (s a E d : Int) : quittancelaw09_AnchorFinds.f 239981 s a E d = some true := by
  unfold quittancelaw09_AnchorFinds.f anchor_Find.f quittancelaw09_head.f
  rw [ref_find s a E d _ (Nat.le_refl _)]
  simp
/-- The walks of the laws. -/
theorem anchorBounds (s a E i : Int) (w : World) (T : civ.Tab w) : Calls Tryd.prog 4 #[.agg #[.int .i64 s, .int .i64 a, .int .i64 E], .int .i64 i] w fun e w' => e = .returned (.bool true) ∧ Below w.heap.size w w' :=
  quittancelaw09_AnchorBounds.calls 239981 s a E i true w ⟨T⟩ (pure_bounds s a E i)
theorem anchorFinds (s a E d : Int) (w : World) (T : civ.Tab w) : Calls Tryd.prog 5 #[.agg #[.int .i64 s, .int .i64 a, .int .i64 E], .int .i64 d] w fun e w' => e = .returned (.bool true) ∧ Below w.heap.size w w' :=
  quittancelaw09_AnchorFinds.calls 239981 s a E d true w ⟨T⟩ (pure_finds s a E d)
end Go.Proofs.YtkichgbkaajaaaaDoor.PH
