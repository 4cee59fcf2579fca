/- Chapter 11, as numbers: the months of a term have all of its days; those of a term that is cut are those of its parts. No conditions but that numbers are of 64 bits. -/
import Derived.Test.YtpegaabcelkmmaaDoorPHx9
import Derived.Test.YtpegaabcelkmmaaDoorPure11B
namespace Tm
open Cv
theorem terms_get {f n : Int} {k i : Nat} (h : i < (terms f n k).length) : (terms f n k)[i] = ent f n i := by simp [terms]
theorem ent_eq {f n f' n' : Int} {i j : Nat} (h0 : ofD f + i = ofD f' + j) (h1 : cur f n i = cur f' n' j) (h2 : cur f n (i + 1) = cur f' n' (j + 1)) : ent f n i = ent f' n' j := by
  unfold ent; rw [h0, h1, h2]
structure Cut (f k n : Int) : Prop where
  f1 : 1 ≤ f
  fk : f < k
  kn : k < n
  nm : n ≤ 3652060
theorem Cut.a {f k n : Int} (h : Cut f k n) : Ok f k := ⟨h.f1, h.fk, by have := h.kn; have := h.nm; omega⟩
theorem Cut.b {f k n : Int} (h : Cut f k n) : Ok k n := ⟨by have := h.f1; have := h.fk; omega, h.kn, h.nm⟩
theorem Cut.c {f k n : Int} (h : Cut f k n) : Ok f n := ⟨h.f1, by have := h.fk; have := h.kn; omega, h.nm⟩
theorem cur_a {f k n : Int} (h : Cut f k n) {i : Nat} (hi : i < cnt f k) : cur f k i = cur f n i := by
  have a := at_k h.a hi
  have h2 := h.kn
  rcases Nat.eq_zero_or_pos i with rfl | hp
  · rw [cur_zero, cur_zero]
  · unfold cur at a ⊢
    rw [if_neg (by omega)] at a
    rw [if_neg (by omega), if_neg (by omega)]
    omega
theorem cur_b {f k n : Int} {m j : Nat} (h : ofD f + m = ofD k + j) (hm : 0 < m) (hj : 0 < j) : cur k n j = cur f n m := by
  unfold cur
  rw [if_neg (by omega), if_neg (by omega), h]
theorem mid {f k n : Int} (h : Cut f k n) : (cnt f k : Int) = ofD (k - 1) - ofD f + 1 ∧ (cnt k n : Int) = ofD (n - 1) - ofD k + 1 ∧ (cnt f n : Int) = ofD (n - 1) - ofD f + 1 ∧ 1 ≤ cnt f k ∧ 1 ≤ cnt k n ∧ (ofD (k - 1) = ofD k ∨ (ofD (k - 1) + 1 = ofD k ∧ k = fst (ofD k))) := by
  have a := cnt_spec h.a
  have b := cnt_spec h.b
  have c := cnt_spec h.c
  obtain ⟨h1, h2, h3, h4⟩ := h
  have s1 := ofD_spec (d := k - 1) (by omega) (by omega)
  have s2 := ofD_spec (d := k) (by omega) (by omega)
  have m := ofD_mono (a := k - 1) (b := k) (by omega) (by omega) (by omega)
  have l := fst_lo s1.1 s1.2.1
  refine ⟨a.1, b.1, c.1, a.2.1, b.2.1, ?_⟩
  rcases Int.lt_or_le (ofD (k - 1)) (ofD k) with q | q
  · right
    have mo := fst_mono (a := ofD (k - 1) + 1) (b := ofD k) (by omega) (by omega) (by omega)
    have : ofD (k - 1) + 1 = ofD k := by
      rcases Int.lt_or_le (ofD (k - 1) + 1) (ofD k) with z | z
      · have mo2 := fst_mono (a := ofD (k - 1) + 1 + 1) (b := ofD k) (by omega) (by omega) (by omega)
        have l2 := fst_lo (M := ofD (k - 1) + 1) (by omega) (by omega)
        omega
      · omega
    rw [this] at s1
    exact ⟨this, by omega⟩
  · left; omega
/-- A term that is cut between two months. -/
theorem cat_apart {f k n : Int} (h : Cut f k n) (hq : ofD (k - 1) ≠ ofD k) : terms f k (cnt f k) ++ terms k n (cnt k n) = terms f n (cnt f n) := by
  obtain ⟨m1, m2, m3, m4, m5, m6⟩ := mid h
  have he := at_end h.a
  have hkn := h.kn
  rcases m6 with q | ⟨q, hk⟩
  · exact absurd q hq
  have ck : cur f n (cnt f k) = k := by
    unfold cur; rw [if_neg (by omega), show ofD f + (cnt f k : Int) = ofD k by omega, ← hk]; omega
  refine List.ext_getElem (by simp only [List.length_append, terms_len]; omega) fun i h1 h2 => ?_
  rw [terms_get]
  rw [terms_len] at h2
  by_cases hi : i < cnt f k
  · rw [List.getElem_append_left (by rw [terms_len]; exact hi), terms_get]
    refine ent_eq rfl (cur_a h hi) ?_
    by_cases hi2 : i + 1 < cnt f k
    · exact cur_a h hi2
    · rw [show i + 1 = cnt f k by omega, he, ck]
  · rw [List.getElem_append_right (by rw [terms_len]; omega), terms_get]
    simp only [terms_len]
    obtain ⟨j, rfl⟩ : ∃ j, i = cnt f k + j := ⟨i - cnt f k, by omega⟩
    rw [show cnt f k + j - cnt f k = j by omega]
    refine ent_eq (by omega) ?_ (cur_b (by omega) (by omega) (by omega))
    rcases Nat.eq_zero_or_pos j with rfl | hp
    · rw [cur_zero, Nat.add_zero, ck]
    · exact cur_b (by omega) (by omega) hp
/-- A term that is cut within a month. -/
theorem cat_within {f k n : Int} (h : Cut f k n) (hq : ofD (k - 1) = ofD k) {A : Nat} (hA : cnt f k = A + 1) :
    (terms f k (cnt f k)).take A ++ (terms k n (cnt k n)).set 0 (ofD k, cur k n 1 - k + (k - cur f k A)) = terms f n (cnt f n) := by
  obtain ⟨m1, m2, m3, m4, m5, _⟩ := mid h
  have hkn := h.kn
  have lt : ((terms f k (cnt f k)).take A).length = A := by rw [List.length_take, terms_len]; omega
  refine List.ext_getElem (by simp only [List.length_append, List.length_set, lt, terms_len]; omega) fun i h1 h2 => ?_
  rw [terms_get]
  rw [terms_len] at h2
  by_cases hi : i < A
  · rw [List.getElem_append_left (by rw [lt]; exact hi), List.getElem_take, terms_get]
    exact ent_eq rfl (cur_a h (by omega)) (cur_a h (by omega))
  · rw [List.getElem_append_right (by rw [lt]; omega)]
    simp only [lt]
    obtain ⟨j, rfl⟩ : ∃ j, i = A + j := ⟨i - A, by omega⟩
    rcases Nat.eq_zero_or_pos j with rfl | hp
    · simp only [Nat.add_zero, Nat.sub_self, List.getElem_set_self]
      have e1 := cur_a h (show A < cnt f k by omega)
      have e2 : cur k n 1 = cur f n (A + 1) := cur_b (by omega) (by omega) (by omega)
      unfold ent
      rw [e1, e2, show ofD f + (A : Int) = ofD k by omega]
      congr 1; omega
    · rw [List.getElem_set_ne (by omega), terms_get, show A + j - A = j by omega]
      exact ent_eq (by omega) (cur_b (by omega) (by omega) (by omega)) (cur_b (by omega) (by omega) (by omega))
end Tm
namespace Go.Proofs.YtpegaabcelkmmaaDoor.PH
open Go.RowKit Go.Proofs.YtpegaabcelkmmaaDoorW.PrintWords Go.Proofs.YtpegaabcelkmmaaDoorW.PrintLast Tm Cv

theorem tmodP (a : Int) {c : Int} (hc : 1 ≤ c) : -c < a.tmod c ∧ a.tmod c < c := by
  have h1 := Int.tmod_lt_of_pos a (show 0 < c by omega)
  have h2 : -c < a.tmod c := by
    have := Int.tmod_lt_of_pos (-a) (show 0 < c by omega)
    rw [Int.neg_tmod] at this; omega
  exact ⟨h2, h1⟩
noncomputable abbrev ml (f n : Int) : List S51 := (terms f n (cnt f n)).map shr
theorem ml_len (f n : Int) : (ml f n).length = cnt f n := by simp [terms_len]
theorem months_ok {f n : Int} (h : Ok f n) : prorate_Months.f f n = some (ml f n, 0) := by
  unfold prorate_Months.f
  obtain ⟨h1, h2, h3⟩ := h
  rw [if_neg (by simp [pmon.badT]; omega)]
/-- The list, once more. -/
theorem term_j5 (f n : Int) (hn : Ok f n) (a b : List S51) (h : a ++ b = ml f n) (k : Nat) (hk : 119992 ≤ k) : quittancelaw11_ProrateTerm.j5 k (ml f n) a b = some true := by
  obtain ⟨k, rfl⟩ : ∃ m, k = m + 1 := ⟨k - 1, by omega⟩
  have hc := cnt_spec hn
  have hl : a.length + b.length = cnt f n := by rw [← List.length_append, h, ml_len]
  rw [quittancelaw11_ProrateTerm.j5]
  simp only [Option.bind_some, List.length_nil, List.nil_append]
  rw [if_pos (by omega), if_pos (by omega), h, same_self _ k (by rw [ml_len]; omega) (by rw [ml_len]; omega), Option.bind_some, if_pos rfl, head_f _ (by omega)]; rfl
theorem term_j4 {f k n : Int} (h : Cut f k n) (K : Nat) (hk : 119993 ≤ K) : quittancelaw11_ProrateTerm.j4 K (ml f n) (ml f k) (ml k n) false = some true := by
  obtain ⟨K, rfl⟩ : ∃ m, K = m + 1 := ⟨K - 1, by omega⟩
  obtain ⟨m1, m2, m3, m4, m5, _⟩ := mid h
  have ca := cnt_spec h.a
  obtain ⟨A, hA⟩ : ∃ A, cnt f k = A + 1 := ⟨cnt f k - 1, by omega⟩
  have e1 : wrap64 (((ml f k).length : Int) - 1) = (A : Int) := by rw [ml_len, w64] <;> omega
  rw [quittancelaw11_ProrateTerm.j4, if_neg (by simp), e1, if_pos (by omega), ml_len, ml_len, if_pos (by omega), if_pos (by omega)]
  have r1 := rd_terms (f := f) (n := k) (C := cnt f k) A (by omega)
  have r2 := rd_terms (f := k) (n := n) (C := cnt k n) 0 (by omega)
  have r2' : rd_T51 (ml k n) 0 = shr (ent k n 0) := r2
  have r1' : rd_T51 (ml f k) (A : Int) = shr (ent f k A) := r1
  rw [r1', r2']
  have f1 : (shr (ent f k A)).f0 = ofD (k - 1) := by unfold shr ent; dsimp only; omega
  have f2 : (shr (ent k n 0)).f0 = ofD k := by unfold shr ent; dsimp only; omega
  have g1 : (shr (ent f k A)).f1 = k - cur f k A := by
    unfold shr ent; dsimp only; rw [← hA, at_end h.a]
  have g2 : (shr (ent k n 0)).f1 = cur k n 1 - k := by unfold shr ent; dsimp only; rw [cur_zero]
  rw [f1, f2, g1, g2]
  by_cases hq : ofD (k - 1) = ofD k
  · rw [if_pos hq, if_pos (by omega)]
    have b1 := at_k h.a (show A < cnt f k by omega)
    have b2 := at_k h.b (show 0 < cnt k n by omega)
    have b3 := h.nm
    have b4 := h.f1
    have b5 := h.fk
    have b6 := h.kn
    rw [cur_zero] at b2
    simp only [Nat.zero_add] at b2
    refine term_j5 f n h.c _ _ ?_ K (by omega)
    rw [w64 (x := cur k n 1 - k + (k - cur f k A)) (by omega) (by omega)]
    have := cat_within h hq hA
    rw [show ml f n = (terms f n (cnt f n)).map shr from rfl, ← this, List.map_append, List.map_take, List.map_set]
    congr 1
  · rw [if_neg hq]
    refine term_j5 f n h.c _ _ ?_ K (by omega)
    rw [← List.map_append, cat_apart h hq]
theorem term_end {f n : Int} (h : Ok f n) (cut : Int) (K : Nat) (hk : 119997 ≤ K) : quittancelaw11_ProrateTerm.l0 K f n cut (ml f n) (n - f) (cnt f n) = some true := by
  obtain ⟨K, rfl⟩ : ∃ m, K = m + 2 := ⟨K - 2, by omega⟩
  have hc := cnt_spec h
  obtain ⟨h1, h2, h3⟩ := h
  have w1 : wrap64 (n - f) = n - f := w64 (by omega) (by omega)
  have r := rd_terms (f := f) (n := n) (C := cnt f n) 0 (by omega)
  have r' : rd_T51 (ml f n) 0 = shr (ent f n 0) := r
  have f0 : (shr (ent f n 0)).f0 = ofD f := by unfold shr ent; dsimp only; omega
  rw [quittancelaw11_ProrateTerm.l0, ml_len, if_neg (by omega)]
  unfold quittanceref08_Of.f
  simp only [Option.bind_some, Cv.ofV, okD_mk h1 (show f ≤ 3652059 by omega), if_true]
  rw [w1, if_pos rfl, if_neg (by omega), if_pos (by omega), r', f0, show (ofD f != ofD f) = false by simp, quittancelaw11_ProrateTerm.j3, if_neg (by simp), w1, if_neg (by omega)]
  have hr := tmodP cut (c := n - f) (by omega)
  generalize cut.tmod (n - f) = r at *
  rw [w64 (x := f + r) (by omega) (by omega)]
  by_cases hle : f + r ≤ f
  · rw [if_pos hle, head_f _ (by omega)]; rfl
  · have hcut : Cut f (f + r) n := ⟨h1, by omega, by omega, h3⟩
    have ca := cnt_spec hcut.a
    have cb := cnt_spec hcut.b
    rw [if_neg hle, months_ok hcut.a, months_ok hcut.b]
    simp only [Option.bind_some, if_true]
    rw [ml_len, ml_len, if_neg (by omega), show (((cnt (f + r) n : Nat) : Int) == 0) = false by simp; omega]
    exact term_j4 hcut K (by omega)
theorem term_loop {f n : Int} (h : Ok f n) (cut : Int) : ∀ (d K i : Nat), i + d = cnt f n → 119997 + 2 * d ≤ K → quittancelaw11_ProrateTerm.l0 K f n cut (ml f n) (cur f n i - f) i = some true := by
  have hc := cnt_spec h
  have h3 := h.nm
  have h1 := h.f1
  have h2 := h.fn
  intro d
  induction d with
  | zero =>
    intro K i hi hk
    obtain rfl : i = cnt f n := by omega
    rw [at_end h]
    exact term_end h cut K (by omega)
  | succ d ih =>
    intro K i hi hk
    obtain ⟨K, rfl⟩ : ∃ m, K = m + 2 := ⟨K - 2, by omega⟩
    have ha := at_k h (show i < cnt f n by omega)
    have r := rd_terms (f := f) (n := n) (C := cnt f n) i (by omega)
    have r' : rd_T51 (ml f n) i = shr (ent f n i) := r
    have f0 : (shr (ent f n i)).f0 = ofD f + i := rfl
    have f1 : (shr (ent f n i)).f1 = cur f n (i + 1) - cur f n i := rfl
    have ec := cur_succ f n i
    have hb := fst_bd (M := ofD f + i) (by omega) (by omega)
    have hb2 := fst_bd (M := ofD f + i + 1) (by omega) (by omega)
    have hl := fst_lo (M := ofD f + i) (by omega) (by omega)
    have e1 : wrap64 (wrap64 (fst (ofD f + i + 1) - 1 - fst (ofD f + i)) + 1) = fst (ofD f + i + 1) - fst (ofD f + i) := by
      rw [w64 (x := fst (ofD f + i + 1) - 1 - fst (ofD f + i)) (by omega) (by omega), w64] <;> omega
    have next : quittancelaw11_ProrateTerm.j2 (K + 1) f n cut (ml f n) (cur f n i - f) i false = some true := by
      rw [quittancelaw11_ProrateTerm.j2, if_neg (by simp), if_pos (by omega), ml_len, if_pos (by omega), r', f1, w64 (x := cur f n i - f + (cur f n (i + 1) - cur f n i)) (by omega) (by omega), w64 (x := (i : Int) + 1) (by omega) (by omega)]
      have := ih K (i + 1) (by omega) (by omega)
      rw [show cur f n i - f + (cur f n (i + 1) - cur f n i) = cur f n (i + 1) - f by omega]
      rwa [show ((i + 1 : Nat) : Int) = (i : Int) + 1 by omega] at this
    rw [quittancelaw11_ProrateTerm.l0, ml_len, if_pos (by omega), if_pos (by omega), r', f0, f1]
    unfold quittanceref08_DaysB.f
    simp only [Option.bind_some, Cv.fstV, Cv.lstV, ha.1, if_true]
    rw [if_neg (by omega), e1, if_neg (by omega)]
    rcases Nat.eq_zero_or_pos i with rfl | hp
    · rw [if_neg (by omega)]; exact next
    · have w1 : wrap64 ((i : Int) - 1) = ((i - 1 : Nat) : Int) := by rw [w64] <;> omega
      have q := rd_terms (f := f) (n := n) (C := cnt f n) (i - 1) (by omega)
      have q' : rd_T51 (ml f n) ((i - 1 : Nat) : Int) = shr (ent f n (i - 1)) := q
      have q0 : (shr (ent f n (i - 1))).f0 = ofD f + ((i - 1 : Nat) : Int) := rfl
      rw [if_pos (by omega), w1, if_pos (by omega), if_pos (by omega), q', q0, w64 (x := ofD f + ((i - 1 : Nat) : Int) + 1) (by omega) (by omega), if_pos (by omega), w64 (by omega) (by omega)]
      by_cases hl2 : (i : Int) + 1 < cnt f n
      · have hb3 := at_k h (show i + 1 < cnt f n by omega)
        have ci : cur f n i = fst (ofD f + i) := by
          have : cur f n i = min (fst (ofD f + i)) n := by unfold cur; rw [if_neg (by omega)]
          omega
        have e5 : (cur f n (i + 1) - cur f n i != fst (ofD f + i + 1) - fst (ofD f + i)) = false := by
          have : cur f n (i + 1) - cur f n i = fst (ofD f + i + 1) - fst (ofD f + i) := by omega
          rw [this]; simp
        rw [if_pos hl2, e5]; exact next
      · rw [if_neg hl2]; exact next
theorem pure_term (f n cut : Int) : quittancelaw11_ProrateTerm.f 400000 f n cut = some true := by
  unfold quittancelaw11_ProrateTerm.f
  by_cases hb : pmon.badT f n = true
  · have : prorate_Months.f f n = some ([], 2) := by unfold prorate_Months.f; rw [if_pos hb]
    rw [this]
    simp only [Option.bind_some]
    rw [if_neg (by omega), quittancelaw11_ProrateTerm.j0, if_pos rfl, if_neg (by omega), if_pos (by simp), head_f _ (by omega)]; rfl
  · have hb' : ¬ (f < 1 ∨ n ≤ f ∨ 3652060 < n) := by simpa [pmon.badT] using hb
    have hok : Ok f n := ⟨by omega, by omega, by omega⟩
    have hc := cnt_spec hok
    rw [months_ok hok]
    simp only [Option.bind_some, if_true]
    rw [quittancelaw11_ProrateTerm.j0]
    by_cases hd : wrap64 (n - f) > 4000
    · rw [if_pos (by simpa using hd), head_f _ (by omega)]; rfl
    · rw [if_neg (by simpa using hd)]
      have := term_loop hok cut (cnt f n) 399999 0 (by omega) (by omega)
      rw [cur_zero] at this
      simpa using this
theorem prorateTerm (f n cut : Int) (w : World) (T : civ.Tab w) :
    Calls Tryd.prog 8 #[.int .i64 f, .int .i64 n, .int .i64 cut] w fun e w' => e = .returned (.bool true) ∧ Below w.heap.size w w' :=
  quittancelaw11_ProrateTerm.calls 400000 f n cut true w ⟨T⟩ (pure_term f n cut)
end Go.Proofs.YtpegaabcelkmmaaDoor.PH
