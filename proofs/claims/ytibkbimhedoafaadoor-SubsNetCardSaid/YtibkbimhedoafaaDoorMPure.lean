/- The document's answer of chapter 09 for bounds, as numbers: what its printed function gives is the bounds' law. No conditions. Chapter 23, as numbers: which subscriptions may be; the last period; what falls on days: the two sides alike. No conditions but that numbers are of 64 bits. Chapter 23, as numbers: changes and ends of subscriptions, the two sides alike. No conditions but that numbers are of 64 bits. -/
import Derived.Test.YtibkbimhedoafaaDoorPHx9
import Derived.Test.YtibkbimhedoafaaDoorMAnch
import Derived.Test.YtibkbimhedoafaaDoorMSubA
import Derived.Test.YtibkbimhedoafaaDoorPPror
import Derived.Test.YtibkbimhedoafaaDoorMP
import Derived.Test.YtibkbimhedoafaaDoorPHx11
import Derived.Test.YtibkbimhedoafaaDoorPHx10
import Derived.Test.YtibkbimhedoafaaDoorPHx4
import Derived.Test.YtibkbimhedoafaaDoorPHx5
namespace Go.Proofs.YtibkbimhedoafaaDoor.PH
open Go.RowKit Go.Proofs.YtibkbimhedoafaaDoorW.PrintWords Go.Proofs.YtibkbimhedoafaaDoorW.PrintLast An Cv

theorem w64 {x : Int} (h1 : -9223372036854775808 ≤ x) (h2 : x ≤ 9223372036854775807) : wrap64 x = x := by unfold wrap64; omega
/-- The bounds up to the j-th. -/
noncomputable def bl (s a E : Int) (j : Nat) : List Int := (List.range (j + 1)).map fun i => B s a E (i : Nat)
theorem bl_len (s a E : Int) (j : Nat) : (bl s a E j).length = j + 1 := by simp [bl]
theorem bl_at (s a E : Int) (j : Nat) (i : Nat) (h : i ≤ j) : rd (bl s a E j) (i : Int) = B s a E (i : Nat) := by
  unfold rd bl
  rw [List.getD_eq_getElem?_getD, List.getElem?_map, List.getElem?_range (by omega)]
  simp
theorem bl_next (s a E : Int) (j : Nat) : bl s a E j ++ [B s a E ((j : Int) + 1)] = bl s a E (j + 1) := by
  unfold bl; rw [List.range_succ (n := j + 1), List.map_append]; simp
theorem bl_zero (s a E : Int) : ([s] : List Int) = bl s a E 0 := by simp [bl, B_zero]

theorem y_of {M : Int} (h1 : 1 ≤ M) (h2 : M ≤ 119988) : wrap64 (Int.tdiv (wrap64 (M + 11)) 12) = yr M := by
  rw [w64 (x := M + 11) (by omega) (by omega), Int.tdiv_eq_ediv_of_nonneg (by omega), w64] <;> first | omega | (unfold yr; omega)
theorem m_of {M : Int} (h1 : 1 ≤ M) (h2 : M ≤ 119988) : wrap64 (Int.tmod (wrap64 (M + 11)) 12 + 1) = mo M := by
  rw [w64 (x := M + 11) (by omega) (by omega), Int.tmod_eq_emod_of_nonneg (by omega), w64] <;> first | omega | (unfold mo; omega)
theorem at_of {f a L : Int} (h1 : 1 ≤ f) (h2 : f ≤ 3652060) (h3 : 1 ≤ a) (h4 : a ≤ 31) (h5 : 28 ≤ L ∧ L ≤ 31) : wrap64 (wrap64 (f + mn a L) - 1) = min (f + a - 1) (f + L - 1) := by
  have : mn a L = min a L := by unfold mn; omega
  rw [this, w64 (x := f + min a L), w64] <;> omega
theorem j1_step (k : Nat) (day most : Int) (l : List Int) {M f n s a E A : Int} (hl : l.length < 17592186044416) (h1 : 1 ≤ M) (h2 : M ≤ 119988) (h3 : 1 ≤ f) (h4 : f ≤ 3652060) (h5 : 0 ≤ n) (h6 : n ≤ 119988) (h7 : 1 ≤ a) (h8 : a ≤ 31) (h9 : 1 ≤ E)
    (hA : A = min (f + a - 1) (fst (M + 1) - 1)) (hf : fst (M + 1) = f + lng (yr M) (mo M)) :
    quittanceref09_Bounds.j1 (k + 1) day most l M f n true s a E =
      if n % E = 0 then (if A > s then quittanceref09_Bounds.l0 k day most (l ++ [A]) (M + 1) (fst (M + 1)) (n + 1) s a E else quittanceref09_Bounds.l0 k day most l (M + 1) (fst (M + 1)) (n + 1) s a E)
      else quittanceref09_Bounds.l0 k day most l (M + 1) (fst (M + 1)) (n + 1) s a E := by
  have hlg := lng_bd (yr M) (mo M)
  rw [quittanceref09_Bounds.j1, if_pos rfl, y_of h1 h2, m_of h1 h2]
  unfold quittanceref08_Long.f
  rw [Option.bind_some, if_neg (by omega), Int.tmod_eq_emod_of_nonneg h5, hf]
  rw [hf] at hA
  generalize lng (yr M) (mo M) = L at *
  rw [at_of h3 h4 h7 h8 hlg, ← hA, if_pos hl, w64 (x := M + 1) (by omega) (by omega), w64 (x := f + L) (by omega) (by omega), w64 (x := n + 1) (by omega) (by omega)]
theorem bounds_tells {s a E day most : Int} (h : ok s a E = true) : ∀ (d k n j : Nat), inv s a E n j → (j : Int) ≤ top s a E → ofD s + n + d = 119989 →
    (∀ i : Nat, i < j → B s a E i ≤ day) → ((j : Int) + 1 ≤ most ∨ j = 0) → 2 * d + 2 ≤ k →
    ∃ J : Nat, quittanceref09_Bounds.l0 k day most (bl s a E j) (ofD s + n) (fst (ofD s + n)) n s a E = some (bl s a E J) ∧ (J : Int) ≤ top s a E ∧
      ((J : Int) = top s a E ∨ day < B s a E J ∨ most ≤ (J : Int) + 1) ∧ (∀ i : Nat, i < J → B s a E i ≤ day) ∧ ((J : Int) + 1 ≤ most ∨ J = 0) := by
  have ht := top_bd h
  obtain ⟨⟨g1, g2⟩, ⟨g3, g4⟩, g5, g6⟩ := ok_t h
  have hs := ofD_spec g1 g2
  intro d
  induction d with
  | zero =>
    intro k n j hi hj hd hall hm hk
    obtain ⟨k, rfl⟩ : ∃ m, k = m + 2 := ⟨k - 2, by omega⟩
    refine ⟨j, ?_, hj, .inl (inv_end h hi (by omega) hj), hall, hm⟩
    rw [quittanceref09_Bounds.l0, if_neg (by omega), quittanceref09_Bounds.j1, if_neg (by simp)]
  | succ d ih =>
    intro k n j hi hj hd hall hm hk
    obtain ⟨k, rfl⟩ : ∃ m, k = m + 2 := ⟨k - 2, by omega⟩
    have hl := bl_len s a E j
    have h1j : (1 : Int) ≤ (j : Int) + 1 := by omega
    have e1 : wrap64 (((bl s a E j).length : Int) - 1) = (j : Int) := by rw [hl, w64] <;> omega
    have hB := B_bd h (i := (j : Int)) (by omega) hj
    have hf := fst_bd (M := ofD s + n) (by omega) (by omega)
    have hfs := fst_succ (M := ofD s + n) (by omega) (by omega)
    have hat1 : at_ (ofD s + n) a = min (fst (ofD s + n) + a - 1) (fst (ofD s + n + 1) - 1) := rfl
    rw [quittanceref09_Bounds.l0, if_pos (by omega), e1, if_pos (by omega), if_pos (by omega), bl_at _ _ _ _ _ (Nat.le_refl _)]
    by_cases hday : B s a E (j : Nat) ≤ day
    · rw [if_pos hday, hl]
      by_cases hmost : (((j + 1 : Nat)) : Int) < most
      · rw [decide_eq_true hmost, j1_step k day most (bl s a E j) (A := at_ (ofD s + n) a) (by omega) (by omega) (by omega) hf.1 hf.2 (by omega) (by omega) g3 g4 g5 hat1 hfs]
        have hn1 : ofD s + (n : Int) + 1 = ofD s + ((n + 1 : Nat) : Int) := by omega
        have hn3 : (n : Int) + 1 = ((n + 1 : Nat) : Int) := by omega
        rw [hn1, hn3]
        by_cases hz : (n : Int) % E = 0
        · rw [if_pos hz]
          by_cases hb : at_ (ofD s + n) a > s
          · have st := step_yes h hi (by omega) hz hb
            rw [if_pos hb, st.2.1, ← B_pos (s := s) (E := E) (i := (j : Int) + 1) h1j, bl_next]
            exact ih k (n + 1) (j + 1) (by simpa using st.1) (by have := st.2.2; omega) (by omega) (fun i hi' => by
              rcases (by omega : i < j ∨ i = j) with q | rfl
              · exact hall i q
              · exact hday) (.inl (by omega)) (by omega)
          · rw [if_neg hb]
            exact ih k (n + 1) j (by simpa using step_no h hi (by omega) (fun q => hb q.2)) hj (by omega) hall hm (by omega)
        · rw [if_neg hz]
          exact ih k (n + 1) j (by simpa using step_no h hi (by omega) (fun q => hz q.1)) hj (by omega) hall hm (by omega)
      · rw [decide_eq_false hmost, quittanceref09_Bounds.j1, if_neg (by simp)]
        exact ⟨j, rfl, hj, .inr (.inr (by omega)), hall, hm⟩
    · rw [if_neg hday, quittanceref09_Bounds.j1, if_neg (by simp)]
      exact ⟨j, rfl, hj, .inr (.inl (by omega)), hall, hm⟩
theorem bounds_f {s a E : Int} (day most : Int) (h : ok s a E = true) (k : Nat) (hk : 239980 ≤ k) :
    ∃ J : Nat, quittanceref09_Bounds.f k s a E day most = some (bl s a E J) ∧ (J : Int) ≤ top s a E ∧
      ((J : Int) = top s a E ∨ day < B s a E J ∨ most ≤ (J : Int) + 1) ∧ (∀ i : Nat, i < J → B s a E i ≤ day) ∧ ((J : Int) + 1 ≤ most ∨ J = 0) := by
  have ht := top_bd h
  have hk0 := k0_01 s a
  obtain ⟨⟨g1, g2⟩, ⟨g3, g4⟩, g5, g6⟩ := ok_t h
  have hs := ofD_spec g1 g2
  have := bounds_tells (day := day) (most := most) h (119989 - ofD s).toNat k 0 0 (.inl ⟨rfl, rfl⟩) (by omega) (by omega) (fun i hi => by omega) (.inr rfl) (by omega)
  unfold quittanceref09_Bounds.f quittanceref08_Of.f quittanceref08_Days.f
  simp only [Option.bind_some, Cv.ofV, Cv.fstV, okD_mk g1 g2, okM_mk hs.1 hs.2.1, if_true]
  rw [bl_zero s a E]
  simpa using this
theorem check_f (s a E : Int) : quittanceref09_Check.f s a E = some (ckE s a E) := by
  unfold quittanceref09_Check.f ckE ok
  by_cases h1 : s < 1
  · rw [if_pos h1]; simp; omega
  rw [if_neg h1]
  by_cases h2 : s > 3652059
  · rw [if_pos h2]; simp; omega
  rw [if_neg h2]
  by_cases h3 : a < 1
  · rw [if_pos h3]; simp; omega
  rw [if_neg h3]
  by_cases h4 : a > 31
  · rw [if_pos h4]; simp; omega
  rw [if_neg h4]
  by_cases h5 : E < 1
  · rw [if_pos h5]; simp; omega
  rw [if_neg h5]
  by_cases h6 : E > 120
  · rw [if_pos h6]; simp; omega
  rw [if_neg h6]; simp; omega
theorem ref_bound (s a E i : Int) (k : Nat) (hk : 239981 ≤ k) : quittanceref09_Bound.f k s a E i = some (bV s a E i, bE s a E i) := by
  obtain ⟨k, rfl⟩ : ∃ m, k = m + 1 := ⟨k - 1, by omega⟩
  unfold quittanceref09_Bound.f
  rw [check_f, Option.bind_some]
  cases h : ok s a E with
  | false => simp [ckE, quittanceref09_Bound.j0, bV, bE, bOk, h]
  | true =>
    rw [ckE, h, if_pos rfl, if_pos rfl, quittanceref09_Bound.j0]
    by_cases hi : i < 0
    · rw [decide_eq_true hi, if_pos rfl]; simp [bV, bE, bOk, h]; omega
    · rw [decide_eq_false hi, if_neg (by simp)]
      have hm : mn i 119988 = min i 119988 := by unfold mn; omega
      rw [hm, w64 (by omega) (by omega)]
      obtain ⟨J, e, hJ, hx, _, hy⟩ := bounds_f (s := s) (a := a) (E := E) 3652059 (min i 119988 + 1) h k (by omega)
      have ht := top_bd h
      have hB := B_bd h (i := (J : Int)) (by omega) hJ
      rw [e, Option.bind_some, bl_len]
      by_cases hle : i ≤ top s a E
      · rw [if_neg (by omega), if_pos (by omega), if_pos (by omega)]
        obtain ⟨m, rfl⟩ : ∃ m : Nat, i = m := ⟨i.toNat, by omega⟩
        rw [bl_at _ _ _ _ _ (by omega)]
        simp [bV, bE, bOk, h, hle]
      · rw [if_pos (by omega)]
        simp [bV, bE, bOk, h, hle]; omega
end Go.Proofs.YtibkbimhedoafaaDoor.PH

namespace Pr
theorem fits_of {x : Int} (h : -9223372036854775808 ≤ x ∧ x ≤ 9223372036854775807) : Ar.fits x = true := Ar.fits_mk h.1 h.2
theorem onOk_f {x f n all : Int} (h : onOk x f n all = false) : ¬ (0 ≤ x ∧ x < 4611686018427387904 ∧ 1 ≤ all ∧ all ≤ 3652059 ∧ 0 ≤ f ∧ f ≤ n ∧ n ≤ all) := fun q => by rw [onOk_mk q] at h; cases h
theorem zero {x all : Int} : x * 0 / all = 0 := by simp
end Pr
namespace Sb
open An Cv
/-- Is a day none, or one that is not ahead of another one? -/
def latB (n s : Int) : Bool := decide (n = 0) || (decide (1 ≤ n) && decide (n ≤ 3652059) && decide (s ≤ n))
noncomputable def ckB (x : Su) : Bool := decide (x.id ≠ 0) && decide (x.cu ≠ 0) && decide (x.pl ≠ 0) && decide (0 ≤ x.pr) && decide (x.pr < 4611686018427387904) && decide (0 ≤ x.bi) && decide (x.bi ≤ 2000) && decide (bE x.st x.an x.ev x.bi = 0) && latB x.si x.st && latB x.en x.st
noncomputable def ckV (x : Su) : Int := if ckB x = true then 0 else 2
structure Ck (x : Su) : Prop where
  id : x.id ≠ 0
  cu : x.cu ≠ 0
  pl : x.pl ≠ 0
  p0 : 0 ≤ x.pr
  p1 : x.pr < 4611686018427387904
  b0 : 0 ≤ x.bi
  b1 : x.bi ≤ 2000
  ok : okC x = true
  tp : x.bi ≤ tp x
  si : latB x.si x.st = true
  en : latB x.en x.st = true
theorem bE_iff {s a E k : Int} : bE s a E k = 0 ↔ An.ok s a E = true ∧ 0 ≤ k ∧ k ≤ top s a E := by
  unfold bE
  cases h : bOk s a E k with
  | false =>
    simp only [Bool.false_eq_true, if_false]
    refine ⟨fun q => by omega, fun q => ?_⟩
    have : bOk s a E k = true := by unfold bOk; simp [q.1, q.2.1]
    rw [h] at this; cases this
  | true =>
    have h' := h
    unfold bOk at h'
    simp at h'
    rw [if_pos rfl]
    by_cases hk : k ≤ top s a E
    · rw [if_pos hk]; exact ⟨fun _ => ⟨h'.1, h'.2, hk⟩, fun _ => rfl⟩
    · rw [if_neg hk]; exact ⟨fun q => by omega, fun q => absurd q.2.2 hk⟩
theorem ckB_t {x : Su} (h : ckB x = true) : Ck x := by
  unfold ckB at h
  simp only [Bool.and_eq_true, decide_eq_true_eq] at h
  obtain ⟨⟨⟨⟨⟨⟨⟨⟨⟨h1, h2⟩, h3⟩, h4⟩, h5⟩, h6⟩, h7⟩, h8⟩, h9⟩, h10⟩ := h
  have := bE_iff.1 h8
  exact ⟨h1, h2, h3, h4, h5, h6, h7, this.1, this.2.2, h9, h10⟩
end Sb
namespace Go.Proofs.YtibkbimhedoafaaDoor.PH
open Go.RowKit Go.Proofs.YtibkbimhedoafaaDoorW.PrintWords Go.Proofs.YtibkbimhedoafaaDoorW.PrintLast Sb An Cv
theorem refMay_f (x : Int) : quittanceref11_May.f x = some (decide (0 ≤ x ∧ x < 4611686018427387904)) := by
  unfold quittanceref11_May.f
  by_cases h : x ≥ 0
  · rw [if_pos h]; simp; omega
  · rw [if_neg h]; simp; omega
theorem refDays_f (d p : Int) : quittanceref11_days.f d p = some (decide (1 ≤ p ∧ p ≤ 3652059 ∧ 0 ≤ d ∧ d ≤ p)) := by
  unfold quittanceref11_days.f
  by_cases h1 : p ≥ 1
  · rw [if_pos h1]
    by_cases h2 : p ≤ 3652059
    · rw [if_pos h2]
      by_cases h3 : d ≥ 0
      · rw [if_pos h3]; congr 1; exact decide_eq_decide.2 (by omega)
      · rw [if_neg h3]; simp; omega
    · rw [if_neg h2]; simp; omega
  · rw [if_neg h1]; simp; omega
theorem refMul_f {x n all : Int} (hx : -9223372036854775808 ≤ x ∧ x ≤ 9223372036854775807) (hn : -9223372036854775808 ≤ n ∧ n ≤ 9223372036854775807) (ha : -9223372036854775808 ≤ all ∧ all ≤ 9223372036854775807) :
    quittanceref07_MulDiv.f x n all = some (Ar.mdQ x n all, Ar.mdR x n all, Ar.mdI x n all) := by
  have h : Ar.fits x = true ∧ Ar.fits n = true ∧ Ar.fits all = true := ⟨Pr.fits_of hx, Pr.fits_of hn, Pr.fits_of ha⟩
  unfold quittanceref07_MulDiv.f
  rw [if_pos h]
theorem refDue_f {x n all : Int} (hx : -9223372036854775808 ≤ x ∧ x ≤ 9223372036854775807) (hn : -9223372036854775808 ≤ n ∧ n ≤ 9223372036854775807) (ha : -9223372036854775808 ≤ all ∧ all ≤ 9223372036854775807) :
    quittanceref11_Due.f x n all = some (Pr.onV x 0 n all, Pr.onE x 0 n all) := by
  unfold quittanceref11_Due.f
  rw [refMay_f, refDays_f, refMul_f hx hn ha]
  simp only [Option.bind_some]
  cases h : Pr.onOk x 0 n all with
  | true =>
    have g := Pr.onOk_t h
    have b1 := Pr.due_bd (x := x) (n := n) (all := all) (by omega) (by omega) (by omega) (by omega)
    rw [if_pos (by simp; omega), if_pos (by simp; omega)]
    simp only [Pr.onV, Pr.onE, h, if_true, Ar.mdQ, Ar.fitV]
    rw [if_pos (by omega), if_pos (Ar.fits_mk (by omega) (by omega)), Pr.zero, Int.sub_zero]
  | false =>
    have g := Pr.onOk_f h
    simp only [Pr.onV, Pr.onE, h]
    by_cases h1 : 0 ≤ x ∧ x < 4611686018427387904
    · rw [if_pos (by simpa using h1), if_neg (by simp; omega)]; rfl
    · rw [if_neg (by simpa using h1)]; rfl
theorem refOn_f {x f n all : Int} (hx : -9223372036854775808 ≤ x ∧ x ≤ 9223372036854775807) (hf : -9223372036854775808 ≤ f ∧ f ≤ 9223372036854775807) (hn : -9223372036854775808 ≤ n ∧ n ≤ 9223372036854775807) (ha : -9223372036854775808 ≤ all ∧ all ≤ 9223372036854775807) :
    quittanceref11_On.f x f n all = some (Pr.onV x f n all, Pr.onE x f n all) := by
  unfold quittanceref11_On.f
  rw [refDue_f hx hf ha, refDue_f hx hn ha]
  simp only [Option.bind_some]
  cases h1 : Pr.onOk x 0 f all with
  | false =>
    have g := Pr.onOk_f h1
    rw [if_neg (by simp [Pr.onE, h1])]
    have : Pr.onOk x f n all = false := Pr.onOk_no (by omega)
    simp [Pr.onV, Pr.onE, this]
  | true =>
    have g1 := Pr.onOk_t h1
    rw [if_pos (by simp [Pr.onE, h1])]
    cases h2 : Pr.onOk x 0 n all with
    | false =>
      have g := Pr.onOk_f h2
      rw [if_neg (by simp [Pr.onE, h2])]
      have : Pr.onOk x f n all = false := Pr.onOk_no (by omega)
      simp [Pr.onV, Pr.onE, this]
    | true =>
      have g2 := Pr.onOk_t h2
      rw [if_pos (by simp [Pr.onE, h2])]
      by_cases hgt : f > n
      · rw [if_pos hgt]
        have : Pr.onOk x f n all = false := Pr.onOk_no (by omega)
        simp [Pr.onV, Pr.onE, this]
      · rw [if_neg hgt]
        have : Pr.onOk x f n all = true := Pr.onOk_mk (by omega)
        have b1 := Pr.due_bd (x := x) (n := n) (all := all) (by omega) (by omega) (by omega) (by omega)
        have b2 := Pr.due_bd (x := x) (n := f) (all := all) (by omega) (by omega) (by omega) (by omega)
        simp only [Pr.onV, Pr.onE, h1, h2, this, if_true, Pr.zero, Int.sub_zero]
        rw [w64 (by omega) (by omega)]

theorem sday_f (d : Int) : subs_day.f d = some (okD d) := by
  unfold subs_day.f okD
  by_cases h : d ≥ 1
  · rw [if_pos h]; simp; omega
  · rw [if_neg h]; simp; omega
theorem rday_f (d : Int) : quittanceref23_Day.f d = some (okD d) := by
  unfold quittanceref23_Day.f okD
  by_cases h : d ≥ 1
  · rw [if_pos h]; simp; omega
  · rw [if_neg h]; simp; omega
theorem later_f (n s : Int) : subs_later.f n s = some (latB n s) := by
  unfold subs_later.f latB
  rw [sday_f]
  unfold okD
  by_cases h0 : n = 0
  · rw [if_pos h0]; simp [h0]
  · rw [if_neg h0]
    simp only [Option.bind_some]
    by_cases h1 : 1 ≤ n
    · by_cases h2 : n ≤ 3652059
      · simp [h0, h1, h2]
      · simp [h0, h1, h2]
    · simp [h0, h1]
theorem j0_f (k : Nat) (x : Su) : subs_Check.j0 (k + 1) false x.id x.cu x.pl x.st x.an x.ev x.pr x.bi x.si x.en = some (if bE x.st x.an x.ev x.bi = 0 ∧ latB x.si x.st = true ∧ latB x.en x.st = true then 0 else 2) := by
  rw [subs_Check.j0, if_neg (by simp)]
  simp only [anchor_Bound.f, later_f, Option.bind_some]
  by_cases h1 : bE x.st x.an x.ev x.bi = 0
  · rw [if_pos h1]
    by_cases h2 : latB x.si x.st = true
    · rw [if_pos h2]
      by_cases h3 : latB x.en x.st = true
      · rw [if_pos h3, if_pos ⟨h1, h2, h3⟩]
      · rw [if_neg h3, if_neg (fun q => h3 q.2.2)]
    · rw [if_neg h2, if_neg (fun q => h2 q.2.1)]
  · rw [if_neg h1, if_neg (fun q => h1 q.1)]
theorem ckV_no {x : Su} (h : ¬ ckB x = true) : ckV x = 2 := if_neg h
theorem check23 (k : Nat) (x : Su) : subs_Check.f (k + 1) x.id x.cu x.pl x.st x.an x.ev x.pr x.bi x.si x.en = some (ckV x) := by
  unfold subs_Check.f
  by_cases h1 : x.id = 0
  · rw [if_pos h1, subs_Check.j0, if_pos rfl, ckV_no (fun q => (ckB_t q).id h1)]
  rw [if_neg h1]
  by_cases h2 : x.cu = 0
  · rw [if_pos h2, subs_Check.j0, if_pos rfl, ckV_no (fun q => (ckB_t q).cu h2)]
  rw [if_neg h2]
  by_cases h3 : x.pl = 0
  · rw [if_pos h3, subs_Check.j0, if_pos rfl, ckV_no (fun q => (ckB_t q).pl h3)]
  rw [if_neg h3]
  by_cases h4 : x.pr < 0
  · rw [if_pos h4, subs_Check.j0, if_pos rfl, ckV_no (fun q => by have := (ckB_t q).p0; omega)]
  rw [if_neg h4]
  by_cases h5 : x.pr ≥ 4611686018427387904
  · rw [if_pos h5, subs_Check.j0, if_pos rfl, ckV_no (fun q => by have := (ckB_t q).p1; omega)]
  rw [if_neg h5]
  by_cases h6 : x.bi < 0
  · rw [if_pos h6, subs_Check.j0, if_pos rfl, ckV_no (fun q => by have := (ckB_t q).b0; omega)]
  rw [if_neg h6]
  by_cases h7 : x.bi > 2000
  · rw [decide_eq_true h7, subs_Check.j0, if_pos rfl, ckV_no (fun q => by have := (ckB_t q).b1; omega)]
  rw [decide_eq_false h7, j0_f k x]
  congr 1
  unfold ckV ckB
  have e1 : decide (x.id ≠ 0) = true := decide_eq_true h1
  have e2 : decide (x.cu ≠ 0) = true := decide_eq_true h2
  have e3 : decide (x.pl ≠ 0) = true := decide_eq_true h3
  have e4 : decide (0 ≤ x.pr) = true := decide_eq_true (by omega)
  have e5 : decide (x.pr < 4611686018427387904) = true := decide_eq_true (by omega)
  have e6 : decide (0 ≤ x.bi) = true := decide_eq_true (by omega)
  have e7 : decide (x.bi ≤ 2000) = true := decide_eq_true (by omega)
  rw [e1, e2, e3, e4, e5, e6, e7]
  simp only [Bool.true_and, Bool.and_eq_true, decide_eq_true_eq, and_assoc]
theorem lat_t {n s : Int} (h : latB n s = true) : n = 0 ∨ (1 ≤ n ∧ n ≤ 3652059 ∧ s ≤ n) := by
  unfold latB at h; simp at h; omega
theorem lat_mk {n s : Int} (h : n = 0 ∨ (1 ≤ n ∧ n ≤ 3652059 ∧ s ≤ n)) : latB n s = true := by
  unfold latB; simp; omega
theorem lat_f {n s : Int} (h : latB n s = false) : ¬ (n = 0 ∨ (1 ≤ n ∧ n ≤ 3652059 ∧ s ≤ n)) := fun q => by rw [lat_mk q] at h; cases h
theorem rj0_f (k : Nat) (hk : 239981 ≤ k) (x : Su) : quittanceref23_Check.j0 (k + 1) false x.id x.cu x.pl x.st x.an x.ev x.pr x.bi x.si x.en = some (if bE x.st x.an x.ev x.bi = 0 ∧ latB x.si x.st = true ∧ latB x.en x.st = true then 0 else 2) := by
  rw [quittanceref23_Check.j0, if_neg (by simp), ref_bound _ _ _ _ k hk]
  simp only [rday_f, Option.bind_some]
  by_cases h1 : bE x.st x.an x.ev x.bi = 0
  · rw [if_pos h1]
    have en : (if x.en = 0 then some (0 : Int) else (if okD x.en = true then (if x.en < x.st then some 2 else some 0) else some 2)) = some (if latB x.en x.st = true then 0 else 2) := by
      cases hl : latB x.en x.st with
      | true =>
        have := lat_t hl
        by_cases q : x.en = 0
        · rw [if_pos q]; rfl
        · rw [if_neg q, if_pos (okD_mk (by omega) (by omega)), if_neg (by omega)]; rfl
      | false =>
        have := lat_f hl
        rw [if_neg (by omega)]
        cases hd : okD x.en with
        | false => rfl
        | true =>
          rw [if_pos rfl]
          unfold okD at hd; simp at hd
          rw [if_pos (by omega)]; rfl
    by_cases h2 : x.si = 0
    · rw [if_pos h2, en]
      have : latB x.si x.st = true := lat_mk (.inl h2)
      simp [h1, this]
    · rw [if_neg h2]
      cases hd : okD x.si with
      | false =>
        have : latB x.si x.st = false := by
          cases hl : latB x.si x.st with
          | false => rfl
          | true => have := lat_t hl; unfold okD at hd; simp at hd; omega
        simp [this]
      | true =>
        rw [if_pos rfl]
        unfold okD at hd; simp at hd
        by_cases h3 : x.si < x.st
        · rw [if_pos h3]
          have : latB x.si x.st = false := by
            cases hl : latB x.si x.st with
            | false => rfl
            | true => have := lat_t hl; omega
          simp [this]
        · rw [if_neg h3, en]
          have : latB x.si x.st = true := lat_mk (.inr ⟨hd.1, hd.2, by omega⟩)
          simp [h1, this]
  · rw [if_neg h1, if_neg (fun q => h1 q.1)]
theorem rcheck23 (k : Nat) (hk : 239982 ≤ k) (x : Su) : quittanceref23_Check.f k x.id x.cu x.pl x.st x.an x.ev x.pr x.bi x.si x.en = some (ckV x) := by
  obtain ⟨k, rfl⟩ : ∃ m, k = m + 1 := ⟨k - 1, by omega⟩
  unfold quittanceref23_Check.f
  by_cases h1 : x.id = 0
  · rw [if_pos h1, quittanceref23_Check.j0, if_pos rfl, ckV_no (fun q => (ckB_t q).id h1)]
  rw [if_neg h1]
  by_cases h2 : x.cu = 0
  · rw [if_pos h2, quittanceref23_Check.j0, if_pos rfl, ckV_no (fun q => (ckB_t q).cu h2)]
  rw [if_neg h2]
  by_cases h3 : x.pl = 0
  · rw [if_pos h3, quittanceref23_Check.j0, if_pos rfl, ckV_no (fun q => (ckB_t q).pl h3)]
  rw [if_neg h3]
  by_cases h4 : x.pr < 0
  · rw [if_pos h4, quittanceref23_Check.j0, if_pos rfl, ckV_no (fun q => by have := (ckB_t q).p0; omega)]
  rw [if_neg h4]
  by_cases h5 : x.pr ≥ 4611686018427387904
  · rw [if_pos h5, quittanceref23_Check.j0, if_pos rfl, ckV_no (fun q => by have := (ckB_t q).p1; omega)]
  rw [if_neg h5]
  by_cases h6 : x.bi < 0
  · rw [if_pos h6, quittanceref23_Check.j0, if_pos rfl, ckV_no (fun q => by have := (ckB_t q).b0; omega)]
  rw [if_neg h6]
  by_cases h7 : x.bi > 2000
  · rw [decide_eq_true h7, quittanceref23_Check.j0, if_pos rfl, ckV_no (fun q => by have := (ckB_t q).b1; omega)]
  have e := check23 0 x
  rw [decide_eq_false h7, rj0_f k (by omega) x]
  unfold subs_Check.f at e
  rw [if_neg h1, if_neg h2, if_neg h3, if_neg h4, if_neg h5, if_neg h6, decide_eq_false h7, j0_f 0 x] at e
  exact e
end Go.Proofs.YtibkbimhedoafaaDoor.PH

namespace Sb
open An Cv
/-- What falls on days of the period that ends ahead of a bound. -/
noncomputable def amt (x : Su) (n p f t : Int) : Int := Pr.onV p (n - fst0 x n - (n - f)) (n - fst0 x n - (n - t)) (n - fst0 x n)
end Sb
namespace Go.Proofs.YtibkbimhedoafaaDoor.PH
open Go.RowKit Go.Proofs.YtibkbimhedoafaaDoorW.PrintWords Go.Proofs.YtibkbimhedoafaaDoorW.PrintLast Sb An Cv
theorem ref_at (k : Nat) (M a : Int) (hk : 1 ≤ k) : quittanceref09_At.f k M a = some (atV M a, atE M a) := by
  obtain ⟨k, rfl⟩ : ∃ m, k = m + 1 := ⟨k - 1, by omega⟩
  unfold quittanceref09_At.f quittanceref08_Days.f
  simp only [Option.bind_some, Cv.mE]
  cases hM : okM M with
  | false =>
    rw [if_neg (by simp), quittanceref09_At.j0, if_pos rfl]
    have : okA M a = false := by unfold okA; simp [hM]
    simp [atV, atE, this]
  | true =>
    have h1 : 1 ≤ M ∧ M ≤ 119988 := by unfold okM at hM; simp at hM; omega
    rw [if_pos rfl, if_pos rfl]
    by_cases ha : a < 1
    · rw [if_pos ha, quittanceref09_At.j0, if_pos rfl]
      have : okA M a = false := by unfold okA; simp; omega
      simp [atV, atE, this]
    rw [if_neg ha]
    by_cases hb : a > 31
    · rw [decide_eq_true hb, quittanceref09_At.j0, if_pos rfl]
      have : okA M a = false := by unfold okA; simp; omega
      simp [atV, atE, this]
    rw [decide_eq_false hb, quittanceref09_At.j0, if_neg (by simp)]
    have ho : okA M a = true := okA_mk h1.1 h1.2 (by omega) (by omega)
    have hf := at_bd h1.1 h1.2 (show 1 ≤ (1 : Int) by omega)
    have hl := at_lo h1.1 h1.2 (show 1 ≤ (1 : Int) by omega)
    have g1 : 1 ≤ fst M ∧ fst M ≤ 3652059 := by unfold at_ at hf hl; omega
    have hl2 := at_bd h1.1 h1.2 (show 1 ≤ (5000000 : Int) by omega)
    have g2 : 1 ≤ fst (M + 1) - 1 ∧ fst (M + 1) - 1 ≤ 3652059 := by unfold at_ at hl2; omega
    simp only [fstV, lstV, hM, if_true]
    rw [w64 (x := fst M + a) (by omega) (by omega), w64 (x := fst M + a - 1) (by omega) (by omega)]
    simp only [atV, atE, ho, if_true, at_]
    by_cases hc : fst M + a - 1 > fst (M + 1) - 1
    · rw [if_pos hc]; simp only [Option.some.injEq, Prod.mk.injEq, and_true]; omega
    · rw [if_neg hc]; simp only [Option.some.injEq, Prod.mk.injEq, and_true]; omega
theorem on_r (k : Nat) (hk : 1 ≤ k) (x : Su) (ha : 1 ≤ x.ev ∧ x.ev ≤ 120) {n p f t : Int} (hn : 1 ≤ n ∧ n ≤ 3652059) (hf : 1 ≤ f ∧ f ≤ 3652059) (ht : 1 ≤ t ∧ t ≤ 3652059) (hp : 0 ≤ p ∧ p < 4611686018427387904) :
    quittanceref23_On.f k x.id x.cu x.pl x.st x.an x.ev x.pr x.bi x.si x.en n p f t = some (amt x n p f t) := by
  have ho := ofD_spec hn.1 hn.2
  unfold quittanceref23_On.f quittanceref08_Of.f
  simp only [Option.bind_some, Cv.ofV, okD_mk hn.1 hn.2, if_true]
  rw [w64 (x := ofD n - x.ev) (by omega) (by omega), ref_at k _ _ hk]
  simp only [Option.bind_some]
  have fb := fst0_bd x n
  have key : ∀ g : Int, 1 ≤ g → g ≤ 3652059 → fst0 x n = g → (quittanceref11_On.f p (wrap64 ((wrap64 (n - g)) - (wrap64 (n - f)))) (wrap64 ((wrap64 (n - g)) - (wrap64 (n - t)))) (wrap64 (n - g))).bind (fun bt => some bt.1) = some (amt x n p f t) := fun g h1 h2 e => by
    rw [w64 (x := n - g) (by omega) (by omega), w64 (x := n - f) (by omega) (by omega), w64 (x := n - t) (by omega) (by omega), w64 (x := n - g - (n - f)) (by omega) (by omega), w64 (x := n - g - (n - t)) (by omega) (by omega)]
    rw [refOn_f ⟨by omega, by omega⟩ ⟨by omega, by omega⟩ ⟨by omega, by omega⟩ ⟨by omega, by omega⟩]
    simp only [Option.bind_some, amt, e]
  cases hA : okA (ofD n - x.ev) x.an with
  | true =>
    rw [if_pos (by simp [atE, hA])]
    have e : fst0 x n = atV (ofD n - x.ev) x.an := by unfold fst0; simp [atV, hA]
    exact key _ (by rw [← e]; exact fb.1) (by rw [← e]; exact fb.2) e
  | false =>
    rw [if_neg (by simp [atE, hA])]
    exact key 1 (by omega) (by omega) (by unfold fst0; simp [hA])
theorem on_s (x : Su) {i f0 n e p f t : Int} (hn : 1 ≤ n ∧ n ≤ 3652059) (hf : 1 ≤ f ∧ f ≤ 3652059) (ht : 1 ≤ t ∧ t ≤ 3652059) :
    subs_period_on.f i f0 n e (n - fst0 x n) p f t = some (amt x n p f t) := by
  have fb := fst0_bd x n
  unfold subs_period_on.f subs_period_at.f prorate_On.f
  simp only [Option.bind_some]
  rw [w64 (x := n - f) (by omega) (by omega), w64 (x := n - t) (by omega) (by omega), w64 (x := n - fst0 x n - (n - f)) (by omega) (by omega), w64 (x := n - fst0 x n - (n - t)) (by omega) (by omega)]
  rfl
theorem end_f (x : Su) (i : Int) : quittanceref23_End.f x.id x.cu x.pl x.st x.an x.ev x.pr x.bi x.si x.en (nx x i) = some (ee x i) := by
  unfold quittanceref23_End.f ee
  by_cases h : x.en = 0
  · rw [if_pos h, if_pos h]
  · rw [if_neg h, if_neg h]
    by_cases h2 : x.en < nx x i
    · rw [if_pos h2, if_pos h2]
    · rw [if_neg h2, if_neg h2]
end Go.Proofs.YtibkbimhedoafaaDoor.PH

