/- Chapter 23, as numbers: the document's bills are the same. No conditions but that numbers are of 64 bits. -/
import Derived.Test.YtibkbimhedoafaaDoorPure23E
import Derived.Test.YtibkbimhedoafaaDoorPHx12
import Derived.Test.YtibkbimhedoafaaDoorPHx13
import Derived.Test.YtibkbimhedoafaaDoorPHx8
namespace Go.Proofs.YtibkbimhedoafaaDoor.PH
open Go.RowKit Go.Proofs.YtibkbimhedoafaaDoorW.PrintWords Go.Proofs.YtibkbimhedoafaaDoorW.PrintLast Sb An Cv
theorem same_l0 (L : List S47) (hL : L.length ≤ 100000) : ∀ (k : Nat) (i : Int), 0 ≤ i → i ≤ L.length → (L.length : Int) + 1 ≤ k + i → quittanceref23_Same.l0 k L L i = some true
  | 0, i, h0, h1, h2 => by omega
  | k + 1, i, h0, h1, h2 => by
    unfold quittanceref23_Same.l0
    by_cases hi : i < (L.length : Int)
    · rw [if_pos hi, if_pos h0, if_pos hi]
      simp only [beq_self_eq_true, Bool.not_true, Bool.or_self, Bool.false_eq_true, if_false]
      rw [w64 (x := i + 1) (by omega) (by omega)]
      exact same_l0 L hL k (i + 1) (by omega) (by omega) (by omega)
    · rw [if_neg hi]
theorem same_f (L : List S47) (hL : L.length ≤ 100000) : quittanceref23_Same.f 100001 L L = some true := by
  unfold quittanceref23_Same.f
  rw [if_pos rfl]
  exact same_l0 L hL 100001 0 (by omega) (by omega) (by omega)
theorem rstate_f (k : Nat) (hk : 239982 ≤ k) (y : Su) (d : Int) : ∃ v e : Int, subs_State.f 1 y.id y.cu y.pl y.st y.an y.ev y.pr y.bi y.si y.en d = some (v, e) ∧ quittanceref23_State.f k y.id y.cu y.pl y.st y.an y.ev y.pr y.bi y.si y.en d = some (v, e) := by
  have e : subs_Check.f 1 y.id y.cu y.pl y.st y.an y.ev y.pr y.bi y.si y.en = some (ckV y) := check23 0 y
  obtain ⟨k, rfl⟩ : ∃ m, k = m + 1 := ⟨k - 1, by omega⟩
  unfold subs_State.f quittanceref23_State.f
  rw [e, sday_f, rcheck23 (k + 1) hk y, rday_f]
  simp only [Option.bind_some]
  have key : ∀ b : Bool, subs_State.j0 1 d b y.id y.cu y.pl y.st y.an y.ev y.pr y.bi y.si y.en = quittanceref23_State.j0 (k + 1) d b y.id y.cu y.pl y.st y.an y.ev y.pr y.bi y.si y.en := fun b => by
    simp only [subs_State.j0, quittanceref23_State.j0]
  have some_ : ∀ b : Bool, ∃ v e : Int, subs_State.j0 1 d b y.id y.cu y.pl y.st y.an y.ev y.pr y.bi y.si y.en = some (v, e) := fun b => by
    simp only [subs_State.j0]
    repeat' split
    all_goals exact ⟨_, _, rfl⟩
  by_cases hc : ckV y = 0
  · rw [if_pos hc, if_pos hc, ← key]
    obtain ⟨v, e, h⟩ := some_ (!okD d)
    exact ⟨v, e, h, h⟩
  · rw [if_neg hc, if_neg hc, ← key]
    obtain ⟨v, e, h⟩ := some_ true
    exact ⟨v, e, h, h⟩
/-- From one bill on, so many are to come. -/
theorem due_loop {x : Su} (hc : ckB x = true) {today most : Int} {m J : Nat} (hm1 : 1 ≤ most) (hm2 : most ≤ 1000) (hs : psub.Stops x today most (tp x - x.bi).toNat m)
    (hJ : (J : Int) ≤ tp x) (hJe : (J : Int) = tp x ∨ today < An.B x.st x.an x.ev J ∨ (2002 : Int) ≤ (J : Int) + 1) (hJa : ∀ i : Nat, i < J → An.B x.st x.an x.ev i ≤ today) :
    ∀ (d j k : Nat), j + d = m → 3 * d + 4 ≤ k → quittanceref23_Due.l0 k today most ((ix x.bi j).map (psub.bl x)) (bl x.st x.an x.ev J) x.id x.cu x.pl x.st x.an x.ev x.pr (x.bi + j) x.si x.en =
      some ((ix x.bi m).map (psub.bl x), x.id, x.cu, x.pl, x.st, x.an, x.ev, x.pr, x.bi + m, x.si, x.en, 0) := by
  have c := ckB_t hc
  have hb0 := c.b0
  have hb1 := c.b1
  have hok : An.ok x.st x.an x.ev = true := c.ok
  have ho := ok_t hok
  have tb := tp_bd c.ok
  intro d
  induction d with
  | zero =>
    intro j k hj hk
    obtain rfl : j = m := by omega
    obtain ⟨k, rfl⟩ : ∃ q, k = q + 3 := ⟨k - 3, by omega⟩
    have hlen : (((ix x.bi j).map (psub.bl x)).length : Int) = j := by rw [List.length_map, ix_len]
    have hst : x.bi + j = tp x ∨ today < fr x (x.bi + j) ∨ (x.en ≠ 0 ∧ x.en ≤ fr x (x.bi + j)) ∨ (j : Int) = most ∨ 2000 ≤ x.bi + j := by
      rcases hs.2.2 with q | q
      · left; have := c.tp; omega
      · right; exact stop_yes q
    unfold quittanceref23_Due.l0
    rw [hlen, bl_len, w64 (x := x.bi + j + 1) (by have := hs.1; omega) (by have := hs.1; omega)]
    by_cases h1 : x.bi + j < 2000
    · rw [if_pos h1]
      by_cases h2 : (j : Int) < most
      · rw [if_pos h2]
        by_cases h3 : x.bi + j + 1 < ((J + 1 : Nat) : Int)
        · rw [decide_eq_true h3]
          unfold quittanceref23_Due.j2
          have e1 : rd (bl x.st x.an x.ev J) (x.bi + j) = fr x (x.bi + j) := by
            have := bl_at x.st x.an x.ev J (x.bi + j).toNat (by omega)
            rw [Int.toNat_of_nonneg (by omega)] at this
            exact this
          rw [if_pos rfl, if_pos (by omega), bl_len, if_pos (by omega), w64 (x := x.bi + j + 1) (by omega) (by omega), if_pos (by omega), if_pos h3, e1]
          have hle : fr x (x.bi + j) ≤ today := by
            have := hJa (x.bi + j).toNat (by omega)
            rw [Int.toNat_of_nonneg (by omega)] at this
            exact this
          rw [if_neg (by omega)]
          have he : x.en ≠ 0 ∧ x.en ≤ fr x (x.bi + j) := by
            rcases hst with q | q | q | q | q
            · omega
            · omega
            · exact q
            · omega
            · omega
          rw [if_neg he.1, decide_eq_true (show fr x (x.bi + j) ≥ x.en from he.2)]
          unfold quittanceref23_Due.j3
          rw [if_pos rfl]
        · rw [decide_eq_false h3]
          unfold quittanceref23_Due.j2
          rw [if_neg (by decide)]
      · rw [if_neg h2]
        unfold quittanceref23_Due.j2
        rw [if_neg (by decide)]
    · rw [if_neg h1]
      unfold quittanceref23_Due.j2
      rw [if_neg (by decide)]
  | succ d ih =>
    intro j k hj hk
    obtain ⟨k, rfl⟩ : ∃ q, k = q + 3 := ⟨k - 3, by omega⟩
    have hjm : j < m := by omega
    have hlen : ((ix x.bi j).map (psub.bl x)).length = j := by rw [List.length_map, ix_len]
    have hb := bil_of hc hs hjm
    have q := stop_no (hs.2.1 j hjm)
    have hmm : (m : Int) ≤ most := by
      by_cases hm : (m : Int) ≤ most
      · exact hm
      · have := stop_no (hs.2.1 most.toNat (by omega)); omega
    have hin := hb.inn.hi
    have bd := hb.inn.bd
    have hiJ : x.bi + j < J := by
      rcases hJe with e | e | e
      · omega
      · by_cases h : x.bi + j < J
        · exact h
        · exfalso
          have := B_mono hok (i := J) (j := x.bi + j) (by omega) (by omega) (by show x.bi + j ≤ tp x; omega)
          have := q.1
          unfold fr at this
          omega
      · omega
    have e1 : rd (bl x.st x.an x.ev J) (x.bi + j) = fr x (x.bi + j) := by
      have := bl_at x.st x.an x.ev J (x.bi + j).toNat (by omega)
      rw [Int.toNat_of_nonneg (by omega)] at this
      exact this
    have e2 : rd (bl x.st x.an x.ev J) (x.bi + j + 1) = nx x (x.bi + j) := by
      have := bl_at x.st x.an x.ev J (x.bi + j + 1).toNat (by omega)
      rw [Int.toNat_of_nonneg (by omega)] at this
      exact this
    have e3 := end_f ⟨x.id, x.cu, x.pl, x.st, x.an, x.ev, x.pr, x.bi + j, x.si, x.en⟩ (x.bi + j)
    have e4 := on_r k (by omega) ⟨x.id, x.cu, x.pl, x.st, x.an, x.ev, x.pr, x.bi + j, x.si, x.en⟩ ⟨ho.2.2.1, ho.2.2.2⟩ (n := nx x (x.bi + j)) (p := x.pr) (f := fr x (x.bi + j)) (t := ee x (x.bi + j)) ⟨by omega, bd.2.2⟩ ⟨bd.1, by omega⟩ ⟨by have := hb.lo; omega, by have := hb.hi; omega⟩ ⟨c.p0, c.p1⟩
    have e5 := bill_amt x hb.inn (by have := hb.lo; omega)
    simp only [] at e3 e4
    have e3' : quittanceref23_End.f x.id x.cu x.pl x.st x.an x.ev x.pr (x.bi + j) x.si x.en (nx x (x.bi + j)) = some (ee x (x.bi + j)) := e3
    have e4' : quittanceref23_On.f k x.id x.cu x.pl x.st x.an x.ev x.pr (x.bi + j) x.si x.en (nx x (x.bi + j)) x.pr (fr x (x.bi + j)) (ee x (x.bi + j)) = some (psub.onF x (x.bi + j)) := by rw [e5]; exact e4
    have e6 : (ix x.bi j).map (psub.bl x) ++ [(⟨x.bi + j, fr x (x.bi + j), ee x (x.bi + j), psub.onF x (x.bi + j)⟩ : S47)] = (ix x.bi (j + 1)).map (psub.bl x) := by rw [ix_succ, List.map_append]; rfl
    have h3 : x.bi + j + 1 < ((J + 1 : Nat) : Int) := by omega
    unfold quittanceref23_Due.l0
    rw [if_pos q.2.2.2, hlen, if_pos (by omega), bl_len, w64 (x := x.bi + j + 1) (by omega) (by omega), decide_eq_true h3]
    unfold quittanceref23_Due.j2
    rw [if_pos rfl, if_pos (by omega), bl_len, if_pos (by omega), w64 (x := x.bi + j + 1) (by omega) (by omega), if_pos (by omega), if_pos h3, e1, e2, if_neg (by omega)]
    have fin : quittanceref23_Due.j3 (k + 1) today most ((ix x.bi j).map (psub.bl x)) (bl x.st x.an x.ev J) (fr x (x.bi + j)) (nx x (x.bi + j)) false x.id x.cu x.pl x.st x.an x.ev x.pr (x.bi + j) x.si x.en = some ((ix x.bi m).map (psub.bl x), x.id, x.cu, x.pl, x.st, x.an, x.ev, x.pr, x.bi + m, x.si, x.en, 0) := by
      unfold quittanceref23_Due.j3
      rw [if_neg (by decide), e3']
      simp only [Option.bind_some]
      rw [e4']
      simp only [Option.bind_some]
      rw [hlen, if_pos (by omega), w64 (x := x.bi + j + 1) (by omega) (by omega), e6]
      have := ih (j + 1) k (by omega) (by omega)
      rw [show x.bi + j + 1 = x.bi + ((j + 1 : Nat) : Int) by omega]
      exact this
    by_cases h0 : x.en = 0
    · rw [if_pos h0]; exact fin
    · rw [if_neg h0, decide_eq_false (by omega)]; exact fin
theorem rdue_none (k : Nat) (hk : 239983 ≤ k) (x : Su) (today most : Int) (h : ckB x = false ∨ okD today = false ∨ most < 1 ∨ 1000 < most) :
    quittanceref23_Due.f k x.id x.cu x.pl x.st x.an x.ev x.pr x.bi x.si x.en today most = some ([], 0, 0, 0, 0, 0, 0, 0, 0, 0, 0, 2) := by
  obtain ⟨k, rfl⟩ : ∃ m, k = m + 1 := ⟨k - 1, by omega⟩
  have z : quittanceref23_Due.j0 (k + 1) today most true x.id x.cu x.pl x.st x.an x.ev x.pr x.bi x.si x.en = some ([], 0, 0, 0, 0, 0, 0, 0, 0, 0, 0, 2) := by
    rw [quittanceref23_Due.j0, if_pos rfl]
  unfold quittanceref23_Due.f
  rw [rcheck23 (k + 1) (by omega) x, rday_f]
  simp only [Option.bind_some]
  by_cases h1 : ckV x = 0
  · rw [if_pos h1]
    have hc : ckB x = true := by
      cases h : ckB x with
      | true => rfl
      | false => simp [ckV, h] at h1
    cases h2 : okD today with
    | false => rw [if_neg (by decide)]; exact z
    | true =>
      rw [if_pos rfl]
      by_cases h3 : most < 1
      · rw [if_pos h3]; exact z
      · have h4 : 1000 < most := by
          rcases h with h | h | h | h
          · rw [hc] at h; cases h
          · rw [h2] at h; cases h
          · exact absurd h h3
          · exact h
        rw [if_neg h3, decide_eq_true (show most > 1000 from h4)]; exact z
  · rw [if_neg h1]; exact z
theorem rdue_some (k : Nat) (hk : 239984 ≤ k) (x : Su) (today most : Int) (hc : ckB x = true) (hd : okD today = true) (h1 : 1 ≤ most) (h2 : most ≤ 1000) {m : Nat} (hs : psub.Stops x today most (tp x - x.bi).toNat m) (hm : m ≤ 1000) :
    quittanceref23_Due.f k x.id x.cu x.pl x.st x.an x.ev x.pr x.bi x.si x.en today most = some ((ix x.bi m).map (psub.bl x), x.id, x.cu, x.pl, x.st, x.an, x.ev, x.pr, x.bi + m, x.si, x.en, 0) := by
  obtain ⟨k, rfl⟩ : ∃ m, k = m + 1 := ⟨k - 1, by omega⟩
  have c := ckB_t hc
  obtain ⟨J, hb, j1, j2, j3, _⟩ := bounds_f today 2002 (show An.ok x.st x.an x.ev = true from c.ok) k (by omega)
  unfold quittanceref23_Due.f
  rw [rcheck23 (k + 1) (by omega) x, rday_f]
  simp only [Option.bind_some]
  rw [if_pos (by simp [ckV, hc]), hd, if_pos rfl, if_neg (by omega), decide_eq_false (by omega)]
  rw [quittanceref23_Due.j0, if_neg (by decide), hb]
  simp only [Option.bind_some]
  have := due_loop hc h1 h2 hs j1 j2 j3 m 0 k (by omega) (by omega)
  simpa [ix_zero] using this
/-- What is billed: the two sides alike. -/
theorem due_same (x : Su) (today most : Int) : ∃ (L : List S47) (z : Su) (er : Int), L.length ≤ 1000 ∧
    subs_Due.f x.id x.cu x.pl x.st x.an x.ev x.pr x.bi x.si x.en today most = some (L, z.id, z.cu, z.pl, z.st, z.an, z.ev, z.pr, z.bi, z.si, z.en, er) ∧
    quittanceref23_Due.f 400000 x.id x.cu x.pl x.st x.an x.ev x.pr x.bi x.si x.en today most = some (L, z.id, z.cu, z.pl, z.st, z.an, z.ev, z.pr, z.bi, z.si, z.en, er) := by
  by_cases hq : ckB x = true ∧ okD today = true ∧ 1 ≤ most ∧ most ≤ 1000
  · obtain ⟨hc, hd, h1, h2⟩ := hq
    obtain ⟨m, hs, hf⟩ := due_some x today most hc hd h1 h2
    have hm := (due_then hc hd h1 h2 hs).2.1
    exact ⟨_, ⟨x.id, x.cu, x.pl, x.st, x.an, x.ev, x.pr, x.bi + m, x.si, x.en⟩, 0, by rw [List.length_map, ix_len]; omega, hf, rdue_some 400000 (by omega) x today most hc hd h1 h2 hs (by omega)⟩
  · have h : ckB x = false ∨ okD today = false ∨ most < 1 ∨ 1000 < most := by
      cases h1 : ckB x with
      | false => exact .inl rfl
      | true =>
        cases h2 : okD today with
        | false => exact .inr (.inl rfl)
        | true =>
          by_cases h3 : most < 1
          · exact .inr (.inr (.inl h3))
          · exact .inr (.inr (.inr (if h4 : 1000 < most then h4 else absurd ⟨h1, h2, by omega, by omega⟩ hq)))
    exact ⟨[], ⟨0, 0, 0, 0, 0, 0, 0, 0, 0, 0⟩, 2, by simp, due_none x today most h, rdue_none 400000 (by omega) x today most h⟩
end Go.Proofs.YtibkbimhedoafaaDoor.PH
