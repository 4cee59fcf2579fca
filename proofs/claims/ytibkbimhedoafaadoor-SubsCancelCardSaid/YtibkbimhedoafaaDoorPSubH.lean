/- subs.Change and subs.Cancel in the printed form. The table of the days ahead of months holds its numbers. -/
-- HYB
import Derived.Test.YtibkbimhedoafaaDoorPSubG
namespace Go.Proofs.YtibkbimhedoafaaDoor.PH
open Go.RowKit Go.Proofs.YtibkbimhedoafaaDoorW.PrintWords Sb
noncomputable def subs_Change.f (a0_0 a0_1 a0_2 a0_3 a0_4 a0_5 a0_6 a0_7 a0_8 a0_9 a1 a2_0 a2_1 : Int) : Option (Int × Int × Int × Int × Int × Int × Int × Int × Int × Int × Int × Int × Int × Int × Int) :=
  (psub.ckF 1 ⟨a0_0, a0_1, a0_2, a0_3, a0_4, a0_5, a0_6, a0_7, a0_8, a0_9⟩).bind fun c => (subs_day.f a1).bind fun d =>
    if c ≠ 0 ∨ d = false ∨ a2_0 = 0 ∨ a2_1 < 0 ∨ 4611686018427387904 ≤ a2_1 then some (0, 0, 0, 0, 0, 0, 0, 0, 0, 0, 0, 0, 0, 0, 2)
    else (subs_last.f a0_0 a0_1 a0_2 a0_3 a0_4 a0_5 a0_6 a0_7 a0_8 a0_9 a1).bind fun p => if p.2.2.2.2.2.2 = false then some (0, 0, 0, 0, 0, 0, 0, 0, 0, 0, 0, 0, 0, 0, 9)
      else (subs_period_on.f p.1 p.2.1 p.2.2.1 p.2.2.2.1 p.2.2.2.2.1 p.2.2.2.2.2.1 a1 p.2.2.2.1).bind fun cr => (subs_period_on.f p.1 p.2.1 p.2.2.1 p.2.2.2.1 p.2.2.2.2.1 a2_1 a1 p.2.2.2.1).bind fun ch => some (a0_0, a0_1, a2_0, a0_3, a0_4, a0_5, a2_1, a0_7, a1, a0_9, a1, p.2.2.2.1, cr, ch, 0)
theorem subs_Change.calls (a0_0 a0_1 a0_2 a0_3 a0_4 a0_5 a0_6 a0_7 a0_8 a0_9 a1 a2_0 a2_1 : Int) (r1 r2 r3 r4 r5 r6 r7 r8 r9 r10 r11 r12 r13 r14 r15 : Int) (w : World) (HTab : Aside0 (Tab w)) (h : subs_Change.f a0_0 a0_1 a0_2 a0_3 a0_4 a0_5 a0_6 a0_7 a0_8 a0_9 a1 a2_0 a2_1 = some (r1, r2, r3, r4, r5, r6, r7, r8, r9, r10, r11, r12, r13, r14, r15)) :
    Calls Tryd.prog 9 #[.agg #[.int .u64 a0_0, .int .u64 a0_1, .int .u64 a0_2, .int .i64 a0_3, .int .i64 a0_4, .int .i64 a0_5, .int .i64 a0_6, .int .i64 a0_7, .int .i64 a0_8, .int .i64 a0_9], .int .i64 a1, .agg #[.int .u64 a2_0, .int .i64 a2_1]] w fun e w' => e = .returned (.tuple #[.agg #[.int .u64 r1, .int .u64 r2, .int .u64 r3, .int .i64 r4, .int .i64 r5, .int .i64 r6, .int .i64 r7, .int .i64 r8, .int .i64 r9, .int .i64 r10], .agg #[.int .i64 r11, .int .i64 r12, .int .i64 r13, .int .i64 r14], .int .i64 r15]) ∧ Below w.heap.size w w' := by
  unfold subs_Change.f at h
  replace h := Option.bind_eq_some_iff.mp h
  obtain ⟨c, hc, h⟩ := h
  replace h := Option.bind_eq_some_iff.mp h
  obtain ⟨d, hd, h⟩ := h
  by_cases hb : c ≠ 0 ∨ d = false ∨ a2_0 = 0 ∨ a2_1 < 0 ∨ 4611686018427387904 ≤ a2_1
  · rw [if_pos hb] at h
    simp only [Option.some.injEq, Prod.mk.injEq] at h
    obtain ⟨rfl, rfl, rfl, rfl, rfl, rfl, rfl, rfl, rfl, rfl, rfl, rfl, rfl, rfl, rfl⟩ := h
    exact psub.change_arg 1 ⟨a0_0, a0_1, a0_2, a0_3, a0_4, a0_5, a0_6, a0_7, a0_8, a0_9⟩ a1 a2_0 a2_1 c d w HTab.out hc hd hb
  · rw [if_neg hb] at h
    obtain rfl : c = 0 := if q : c = 0 then q else absurd (.inl q) hb
    obtain rfl : d = true := by
      cases d
      · exact absurd (.inr (.inl rfl)) hb
      · rfl
    have h1 : a2_0 ≠ 0 := fun q => hb (.inr (.inr (.inl q)))
    have h2 : 0 ≤ a2_1 := if q : a2_1 < 0 then absurd (.inr (.inr (.inr (.inl q)))) hb else by omega
    have h3 : a2_1 < 4611686018427387904 := if q : 4611686018427387904 ≤ a2_1 then absurd (.inr (.inr (.inr (.inr q)))) hb else by omega
    replace h := Option.bind_eq_some_iff.mp h
    obtain ⟨⟨i, f, n, en, wh, p, l⟩, hl, h⟩ := h
    simp only [] at h
    cases l with
    | false =>
      rw [if_pos rfl] at h
      simp only [Option.some.injEq, Prod.mk.injEq] at h
      obtain ⟨rfl, rfl, rfl, rfl, rfl, rfl, rfl, rfl, rfl, rfl, rfl, rfl, rfl, rfl, rfl⟩ := h
      exact psub.change_none 1 ⟨a0_0, a0_1, a0_2, a0_3, a0_4, a0_5, a0_6, a0_7, a0_8, a0_9⟩ a1 a2_0 a2_1 i f n en wh p w HTab.out hc hd h1 h2 h3 hl
    | true =>
      rw [if_neg (by decide)] at h
      replace h := Option.bind_eq_some_iff.mp h
      obtain ⟨cr, hcr, h⟩ := h
      replace h := Option.bind_eq_some_iff.mp h
      obtain ⟨ch, hch, h⟩ := h
      simp only [Option.some.injEq, Prod.mk.injEq] at h
      obtain ⟨rfl, rfl, rfl, rfl, rfl, rfl, rfl, rfl, rfl, rfl, rfl, rfl, rfl, rfl, rfl⟩ := h
      exact psub.change_main 1 ⟨a0_0, a0_1, a0_2, a0_3, a0_4, a0_5, a0_6, a0_7, a0_8, a0_9⟩ a1 a2_0 a2_1 i f n en wh p cr ch w HTab.out hc hd h1 h2 h3 hl hcr hch
noncomputable def subs_Cancel.f (a0_0 a0_1 a0_2 a0_3 a0_4 a0_5 a0_6 a0_7 a0_8 a0_9 a1 : Int) (a2 : Bool) : Option (Int × Int × Int × Int × Int × Int × Int × Int × Int × Int × Int × Int × Int × Int × Int) :=
  (psub.ckF 1 ⟨a0_0, a0_1, a0_2, a0_3, a0_4, a0_5, a0_6, a0_7, a0_8, a0_9⟩).bind fun c => (subs_day.f a1).bind fun d =>
    if c ≠ 0 ∨ d = false then some (0, 0, 0, 0, 0, 0, 0, 0, 0, 0, 0, 0, 0, 0, 2)
    else if a0_9 ≠ 0 ∨ a1 < a0_3 ∨ a2 = true ∧ a1 < a0_8 then some (0, 0, 0, 0, 0, 0, 0, 0, 0, 0, 0, 0, 0, 0, 9)
    else (anchor_Find.f a0_3 a0_4 a0_5 a1).bind fun q => if q.2.2.2 ≠ 0 then some (0, 0, 0, 0, 0, 0, 0, 0, 0, 0, 0, 0, 0, 0, q.2.2.2)
      else if q.1 + 1 < a0_7 then some (0, 0, 0, 0, 0, 0, 0, 0, 0, 0, 0, 0, 0, 0, 9)
      else if a2 = false then some (a0_0, a0_1, a0_2, a0_3, a0_4, a0_5, a0_6, a0_7, a0_8, q.2.2.1, 0, 0, 0, 0, 0)
      else (subs_last.f a0_0 a0_1 a0_2 a0_3 a0_4 a0_5 a0_6 a0_7 a0_8 a0_9 a1).bind fun p => if p.2.2.2.2.2.2 = false then some (a0_0, a0_1, a0_2, a0_3, a0_4, a0_5, a0_6, a0_7, a0_8, a1, 0, 0, 0, 0, 0)
        else (subs_period_on.f p.1 p.2.1 p.2.2.1 p.2.2.2.1 p.2.2.2.2.1 p.2.2.2.2.2.1 a1 p.2.2.1).bind fun cr => some (a0_0, a0_1, a0_2, a0_3, a0_4, a0_5, a0_6, a0_7, a0_8, a1, a1, p.2.2.1, cr, 0, 0)
theorem find_bd {s a E d i f n e : Int} (h : anchor_Find.f s a E d = some (i, f, n, e)) : 0 ≤ i ∧ i ≤ 200000 := by
  simp only [anchor_Find.f, Option.some.injEq, Prod.mk.injEq] at h
  obtain ⟨rfl, _⟩ := h
  unfold An.fV
  split
  · rename_i q
    unfold An.fIn at q
    simp at q
    have ho : An.ok s a E = true := by have := q.1.1; unfold An.fOk at this; simp at this; exact this.1.1
    have := An.top_bd ho
    have : 0 ≤ An.fk s a E d := by unfold An.fk; omega
    omega
  · omega
theorem subs_Cancel.calls (a0_0 a0_1 a0_2 a0_3 a0_4 a0_5 a0_6 a0_7 a0_8 a0_9 a1 : Int) (a2 : Bool) (r1 r2 r3 r4 r5 r6 r7 r8 r9 r10 r11 r12 r13 r14 r15 : Int) (w : World) (HTab : Aside0 (Tab w)) (h : subs_Cancel.f a0_0 a0_1 a0_2 a0_3 a0_4 a0_5 a0_6 a0_7 a0_8 a0_9 a1 a2 = some (r1, r2, r3, r4, r5, r6, r7, r8, r9, r10, r11, r12, r13, r14, r15)) :
    Calls Tryd.prog 12 #[.agg #[.int .u64 a0_0, .int .u64 a0_1, .int .u64 a0_2, .int .i64 a0_3, .int .i64 a0_4, .int .i64 a0_5, .int .i64 a0_6, .int .i64 a0_7, .int .i64 a0_8, .int .i64 a0_9], .int .i64 a1, .bool a2] w fun e w' => e = .returned (.tuple #[.agg #[.int .u64 r1, .int .u64 r2, .int .u64 r3, .int .i64 r4, .int .i64 r5, .int .i64 r6, .int .i64 r7, .int .i64 r8, .int .i64 r9, .int .i64 r10], .agg #[.int .i64 r11, .int .i64 r12, .int .i64 r13, .int .i64 r14], .int .i64 r15]) ∧ Below w.heap.size w w' := by
  unfold subs_Cancel.f at h
  replace h := Option.bind_eq_some_iff.mp h
  obtain ⟨c, hc, h⟩ := h
  replace h := Option.bind_eq_some_iff.mp h
  obtain ⟨d, hd, h⟩ := h
  by_cases hb : c ≠ 0 ∨ d = false
  · rw [if_pos hb] at h
    simp only [Option.some.injEq, Prod.mk.injEq] at h
    obtain ⟨rfl, rfl, rfl, rfl, rfl, rfl, rfl, rfl, rfl, rfl, rfl, rfl, rfl, rfl, rfl⟩ := h
    exact psub.cancel_arg 1 ⟨a0_0, a0_1, a0_2, a0_3, a0_4, a0_5, a0_6, a0_7, a0_8, a0_9⟩ a1 c a2 d w HTab.out hc hd hb
  · rw [if_neg hb] at h
    obtain rfl : c = 0 := if q : c = 0 then q else absurd (.inl q) hb
    obtain rfl : d = true := by
      cases d
      · exact absurd (.inr rfl) hb
      · rfl
    by_cases hs : a0_9 ≠ 0 ∨ a1 < a0_3 ∨ a2 = true ∧ a1 < a0_8
    · rw [if_pos hs] at h
      simp only [Option.some.injEq, Prod.mk.injEq] at h
      obtain ⟨rfl, rfl, rfl, rfl, rfl, rfl, rfl, rfl, rfl, rfl, rfl, rfl, rfl, rfl, rfl⟩ := h
      exact psub.cancel_state 1 ⟨a0_0, a0_1, a0_2, a0_3, a0_4, a0_5, a0_6, a0_7, a0_8, a0_9⟩ a1 a2 w HTab.out hc hd hs
    · rw [if_neg hs] at h
      have h0 : a0_9 = 0 := if q : a0_9 = 0 then q else absurd (.inl q) hs
      have h1 : a0_3 ≤ a1 := if q : a1 < a0_3 then absurd (.inr (.inl q)) hs else by omega
      have h2 : a2 = true → a0_8 ≤ a1 := fun g => if q : a1 < a0_8 then absurd (.inr (.inr ⟨g, q⟩)) hs else by omega
      replace h := Option.bind_eq_some_iff.mp h
      obtain ⟨⟨i, f, n, er⟩, hf, h⟩ := h
      simp only [] at h
      have hF : ∀ w, Tab w → _ := fun w T => anchor_Find.calls a0_3 a0_4 a0_5 a1 i f n er w ⟨T⟩ hf
      have hi := find_bd hf
      by_cases he : er ≠ 0
      · rw [if_pos he] at h
        simp only [Option.some.injEq, Prod.mk.injEq] at h
        obtain ⟨rfl, rfl, rfl, rfl, rfl, rfl, rfl, rfl, rfl, rfl, rfl, rfl, rfl, rfl, rfl⟩ := h
        exact psub.cancel_find 1 ⟨a0_0, a0_1, a0_2, a0_3, a0_4, a0_5, a0_6, a0_7, a0_8, a0_9⟩ a1 i f n er a2 w HTab.out hc hd h0 h1 h2 hF he
      · rw [if_neg he] at h
        obtain rfl : er = 0 := if q : er = 0 then q else absurd q he
        by_cases hg : i + 1 < a0_7
        · rw [if_pos hg] at h
          simp only [Option.some.injEq, Prod.mk.injEq] at h
          obtain ⟨rfl, rfl, rfl, rfl, rfl, rfl, rfl, rfl, rfl, rfl, rfl, rfl, rfl, rfl, rfl⟩ := h
          exact psub.cancel_ahead 1 ⟨a0_0, a0_1, a0_2, a0_3, a0_4, a0_5, a0_6, a0_7, a0_8, a0_9⟩ a1 i f n a2 w HTab.out hc hd h0 h1 h2 hF hi.1 hi.2 hg
        · rw [if_neg hg] at h
          cases a2 with
          | false =>
            rw [if_pos rfl] at h
            simp only [Option.some.injEq, Prod.mk.injEq] at h
            obtain ⟨rfl, rfl, rfl, rfl, rfl, rfl, rfl, rfl, rfl, rfl, rfl, rfl, rfl, rfl, rfl⟩ := h
            exact psub.cancel_later 1 ⟨a0_0, a0_1, a0_2, a0_3, a0_4, a0_5, a0_6, a0_7, a0_8, a0_9⟩ a1 i f n w HTab.out hc hd h0 h1 hF hi.1 hi.2 hg
          | true =>
            rw [if_neg (by decide)] at h
            replace h := Option.bind_eq_some_iff.mp h
            obtain ⟨⟨pi, pf, pn, pe, pw, pp, l⟩, hl, h⟩ := h
            simp only [] at h
            cases l with
            | false =>
              rw [if_pos rfl] at h
              simp only [Option.some.injEq, Prod.mk.injEq] at h
              obtain ⟨rfl, rfl, rfl, rfl, rfl, rfl, rfl, rfl, rfl, rfl, rfl, rfl, rfl, rfl, rfl⟩ := h
              exact psub.cancel_none 1 ⟨a0_0, a0_1, a0_2, a0_3, a0_4, a0_5, a0_6, a0_7, a0_8, a0_9⟩ a1 i f n pi pf pn pe pw pp w HTab.out hc hd h0 h1 (h2 rfl) hF hi.1 hi.2 hg hl
            | true =>
              rw [if_neg (by decide)] at h
              replace h := Option.bind_eq_some_iff.mp h
              obtain ⟨cr, hcr, h⟩ := h
              simp only [Option.some.injEq, Prod.mk.injEq] at h
              obtain ⟨rfl, rfl, rfl, rfl, rfl, rfl, rfl, rfl, rfl, rfl, rfl, rfl, rfl, rfl, rfl⟩ := h
              exact psub.cancel_in 1 ⟨a0_0, a0_1, a0_2, a0_3, a0_4, a0_5, a0_6, a0_7, a0_8, a0_9⟩ a1 i f n pi pf pn pe pw pp cr w HTab.out hc hd h0 h1 (h2 rfl) hF hi.1 hi.2 hg hl hcr
end Go.Proofs.YtibkbimhedoafaaDoor.PH
