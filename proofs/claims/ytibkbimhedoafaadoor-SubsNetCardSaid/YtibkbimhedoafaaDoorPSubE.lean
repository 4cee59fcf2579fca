/- subs.Due in the printed form. The table of the days ahead of months holds its numbers. -/
-- HYB
import Derived.Test.YtibkbimhedoafaaDoorPSubD
namespace Go.Proofs.YtibkbimhedoafaaDoor.psub
open Go.RowKit Sb
/-- The number of periods that are billed. -/
noncomputable def cntF (x : Su) (today most : Int) : Nat → Nat → Nat
  | 0, j => j
  | f + 1, j => if stopB x today most (x.bi + j) j = true then j else cntF x today most f (j + 1)
theorem cntF_stops (x : Su) (today most : Int) (n : Nat) : ∀ (f j : Nat), j + f = n → (∀ i : Nat, i < j → stopB x today most (x.bi + i) i = false) → Stops x today most n (cntF x today most f j)
  | 0, j, e, h => ⟨by unfold cntF; omega, by unfold cntF; exact h, .inl (by unfold cntF; omega)⟩
  | f + 1, j, e, h => by
    unfold cntF
    by_cases hs : stopB x today most (x.bi + j) j = true
    · rw [if_pos hs]
      exact ⟨by omega, h, .inr hs⟩
    · rw [if_neg hs]
      refine cntF_stops x today most n f (j + 1) (by omega) (fun i hi => ?_)
      by_cases hij : i = j
      · subst hij; simpa using hs
      · exact h i (by omega)
theorem Stops.unique {x : Su} {today most : Int} {n m m' : Nat} (h : Stops x today most n m) (h' : Stops x today most n m') : m = m' := by
  obtain ⟨h1, h2, h3⟩ := h
  obtain ⟨h1', h2', h3'⟩ := h'
  rcases Nat.lt_trichotomy m m' with hl | hl | hl
  · rcases h3 with h3 | h3
    · omega
    · rw [h2' m hl] at h3; cases h3
  · exact hl
  · rcases h3' with h3' | h3'
    · omega
    · rw [h2 m' hl] at h3'; cases h3'
noncomputable def cnt (x : Su) (today most : Int) : Nat := cntF x today most (tp x - x.bi).toNat 0
end Go.Proofs.YtibkbimhedoafaaDoor.psub
namespace Go.Proofs.YtibkbimhedoafaaDoor.PH
open Go.RowKit Go.Proofs.YtibkbimhedoafaaDoorW.PrintWords Sb
noncomputable def subs_Due.f (a0_0 a0_1 a0_2 a0_3 a0_4 a0_5 a0_6 a0_7 a0_8 a0_9 a1 a2 : Int) : Option (List S47 × Int × Int × Int × Int × Int × Int × Int × Int × Int × Int × Int) :=
  let x : Su := ⟨a0_0, a0_1, a0_2, a0_3, a0_4, a0_5, a0_6, a0_7, a0_8, a0_9⟩
  (psub.ckF 1 x).bind fun c => (subs_day.f a1).bind fun d =>
    if c ≠ 0 ∨ d = false ∨ a2 < 1 ∨ 1000 < a2 then some ([], 0, 0, 0, 0, 0, 0, 0, 0, 0, 0, 2)
    else if okC x = true ∧ 0 ≤ a0_7 ∧ a0_7 ≤ tp x then some ((ix a0_7 (psub.cnt x a1 a2)).map (psub.bl x), a0_0, a0_1, a0_2, a0_3, a0_4, a0_5, a0_6, a0_7 + (psub.cnt x a1 a2 : Int), a0_8, a0_9, 0)
    else none
theorem subs_Due.calls (a0_0 a0_1 a0_2 a0_3 a0_4 a0_5 a0_6 a0_7 a0_8 a0_9 a1 a2 : Int) (r1 : List S47) (r2 r3 r4 r5 r6 r7 r8 r9 r10 r11 r12 : Int) (w : World) (HTab : Aside0 (Tab w))
    (h : subs_Due.f a0_0 a0_1 a0_2 a0_3 a0_4 a0_5 a0_6 a0_7 a0_8 a0_9 a1 a2 = some (r1, r2, r3, r4, r5, r6, r7, r8, r9, r10, r11, r12)) :
    Calls Tryd.prog 14 #[.agg #[.int .u64 a0_0, .int .u64 a0_1, .int .u64 a0_2, .int .i64 a0_3, .int .i64 a0_4, .int .i64 a0_5, .int .i64 a0_6, .int .i64 a0_7, .int .i64 a0_8, .int .i64 a0_9], .int .i64 a1, .int .i64 a2] w fun e w' => ∃ v0_ : Value,
      e = .returned (.tuple #[v0_, .agg #[.int .u64 r2, .int .u64 r3, .int .u64 r4, .int .i64 r5, .int .i64 r6, .int .i64 r7, .int .i64 r8, .int .i64 r9, .int .i64 r10, .int .i64 r11], .int .i64 r12]) ∧ Kd.R k47 47 w' w.heap.size (fun _ => True) v0_ r1 ∧ Below w.heap.size w w' := by
  unfold subs_Due.f at h
  simp only [] at h
  obtain ⟨c, hc, h⟩ := Option.bind_eq_some_iff.mp h
  obtain ⟨d, hd, h⟩ := Option.bind_eq_some_iff.mp h
  by_cases hb : c ≠ 0 ∨ d = false ∨ a2 < 1 ∨ 1000 < a2
  · rw [if_pos hb] at h
    simp only [Option.some.injEq, Prod.mk.injEq] at h
    obtain ⟨rfl, rfl, rfl, rfl, rfl, rfl, rfl, rfl, rfl, rfl, rfl, rfl⟩ := h
    exact (psub.due_no 1 _ a1 a2 c d w HTab.out hc hd hb).mono fun e w' ⟨he, hB⟩ => ⟨_, he, Kd.R_nil _ _ _ _ _, hB⟩
  · rw [if_neg hb] at h
    by_cases ho : okC ⟨a0_0, a0_1, a0_2, a0_3, a0_4, a0_5, a0_6, a0_7, a0_8, a0_9⟩ = true ∧ 0 ≤ a0_7 ∧ a0_7 ≤ tp ⟨a0_0, a0_1, a0_2, a0_3, a0_4, a0_5, a0_6, a0_7, a0_8, a0_9⟩
    · rw [if_pos ho] at h
      simp only [Option.some.injEq, Prod.mk.injEq] at h
      obtain ⟨rfl, rfl, rfl, rfl, rfl, rfl, rfl, rfl, rfl, rfl, rfl, rfl⟩ := h
      obtain rfl : c = 0 := by
        by_cases hc0 : c = 0
        · exact hc0
        · exact absurd (.inl hc0) hb
      obtain rfl : d = true := by
        cases d
        · exact absurd (.inr (.inl rfl)) hb
        · rfl
      refine (psub.due_yes 1 ⟨a0_0, a0_1, a0_2, a0_3, a0_4, a0_5, a0_6, a0_7, a0_8, a0_9⟩ a1 a2 (tp ⟨a0_0, a0_1, a0_2, a0_3, a0_4, a0_5, a0_6, a0_7, a0_8, a0_9⟩ - a0_7).toNat w HTab.out hc hd ?_ ?_ ho.1 ho.2.1 (by simp only []; omega)).mono ?_
      · by_cases h1 : a2 < 1
        · exact absurd (.inr (.inr (.inl h1))) hb
        · omega
      · by_cases h1 : 1000 < a2
        · exact absurd (.inr (.inr (.inr h1))) hb
        · omega
      · rintro e w' ⟨v, m, hst, he, hR, hB⟩
        obtain rfl := hst.unique (psub.cntF_stops _ a1 a2 _ (tp ⟨a0_0, a0_1, a0_2, a0_3, a0_4, a0_5, a0_6, a0_7, a0_8, a0_9⟩ - a0_7).toNat 0 (by omega) (fun i hi => by omega))
        exact ⟨v, he, hR, hB⟩
    · rw [if_neg ho] at h
      cases h
end Go.Proofs.YtibkbimhedoafaaDoor.PH
