/- A loop over an iterator that keeps state of its own in cells: the blocks of a list are the iterator's to turn between two rounds. No conditions. A subscription's periods, as numbers: plain arithmetic. No conditions. The iterator of subs.periods: what comes, for every loop body (a walk). The table of the days ahead of months holds its numbers. -/
import Derived.RangeFuncNested
import Derived.RangeFuncBound
import Derived.RangeFuncCalls
import Derived.RangeFuncLeaves
import Derived.Test.YtibkbimhedoafaaDoorMAnch
import Derived.Test.YtibkbimhedoafaaDoorMCiv
import Derived.Test.YtibkbimhedoafaaDoorBase
import Derived.RangeFuncBox
import Derived.Shelf.Abstract
import Derived.Shelf.RegionOpen
import Derived.OwnWalkIn
import Derived.TacticsInMore
import Derived.LoopNIn
import Derived.LoopIn
import Derived.Sort.CutIn
namespace Go.Proofs.YtibkbimhedoafaaDoor.rl
open Go.RowKit

variable {F : Fence} {n : Nat} {P : Program}

/-- J outlives the turn of a block of L, and new blocks. -/
def Bears {β : Type} (L : List Nat) (J : β → World → Prop) : Prop := ∀ s A B row, J s A → A.grownBy B row → (∀ r, row = some r → r ∈ L) → J s B
theorem Bears.and {β : Type} {L : List Nat} {I J : β → World → Prop} (h : Bears L I) (k : Bears L J) : Bears L (fun s W => I s W ∧ J s W) := fun s A B row hs hg hr => ⟨h s A B row hs.1 hg hr, k s A B row hs.2 hg hr⟩
theorem Bears.pure {β : Type} (L : List Nat) (p : β → Prop) : Bears L (fun s (_ : World) => p s) := fun _ _ _ _ hs _ _ => hs
/-- A block that the list does not name lies as it lay. -/
theorem Bears.block {β : Type} {L : List Nat} {b : Nat} (hb : b ∉ L) (f : β → Obj) : Bears L (fun s W => W.heap[b]? = some (f s)) := fun _ _ _ _ hs hg hr =>
  (hg.block b (Array.getElem?_eq_some_iff.1 hs).1 (fun e => hb (hr b e.symm))).trans hs
theorem Bears.below {β : Type} {L : List Nat} {m : Nat} {w : World} (hL : ∀ r ∈ L, m ≤ r) (hm : m ≤ w.heap.size) : Bears L (fun (_ : β) W => Below m w W) := fun _ _ _ _ hs hg hr =>
  hs.grown hg (Nat.le_trans hm hs.size) (fun k e => hL k (hr k e))

/-- The contract of such an iterator. -/
def SeqStopsL {α : Type} (F : Fence) (n : Nat) (P : Program) (g : Nat) (lb : Array Value) (encs : α → Array Value) (Kp : World → World → Prop) (S Sp : List α → Prop) (N : Nat) (L : List Nat) (w : World) : Prop :=
  ∀ (l : Nat) (J Jx : List α → World → Prop) (W : World), Below w.heap.size w W → Bears L J → Bears L Jx →
    (∀ pre x W1, J pre W1 → pre.length < N → YieldAt F (n - 1) P l (encs x) W1 fun e W' =>
      (e = .returned (.bool true) ∧ J (pre ++ [x]) W' ∧ Kp W1 W') ∨ (e = .returned (.bool false) ∧ Jx (pre ++ [x]) W')) →
    J [] W →
    CallsIn F n P g (#[.func (.yield l) #[] #[]] ++ lb) W fun e W' => (∃ v, e = .returned v) ∧ ((∃ xs, S xs ∧ J xs W') ∨ (∃ pre, Sp pre ∧ Jx pre W'))

/-- The caller's law. -/
theorem wpIn_range {α : Type} {g : Operand} {ps : Array Tmp} {assign body : Code} {Q : Exit → Act → World → Prop} {a : Act} {w : World}
    (hro : F.round = none) (h1 : 1 ≤ n) {gf : Nat} {lb : Array Value} (hg : a.eval g = .func (.func gf) #[] lb) (hFg : F.fn gf) (eg : ∀ args w, (callFunc gf args).run P w = .ok (.enter gf args) w)
    {encs : α → Array Value} {Kp : World → World → Prop} {S Sp : List α → Prop} {N : Nat} {L : List Nat} {w0 : World} (hseq : SeqStopsL F (n - 1) P gf lb encs Kp S Sp N L w0) (hL : ∀ r ∈ L, r < w.heap.size)
    (hKt : ∀ {A B C : World}, Kp A B → Kp B C → Kp A C) (hKb : ∀ (W : World) (l : Nat) (o o' : Obj), w.heap.size ≤ l → W.heap[l]? = some o → o.isCells = false → Kp W (W.putObj l o')) (hb0 : Below w0.heap.size w0 w) (hps : ∀ x, (encs x).size = ps.size)
    (I : List α → World → Prop) (Ix : Code → List α → World → Prop) (hI : OwnFrom w.heap.size I) (hIx : ∀ c, OwnFrom w.heap.size (Ix c)) (bI : Bears L I) (bIx : ∀ c, Bears L (Ix c)) (h0 : I [] w) (a₁ : α → Act)
    (hassign : ∀ (l : Nat) (x : α) (W : World) (K : Act → World → Prop), K (a₁ x) W →
      assign.wpIn (F.inRound l) (n - 1 - 1) P (Exit.then K (fun _ _ _ => False)) { tmps := (ps.zip (encs x)).foldl (fun t (p, v) => t.setIfInBounds p v) a.tmps, defers := [] } W)
    (hbody : ∀ (l : Nat) (pre : List α) (x : α) (W : World), I pre W → pre.length < N → body.wpIn (F.inRound l) (n - 1 - 1) P (ownPostG w.heap.size Kp I Ix (pre ++ [x]) W) (a₁ x) W)
    (hdone : ∀ (D : Nat) (xs : List α) (W : World), w.heap.size ≤ D → S xs → I xs W → W.heap[D]? = some (.deferred (some [])) → Q .normal { a with defers := { target := .collected D, args := #[] } :: a.defers } W)
    (hstop : ∀ (D : Nat) (c : Code) (pre : List α) (W : World), w.heap.size ≤ D → Sp pre → Ix c pre W → W.heap[D]? = some (.deferred (some [])) → c.wpIn F n P Q { a with defers := { target := .collected D, args := #[] } :: a.defers } W) :
    (Code.rangeFunc g ps assign body).wpIn F n P Q a w := by
  refine wpIn_rangeFunc fun fn hfn => ?_
  rw [hro]
  -- the loop's record, and the world in which the iterator is called
  obtain ⟨rec, hrec⟩ : ∃ rec : LoopState → Option Code → Loop, rec = fun st pe => { state := st, pending := pe, fn, tmps := a.tmps, params := ps, assign, body, defers := w.heap.size } := ⟨_, rfl⟩
  let m := w.heap.size
  have hm : w.heap.size = m := rfl
  let V := (w.alloc (.deferred (some []))).alloc (.loop (rec .ready none))
  have hV : V = (w.alloc (.deferred (some []))).alloc (.loop (rec .ready none)) := rfl
  have rV : V.heap[m + 1]? = some (.loop (rec .ready none)) := by
    have := World.alloc_heap_new (w.alloc (.deferred (some []))) (.loop (rec .ready none))
    rwa [World.size_alloc] at this
  have dV : V.heap[m]? = some (.deferred (some [])) := (Below.heap_alloc _ _ _ (by simp [m])).trans (World.alloc_heap_new w _)
  have iV : I [] V := hI.alloc _ (hI.alloc _ h0)
  have bV : Below w0.heap.size w0 V := hb0.trans ((((Below.refl _ w).alloc (Nat.le_refl _) _).alloc (by simp) _).mono hb0.size)
  have n0 : m ∉ L := fun h => absurd (hL _ h) (by omega)
  have n1 : m + 1 ∉ L := fun h => absurd (hL _ h) (by omega)
  refine ⟨m + 1, [{ target := .collected m, args := #[] }], V, { target := .fn (.func gf) lb, args := #[.func (.yield (m + 1)) #[] #[]] }, V, gf,
    #[.func (.yield (m + 1)) #[] #[]] ++ lb, V, by rw [hV, hrec]; exact run_enterLoop_outer _ _ _ _ _, ?_, ?_, by simp [invoke, go_sem, eg], fun _ => h1, ?_⟩
  · simp only [resolve, hg]
    simp [go_sem]
  · intro f' hf'
    simp [Target.leads] at hf'
    exact hf' ▸ hFg
  let J : List α → World → Prop := fun pre W => (I pre W ∧ W.heap[m + 1]? = some (.loop (rec .ready none))) ∧ W.heap[m]? = some (.deferred (some []))
  let Jx : List α → World → Prop := fun pre W => ∃ c, (Ix c pre W ∧ W.heap[m + 1]? = some (.loop (rec .done (some c)))) ∧ W.heap[m]? = some (.deferred (some []))
  have bJ : Bears L J := (bI.and (Bears.block n1 _)).and (Bears.block n0 _)
  have bJx : Bears L Jx := fun s A B row ⟨c, hc⟩ hg hr => ⟨c, (((bIx c).and (Bears.block n1 (fun _ => Obj.loop (rec .done (some c))))).and (Bears.block n0 (fun _ => Obj.deferred (some [])))) s A B row hc hg hr⟩
  refine (hseq (m + 1) J Jx V bV bJ bJx ?_ ⟨⟨iV, rV⟩, dV⟩).mono ?_
  · -- a round
    rintro pre x W ⟨⟨hi, hl⟩, hk⟩ hlen
    have hlt : m + 1 < W.heap.size := (Array.getElem?_eq_some_iff.1 hl).1
    have hy := run_yield (P := P) (args := encs x) hl (by rw [hrec]; exact hps x)
    rw [hrec] at hy
    refine ⟨fn, _, assign, body, hy, roundIn_of_wpIn hfn (hassign _ x W _ ⟨_, run_beginRound hl (by rw [hrec]), ?_⟩)⟩
    clear hy
    obtain ⟨U, hU⟩ : ∃ U, W.putObj (m + 1) (.loop { rec .ready none with state := .busy }) = U := ⟨_, rfl⟩
    have iU : I pre U := hU ▸ hI.putObj _ hi (by omega) hl rfl
    have kU : Kp W U := hU ▸ hKb _ _ _ _ (by omega) hl rfl
    have rU : U.heap[m + 1]? = some (.loop { rec .ready none with state := .busy }) := hU ▸ World.putObj_heap_same hlt
    have dU : U.heap[m]? = some (.deferred (some [])) := hU ▸ (World.putObj_heap_other (by omega)).trans hk
    rw [hU]
    refine wpIn_mono (hbody _ pre x U iU hlen) ?_
    -- what the end of a round does
    have fin : ∀ (j : Option Code) (X : World), KeepsFrom m U X → ∃ Y, (Instr.endRound (m + 1) j).run P X = .ok (.bool j.isNone) Y ∧ Y = X.putObj (m + 1) (.loop (rec (if j.isNone then .ready else .done) j)) ∧
        X.heap[m + 1]? = some (.loop { rec .ready none with state := .busy }) ∧ Y.heap[m + 1]? = some (.loop (rec (if j.isNone then .ready else .done) j)) ∧ Y.heap[m]? = some (.deferred (some [])) := by
      intro j X hX
      have r3 := hX.same _ _ (by omega) rU rfl
      have e := run_endRound (P := P) j r3
      rw [hrec] at e r3 ⊢
      exact ⟨_, e, rfl, r3, World.putObj_heap_same (Array.getElem?_eq_some_iff.1 r3).1, (World.putObj_heap_other (by omega)).trans (hX.same _ _ (Nat.le_refl _) dU rfl)⟩
    rintro e a3 X hp
    cases e with
    | normal =>
      obtain ⟨hX, hK, hi3⟩ := hp
      obtain ⟨Y, q1, rfl, q2, q3, q4⟩ := fin none X hX
      exact ⟨_, _, q1, .inl ⟨rfl, ⟨⟨hI.putObj _ hi3 (by omega) q2 rfl, q3⟩, q4⟩, hKt (hKt kU hK) (hKb _ _ _ _ (by omega) q2 rfl)⟩⟩
    | ret =>
      obtain ⟨hX, hi3⟩ := hp
      obtain ⟨Y, q1, rfl, q2, q3, q4⟩ := fin (some .ret) X hX
      exact ⟨_, _, q1, .inr ⟨rfl, .ret, ⟨(hIx _).putObj _ hi3 (by omega) q2 rfl, q3⟩, q4⟩⟩
    | exit id =>
      obtain ⟨hX, hi3⟩ := hp
      obtain ⟨Y, q1, rfl, q2, q3, q4⟩ := fin (some (.exit id)) X hX
      exact ⟨_, _, q1, .inr ⟨rfl, .exit id, ⟨(hIx _).putObj _ hi3 (by omega) q2 rfl, q3⟩, q4⟩⟩
    | goto t =>
      obtain ⟨hX, hi3⟩ := hp
      obtain ⟨Y, q1, rfl, q2, q3, q4⟩ := fin (some (.goto t)) X hX
      exact ⟨_, _, q1, .inr ⟨rfl, .goto t, ⟨(hIx _).putObj _ hi3 (by omega) q2 rfl, q3⟩, q4⟩⟩
    | panic ch => exact hp.elim
    | outgrown => exact hp.elim
  · -- behind the iterator
    rintro e W ⟨⟨v, rfl⟩, (⟨xs, hS, ⟨hi, hl⟩, hk⟩ | ⟨pre, hSp, c, ⟨hi, hl⟩, hk⟩)⟩
    · have q := run_endLoop (P := P) hl (by rw [hrec]; simp)
      rw [hrec] at q
      exact ⟨none, _, q, hdone _ xs _ (Nat.le_refl _) hS (hI.putObj _ hi (by omega) hl rfl) ((World.putObj_heap_other (by omega)).trans hk)⟩
    · have q := run_endLoop (P := P) hl (by rw [hrec]; simp)
      rw [hrec] at q
      exact ⟨some c, _, q, hstop _ c pre _ (Nat.le_refl _) hSp ((hIx c).putObj _ hi (by omega) hl rfl) ((World.putObj_heap_other (by omega)).trans hk)⟩
/-- The caller's law, where the loop's variable may be laid in memory. -/
theorem wpIn_rangeH {α : Type} {g : Operand} {ps : Array Tmp} {assign body : Code} {Q : Exit → Act → World → Prop} {a : Act} {w : World}
    (hro : F.round = none) (h1 : 1 ≤ n) {gf : Nat} {lb : Array Value} (hg : a.eval g = .func (.func gf) #[] lb) (hFg : F.fn gf) (eg : ∀ args w, (callFunc gf args).run P w = .ok (.enter gf args) w)
    {encs : α → Array Value} {Kp : World → World → Prop} {S Sp : List α → Prop} {N : Nat} {L : List Nat} {w0 : World} (hseq : SeqStopsL F (n - 1) P gf lb encs Kp S Sp N L w0) (hL : ∀ r ∈ L, r < w.heap.size)
    (hKt : ∀ {A B C : World}, Kp A B → Kp B C → Kp A C) (hKb : ∀ (W : World) (l : Nat) (o o' : Obj), w.heap.size ≤ l → W.heap[l]? = some o → o.isCells = false → Kp W (W.putObj l o')) (hb0 : Below w0.heap.size w0 w) (hps : ∀ x, (encs x).size = ps.size)
    (I : List α → World → Prop) (Ix : Code → List α → World → Prop) (hI : OwnFrom w.heap.size I) (hIx : ∀ c, OwnFrom w.heap.size (Ix c)) (bI : Bears L I) (bIx : ∀ c, Bears L (Ix c)) (h0 : I [] w) (Ax : α → Act → World → Prop) (hAx : ∀ x a', OwnFrom w.heap.size (fun (_ : Unit) W => Ax x a' W))
    (hassign : ∀ (l : Nat) (pre : List α) (x : α) (W : World) (K : Act → World → Prop), I pre W → (∀ a' W', KeepsFrom w.heap.size W W' → Kp W W' → I pre W' → Ax x a' W' → K a' W') →
      assign.wpIn (F.inRound l) (n - 1 - 1) P (Exit.then K (fun _ _ _ => False)) { tmps := (ps.zip (encs x)).foldl (fun t (p, v) => t.setIfInBounds p v) a.tmps, defers := [] } W)
    (hbody : ∀ (l : Nat) (pre : List α) (x : α) (a' : Act) (W : World), I pre W → Ax x a' W → pre.length < N → body.wpIn (F.inRound l) (n - 1 - 1) P (ownPostG w.heap.size Kp I Ix (pre ++ [x]) W) a' W)
    (hdone : ∀ (D : Nat) (xs : List α) (W : World), w.heap.size ≤ D → S xs → I xs W → W.heap[D]? = some (.deferred (some [])) → Q .normal { a with defers := { target := .collected D, args := #[] } :: a.defers } W)
    (hstop : ∀ (D : Nat) (c : Code) (pre : List α) (W : World), w.heap.size ≤ D → Sp pre → Ix c pre W → W.heap[D]? = some (.deferred (some [])) → c.wpIn F n P Q { a with defers := { target := .collected D, args := #[] } :: a.defers } W) :
    (Code.rangeFunc g ps assign body).wpIn F n P Q a w := by
  refine wpIn_rangeFunc fun fn hfn => ?_
  rw [hro]
  -- the loop's record, and the world in which the iterator is called
  obtain ⟨rec, hrec⟩ : ∃ rec : LoopState → Option Code → Loop, rec = fun st pe => { state := st, pending := pe, fn, tmps := a.tmps, params := ps, assign, body, defers := w.heap.size } := ⟨_, rfl⟩
  let m := w.heap.size
  have hm : w.heap.size = m := rfl
  let V := (w.alloc (.deferred (some []))).alloc (.loop (rec .ready none))
  have hV : V = (w.alloc (.deferred (some []))).alloc (.loop (rec .ready none)) := rfl
  have rV : V.heap[m + 1]? = some (.loop (rec .ready none)) := by
    have := World.alloc_heap_new (w.alloc (.deferred (some []))) (.loop (rec .ready none))
    rwa [World.size_alloc] at this
  have dV : V.heap[m]? = some (.deferred (some [])) := (Below.heap_alloc _ _ _ (by simp [m])).trans (World.alloc_heap_new w _)
  have iV : I [] V := hI.alloc _ (hI.alloc _ h0)
  have bV : Below w0.heap.size w0 V := hb0.trans ((((Below.refl _ w).alloc (Nat.le_refl _) _).alloc (by simp) _).mono hb0.size)
  have n0 : m ∉ L := fun h => absurd (hL _ h) (by omega)
  have n1 : m + 1 ∉ L := fun h => absurd (hL _ h) (by omega)
  refine ⟨m + 1, [{ target := .collected m, args := #[] }], V, { target := .fn (.func gf) lb, args := #[.func (.yield (m + 1)) #[] #[]] }, V, gf,
    #[.func (.yield (m + 1)) #[] #[]] ++ lb, V, by rw [hV, hrec]; exact run_enterLoop_outer _ _ _ _ _, ?_, ?_, by simp [invoke, go_sem, eg], fun _ => h1, ?_⟩
  · simp only [resolve, hg]
    simp [go_sem]
  · intro f' hf'
    simp [Target.leads] at hf'
    exact hf' ▸ hFg
  let J : List α → World → Prop := fun pre W => (I pre W ∧ W.heap[m + 1]? = some (.loop (rec .ready none))) ∧ W.heap[m]? = some (.deferred (some []))
  let Jx : List α → World → Prop := fun pre W => ∃ c, (Ix c pre W ∧ W.heap[m + 1]? = some (.loop (rec .done (some c)))) ∧ W.heap[m]? = some (.deferred (some []))
  have bJ : Bears L J := (bI.and (Bears.block n1 _)).and (Bears.block n0 _)
  have bJx : Bears L Jx := fun s A B row ⟨c, hc⟩ hg hr => ⟨c, (((bIx c).and (Bears.block n1 (fun _ => Obj.loop (rec .done (some c))))).and (Bears.block n0 (fun _ => Obj.deferred (some [])))) s A B row hc hg hr⟩
  refine (hseq (m + 1) J Jx V bV bJ bJx ?_ ⟨⟨iV, rV⟩, dV⟩).mono ?_
  · -- a round
    rintro pre x W0 ⟨⟨hi0, hl0⟩, hk0⟩ hlen
    have hy := run_yield (P := P) (args := encs x) hl0 (by rw [hrec]; exact hps x)
    rw [hrec] at hy
    refine ⟨fn, _, assign, body, hy, roundIn_of_wpIn hfn (hassign _ pre x W0 _ hi0 ?_)⟩
    clear hy
    intro a' W hkf hkp0 hi hax
    have hl := hkf.same _ _ (by omega) hl0 rfl
    have hk := hkf.same _ _ (Nat.le_refl _) hk0 rfl
    have hlt : m + 1 < W.heap.size := (Array.getElem?_eq_some_iff.1 hl).1
    refine ⟨_, run_beginRound hl (by rw [hrec]), ?_⟩
    obtain ⟨U, hU⟩ : ∃ U, W.putObj (m + 1) (.loop { rec .ready none with state := .busy }) = U := ⟨_, rfl⟩
    have iU : I pre U := hU ▸ hI.putObj _ hi (by omega) hl rfl
    have kU : Kp W U := hU ▸ hKb _ _ _ _ (by omega) hl rfl
    have rU : U.heap[m + 1]? = some (.loop { rec .ready none with state := .busy }) := hU ▸ World.putObj_heap_same hlt
    have dU : U.heap[m]? = some (.deferred (some [])) := hU ▸ (World.putObj_heap_other (by omega)).trans hk
    have aU : Ax x a' U := hU ▸ (hAx x a').putObj (s := ()) _ hax (by omega) hl rfl
    rw [hU]
    refine wpIn_mono (hbody _ pre x a' U iU aU hlen) ?_
    -- what the end of a round does
    have fin : ∀ (j : Option Code) (X : World), KeepsFrom m U X → ∃ Y, (Instr.endRound (m + 1) j).run P X = .ok (.bool j.isNone) Y ∧ Y = X.putObj (m + 1) (.loop (rec (if j.isNone then .ready else .done) j)) ∧
        X.heap[m + 1]? = some (.loop { rec .ready none with state := .busy }) ∧ Y.heap[m + 1]? = some (.loop (rec (if j.isNone then .ready else .done) j)) ∧ Y.heap[m]? = some (.deferred (some [])) := by
      intro j X hX
      have r3 := hX.same _ _ (by omega) rU rfl
      have e := run_endRound (P := P) j r3
      rw [hrec] at e r3 ⊢
      exact ⟨_, e, rfl, r3, World.putObj_heap_same (Array.getElem?_eq_some_iff.1 r3).1, (World.putObj_heap_other (by omega)).trans (hX.same _ _ (Nat.le_refl _) dU rfl)⟩
    rintro e a3 X hp
    cases e with
    | normal =>
      obtain ⟨hX, hK, hi3⟩ := hp
      obtain ⟨Y, q1, rfl, q2, q3, q4⟩ := fin none X hX
      exact ⟨_, _, q1, .inl ⟨rfl, ⟨⟨hI.putObj _ hi3 (by omega) q2 rfl, q3⟩, q4⟩, hKt hkp0 (hKt (hKt kU hK) (hKb _ _ _ _ (by omega) q2 rfl))⟩⟩
    | ret =>
      obtain ⟨hX, hi3⟩ := hp
      obtain ⟨Y, q1, rfl, q2, q3, q4⟩ := fin (some .ret) X hX
      exact ⟨_, _, q1, .inr ⟨rfl, .ret, ⟨(hIx _).putObj _ hi3 (by omega) q2 rfl, q3⟩, q4⟩⟩
    | exit id =>
      obtain ⟨hX, hi3⟩ := hp
      obtain ⟨Y, q1, rfl, q2, q3, q4⟩ := fin (some (.exit id)) X hX
      exact ⟨_, _, q1, .inr ⟨rfl, .exit id, ⟨(hIx _).putObj _ hi3 (by omega) q2 rfl, q3⟩, q4⟩⟩
    | goto t =>
      obtain ⟨hX, hi3⟩ := hp
      obtain ⟨Y, q1, rfl, q2, q3, q4⟩ := fin (some (.goto t)) X hX
      exact ⟨_, _, q1, .inr ⟨rfl, .goto t, ⟨(hIx _).putObj _ hi3 (by omega) q2 rfl, q3⟩, q4⟩⟩
    | panic ch => exact hp.elim
    | outgrown => exact hp.elim
  · -- behind the iterator
    rintro e W ⟨⟨v, rfl⟩, (⟨xs, hS, ⟨hi, hl⟩, hk⟩ | ⟨pre, hSp, c, ⟨hi, hl⟩, hk⟩)⟩
    · have q := run_endLoop (P := P) hl (by rw [hrec]; simp)
      rw [hrec] at q
      exact ⟨none, _, q, hdone _ xs _ (Nat.le_refl _) hS (hI.putObj _ hi (by omega) hl rfl) ((World.putObj_heap_other (by omega)).trans hk)⟩
    · have q := run_endLoop (P := P) hl (by rw [hrec]; simp)
      rw [hrec] at q
      exact ⟨some c, _, q, hstop _ c pre _ (Nat.le_refl _) hSp ((hIx c).putObj _ hi (by omega) hl rfl) ((World.putObj_heap_other (by omega)).trans hk)⟩
end Go.Proofs.YtibkbimhedoafaaDoor.rl

namespace Sb
open An Cv
/-- A subscription. -/
structure Su where
  id : Int
  cu : Int
  pl : Int
  st : Int
  an : Int
  ev : Int
  pr : Int
  bi : Int
  si : Int
  en : Int
noncomputable section
/-- Where a period that ends ahead of a bound begins, if it is whole. -/
def fst0 (x : Su) (n : Int) : Int := if okA (ofD n - x.ev) x.an = true then at_ (ofD n - x.ev) x.an else 1
def fr (x : Su) (i : Int) : Int := B x.st x.an x.ev i
def nx (x : Su) (i : Int) : Int := B x.st x.an x.ev (i + 1)
def ee (x : Su) (i : Int) : Int := if x.en = 0 then nx x i else (if x.en < nx x i then x.en else nx x i)
def wh (x : Su) (i : Int) : Int := nx x i - fst0 x (nx x i)
def tp (x : Su) : Int := top x.st x.an x.ev
def okC (x : Su) : Bool := ok x.st x.an x.ev
/-- The indices from one on. -/
def ix (k : Int) (m : Nat) : List Int := (List.range m).map fun (j : Nat) => k + (j : Int)
end
theorem ix_len (k : Int) (m : Nat) : (ix k m).length = m := by simp [ix]
theorem ix_succ (k : Int) (m : Nat) : ix k (m + 1) = ix k m ++ [k + m] := by simp [ix, List.range_succ]
theorem ix_zero (k : Int) : ix k 0 = [] := rfl
theorem fst0_bd (x : Su) (n : Int) : 1 ≤ fst0 x n ∧ fst0 x n ≤ 3652059 := by
  unfold fst0
  split
  · rename_i q
    have := okA_t q
    exact at_bd this.1.1 this.1.2 this.2.1
  · omega
structure In (x : Su) (i : Int) : Prop where
  c : okC x = true
  lo : 0 ≤ i
  hi : i + 1 ≤ tp x
theorem In.bd {x : Su} {i : Int} (h : In x i) : 1 ≤ fr x i ∧ fr x i < nx x i ∧ nx x i ≤ 3652059 := by
  have h1 := B_bd h.c h.lo (show i ≤ top x.st x.an x.ev by have := h.hi; unfold tp at this; omega)
  have h2 := B_bd h.c (show 0 ≤ i + 1 by have := h.lo; omega) h.hi
  have h3 := B_lt h.c h.lo h.hi
  unfold fr nx; omega
theorem tp_bd {x : Su} (h : okC x = true) : 0 ≤ tp x ∧ tp x ≤ 119988 := by
  have := top_bd h
  unfold tp; omega
theorem tp_of {x : Su} (h : okC x = true) {k : Int} (h0 : 0 ≤ k) : (k ≤ tp x → bV x.st x.an x.ev k = B x.st x.an x.ev k ∧ bE x.st x.an x.ev k = 0) ∧ (¬ k ≤ tp x → bE x.st x.an x.ev k = 7 ∧ bV x.st x.an x.ev k = 0) := by
  have hb : bOk x.st x.an x.ev k = true := by unfold bOk; simp; exact ⟨h, h0⟩
  unfold tp
  exact ⟨fun q => by simp [bV, bE, hb, q], fun q => by simp [bV, bE, hb]; omega⟩
end Sb

namespace Go.Proofs.YtibkbimhedoafaaDoor.psub
open Go.RowKit Go.Proofs.YtibkbimhedoafaaDoor.base Go.Shelf Go.Proofs.YtibkbimhedoafaaDoor.rl Sb
open Go.Proofs.YtibkbimhedoafaaDoor.civ (Tab)

theorem min2_int (k k' : IntKind) (x y : Int) : Builtin.min2 (.int k x) (.int k' y) = pure (.int k (if y < x then y else x)) := by simp only [Builtin.min2]
theorem min_two (ats : Array TypeId) (ty : TypeId) (a b : Value) : Builtin.min_ ats ty #[a, b] = (Builtin.min2 a b >>= fun s => pure s) := by simp only [Builtin.min_, List.foldlM_cons, List.foldlM_nil]
attribute [local go_sem] Oper.semAt_some min2_int min_two

/-- A subscription, as cells. -/
def sc (x : Su) : Array Value := #[.int .u64 x.id, .int .u64 x.cu, .int .u64 x.pl, .int .i64 x.st, .int .i64 x.an, .int .i64 x.ev, .int .i64 x.pr, .int .i64 x.bi, .int .i64 x.si, .int .i64 x.en]
def SubAt (W : World) (b : Nat) (x : Su) : Prop := W.heap[b]? = some (.cells (sc x) 26 (0, 0))
theorem SubAt.cells {W : World} {b : Nat} {x : Su} (h : SubAt W b x) :
    W.cell? ⟨b, 3, none⟩ = some (.int .i64 x.st) ∧ W.cell? ⟨b, 4, none⟩ = some (.int .i64 x.an) ∧ W.cell? ⟨b, 5, none⟩ = some (.int .i64 x.ev) ∧ W.cell? ⟨b, 6, none⟩ = some (.int .i64 x.pr) ∧ W.cell? ⟨b, 9, none⟩ = some (.int .i64 x.en) := by
  have h' : W.heap[b]? = some (.cells (sc x) 26 (0, 0)) := h
  refine ⟨?_, ?_, ?_, ?_, ?_⟩ <;> simp [World.cell?, h', sc]
theorem SubAt.lt {W : World} {b : Nat} {x : Su} (h : SubAt W b x) : b < W.heap.size := (Array.getElem?_eq_some_iff.1 h).1
/-- A period, as a value. -/
noncomputable def pv (x : Su) (i : Int) : Value := .agg #[.int .i64 i, .int .i64 (fr x i), .int .i64 (nx x i), .int .i64 (ee x i), .int .i64 (wh x i), .int .i64 x.pr]
noncomputable abbrev enc1 (x : Su) (i : Int) : Array Value := #[pv x i]
/-- What a round keeps: where the subscription and the index lie, and the table. -/
structure Kt (Bs Bk : Nat) (W W' : World) : Prop where
  size : W.heap.size ≤ W'.heap.size
  bs : W'.heap[Bs]? = W.heap[Bs]?
  bk : W'.heap[Bk]? = W.heap[Bk]?
  bt : W'.heap[0]? = W.heap[0]?
theorem Kt.refl (Bs Bk : Nat) (W : World) : Kt Bs Bk W W := ⟨Nat.le_refl _, rfl, rfl, rfl⟩
theorem Kt.trans {Bs Bk : Nat} {A B C : World} (h : Kt Bs Bk A B) (k : Kt Bs Bk B C) : Kt Bs Bk A C := ⟨Nat.le_trans h.size k.size, k.bs.trans h.bs, k.bk.trans h.bk, k.bt.trans h.bt⟩
theorem Kt.ct {Bs Bk : Nat} {A B : World} (h : Kt Bs Bk A B) (T : Tab A) : Tab B := fun i hi => (World.cell?_of_block h.bt).trans (T i hi)
theorem Kt.put {Bs Bk B : Nat} (W : World) (l : Nat) (o : Obj) (hl : B ≤ l) (h1 : Bs < B) (h2 : Bk < B) (h3 : 0 < B) : Kt Bs Bk W (W.putObj l o) :=
  ⟨by simp, World.putObj_heap_other (by omega), World.putObj_heap_other (by omega), World.putObj_heap_other (by omega)⟩
theorem Kt.below {Bs Bk m : Nat} {A B : World} (h : Below m A B) (h1 : Bs < m) (h2 : Bk < m) (h3 : 0 < m) : Kt Bs Bk A B := ⟨h.size, h.block _ h1, h.block _ h2, h.block _ h3⟩
theorem tab_set {W : World} (h : Tab W) {B : Nat} (hB : B ≠ 0) (v : Value) : Tab (W.setCell ⟨B, 0, none⟩ v) := fun i hi =>
  (World.cell?_of_block (Below.heap_setCell W ⟨B, 0, none⟩ v 0 (fun e => hB e.symm))).trans (h i hi)
theorem tab_lt {w : World} (h : Tab w) : 0 < w.heap.size := World.block_lt_of_cell? w ⟨0, 0, none⟩ (h 0 (by omega))
theorem grown_of {w w' : World} (h : Below w.heap.size w w') : w.grownBy w' none := ⟨h.os, h.tape, h.output, h.size, fun k hk _ => h.block k hk⟩
theorem bound_t (x : Su) (i : Int) (w : World) (T : Tab w) (h : okC x = true) (h0 : 0 ≤ i) (h1 : i ≤ tp x) : Calls Tryd.prog 36 #[.agg #[.int .i64 x.st, .int .i64 x.an, .int .i64 x.ev], .int .i64 i] w fun e w' => e = .returned (.tuple #[.int .i64 (fr x i), .int .i64 0]) ∧ Below w.heap.size w w' :=
  (anch.bound_any x.st x.an x.ev i w T).mono fun _ _ ⟨a, b⟩ => ⟨a.trans (ret_two ((tp_of h h0).1 h1).1 ((tp_of h h0).1 h1).2), b⟩
theorem bound_f (x : Su) (i : Int) (w : World) (T : Tab w) (h : okC x = true) (h0 : 0 ≤ i) (h1 : ¬ i ≤ tp x) : Calls Tryd.prog 36 #[.agg #[.int .i64 x.st, .int .i64 x.an, .int .i64 x.ev], .int .i64 i] w fun e w' => e = .returned (.tuple #[.int .i64 0, .int .i64 7]) ∧ Below w.heap.size w w' :=
  (anch.bound_any x.st x.an x.ev i w T).mono fun _ _ ⟨a, b⟩ => ⟨a.trans (ret_two ((tp_of h h0).2 h1).2 ((tp_of h h0).2 h1).1), b⟩


set_option maxRecDepth 100000 in
set_option maxHeartbeats 4000000 in
theorem periods_in (l Bs Bk : Nat) (x : Su) (k0 : Int) (n : Nat) (hc : okC x = true) (hk0 : 0 ≤ k0) (hn : k0 + n = tp x) (J Jx : List Int → World → Prop)
    (hY : ∀ pre i W, J pre W → pre.length < n → YieldAt Fence.wide 1 Tryd.prog l (enc1 x i) W fun e W' =>
      (e = .returned (.bool true) ∧ J (pre ++ [i]) W' ∧ Kt Bs Bk W W') ∨ (e = .returned (.bool false) ∧ Jx (pre ++ [i]) W'))
    (W : World) (hJ : Bears [Bk] J) (hsk : Bs ≠ Bk) (hkt : Bk ≠ 0) (T : Tab W)
    (cs : SubAt W Bs x) (ck : Boxed W Bk 3 (.int .i64 k0)) (h0 : J [] W) :
    CallsIn Fence.wide 2 Tryd.prog 48 #[.func (.yield l) #[] #[], .pointer (some ⟨Bs, 0, none⟩), .pointer (some ⟨Bk, 0, none⟩)] W fun e W' => (∃ v, e = .returned v) ∧
      ((∃ ys, ys = ix k0 n ∧ J ys W') ∨ (∃ pre, (∃ m, m < n ∧ pre = ix k0 (m + 1)) ∧ Jx pre W')) := by
  refine callsIn_of_wp Tryd.func48 rfl trivial ?_ rfl
  simp only [Tryd.ntmps48, List.size_toArray, List.length_cons, List.length_nil, Nat.reduceAdd, Nat.reduceSub, Array.replicate_succ, Array.replicate_zero, List.push_toArray, List.append_toArray, List.nil_append, List.cons_append]
  have HY := Lib.hid hY
  have HJ := Lib.hid hJ
  have HT := Lib.hid T
  have HC := Lib.hid hc
  have HN := Lib.hid hn
  have tb := tp_bd hc
  have HCS := Lib.hid cs
  have HCK := Lib.hid ck
  obtain ⟨c3, c4, c5, _, _⟩ := cs.cells
  have k1 := ck.cell
  have b0 := bound_t x k0 W T hc hk0 (by omega)
  have HB0 := Lib.hid b0
  clear hY hJ T hc hn b0 cs ck
  gi_wp2_with fail
  refine ⟨trivial, (callsIn_wide.2 HB0.out).mono ?_⟩
  rintro e W1 ⟨rfl, B1⟩
  have J1 := HJ.out _ _ _ none h0 (grown_of B1) (fun r e => by cases e)
  have s1 : SubAt W1 Bs x := (B1.block _ HCS.out.lt).trans HCS.out
  have bk1 : Boxed W1 Bk 3 (.int .i64 k0) := (B1.block _ HCK.out.lt).trans HCK.out
  have t1 : Tab W1 := fun i hi => (B1.cell (p := ⟨0, i, none⟩) (tab_lt HT.out)).trans (HT.out i hi)
  have HS := Lib.hid (And.intro J1 (And.intro s1 (And.intro bk1 t1)))
  clear J1 s1 bk1 t1 c3 c4 c5 k1 B1 h0
  gi_wp2
  gi_loopw [4] (fun f wr => ∃ j : Nat, f = .int .i64 (fr x (k0 + j)) ∧ j ≤ n ∧ J (ix k0 j) wr ∧ SubAt wr Bs x ∧ Boxed wr Bk 3 (.int .i64 (k0 + j)) ∧ Tab wr) (fun f _ => (3652060 - intOf f).toNat)
  case atStart =>
    refine ⟨0, by simp, Nat.zero_le _, by rw [ix_zero]; exact HS.out.1, HS.out.2.1, by simpa using HS.out.2.2.1, HS.out.2.2.2⟩
  case round =>
    obtain ⟨j, rfl, hj, hJs, hs, hk, hT⟩ := hrel
    obtain ⟨i, hi⟩ : ∃ i, k0 + (j : Int) = i := ⟨_, rfl⟩
    rw [hi] at hk ⊢
    have HI := Lib.hid hi
    have i0 : 0 ≤ i := by omega
    have i1 : i ≤ tp x := by have := HN.out; omega
    have i2 : i ≤ 119988 := by omega
    obtain ⟨c3, c4, c5, c6, c9⟩ := hs.cells
    have ck := hk.cell
    have HSr := Lib.hid (And.intro hJs (And.intro hs (And.intro hk hT)))
    clear hi hJs hs hk hT
    by_cases hlt : j < n
    · have hin : In x i := ⟨HC.out, i0, by have := HN.out; have := HI.out; omega⟩
      have hb := hin.bd
      have b1 := bound_t x (i + 1) wr HSr.out.2.2.2 HC.out (by omega) hin.hi
      have e1 : fr x (i + 1) = nx x i := rfl
      rw [e1] at b1
      have HB1 := Lib.hid b1
      obtain ⟨nn, hnn⟩ : ∃ nn, nx x i = nn := ⟨_, rfl⟩
      obtain ⟨ff, hff⟩ : ∃ ff, fr x i = ff := ⟨_, rfl⟩
      have HNX := Lib.hid hnn
      have HFR := Lib.hid hff
      rw [hnn] at HB1 hb
      rw [hff] at hb ⊢
      obtain ⟨hb1, hb2, hb3⟩ := hb
      have HLT := Lib.hid hlt
      have hM := Cv.ofD_spec (d := nn) (by omega) hb3
      obtain ⟨M, hMM⟩ : ∃ M, Cv.ofD nn = M := ⟨_, rfl⟩
      have HMM := Lib.hid hMM
      rw [hMM] at hM
      obtain ⟨hm1, hm2, _⟩ := hM
      have hev := (An.ok_t HC.out).2.2
      obtain ⟨hev1, hev2⟩ := hev
      have hF := fst0_bd x nn
      obtain ⟨FF, hFF⟩ : ∃ FF, fst0 x nn = FF := ⟨_, rfl⟩
      rw [hFF] at hF
      obtain ⟨hF1, hF2⟩ := hF
      have HFF := Lib.hid hFF
      clear b1 e1 hnn hff hlt hMM hin hFF
      gi_wp2_with fail
      refine ⟨trivial, (callsIn_wide.2 HB1.out).mono ?_⟩
      rintro e2 w2 ⟨rfl, B2⟩
      have J2 := HJ.out _ _ _ none HSr.out.1 (grown_of B2) (fun r e => by cases e)
      have s2 : SubAt w2 Bs x := (B2.block _ HSr.out.2.1.lt).trans HSr.out.2.1
      have bk2 : Boxed w2 Bk 3 (.int .i64 i) := (B2.block _ HSr.out.2.2.1.lt).trans HSr.out.2.2.1
      have t2 : Tab w2 := fun i hi => (B2.cell (p := ⟨0, i, none⟩) (tab_lt HSr.out.2.2.2)).trans (HSr.out.2.2.2 i hi)
      have HOF := Lib.hid (civ.of_yes nn w2 t2 (by omega) hb3)
      rw [HMM.out] at HOF
      have hAT := anch.at_any (M - x.ev) x.an w2 t2
      clear c3 c4 c5 c6 c9 ck
      obtain ⟨c3, c4, c5, c6, c9⟩ := s2.cells
      have ck := bk2.cell
      have HS2 := Lib.hid (And.intro J2 (And.intro s2 (And.intro bk2 t2)))
      clear J2 s2 bk2 t2 B2
      have hq : fst0 x nn = if An.okA (M - x.ev) x.an = true then An.at_ (M - x.ev) x.an else 1 := by unfold fst0; rw [HMM.out]
      rw [HFF.out] at hq
      have hpv : pv x i = .agg #[.int .i64 i, .int .i64 ff, .int .i64 nn, .int .i64 (ee x i), .int .i64 (nn - FF), .int .i64 x.pr] := by
        unfold pv wh; rw [HFR.out, HNX.out, HFF.out]
      cases hok : An.okA (M - x.ev) x.an with
      | true =>
        have a1 : An.atV (M - x.ev) x.an = FF := by simp [An.atV, hok, hq]
        have a2 : An.atE (M - x.ev) x.an = 0 := by simp [An.atE, hok]
        rw [a1, a2] at hAT
        have HAT := Lib.hid hAT
        clear a1 a2 hAT hok hq
        by_cases hen : x.en = 0
        · have he0 : ee x i = nn := by unfold ee; rw [if_pos hen, HNX.out]
          rw [he0] at hpv
          have HPV := Lib.hid hpv
          have HE := Lib.hid hen
          clear he0 hpv hen
          rw [HE.out] at c9
          gi_wp2_with fail
          refine ⟨trivial, (callsIn_wide.2 HOF.out).mono ?_⟩
          rintro e' w' ⟨rfl, rfl⟩
          gi_wp2_with fail
          refine ⟨trivial, (callsIn_wide.2 HAT.out).mono ?_⟩
          rintro e3 w3 ⟨rfl, B3⟩
          have J3 := HJ.out _ _ _ none HS2.out.1 (grown_of B3) (fun r e => by cases e)
          have s3 : SubAt w3 Bs x := (B3.block _ HS2.out.2.1.lt).trans HS2.out.2.1
          have bk3 : Boxed w3 Bk 3 (.int .i64 i) := (B3.block _ HS2.out.2.2.1.lt).trans HS2.out.2.2.1
          have t3 : Tab w3 := fun i hi => (B3.cell (p := ⟨0, i, none⟩) (tab_lt HS2.out.2.2.2)).trans (HS2.out.2.2.2 i hi)
          obtain ⟨_, _, _, d6, d9⟩ := s3.cells
          have dk := bk3.cell
          obtain ⟨fn, tmps, assign, body, hy, hR⟩ := HY.out _ i w3 J3 (by rw [ix_len]; exact HLT.out)
          dsimp only [enc1] at hy
          rw [HPV.out] at hy
          have HS3 := Lib.hid (And.intro s3 (And.intro bk3 t3))
          clear J3 s3 bk3 t3 B3 c3 c4 c5 c6 c9 ck
          have he := HE.out
          gi_wp2
          refine hR.mono ?_
          clear he
          rintro e4 W4 (⟨rfl, J4, q4⟩ | ⟨rfl, Jx4⟩)
          · have s4 : SubAt W4 Bs x := q4.bs.trans HS3.out.1
            have bk4 : Boxed W4 Bk 3 (.int .i64 i) := q4.bk.trans HS3.out.2.1
            have t4 := q4.ct HS3.out.2.2
            have g1 := bk4.cell
            have g2 := bk4.frozen
            have HS4 := Lib.hid (And.intro J4 (And.intro s4 (And.intro bk4 t4)))
            clear J4 s4 bk4 t4 q4 d6 d9 dk
            gi_wp2
            go_roundw
            case rel =>
              refine ⟨j + 1, ?_, HLT.out, ?_, (Below.heap_setCell _ _ _ _ hsk).trans HS4.out.2.1, ?_, tab_set HS4.out.2.2.2 hkt _⟩
              · rw [← HNX.out, ← HI.out]; unfold nx fr; congr 2; omega
              · rw [ix_succ, HI.out]
                exact HJ.out _ _ _ _ HS4.out.1 (grownBy_setCell' _ _ _) (by simp)
              · rw [show k0 + ((j + 1 : Nat) : Int) = i + 1 by have := HI.out; omega]
                exact HS4.out.2.2.1.set _
            case measure => simp [intOf]; omega
          · gi_wp2
            refine bodyPost_ret (results_none rfl _ _ _) rfl ?_
            exact ⟨⟨_, rfl⟩, .inr ⟨_, ⟨j, HLT.out, by rw [ix_succ, HI.out]⟩, Jx4⟩⟩
        · have he0 : (if x.en < nn then x.en else nn) = ee x i := by unfold ee; rw [if_neg hen, HNX.out]
          obtain ⟨EE, hEE⟩ : ∃ EE, ee x i = EE := ⟨_, rfl⟩
          rw [hEE] at hpv he0
          have HPV := Lib.hid hpv
          have HE := Lib.hid he0
          clear he0 hpv hEE
          gi_wp2_with fail
          refine ⟨trivial, (callsIn_wide.2 HOF.out).mono ?_⟩
          rintro e' w' ⟨rfl, rfl⟩
          gi_wp2_with fail
          refine ⟨trivial, (callsIn_wide.2 HAT.out).mono ?_⟩
          rintro e3 w3 ⟨rfl, B3⟩
          have J3 := HJ.out _ _ _ none HS2.out.1 (grown_of B3) (fun r e => by cases e)
          have s3 : SubAt w3 Bs x := (B3.block _ HS2.out.2.1.lt).trans HS2.out.2.1
          have bk3 : Boxed w3 Bk 3 (.int .i64 i) := (B3.block _ HS2.out.2.2.1.lt).trans HS2.out.2.2.1
          have t3 : Tab w3 := fun i hi => (B3.cell (p := ⟨0, i, none⟩) (tab_lt HS2.out.2.2.2)).trans (HS2.out.2.2.2 i hi)
          obtain ⟨_, _, _, d6, d9⟩ := s3.cells
          have dk := bk3.cell
          obtain ⟨fn, tmps, assign, body, hy, hR⟩ := HY.out _ i w3 J3 (by rw [ix_len]; exact HLT.out)
          dsimp only [enc1] at hy
          rw [HPV.out] at hy
          have HS3 := Lib.hid (And.intro s3 (And.intro bk3 t3))
          clear J3 s3 bk3 t3 B3 c3 c4 c5 c6 c9 ck
          have he := HE.out
          gi_wp2
          refine hR.mono ?_
          clear he
          rintro e4 W4 (⟨rfl, J4, q4⟩ | ⟨rfl, Jx4⟩)
          · have s4 : SubAt W4 Bs x := q4.bs.trans HS3.out.1
            have bk4 : Boxed W4 Bk 3 (.int .i64 i) := q4.bk.trans HS3.out.2.1
            have t4 := q4.ct HS3.out.2.2
            have g1 := bk4.cell
            have g2 := bk4.frozen
            have HS4 := Lib.hid (And.intro J4 (And.intro s4 (And.intro bk4 t4)))
            clear J4 s4 bk4 t4 q4 d6 d9 dk
            gi_wp2
            go_roundw
            case rel =>
              refine ⟨j + 1, ?_, HLT.out, ?_, (Below.heap_setCell _ _ _ _ hsk).trans HS4.out.2.1, ?_, tab_set HS4.out.2.2.2 hkt _⟩
              · rw [← HNX.out, ← HI.out]; unfold nx fr; congr 2; omega
              · rw [ix_succ, HI.out]
                exact HJ.out _ _ _ _ HS4.out.1 (grownBy_setCell' _ _ _) (by simp)
              · rw [show k0 + ((j + 1 : Nat) : Int) = i + 1 by have := HI.out; omega]
                exact HS4.out.2.2.1.set _
            case measure => simp [intOf]; omega
          · gi_wp2
            refine bodyPost_ret (results_none rfl _ _ _) rfl ?_
            exact ⟨⟨_, rfl⟩, .inr ⟨_, ⟨j, HLT.out, by rw [ix_succ, HI.out]⟩, Jx4⟩⟩
      | false =>
        have a1 : An.atV (M - x.ev) x.an = 0 := by simp [An.atV, hok]
        have a2 : An.atE (M - x.ev) x.an = 2 := by simp [An.atE, hok]
        obtain rfl : FF = 1 := by simpa [hok] using hq
        rw [a1, a2] at hAT
        have HAT := Lib.hid hAT
        clear a1 a2 hAT hok hq
        by_cases hen : x.en = 0
        · have he0 : ee x i = nn := by unfold ee; rw [if_pos hen, HNX.out]
          rw [he0] at hpv
          have HPV := Lib.hid hpv
          have HE := Lib.hid hen
          clear he0 hpv hen
          rw [HE.out] at c9
          gi_wp2_with fail
          refine ⟨trivial, (callsIn_wide.2 HOF.out).mono ?_⟩
          rintro e' w' ⟨rfl, rfl⟩
          gi_wp2_with fail
          refine ⟨trivial, (callsIn_wide.2 HAT.out).mono ?_⟩
          rintro e3 w3 ⟨rfl, B3⟩
          have J3 := HJ.out _ _ _ none HS2.out.1 (grown_of B3) (fun r e => by cases e)
          have s3 : SubAt w3 Bs x := (B3.block _ HS2.out.2.1.lt).trans HS2.out.2.1
          have bk3 : Boxed w3 Bk 3 (.int .i64 i) := (B3.block _ HS2.out.2.2.1.lt).trans HS2.out.2.2.1
          have t3 : Tab w3 := fun i hi => (B3.cell (p := ⟨0, i, none⟩) (tab_lt HS2.out.2.2.2)).trans (HS2.out.2.2.2 i hi)
          obtain ⟨_, _, _, d6, d9⟩ := s3.cells
          have dk := bk3.cell
          obtain ⟨fn, tmps, assign, body, hy, hR⟩ := HY.out _ i w3 J3 (by rw [ix_len]; exact HLT.out)
          dsimp only [enc1] at hy
          rw [HPV.out] at hy
          have HS3 := Lib.hid (And.intro s3 (And.intro bk3 t3))
          clear J3 s3 bk3 t3 B3 c3 c4 c5 c6 c9 ck
          have he := HE.out
          gi_wp2
          refine hR.mono ?_
          clear he
          rintro e4 W4 (⟨rfl, J4, q4⟩ | ⟨rfl, Jx4⟩)
          · have s4 : SubAt W4 Bs x := q4.bs.trans HS3.out.1
            have bk4 : Boxed W4 Bk 3 (.int .i64 i) := q4.bk.trans HS3.out.2.1
            have t4 := q4.ct HS3.out.2.2
            have g1 := bk4.cell
            have g2 := bk4.frozen
            have HS4 := Lib.hid (And.intro J4 (And.intro s4 (And.intro bk4 t4)))
            clear J4 s4 bk4 t4 q4 d6 d9 dk
            gi_wp2
            go_roundw
            case rel =>
              refine ⟨j + 1, ?_, HLT.out, ?_, (Below.heap_setCell _ _ _ _ hsk).trans HS4.out.2.1, ?_, tab_set HS4.out.2.2.2 hkt _⟩
              · rw [← HNX.out, ← HI.out]; unfold nx fr; congr 2; omega
              · rw [ix_succ, HI.out]
                exact HJ.out _ _ _ _ HS4.out.1 (grownBy_setCell' _ _ _) (by simp)
              · rw [show k0 + ((j + 1 : Nat) : Int) = i + 1 by have := HI.out; omega]
                exact HS4.out.2.2.1.set _
            case measure => simp [intOf]; omega
          · gi_wp2
            refine bodyPost_ret (results_none rfl _ _ _) rfl ?_
            exact ⟨⟨_, rfl⟩, .inr ⟨_, ⟨j, HLT.out, by rw [ix_succ, HI.out]⟩, Jx4⟩⟩
        · have he0 : (if x.en < nn then x.en else nn) = ee x i := by unfold ee; rw [if_neg hen, HNX.out]
          obtain ⟨EE, hEE⟩ : ∃ EE, ee x i = EE := ⟨_, rfl⟩
          rw [hEE] at hpv he0
          have HPV := Lib.hid hpv
          have HE := Lib.hid he0
          clear he0 hpv hEE
          gi_wp2_with fail
          refine ⟨trivial, (callsIn_wide.2 HOF.out).mono ?_⟩
          rintro e' w' ⟨rfl, rfl⟩
          gi_wp2_with fail
          refine ⟨trivial, (callsIn_wide.2 HAT.out).mono ?_⟩
          rintro e3 w3 ⟨rfl, B3⟩
          have J3 := HJ.out _ _ _ none HS2.out.1 (grown_of B3) (fun r e => by cases e)
          have s3 : SubAt w3 Bs x := (B3.block _ HS2.out.2.1.lt).trans HS2.out.2.1
          have bk3 : Boxed w3 Bk 3 (.int .i64 i) := (B3.block _ HS2.out.2.2.1.lt).trans HS2.out.2.2.1
          have t3 : Tab w3 := fun i hi => (B3.cell (p := ⟨0, i, none⟩) (tab_lt HS2.out.2.2.2)).trans (HS2.out.2.2.2 i hi)
          obtain ⟨_, _, _, d6, d9⟩ := s3.cells
          have dk := bk3.cell
          obtain ⟨fn, tmps, assign, body, hy, hR⟩ := HY.out _ i w3 J3 (by rw [ix_len]; exact HLT.out)
          dsimp only [enc1] at hy
          rw [HPV.out] at hy
          have HS3 := Lib.hid (And.intro s3 (And.intro bk3 t3))
          clear J3 s3 bk3 t3 B3 c3 c4 c5 c6 c9 ck
          have he := HE.out
          gi_wp2
          refine hR.mono ?_
          clear he
          rintro e4 W4 (⟨rfl, J4, q4⟩ | ⟨rfl, Jx4⟩)
          · have s4 : SubAt W4 Bs x := q4.bs.trans HS3.out.1
            have bk4 : Boxed W4 Bk 3 (.int .i64 i) := q4.bk.trans HS3.out.2.1
            have t4 := q4.ct HS3.out.2.2
            have g1 := bk4.cell
            have g2 := bk4.frozen
            have HS4 := Lib.hid (And.intro J4 (And.intro s4 (And.intro bk4 t4)))
            clear J4 s4 bk4 t4 q4 d6 d9 dk
            gi_wp2
            go_roundw
            case rel =>
              refine ⟨j + 1, ?_, HLT.out, ?_, (Below.heap_setCell _ _ _ _ hsk).trans HS4.out.2.1, ?_, tab_set HS4.out.2.2.2 hkt _⟩
              · rw [← HNX.out, ← HI.out]; unfold nx fr; congr 2; omega
              · rw [ix_succ, HI.out]
                exact HJ.out _ _ _ _ HS4.out.1 (grownBy_setCell' _ _ _) (by simp)
              · rw [show k0 + ((j + 1 : Nat) : Int) = i + 1 by have := HI.out; omega]
                exact HS4.out.2.2.1.set _
            case measure => simp [intOf]; omega
          · gi_wp2
            refine bodyPost_ret (results_none rfl _ _ _) rfl ?_
            exact ⟨⟨_, rfl⟩, .inr ⟨_, ⟨j, HLT.out, by rw [ix_succ, HI.out]⟩, Jx4⟩⟩
    · have b1 := bound_f x (i + 1) wr HSr.out.2.2.2 HC.out (by omega) (by have := HN.out; have := HI.out; omega)
      have HB1 := Lib.hid b1
      have hjn : j = n := by omega
      have HJN := Lib.hid hjn
      clear b1 hjn
      gi_wp2_with fail
      refine ⟨trivial, (callsIn_wide.2 HB1.out).mono ?_⟩
      rintro e2 w2 ⟨rfl, B2⟩
      have J2 := HJ.out _ _ _ none HSr.out.1 (grown_of B2) (fun r e => by cases e)
      clear B2
      gi_wp2
      refine bodyPost_ret (results_none rfl _ _ _) rfl ?_
      exact ⟨⟨_, rfl⟩, .inl ⟨_, by rw [HJN.out], J2⟩⟩
end Go.Proofs.YtibkbimhedoafaaDoor.psub

