/- A loop over an iterator that keeps state of its own in cells: the blocks of a list are the iterator's to turn between two rounds. No conditions. -/
import Derived.RangeFuncNested
import Derived.RangeFuncBound
import Derived.RangeFuncCalls
import Derived.RangeFuncLeaves
namespace Go.Proofs.YtbghkjoejbfnbaaDoor.rl
open Go.RowKit

variable {F : Fence} {n : Nat} {P : Program}

/-- J outlives the turn of a block of L, and new blocks. -/
def Bears {β : Type} (L : List Nat) (J : β → World → Prop) : Prop := ∀ s A B row, J s A → A.grownBy B row → (∀ r, row = some r → r ∈ L) → J s B
theorem Bears.and {β : Type} {L : List Nat} {I J : β → World → Prop} (h : Bears L I) (k : Bears L J) : Bears L (fun s W => I s W ∧ J s W) := fun s A B row hs hg hr => ⟨h s A B row hs.1 hg hr, k s A B row hs.2 hg hr⟩
theorem Bears.pure {β : Type} (L : List Nat) (p : β → Prop) : Bears L (fun s (_ : World) => p s) := fun _ _ _ _ hs _ _ => hs
/-- A block that the list does not name lies as it lay. -/
theorem Bears.block {β : Type} {L : List Nat} {b : Nat} (hb : b ∉ L) (f : β → Obj) : Bears L (fun s W => W.heap[b]? = some (f s)) := fun _ _ _ _ hs hg hr =>
  (hg.block b (Array.getElem?_eq_some_iff.1 hs).1 (fun e => hb (hr b e.symm))).trans hs
theorem Bears.below {β : Type} {L : List Nat} {m : Nat} {w : World} (hL : ∀ r ∈ L, m ≤ r) (hm : m ≤ w.heap.size) : Bears L (fun (_ : β) W => Below m w W) := fun _ _ _ _ hs hg hr =>
  hs.grown hg (Nat.le_trans hm hs.size) (fun k e => hL k (hr k e))

/-- The contract of such an iterator. -/
def SeqStopsL {α : Type} (F : Fence) (n : Nat) (P : Program) (g : Nat) (lb : Array Value) (encs : α → Array Value) (Kp : World → World → Prop) (S Sp : List α → Prop) (N : Nat) (L : List Nat) (w : World) : Prop :=
  ∀ (l : Nat) (J Jx : List α → World → Prop) (W : World), Below w.heap.size w W → Bears L J → Bears L Jx →
    (∀ pre x W1, J pre W1 → pre.length < N → YieldAt F (n - 1) P l (encs x) W1 fun e W' =>
      (e = .returned (.bool true) ∧ J (pre ++ [x]) W' ∧ Kp W1 W') ∨ (e = .returned (.bool false) ∧ Jx (pre ++ [x]) W')) →
    J [] W →
    CallsIn F n P g (#[.func (.yield l) #[] #[]] ++ lb) W fun e W' => (∃ v, e = .returned v) ∧ ((∃ xs, S xs ∧ J xs W') ∨ (∃ pre, Sp pre ∧ Jx pre W'))

/-- The caller's law. -/
theorem wpIn_range {α : Type} {g : Operand} {ps : Array Tmp} {assign body : Code} {Q : Exit → Act → World → Prop} {a : Act} {w : World}
    (hro : F.round = none) (h1 : 1 ≤ n) {gf : Nat} {lb : Array Value} (hg : a.eval g = .func (.func gf) #[] lb) (hFg : F.fn gf) (eg : ∀ args w, (callFunc gf args).run P w = .ok (.enter gf args) w)
    {encs : α → Array Value} {Kp : World → World → Prop} {S Sp : List α → Prop} {N : Nat} {L : List Nat} {w0 : World} (hseq : SeqStopsL F (n - 1) P gf lb encs Kp S Sp N L w0) (hL : ∀ r ∈ L, r < w.heap.size)
    (hKt : ∀ {A B C : World}, Kp A B → Kp B C → Kp A C) (hKb : ∀ (W : World) (l : Nat) (o o' : Obj), w.heap.size ≤ l → W.heap[l]? = some o → o.isCells = false → Kp W (W.putObj l o')) (hb0 : Below w0.heap.size w0 w) (hps : ∀ x, (encs x).size = ps.size)
    (I : List α → World → Prop) (Ix : Code → List α → World → Prop) (hI : OwnFrom w.heap.size I) (hIx : ∀ c, OwnFrom w.heap.size (Ix c)) (bI : Bears L I) (bIx : ∀ c, Bears L (Ix c)) (h0 : I [] w) (a₁ : α → Act)
    (hassign : ∀ (l : Nat) (x : α) (W : World) (K : Act → World → Prop), K (a₁ x) W →
      assign.wpIn (F.inRound l) (n - 1 - 1) P (Exit.then K (fun _ _ _ => False)) { tmps := (ps.zip (encs x)).foldl (fun t (p, v) => t.setIfInBounds p v) a.tmps, defers := [] } W)
    (hbody : ∀ (l : Nat) (pre : List α) (x : α) (W : World), I pre W → pre.length < N → body.wpIn (F.inRound l) (n - 1 - 1) P (ownPostG w.heap.size Kp I Ix (pre ++ [x]) W) (a₁ x) W)
    (hdone : ∀ (D : Nat) (xs : List α) (W : World), w.heap.size ≤ D → S xs → I xs W → W.heap[D]? = some (.deferred (some [])) → Q .normal { a with defers := { target := .collected D, args := #[] } :: a.defers } W)
    (hstop : ∀ (D : Nat) (c : Code) (pre : List α) (W : World), w.heap.size ≤ D → Sp pre → Ix c pre W → W.heap[D]? = some (.deferred (some [])) → c.wpIn F n P Q { a with defers := { target := .collected D, args := #[] } :: a.defers } W) :
    (Code.rangeFunc g ps assign body).wpIn F n P Q a w := by
  refine wpIn_rangeFunc fun fn hfn => ?_
  rw [hro]
  -- the loop's record, and the world in which the iterator is called
  obtain ⟨rec, hrec⟩ : ∃ rec : LoopState → Option Code → Loop, rec = fun st pe => { state := st, pending := pe, fn, tmps := a.tmps, params := ps, assign, body, defers := w.heap.size } := ⟨_, rfl⟩
  let m := w.heap.size
  have hm : w.heap.size = m := rfl
  let V := (w.alloc (.deferred (some []))).alloc (.loop (rec .ready none))
  have hV : V = (w.alloc (.deferred (some []))).alloc (.loop (rec .ready none)) := rfl
  have rV : V.heap[m + 1]? = some (.loop (rec .ready none)) := by
    have := World.alloc_heap_new (w.alloc (.deferred (some []))) (.loop (rec .ready none))
    rwa [World.size_alloc] at this
  have dV : V.heap[m]? = some (.deferred (some [])) := (Below.heap_alloc _ _ _ (by simp [m])).trans (World.alloc_heap_new w _)
  have iV : I [] V := hI.alloc _ (hI.alloc _ h0)
  have bV : Below w0.heap.size w0 V := hb0.trans ((((Below.refl _ w).alloc (Nat.le_refl _) _).alloc (by simp) _).mono hb0.size)
  have n0 : m ∉ L := fun h => absurd (hL _ h) (by omega)
  have n1 : m + 1 ∉ L := fun h => absurd (hL _ h) (by omega)
  refine ⟨m + 1, [{ target := .collected m, args := #[] }], V, { target := .fn (.func gf) lb, args := #[.func (.yield (m + 1)) #[] #[]] }, V, gf,
    #[.func (.yield (m + 1)) #[] #[]] ++ lb, V, by rw [hV, hrec]; exact run_enterLoop_outer _ _ _ _ _, ?_, ?_, by simp [invoke, go_sem, eg], fun _ => h1, ?_⟩
  · simp only [resolve, hg]
    simp [go_sem]
  · intro f' hf'
    simp [Target.leads] at hf'
    exact hf' ▸ hFg
  let J : List α → World → Prop := fun pre W => (I pre W ∧ W.heap[m + 1]? = some (.loop (rec .ready none))) ∧ W.heap[m]? = some (.deferred (some []))
  let Jx : List α → World → Prop := fun pre W => ∃ c, (Ix c pre W ∧ W.heap[m + 1]? = some (.loop (rec .done (some c)))) ∧ W.heap[m]? = some (.deferred (some []))
  have bJ : Bears L J := (bI.and (Bears.block n1 _)).and (Bears.block n0 _)
  have bJx : Bears L Jx := fun s A B row ⟨c, hc⟩ hg hr => ⟨c, (((bIx c).and (Bears.block n1 (fun _ => Obj.loop (rec .done (some c))))).and (Bears.block n0 (fun _ => Obj.deferred (some [])))) s A B row hc hg hr⟩
  refine (hseq (m + 1) J Jx V bV bJ bJx ?_ ⟨⟨iV, rV⟩, dV⟩).mono ?_
  · -- a round
    rintro pre x W ⟨⟨hi, hl⟩, hk⟩ hlen
    have hlt : m + 1 < W.heap.size := (Array.getElem?_eq_some_iff.1 hl).1
    have hy := run_yield (P := P) (args := encs x) hl (by rw [hrec]; exact hps x)
    rw [hrec] at hy
    refine ⟨fn, _, assign, body, hy, roundIn_of_wpIn hfn (hassign _ x W _ ⟨_, run_beginRound hl (by rw [hrec]), ?_⟩)⟩
    clear hy
    obtain ⟨U, hU⟩ : ∃ U, W.putObj (m + 1) (.loop { rec .ready none with state := .busy }) = U := ⟨_, rfl⟩
    have iU : I pre U := hU ▸ hI.putObj _ hi (by omega) hl rfl
    have kU : Kp W U := hU ▸ hKb _ _ _ _ (by omega) hl rfl
    have rU : U.heap[m + 1]? = some (.loop { rec .ready none with state := .busy }) := hU ▸ World.putObj_heap_same hlt
    have dU : U.heap[m]? = some (.deferred (some [])) := hU ▸ (World.putObj_heap_other (by omega)).trans hk
    rw [hU]
    refine wpIn_mono (hbody _ pre x U iU hlen) ?_
    -- what the end of a round does
    have fin : ∀ (j : Option Code) (X : World), KeepsFrom m U X → ∃ Y, (Instr.endRound (m + 1) j).run P X = .ok (.bool j.isNone) Y ∧ Y = X.putObj (m + 1) (.loop (rec (if j.isNone then .ready else .done) j)) ∧
        X.heap[m + 1]? = some (.loop { rec .ready none with state := .busy }) ∧ Y.heap[m + 1]? = some (.loop (rec (if j.isNone then .ready else .done) j)) ∧ Y.heap[m]? = some (.deferred (some [])) := by
      intro j X hX
      have r3 := hX.same _ _ (by omega) rU rfl
      have e := run_endRound (P := P) j r3
      rw [hrec] at e r3 ⊢
      exact ⟨_, e, rfl, r3, World.putObj_heap_same (Array.getElem?_eq_some_iff.1 r3).1, (World.putObj_heap_other (by omega)).trans (hX.same _ _ (Nat.le_refl _) dU rfl)⟩
    rintro e a3 X hp
    cases e with
    | normal =>
      obtain ⟨hX, hK, hi3⟩ := hp
      obtain ⟨Y, q1, rfl, q2, q3, q4⟩ := fin none X hX
      exact ⟨_, _, q1, .inl ⟨rfl, ⟨⟨hI.putObj _ hi3 (by omega) q2 rfl, q3⟩, q4⟩, hKt (hKt kU hK) (hKb _ _ _ _ (by omega) q2 rfl)⟩⟩
    | ret =>
      obtain ⟨hX, hi3⟩ := hp
      obtain ⟨Y, q1, rfl, q2, q3, q4⟩ := fin (some .ret) X hX
      exact ⟨_, _, q1, .inr ⟨rfl, .ret, ⟨(hIx _).putObj _ hi3 (by omega) q2 rfl, q3⟩, q4⟩⟩
    | exit id =>
      obtain ⟨hX, hi3⟩ := hp
      obtain ⟨Y, q1, rfl, q2, q3, q4⟩ := fin (some (.exit id)) X hX
      exact ⟨_, _, q1, .inr ⟨rfl, .exit id, ⟨(hIx _).putObj _ hi3 (by omega) q2 rfl, q3⟩, q4⟩⟩
    | goto t =>
      obtain ⟨hX, hi3⟩ := hp
      obtain ⟨Y, q1, rfl, q2, q3, q4⟩ := fin (some (.goto t)) X hX
      exact ⟨_, _, q1, .inr ⟨rfl, .goto t, ⟨(hIx _).putObj _ hi3 (by omega) q2 rfl, q3⟩, q4⟩⟩
    | panic ch => exact hp.elim
    | outgrown => exact hp.elim
  · -- behind the iterator
    rintro e W ⟨⟨v, rfl⟩, (⟨xs, hS, ⟨hi, hl⟩, hk⟩ | ⟨pre, hSp, c, ⟨hi, hl⟩, hk⟩)⟩
    · have q := run_endLoop (P := P) hl (by rw [hrec]; simp)
      rw [hrec] at q
      exact ⟨none, _, q, hdone _ xs _ (Nat.le_refl _) hS (hI.putObj _ hi (by omega) hl rfl) ((World.putObj_heap_other (by omega)).trans hk)⟩
    · have q := run_endLoop (P := P) hl (by rw [hrec]; simp)
      rw [hrec] at q
      exact ⟨some c, _, q, hstop _ c pre _ (Nat.le_refl _) hSp ((hIx c).putObj _ hi (by omega) hl rfl) ((World.putObj_heap_other (by omega)).trans hk)⟩
/-- The caller's law, where the loop's variable may be laid in memory. -/
theorem wpIn_rangeH {α : Type} {g : Operand} {ps : Array Tmp} {assign body : Code} {Q : Exit → Act → World → Prop} {a : Act} {w : World}
    (hro : F.round = none) (h1 : 1 ≤ n) {gf : Nat} {lb : Array Value} (hg : a.eval g = .func (.func gf) #[] lb) (hFg : F.fn gf) (eg : ∀ args w, (callFunc gf args).run P w = .ok (.enter gf args) w)
    {encs : α → Array Value} {Kp : World → World → Prop} {S Sp : List α → Prop} {N : Nat} {L : List Nat} {w0 : World} (hseq : SeqStopsL F (n - 1) P gf lb encs Kp S Sp N L w0) (hL : ∀ r ∈ L, r < w.heap.size)
    (hKt : ∀ {A B C : World}, Kp A B → Kp B C → Kp A C) (hKb : ∀ (W : World) (l : Nat) (o o' : Obj), w.heap.size ≤ l → W.heap[l]? = some o → o.isCells = false → Kp W (W.putObj l o')) (hb0 : Below w0.heap.size w0 w) (hps : ∀ x, (encs x).size = ps.size)
    (I : List α → World → Prop) (Ix : Code → List α → World → Prop) (hI : OwnFrom w.heap.size I) (hIx : ∀ c, OwnFrom w.heap.size (Ix c)) (bI : Bears L I) (bIx : ∀ c, Bears L (Ix c)) (h0 : I [] w) (Ax : α → Act → World → Prop) (hAx : ∀ x a', OwnFrom w.heap.size (fun (_ : Unit) W => Ax x a' W))
    (hassign : ∀ (l : Nat) (pre : List α) (x : α) (W : World) (K : Act → World → Prop), I pre W → (∀ a' W', KeepsFrom w.heap.size W W' → Kp W W' → I pre W' → Ax x a' W' → K a' W') →
      assign.wpIn (F.inRound l) (n - 1 - 1) P (Exit.then K (fun _ _ _ => False)) { tmps := (ps.zip (encs x)).foldl (fun t (p, v) => t.setIfInBounds p v) a.tmps, defers := [] } W)
    (hbody : ∀ (l : Nat) (pre : List α) (x : α) (a' : Act) (W : World), I pre W → Ax x a' W → pre.length < N → body.wpIn (F.inRound l) (n - 1 - 1) P (ownPostG w.heap.size Kp I Ix (pre ++ [x]) W) a' W)
    (hdone : ∀ (D : Nat) (xs : List α) (W : World), w.heap.size ≤ D → S xs → I xs W → W.heap[D]? = some (.deferred (some [])) → Q .normal { a with defers := { target := .collected D, args := #[] } :: a.defers } W)
    (hstop : ∀ (D : Nat) (c : Code) (pre : List α) (W : World), w.heap.size ≤ D → Sp pre → Ix c pre W → W.heap[D]? = some (.deferred (some [])) → c.wpIn F n P Q { a with defers := { target := .collected D, args := #[] } :: a.defers } W) :
    (Code.rangeFunc g ps assign body).wpIn F n P Q a w := by
  refine wpIn_rangeFunc fun fn hfn => ?_
  rw [hro]
  -- the loop's record, and the world in which the iterator is called
  obtain ⟨rec, hrec⟩ : ∃ rec : LoopState → Option Code → Loop, rec = fun st pe => { state := st, pending := pe, fn, tmps := a.tmps, params := ps, assign, body, defers := w.heap.size } := ⟨_, rfl⟩
  let m := w.heap.size
  have hm : w.heap.size = m := rfl
  let V := (w.alloc (.deferred (some []))).alloc (.loop (rec .ready none))
  have hV : V = (w.alloc (.deferred (some []))).alloc (.loop (rec .ready none)) := rfl
  have rV : V.heap[m + 1]? = some (.loop (rec .ready none)) := by
    have := World.alloc_heap_new (w.alloc (.deferred (some []))) (.loop (rec .ready none))
    rwa [World.size_alloc] at this
  have dV : V.heap[m]? = some (.deferred (some [])) := (Below.heap_alloc _ _ _ (by simp [m])).trans (World.alloc_heap_new w _)
  have iV : I [] V := hI.alloc _ (hI.alloc _ h0)
  have bV : Below w0.heap.size w0 V := hb0.trans ((((Below.refl _ w).alloc (Nat.le_refl _) _).alloc (by simp) _).mono hb0.size)
  have n0 : m ∉ L := fun h => absurd (hL _ h) (by omega)
  have n1 : m + 1 ∉ L := fun h => absurd (hL _ h) (by omega)
  refine ⟨m + 1, [{ target := .collected m, args := #[] }], V, { target := .fn (.func gf) lb, args := #[.func (.yield (m + 1)) #[] #[]] }, V, gf,
    #[.func (.yield (m + 1)) #[] #[]] ++ lb, V, by rw [hV, hrec]; exact run_enterLoop_outer _ _ _ _ _, ?_, ?_, by simp [invoke, go_sem, eg], fun _ => h1, ?_⟩
  · simp only [resolve, hg]
    simp [go_sem]
  · intro f' hf'
    simp [Target.leads] at hf'
    exact hf' ▸ hFg
  let J : List α → World → Prop := fun pre W => (I pre W ∧ W.heap[m + 1]? = some (.loop (rec .ready none))) ∧ W.heap[m]? = some (.deferred (some []))
  let Jx : List α → World → Prop := fun pre W => ∃ c, (Ix c pre W ∧ W.heap[m + 1]? = some (.loop (rec .done (some c)))) ∧ W.heap[m]? = some (.deferred (some []))
  have bJ : Bears L J := (bI.and (Bears.block n1 _)).and (Bears.block n0 _)
  have bJx : Bears L Jx := fun s A B row ⟨c, hc⟩ hg hr => ⟨c, (((bIx c).and (Bears.block n1 (fun _ => Obj.loop (rec .done (some c))))).and (Bears.block n0 (fun _ => Obj.deferred (some [])))) s A B row hc hg hr⟩
  refine (hseq (m + 1) J Jx V bV bJ bJx ?_ ⟨⟨iV, rV⟩, dV⟩).mono ?_
  · -- a round
    rintro pre x W0 ⟨⟨hi0, hl0⟩, hk0⟩ hlen
    have hy := run_yield (P := P) (args := encs x) hl0 (by rw [hrec]; exact hps x)
    rw [hrec] at hy
    refine ⟨fn, _, assign, body, hy, roundIn_of_wpIn hfn (hassign _ pre x W0 _ hi0 ?_)⟩
    clear hy
    intro a' W hkf hkp0 hi hax
    have hl := hkf.same _ _ (by omega) hl0 rfl
    have hk := hkf.same _ _ (Nat.le_refl _) hk0 rfl
    have hlt : m + 1 < W.heap.size := (Array.getElem?_eq_some_iff.1 hl).1
    refine ⟨_, run_beginRound hl (by rw [hrec]), ?_⟩
    obtain ⟨U, hU⟩ : ∃ U, W.putObj (m + 1) (.loop { rec .ready none with state := .busy }) = U := ⟨_, rfl⟩
    have iU : I pre U := hU ▸ hI.putObj _ hi (by omega) hl rfl
    have kU : Kp W U := hU ▸ hKb _ _ _ _ (by omega) hl rfl
    have rU : U.heap[m + 1]? = some (.loop { rec .ready none with state := .busy }) := hU ▸ World.putObj_heap_same hlt
    have dU : U.heap[m]? = some (.deferred (some [])) := hU ▸ (World.putObj_heap_other (by omega)).trans hk
    have aU : Ax x a' U := hU ▸ (hAx x a').putObj (s := ()) _ hax (by omega) hl rfl
    rw [hU]
    refine wpIn_mono (hbody _ pre x a' U iU aU hlen) ?_
    -- what the end of a round does
    have fin : ∀ (j : Option Code) (X : World), KeepsFrom m U X → ∃ Y, (Instr.endRound (m + 1) j).run P X = .ok (.bool j.isNone) Y ∧ Y = X.putObj (m + 1) (.loop (rec (if j.isNone then .ready else .done) j)) ∧
        X.heap[m + 1]? = some (.loop { rec .ready none with state := .busy }) ∧ Y.heap[m + 1]? = some (.loop (rec (if j.isNone then .ready else .done) j)) ∧ Y.heap[m]? = some (.deferred (some [])) := by
      intro j X hX
      have r3 := hX.same _ _ (by omega) rU rfl
      have e := run_endRound (P := P) j r3
      rw [hrec] at e r3 ⊢
      exact ⟨_, e, rfl, r3, World.putObj_heap_same (Array.getElem?_eq_some_iff.1 r3).1, (World.putObj_heap_other (by omega)).trans (hX.same _ _ (Nat.le_refl _) dU rfl)⟩
    rintro e a3 X hp
    cases e with
    | normal =>
      obtain ⟨hX, hK, hi3⟩ := hp
      obtain ⟨Y, q1, rfl, q2, q3, q4⟩ := fin none X hX
      exact ⟨_, _, q1, .inl ⟨rfl, ⟨⟨hI.putObj _ hi3 (by omega) q2 rfl, q3⟩, q4⟩, hKt hkp0 (hKt (hKt kU hK) (hKb _ _ _ _ (by omega) q2 rfl))⟩⟩
    | ret =>
      obtain ⟨hX, hi3⟩ := hp
      obtain ⟨Y, q1, rfl, q2, q3, q4⟩ := fin (some .ret) X hX
      exact ⟨_, _, q1, .inr ⟨rfl, .ret, ⟨(hIx _).putObj _ hi3 (by omega) q2 rfl, q3⟩, q4⟩⟩
    | exit id =>
      obtain ⟨hX, hi3⟩ := hp
      obtain ⟨Y, q1, rfl, q2, q3, q4⟩ := fin (some (.exit id)) X hX
      exact ⟨_, _, q1, .inr ⟨rfl, .exit id, ⟨(hIx _).putObj _ hi3 (by omega) q2 rfl, q3⟩, q4⟩⟩
    | goto t =>
      obtain ⟨hX, hi3⟩ := hp
      obtain ⟨Y, q1, rfl, q2, q3, q4⟩ := fin (some (.goto t)) X hX
      exact ⟨_, _, q1, .inr ⟨rfl, .goto t, ⟨(hIx _).putObj _ hi3 (by omega) q2 rfl, q3⟩, q4⟩⟩
    | panic ch => exact hp.elim
    | outgrown => exact hp.elim
  · -- behind the iterator
    rintro e W ⟨⟨v, rfl⟩, (⟨xs, hS, ⟨hi, hl⟩, hk⟩ | ⟨pre, hSp, c, ⟨hi, hl⟩, hk⟩)⟩
    · have q := run_endLoop (P := P) hl (by rw [hrec]; simp)
      rw [hrec] at q
      exact ⟨none, _, q, hdone _ xs _ (Nat.le_refl _) hS (hI.putObj _ hi (by omega) hl rfl) ((World.putObj_heap_other (by omega)).trans hk)⟩
    · have q := run_endLoop (P := P) hl (by rw [hrec]; simp)
      rw [hrec] at q
      exact ⟨some c, _, q, hstop _ c pre _ (Nat.le_refl _) hSp ((hIx c).putObj _ hi (by omega) hl rfl) ((World.putObj_heap_other (by omega)).trans hk)⟩
end Go.Proofs.YtbghkjoejbfnbaaDoor.rl
