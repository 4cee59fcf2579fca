/- The months of a term, as numbers: plain arithmetic. No conditions. A loop over an iterator that keeps state of its own in cells: the blocks of a list are the iterator's to turn between two rounds. No conditions. What prorate.Months answers (walks: an iterator that keeps a day in a cell of its own, and its caller). The table of the days ahead of months holds its numbers. -/
import Derived.Test.YtgceecnlgjmghaaDoorMCiv
import Derived.RangeFuncNested
import Derived.RangeFuncBound
import Derived.RangeFuncCalls
import Derived.RangeFuncLeaves
import Derived.Test.YtgceecnlgjmghaaDoorMP
import Derived.Test.YtgceecnlgjmghaaDoorBase
import Derived.Test.YtgceecnlgjmghaaDoorPHx0
import Derived.Test.YtgceecnlgjmghaaDoorWRepsOne
import Derived.RangeFuncBox
import Derived.Shelf.Abstract
import Derived.Shelf.RegionOpen
import Derived.OwnWalkIn
import Derived.TacticsInMore
import Derived.LoopNIn
import Derived.LoopIn
import Derived.Sort.CutIn
import Derived.Maps.AppendAt
import Derived.Maps.OwnIn
namespace Tm
open Cv
theorem ofD_mono {a b : Int} (h1 : 1 ≤ a) (h : a ≤ b) (h2 : b ≤ 3652059) : ofD a ≤ ofD b := by
 have s1 := ofD_spec h1 (by omega)
 have s2 := ofD_spec (d := b) (by omega) h2
 rcases Int.lt_or_le (ofD b) (ofD a) with z | z
 ·have := fst_mono (a := ofD b + 1) (b := ofD a) (by omega) (by omega) (by omega)
  omega
 ·exact z
/-- How many months have some of the days from f on, ahead of n. -/
noncomputable def cnt (f n : Int) : Nat := (ofD (n - 1) - ofD f + 1).toNat
/-- Where the i-th of them begins. -/
noncomputable def cur (f n : Int) (i : Nat) : Int := if i = 0 then f else min (fst (ofD f + i)) n
noncomputable def ent (f n : Int) (i : Nat) : Int × Int := (ofD f + i, cur f n (i + 1) - cur f n i)
noncomputable def terms (f n : Int) (k : Nat) : List (Int × Int) := (List.range k).map (ent f n)
theorem terms_len (f n : Int) (k : Nat) : (terms f n k).length = k := by simp [terms]
theorem terms_succ (f n : Int) (k : Nat) : terms f n (k + 1) = terms f n k ++ [ent f n k] := by simp [terms, List.range_succ]
theorem cur_zero (f n : Int) : cur f n 0 = f := by simp [cur]
theorem cur_succ (f n : Int) (k : Nat) : cur f n (k + 1) = min (fst (ofD f + k + 1)) n := by
 unfold cur; rw [if_neg (by omega), show ofD f + ((k + 1 : Nat) : Int) = ofD f + k + 1 by omega]
structure Ok (f n : Int) : Prop where
 f1 : 1 ≤ f
 fn : f < n
 nm : n ≤ 3652060
theorem cnt_spec {f n : Int} (h : Ok f n) : (cnt f n : Int) = ofD (n - 1) - ofD f + 1 ∧ 1 ≤ cnt f n ∧ cnt f n ≤ 119988 ∧ 1 ≤ ofD f ∧ ofD f + cnt f n ≤ 119989 := by
 obtain ⟨h1, h2, h3⟩ := h
 have s1 := ofD_spec (d := f) h1 (by omega)
 have s2 := ofD_spec (d := n - 1) (by omega) (by omega)
 have := ofD_mono h1 (show f ≤ n - 1 by omega) (by omega)
 unfold cnt; omega
/-- A round's month, and what it has. -/
theorem at_k {f n : Int} (h : Ok f n) {k : Nat} (hk : k < cnt f n) : okM (ofD f + k) = true ∧ 1 ≤ ofD f + k ∧ ofD f + k ≤ 119988 ∧ 1 ≤ cur f n k ∧ fst (ofD f + k) ≤ cur f n k ∧ cur f n k < n ∧ cur f n k < fst (ofD f + k + 1) ∧ cur f n k < cur f n (k + 1) ∧ cur f n (k + 1) ≤ n := by
 have c := cnt_spec h
 obtain ⟨h1, h2, h3⟩ := h
 have s1 := ofD_spec (d := f) h1 (by omega)
 have s2 := ofD_spec (d := n - 1) (by omega) (by omega)
 have e := cur_succ f n k
 have m1 : 1 ≤ ofD f + k := by omega
 have m2 : ofD f + k ≤ 119988 := by omega
 have l := fst_lo m1 m2
 have b := fst_bd m1 (show ofD f + k ≤ 119989 by omega)
 rcases Nat.eq_zero_or_pos k with rfl | hp
 ·rw [cur_zero]
  simp only [Int.natCast_zero, Int.add_zero] at *
  refine ⟨okM_mk m1 m2, m1, m2, h1, s1.2.2.1, by omega, s1.2.2.2, by omega, by omega⟩
 ·have mo := fst_mono (a := ofD f + k) (b := ofD (n - 1)) m1 (by omega) (by omega)
  have ec : cur f n k = fst (ofD f + k) := by unfold cur; rw [if_neg (by omega)]; omega
  rw [ec]
  refine ⟨okM_mk m1 m2, m1, m2, by omega, by omega, by omega, by omega, by omega, by omega⟩
theorem at_end {f n : Int} (h : Ok f n) : cur f n (cnt f n) = n := by
 have c := cnt_spec h
 obtain ⟨h1, h2, h3⟩ := h
 have s2 := ofD_spec (d := n - 1) (by omega) (by omega)
 unfold cur; rw [if_neg (by omega), show ofD f + (cnt f n : Int) = ofD (n - 1) + 1 by omega]; omega
end Tm

namespace Go.Proofs.YtgceecnlgjmghaaDoor.rl
open Go.RowKit

variable {F : Fence} {n : Nat} {P : Program}

/-- J outlives the turn of a block of L, and new blocks. -/
def Bears {β : Type} (L : List Nat) (J : β → World → Prop) : Prop := ∀ s A B row, J s A → A.grownBy B row → (∀ r, row = some r → r ∈ L) → J s B
theorem Bears.and {β : Type} {L : List Nat} {I J : β → World → Prop} (h : Bears L I) (k : Bears L J) : Bears L (fun s W => I s W ∧ J s W) := fun s A B row hs hg hr => ⟨h s A B row hs.1 hg hr, k s A B row hs.2 hg hr⟩
theorem Bears.pure {β : Type} (L : List Nat) (p : β → Prop) : Bears L (fun s (_ : World) => p s) := fun _ _ _ _ hs _ _ => hs
/-- A block that the list does not name lies as it lay. -/
theorem Bears.block {β : Type} {L : List Nat} {b : Nat} (hb : b ∉ L) (f : β → Obj) : Bears L (fun s W => W.heap[b]? = some (f s)) := fun _ _ _ _ hs hg hr =>
 (hg.block b (Array.getElem?_eq_some_iff.1 hs).1 (fun e => hb (hr b e.symm))).trans hs
theorem Bears.below {β : Type} {L : List Nat} {m : Nat} {w : World} (hL : ∀ r ∈ L, m ≤ r) (hm : m ≤ w.heap.size) : Bears L (fun (_ : β) W => Below m w W) := fun _ _ _ _ hs hg hr =>
 hs.grown hg (Nat.le_trans hm hs.size) (fun k e => hL k (hr k e))

/-- The contract of such an iterator. -/
def SeqStopsL {α : Type} (F : Fence) (n : Nat) (P : Program) (g : Nat) (lb : Array Value) (encs : α → Array Value) (Kp : World → World → Prop) (S Sp : List α → Prop) (N : Nat) (L : List Nat) (w : World) : Prop :=
 ∀ (l : Nat) (J Jx : List α → World → Prop) (W : World), Below w.heap.size w W → Bears L J → Bears L Jx →
  (∀ pre x W1, J pre W1 → pre.length < N → YieldAt F (n - 1) P l (encs x) W1 fun e W' =>
   (e = .returned (.bool true) ∧ J (pre ++ [x]) W' ∧ Kp W1 W') ∨ (e = .returned (.bool false) ∧ Jx (pre ++ [x]) W')) →
  J [] W →
  CallsIn F n P g (#[.func (.yield l) #[] #[]] ++ lb) W fun e W' => (∃ v, e = .returned v) ∧ ((∃ xs, S xs ∧ J xs W') ∨ (∃ pre, Sp pre ∧ Jx pre W'))

/-- The caller's law. -/
theorem wpIn_range {α : Type} {g : Operand} {ps : Array Tmp} {assign body : Code} {Q : Exit → Act → World → Prop} {a : Act} {w : World}
  (hro : F.round = none) (h1 : 1 ≤ n) {gf : Nat} {lb : Array Value} (hg : a.eval g = .func (.func gf) #[] lb) (hFg : F.fn gf) (eg : ∀ args w, (callFunc gf args).run P w = .ok (.enter gf args) w)
  {encs : α → Array Value} {Kp : World → World → Prop} {S Sp : List α → Prop} {N : Nat} {L : List Nat} {w0 : World} (hseq : SeqStopsL F (n - 1) P gf lb encs Kp S Sp N L w0) (hL : ∀ r ∈ L, r < w.heap.size)
  (hKt : ∀ {A B C : World}, Kp A B → Kp B C → Kp A C) (hKb : ∀ (W : World) (l : Nat) (o o' : Obj), w.heap.size ≤ l → W.heap[l]? = some o → o.isCells = false → Kp W (W.putObj l o')) (hb0 : Below w0.heap.size w0 w) (hps : ∀ x, (encs x).size = ps.size)
  (I : List α → World → Prop) (Ix : Code → List α → World → Prop) (hI : OwnFrom w.heap.size I) (hIx : ∀ c, OwnFrom w.heap.size (Ix c)) (bI : Bears L I) (bIx : ∀ c, Bears L (Ix c)) (h0 : I [] w) (a₁ : α → Act)
  (hassign : ∀ (l : Nat) (x : α) (W : World) (K : Act → World → Prop), K (a₁ x) W →
   assign.wpIn (F.inRound l) (n - 1 - 1) P (Exit.then K (fun _ _ _ => False)) { tmps := (ps.zip (encs x)).foldl (fun t (p, v) => t.setIfInBounds p v) a.tmps, defers := [] } W)
  (hbody : ∀ (l : Nat) (pre : List α) (x : α) (W : World), I pre W → pre.length < N → body.wpIn (F.inRound l) (n - 1 - 1) P (ownPostG w.heap.size Kp I Ix (pre ++ [x]) W) (a₁ x) W)
  (hdone : ∀ (D : Nat) (xs : List α) (W : World), w.heap.size ≤ D → S xs → I xs W → W.heap[D]? = some (.deferred (some [])) → Q .normal { a with defers := { target := .collected D, args := #[] } :: a.defers } W)
  (hstop : ∀ (D : Nat) (c : Code) (pre : List α) (W : World), w.heap.size ≤ D → Sp pre → Ix c pre W → W.heap[D]? = some (.deferred (some [])) → c.wpIn F n P Q { a with defers := { target := .collected D, args := #[] } :: a.defers } W) :
  (Code.rangeFunc g ps assign body).wpIn F n P Q a w := by
 refine wpIn_rangeFunc fun fn hfn => ?_
 rw [hro]
 -- the loop's record, and the world in which the iterator is called
 obtain ⟨rec, hrec⟩ : ∃ rec : LoopState → Option Code → Loop, rec = fun st pe => { state := st, pending := pe, fn, tmps := a.tmps, params := ps, assign, body, defers := w.heap.size } := ⟨_, rfl⟩
 let m := w.heap.size
 have hm : w.heap.size = m := rfl
 let V := (w.alloc (.deferred (some []))).alloc (.loop (rec .ready none))
 have hV : V = (w.alloc (.deferred (some []))).alloc (.loop (rec .ready none)) := rfl
 have rV : V.heap[m + 1]? = some (.loop (rec .ready none)) := by
  have := World.alloc_heap_new (w.alloc (.deferred (some []))) (.loop (rec .ready none))
  rwa [World.size_alloc] at this
 have dV : V.heap[m]? = some (.deferred (some [])) := (Below.heap_alloc _ _ _ (by simp [m])).trans (World.alloc_heap_new w _)
 have iV : I [] V := hI.alloc _ (hI.alloc _ h0)
 have bV : Below w0.heap.size w0 V := hb0.trans ((((Below.refl _ w).alloc (Nat.le_refl _) _).alloc (by simp) _).mono hb0.size)
 have n0 : m ∉ L := fun h => absurd (hL _ h) (by omega)
 have n1 : m + 1 ∉ L := fun h => absurd (hL _ h) (by omega)
 refine ⟨m + 1, [{ target := .collected m, args := #[] }], V, { target := .fn (.func gf) lb, args := #[.func (.yield (m + 1)) #[] #[]] }, V, gf,
  #[.func (.yield (m + 1)) #[] #[]] ++ lb, V, by rw [hV, hrec]; exact run_enterLoop_outer _ _ _ _ _, ?_, ?_, by simp [invoke, go_sem, eg], fun _ => h1, ?_⟩
 ·simp only [resolve, hg]
  simp [go_sem]
 ·intro f' hf'
  simp [Target.leads] at hf'
  exact hf' ▸ hFg
 let J : List α → World → Prop := fun pre W => (I pre W ∧ W.heap[m + 1]? = some (.loop (rec .ready none))) ∧ W.heap[m]? = some (.deferred (some []))
 let Jx : List α → World → Prop := fun pre W => ∃ c, (Ix c pre W ∧ W.heap[m + 1]? = some (.loop (rec .done (some c)))) ∧ W.heap[m]? = some (.deferred (some []))
 have bJ : Bears L J := (bI.and (Bears.block n1 _)).and (Bears.block n0 _)
 have bJx : Bears L Jx := fun s A B row ⟨c, hc⟩ hg hr => ⟨c, (((bIx c).and (Bears.block n1 (fun _ => Obj.loop (rec .done (some c))))).and (Bears.block n0 (fun _ => Obj.deferred (some [])))) s A B row hc hg hr⟩
 refine (hseq (m + 1) J Jx V bV bJ bJx ?_ ⟨⟨iV, rV⟩, dV⟩).mono ?_
 ·-- a round
  rintro pre x W ⟨⟨hi, hl⟩, hk⟩ hlen
  have hlt : m + 1 < W.heap.size := (Array.getElem?_eq_some_iff.1 hl).1
  have hy := run_yield (P := P) (args := encs x) hl (by rw [hrec]; exact hps x)
  rw [hrec] at hy
  refine ⟨fn, _, assign, body, hy, roundIn_of_wpIn hfn (hassign _ x W _ ⟨_, run_beginRound hl (by rw [hrec]), ?_⟩)⟩
  clear hy
  obtain ⟨U, hU⟩ : ∃ U, W.putObj (m + 1) (.loop { rec .ready none with state := .busy }) = U := ⟨_, rfl⟩
  have iU : I pre U := hU ▸ hI.putObj _ hi (by omega) hl rfl
  have kU : Kp W U := hU ▸ hKb _ _ _ _ (by omega) hl rfl
  have rU : U.heap[m + 1]? = some (.loop { rec .ready none with state := .busy }) := hU ▸ World.putObj_heap_same hlt
  have dU : U.heap[m]? = some (.deferred (some [])) := hU ▸ (World.putObj_heap_other (by omega)).trans hk
  rw [hU]
  refine wpIn_mono (hbody _ pre x U iU hlen) ?_
  -- what the end of a round does
  have fin : ∀ (j : Option Code) (X : World), KeepsFrom m U X → ∃ Y, (Instr.endRound (m + 1) j).run P X = .ok (.bool j.isNone) Y ∧ Y = X.putObj (m + 1) (.loop (rec (if j.isNone then .ready else .done) j)) ∧
    X.heap[m + 1]? = some (.loop { rec .ready none with state := .busy }) ∧ Y.heap[m + 1]? = some (.loop (rec (if j.isNone then .ready else .done) j)) ∧ Y.heap[m]? = some (.deferred (some [])) := by
   intro j X hX
   have r3 := hX.same _ _ (by omega) rU rfl
   have e := run_endRound (P := P) j r3
   rw [hrec] at e r3 ⊢
   exact ⟨_, e, rfl, r3, World.putObj_heap_same (Array.getElem?_eq_some_iff.1 r3).1, (World.putObj_heap_other (by omega)).trans (hX.same _ _ (Nat.le_refl _) dU rfl)⟩
  rintro e a3 X hp
  cases e with
  | normal =>
   obtain ⟨hX, hK, hi3⟩ := hp
   obtain ⟨Y, q1, rfl, q2, q3, q4⟩ := fin none X hX
   exact ⟨_, _, q1, .inl ⟨rfl, ⟨⟨hI.putObj _ hi3 (by omega) q2 rfl, q3⟩, q4⟩, hKt (hKt kU hK) (hKb _ _ _ _ (by omega) q2 rfl)⟩⟩
  | ret =>
   obtain ⟨hX, hi3⟩ := hp
   obtain ⟨Y, q1, rfl, q2, q3, q4⟩ := fin (some .ret) X hX
   exact ⟨_, _, q1, .inr ⟨rfl, .ret, ⟨(hIx _).putObj _ hi3 (by omega) q2 rfl, q3⟩, q4⟩⟩
  | exit id =>
   obtain ⟨hX, hi3⟩ := hp
   obtain ⟨Y, q1, rfl, q2, q3, q4⟩ := fin (some (.exit id)) X hX
   exact ⟨_, _, q1, .inr ⟨rfl, .exit id, ⟨(hIx _).putObj _ hi3 (by omega) q2 rfl, q3⟩, q4⟩⟩
  | goto t =>
   obtain ⟨hX, hi3⟩ := hp
   obtain ⟨Y, q1, rfl, q2, q3, q4⟩ := fin (some (.goto t)) X hX
   exact ⟨_, _, q1, .inr ⟨rfl, .goto t, ⟨(hIx _).putObj _ hi3 (by omega) q2 rfl, q3⟩, q4⟩⟩
  | panic ch => exact hp.elim
  | outgrown => exact hp.elim
 ·-- behind the iterator
  rintro e W ⟨⟨v, rfl⟩, (⟨xs, hS, ⟨hi, hl⟩, hk⟩ | ⟨pre, hSp, c, ⟨hi, hl⟩, hk⟩)⟩
  ·have q := run_endLoop (P := P) hl (by rw [hrec]; simp)
   rw [hrec] at q
   exact ⟨none, _, q, hdone _ xs _ (Nat.le_refl _) hS (hI.putObj _ hi (by omega) hl rfl) ((World.putObj_heap_other (by omega)).trans hk)⟩
  ·have q := run_endLoop (P := P) hl (by rw [hrec]; simp)
   rw [hrec] at q
   exact ⟨some c, _, q, hstop _ c pre _ (Nat.le_refl _) hSp ((hIx c).putObj _ hi (by omega) hl rfl) ((World.putObj_heap_other (by omega)).trans hk)⟩
/-- The caller's law, where the loop's variable may be laid in memory. -/
theorem wpIn_rangeH {α : Type} {g : Operand} {ps : Array Tmp} {assign body : Code} {Q : Exit → Act → World → Prop} {a : Act} {w : World}
  (hro : F.round = none) (h1 : 1 ≤ n) {gf : Nat} {lb : Array Value} (hg : a.eval g = .func (.func gf) #[] lb) (hFg : F.fn gf) (eg : ∀ args w, (callFunc gf args).run P w = .ok (.enter gf args) w)
  {encs : α → Array Value} {Kp : World → World → Prop} {S Sp : List α → Prop} {N : Nat} {L : List Nat} {w0 : World} (hseq : SeqStopsL F (n - 1) P gf lb encs Kp S Sp N L w0) (hL : ∀ r ∈ L, r < w.heap.size)
  (hKt : ∀ {A B C : World}, Kp A B → Kp B C → Kp A C) (hKb : ∀ (W : World) (l : Nat) (o o' : Obj), w.heap.size ≤ l → W.heap[l]? = some o → o.isCells = false → Kp W (W.putObj l o')) (hb0 : Below w0.heap.size w0 w) (hps : ∀ x, (encs x).size = ps.size)
  (I : List α → World → Prop) (Ix : Code → List α → World → Prop) (hI : OwnFrom w.heap.size I) (hIx : ∀ c, OwnFrom w.heap.size (Ix c)) (bI : Bears L I) (bIx : ∀ c, Bears L (Ix c)) (h0 : I [] w) (Ax : α → Act → World → Prop) (hAx : ∀ x a', OwnFrom w.heap.size (fun (_ : Unit) W => Ax x a' W))
  (hassign : ∀ (l : Nat) (pre : List α) (x : α) (W : World) (K : Act → World → Prop), I pre W → (∀ a' W', KeepsFrom w.heap.size W W' → Kp W W' → I pre W' → Ax x a' W' → K a' W') →
   assign.wpIn (F.inRound l) (n - 1 - 1) P (Exit.then K (fun _ _ _ => False)) { tmps := (ps.zip (encs x)).foldl (fun t (p, v) => t.setIfInBounds p v) a.tmps, defers := [] } W)
  (hbody : ∀ (l : Nat) (pre : List α) (x : α) (a' : Act) (W : World), I pre W → Ax x a' W → pre.length < N → body.wpIn (F.inRound l) (n - 1 - 1) P (ownPostG w.heap.size Kp I Ix (pre ++ [x]) W) a' W)
  (hdone : ∀ (D : Nat) (xs : List α) (W : World), w.heap.size ≤ D → S xs → I xs W → W.heap[D]? = some (.deferred (some [])) → Q .normal { a with defers := { target := .collected D, args := #[] } :: a.defers } W)
  (hstop : ∀ (D : Nat) (c : Code) (pre : List α) (W : World), w.heap.size ≤ D → Sp pre → Ix c pre W → W.heap[D]? = some (.deferred (some [])) → c.wpIn F n P Q { a with defers := { target := .collected D, args := #[] } :: a.defers } W) :
  (Code.rangeFunc g ps assign body).wpIn F n P Q a w := by
 refine wpIn_rangeFunc fun fn hfn => ?_
 rw [hro]
 -- the loop's record, and the world in which the iterator is called
 obtain ⟨rec, hrec⟩ : ∃ rec : LoopState → Option Code → Loop, rec = fun st pe => { state := st, pending := pe, fn, tmps := a.tmps, params := ps, assign, body, defers := w.heap.size } := ⟨_, rfl⟩
 let m := w.heap.size
 have hm : w.heap.size = m := rfl
 let V := (w.alloc (.deferred (some []))).alloc (.loop (rec .ready none))
 have hV : V = (w.alloc (.deferred (some []))).alloc (.loop (rec .ready none)) := rfl
 have rV : V.heap[m + 1]? = some (.loop (rec .ready none)) := by
  have := World.alloc_heap_new (w.alloc (.deferred (some []))) (.loop (rec .ready none))
  rwa [World.size_alloc] at this
 have dV : V.heap[m]? = some (.deferred (some [])) := (Below.heap_alloc _ _ _ (by simp [m])).trans (World.alloc_heap_new w _)
 have iV : I [] V := hI.alloc _ (hI.alloc _ h0)
 have bV : Below w0.heap.size w0 V := hb0.trans ((((Below.refl _ w).alloc (Nat.le_refl _) _).alloc (by simp) _).mono hb0.size)
 have n0 : m ∉ L := fun h => absurd (hL _ h) (by omega)
 have n1 : m + 1 ∉ L := fun h => absurd (hL _ h) (by omega)
 refine ⟨m + 1, [{ target := .collected m, args := #[] }], V, { target := .fn (.func gf) lb, args := #[.func (.yield (m + 1)) #[] #[]] }, V, gf,
  #[.func (.yield (m + 1)) #[] #[]] ++ lb, V, by rw [hV, hrec]; exact run_enterLoop_outer _ _ _ _ _, ?_, ?_, by simp [invoke, go_sem, eg], fun _ => h1, ?_⟩
 ·simp only [resolve, hg]
  simp [go_sem]
 ·intro f' hf'
  simp [Target.leads] at hf'
  exact hf' ▸ hFg
 let J : List α → World → Prop := fun pre W => (I pre W ∧ W.heap[m + 1]? = some (.loop (rec .ready none))) ∧ W.heap[m]? = some (.deferred (some []))
 let Jx : List α → World → Prop := fun pre W => ∃ c, (Ix c pre W ∧ W.heap[m + 1]? = some (.loop (rec .done (some c)))) ∧ W.heap[m]? = some (.deferred (some []))
 have bJ : Bears L J := (bI.and (Bears.block n1 _)).and (Bears.block n0 _)
 have bJx : Bears L Jx := fun s A B row ⟨c, hc⟩ hg hr => ⟨c, (((bIx c).and (Bears.block n1 (fun _ => Obj.loop (rec .done (some c))))).and (Bears.block n0 (fun _ => Obj.deferred (some [])))) s A B row hc hg hr⟩
 refine (hseq (m + 1) J Jx V bV bJ bJx ?_ ⟨⟨iV, rV⟩, dV⟩).mono ?_
 ·-- a round
  rintro pre x W0 ⟨⟨hi0, hl0⟩, hk0⟩ hlen
  have hy := run_yield (P := P) (args := encs x) hl0 (by rw [hrec]; exact hps x)
  rw [hrec] at hy
  refine ⟨fn, _, assign, body, hy, roundIn_of_wpIn hfn (hassign _ pre x W0 _ hi0 ?_)⟩
  clear hy
  intro a' W hkf hkp0 hi hax
  have hl := hkf.same _ _ (by omega) hl0 rfl
  have hk := hkf.same _ _ (Nat.le_refl _) hk0 rfl
  have hlt : m + 1 < W.heap.size := (Array.getElem?_eq_some_iff.1 hl).1
  refine ⟨_, run_beginRound hl (by rw [hrec]), ?_⟩
  obtain ⟨U, hU⟩ : ∃ U, W.putObj (m + 1) (.loop { rec .ready none with state := .busy }) = U := ⟨_, rfl⟩
  have iU : I pre U := hU ▸ hI.putObj _ hi (by omega) hl rfl
  have kU : Kp W U := hU ▸ hKb _ _ _ _ (by omega) hl rfl
  have rU : U.heap[m + 1]? = some (.loop { rec .ready none with state := .busy }) := hU ▸ World.putObj_heap_same hlt
  have dU : U.heap[m]? = some (.deferred (some [])) := hU ▸ (World.putObj_heap_other (by omega)).trans hk
  have aU : Ax x a' U := hU ▸ (hAx x a').putObj (s := ()) _ hax (by omega) hl rfl
  rw [hU]
  refine wpIn_mono (hbody _ pre x a' U iU aU hlen) ?_
  -- what the end of a round does
  have fin : ∀ (j : Option Code) (X : World), KeepsFrom m U X → ∃ Y, (Instr.endRound (m + 1) j).run P X = .ok (.bool j.isNone) Y ∧ Y = X.putObj (m + 1) (.loop (rec (if j.isNone then .ready else .done) j)) ∧
    X.heap[m + 1]? = some (.loop { rec .ready none with state := .busy }) ∧ Y.heap[m + 1]? = some (.loop (rec (if j.isNone then .ready else .done) j)) ∧ Y.heap[m]? = some (.deferred (some [])) := by
   intro j X hX
   have r3 := hX.same _ _ (by omega) rU rfl
   have e := run_endRound (P := P) j r3
   rw [hrec] at e r3 ⊢
   exact ⟨_, e, rfl, r3, World.putObj_heap_same (Array.getElem?_eq_some_iff.1 r3).1, (World.putObj_heap_other (by omega)).trans (hX.same _ _ (Nat.le_refl _) dU rfl)⟩
  rintro e a3 X hp
  cases e with
  | normal =>
   obtain ⟨hX, hK, hi3⟩ := hp
   obtain ⟨Y, q1, rfl, q2, q3, q4⟩ := fin none X hX
   exact ⟨_, _, q1, .inl ⟨rfl, ⟨⟨hI.putObj _ hi3 (by omega) q2 rfl, q3⟩, q4⟩, hKt hkp0 (hKt (hKt kU hK) (hKb _ _ _ _ (by omega) q2 rfl))⟩⟩
  | ret =>
   obtain ⟨hX, hi3⟩ := hp
   obtain ⟨Y, q1, rfl, q2, q3, q4⟩ := fin (some .ret) X hX
   exact ⟨_, _, q1, .inr ⟨rfl, .ret, ⟨(hIx _).putObj _ hi3 (by omega) q2 rfl, q3⟩, q4⟩⟩
  | exit id =>
   obtain ⟨hX, hi3⟩ := hp
   obtain ⟨Y, q1, rfl, q2, q3, q4⟩ := fin (some (.exit id)) X hX
   exact ⟨_, _, q1, .inr ⟨rfl, .exit id, ⟨(hIx _).putObj _ hi3 (by omega) q2 rfl, q3⟩, q4⟩⟩
  | goto t =>
   obtain ⟨hX, hi3⟩ := hp
   obtain ⟨Y, q1, rfl, q2, q3, q4⟩ := fin (some (.goto t)) X hX
   exact ⟨_, _, q1, .inr ⟨rfl, .goto t, ⟨(hIx _).putObj _ hi3 (by omega) q2 rfl, q3⟩, q4⟩⟩
  | panic ch => exact hp.elim
  | outgrown => exact hp.elim
 ·-- behind the iterator
  rintro e W ⟨⟨v, rfl⟩, (⟨xs, hS, ⟨hi, hl⟩, hk⟩ | ⟨pre, hSp, c, ⟨hi, hl⟩, hk⟩)⟩
  ·have q := run_endLoop (P := P) hl (by rw [hrec]; simp)
   rw [hrec] at q
   exact ⟨none, _, q, hdone _ xs _ (Nat.le_refl _) hS (hI.putObj _ hi (by omega) hl rfl) ((World.putObj_heap_other (by omega)).trans hk)⟩
  ·have q := run_endLoop (P := P) hl (by rw [hrec]; simp)
   rw [hrec] at q
   exact ⟨some c, _, q, hstop _ c pre _ (Nat.le_refl _) hSp ((hIx c).putObj _ hi (by omega) hl rfl) ((World.putObj_heap_other (by omega)).trans hk)⟩
end Go.Proofs.YtgceecnlgjmghaaDoor.rl

namespace Go.Proofs.YtgceecnlgjmghaaDoor.pmon
open Go.RowKit Go.Proofs.YtgceecnlgjmghaaDoor.base Go.Shelf Go.Proofs.YtgceecnlgjmghaaDoor.rl Go.Proofs.YtgceecnlgjmghaaDoorW.PrintMore Tm
open Go.Proofs.YtgceecnlgjmghaaDoor.civ (Tab)

attribute [local go_sem] Oper.semAt_some min2_int min_two

abbrev enc2 (x : Int × Int) : Array Value := #[.int .i64 x.1, .int .i64 x.2]
/-- What a round keeps: where the two days lie, and the table. -/
structure Kt (Bf Bn : Nat) (W W' : World) : Prop where
 size : W.heap.size ≤ W'.heap.size
 bf : W'.heap[Bf]? = W.heap[Bf]?
 bn : W'.heap[Bn]? = W.heap[Bn]?
 bt : W'.heap[2]? = W.heap[2]?
theorem Kt.refl (Bf Bn : Nat) (W : World) : Kt Bf Bn W W := ⟨Nat.le_refl _, rfl, rfl, rfl⟩
theorem Kt.trans {Bf Bn : Nat} {A B C : World} (h : Kt Bf Bn A B) (k : Kt Bf Bn B C) : Kt Bf Bn A C := ⟨Nat.le_trans h.size k.size, k.bf.trans h.bf, k.bn.trans h.bn, k.bt.trans h.bt⟩
theorem Kt.ct {Bf Bn : Nat} {A B : World} (h : Kt Bf Bn A B) (T : Tab A) : Tab B := fun i hi => (World.cell?_of_block h.bt).trans (T i hi)
theorem Kt.put {Bf Bn B : Nat} (W : World) (l : Nat) (o : Obj) (hl : B ≤ l) (h1 : Bf < B) (h2 : Bn < B) (h3 : 2 < B) : Kt Bf Bn W (W.putObj l o) :=
 ⟨by simp, World.putObj_heap_other (by omega), World.putObj_heap_other (by omega), World.putObj_heap_other (by omega)⟩
theorem Kt.below {Bf Bn m : Nat} {A B : World} (h : Below m A B) (h1 : Bf < m) (h2 : Bn < m) (h3 : 2 < m) : Kt Bf Bn A B := ⟨h.size, h.block _ h1, h.block _ h2, h.block _ h3⟩
theorem tab_set {W : World} (h : Tab W) {B : Nat} (hB : B ≠ 2) (v : Value) : Tab (W.setCell ⟨B, 0, none⟩ v) := fun i hi =>
 (World.cell?_of_block (Below.heap_setCell W ⟨B, 0, none⟩ v 2 (fun e => hB e.symm))).trans (h i hi)

set_option maxRecDepth 100000 in
set_option maxHeartbeats 2000000 in
theorem touched_in (l Bf Bn : Nat) (f n : Int) (hok : Ok f n) (J Jx : List (Int × Int) → World → Prop)
  (hY : ∀ pre x W, J pre W → pre.length < cnt f n → YieldAt Fence.wide 1 Tryd.prog l (enc2 x) W fun e W' =>
   (e = .returned (.bool true) ∧ J (pre ++ [x]) W' ∧ Kt Bf Bn W W') ∨ (e = .returned (.bool false) ∧ Jx (pre ++ [x]) W'))
  (W : World) (hJ : Bears [Bf] J) (hfn : Bf ≠ Bn) (hft : Bf ≠ 2) (T : Tab W)
  (cf : Boxed W Bf 3 (.int .i64 f)) (cn : Boxed W Bn 3 (.int .i64 n)) (h0 : J [] W) :
  CallsIn Fence.wide 2 Tryd.prog 78 #[.func (.yield l) #[] #[], .pointer (some ⟨Bf, 0, none⟩), .pointer (some ⟨Bn, 0, none⟩)] W fun e W' => (∃ v, e = .returned v) ∧
   ((∃ ys, ys = terms f n (cnt f n) ∧ J ys W') ∨ (∃ pre, True ∧ Jx pre W')) := by
 refine callsIn_of_wp Tryd.func78 rfl trivial ?_ rfl
 simp only [Tryd.ntmps78, List.size_toArray, List.length_cons, List.length_nil, Nat.reduceAdd, Nat.reduceSub, Array.replicate_succ, Array.replicate_zero, List.push_toArray, List.append_toArray, List.nil_append, List.cons_append]
 have HY := Lib.hid hY
 have HJ := Lib.hid hJ
 have HT := Lib.hid T
 have HO := Lib.hid hok
 have HC := Lib.hid (cnt_spec hok)
 have hOf := civ.of_yes f W T hok.f1 (by have := hok.fn; have := hok.nm; omega)
 have cf1 := cf.cell
 obtain ⟨M0, hM0⟩ : ∃ M0, Cv.ofD f = M0 := ⟨_, rfl⟩
 have HM := Lib.hid hM0
 rw [hM0] at hOf
 have HOf := Lib.hid hOf
 have HF := Lib.hid cf
 have HN := Lib.hid cn
 clear hY hJ T hok hM0 hOf cf cn
 gi_wp2_with fail
 refine ⟨trivial, (callsIn_wide.2 HOf.out).mono ?_⟩
 rintro e w' ⟨rfl, rfl⟩
 gi_wp2
 gi_loopw [4] (fun m wr => ∃ k : Nat, m = .int .i64 (M0 + k) ∧ k ≤ cnt f n ∧ J (terms f n k) wr ∧ Boxed wr Bf 3 (.int .i64 (cur f n k)) ∧ Boxed wr Bn 3 (.int .i64 n) ∧ Tab wr) (fun m _ => (119990 - intOf m).toNat)
 case atStart =>
  refine ⟨0, by simp, Nat.zero_le _, by simpa [terms] using h0, by rw [cur_zero]; exact HF.out, HN.out, HT.out⟩
 case round =>
  obtain ⟨k, rfl, hk, hJs, hbf, hbn, hT⟩ := hrel
  clear cf1
  have c1 := hbf.cell
  have c2 := hbn.cell
  have HBF := Lib.hid hbf
  have HBN := Lib.hid hbn
  have HTr := Lib.hid hT
  have HJS := Lib.hid hJs
  clear hbf hbn hT hJs
  have HK0 := Lib.hid (show (0 : Int) ≤ k ∧ 1 ≤ M0 ∧ M0 + k ≤ 119989 by have := HC.out; rw [HM.out] at this; omega)
  by_cases hlt : k < cnt f n
  ·have A := at_k HO.out hlt
   have ek : ent f n k = (M0 + k, cur f n (k + 1) - cur f n k) := by unfold ent; rw [HM.out]
   have HS := Lib.hid (terms_succ f n k)
   have ec := cur_succ f n k
   rw [HM.out] at A ec
   have HD := Lib.hid (civ.days_any (M0 + k) wr HTr.out)
   have hv1 : Cv.lstV (M0 + k) = Cv.fst (M0 + k + 1) - 1 := by simp [Cv.lstV, A.1]
   have hv2 : Cv.mE (M0 + k) = 0 := by simp [Cv.mE, A.1]
   rw [hv1, hv2] at HD
   obtain ⟨_, a2, a3, a4, a5, a6, a7, a8, a9⟩ := A
   have nm := HO.out.nm
   have b1 := Cv.fst_bd (M := M0 + k + 1) (by omega) (by omega)
   have HEK := Lib.hid ek
   obtain ⟨y1, y2⟩ : 0 ≤ Cv.fst (M0 + k + 1) - 1 ∧ Cv.fst (M0 + k + 1) - 1 ≤ 3652060 := by omega
   have he : (if n < Cv.fst (M0 + k + 1) - 1 + 1 then n else Cv.fst (M0 + k + 1) - 1 + 1) = cur f n (k + 1) := by rw [ec]; split <;> omega
   obtain ⟨x1, hx1⟩ : ∃ x, Cv.fstV (M0 + k) = x := ⟨_, rfl⟩
   rw [hx1] at HD
   clear hv1 hv2 hx1 ek ec a5 a7 b1
   generalize Cv.fst (M0 + k + 1) - 1 = g at *
   obtain ⟨e, hE⟩ : ∃ e, cur f n (k + 1) = e := ⟨_, rfl⟩
   rw [hE] at HEK he a8 a9
   have HEE := Lib.hid hE
   clear hE
   generalize cur f n k = s at *
   obtain ⟨M, hM⟩ : ∃ M, M0 + (k : Int) = M := ⟨_, rfl⟩
   rw [hM] at HD HEK a2 a3 ⊢
   have HMk := Lib.hid hM
   obtain ⟨e1, e2, e3⟩ : 0 ≤ e ∧ e ≤ 3652060 ∧ 0 ≤ s := by omega
   obtain ⟨fn, tmps, assign, body, hy, hR⟩ := HY.out _ (M, e - s) wr HJS.out (by rw [terms_len]; exact hlt)
   dsimp only [enc2] at hy
   have HLT := Lib.hid hlt
   have HE := Lib.hid he
   clear hM hlt he nm
   gi_wp2_with fail
   refine ⟨trivial, (callsIn_wide.2 HD.out).mono ?_⟩
   rintro e' w' ⟨rfl, rfl⟩
   have he' := HE.out
   gi_wp2
   refine hR.mono ?_
   clear he'
   rintro e' W3 (⟨rfl, J3, k3⟩ | ⟨rfl, Jx3⟩)
   ·have hb3 : Boxed W3 Bf 3 (.int .i64 s) := k3.bf.trans HBF.out
    have hn3 : Boxed W3 Bn 3 (.int .i64 n) := k3.bn.trans HBN.out
    have ht3 := k3.ct HTr.out
    have g1 := hb3.cell
    have g2 := hb3.frozen
    have H3 := Lib.hid (And.intro hb3 (And.intro hn3 (And.intro ht3 J3)))
    clear hb3 hn3 ht3 J3 k3
    gi_wp2
    go_roundw
    case rel =>
     refine ⟨k + 1, by rw [← HMk.out]; go_num, HLT.out, ?_, by rw [HEE.out]; exact H3.out.1.set _, (H3.out.2.1.kept (grownBy_setCell' _ _ _) (by simp; omega)), tab_set H3.out.2.2.1 hft _⟩
     rw [HS.out, HEK.out]
     exact HJ.out _ _ _ _ H3.out.2.2.2 (grownBy_setCell' _ _ _) (by simp)
    case measure => simp [intOf]; omega
   ·gi_wp2
    refine bodyPost_ret (results_none rfl _ _ _) rfl ?_
    exact ⟨⟨_, rfl⟩, .inr ⟨_, trivial, Jx3⟩⟩
  ·obtain rfl : k = cnt f n := by omega
   have E := at_end HO.out
   rw [E] at c1
   clear E
   gi_wp2
   go_end0
   exact ⟨⟨_, rfl⟩, .inl ⟨_, rfl, HJS.out⟩⟩
theorem touched_stops (f n : Int) (Bf Bn : Nat) (w : World) (hok : Ok f n) (hfn : Bf ≠ Bn) (hft : Bf ≠ 2) (T : Tab w)
  (cf : Boxed w Bf 3 (.int .i64 f)) (cn : Boxed w Bn 3 (.int .i64 n)) :
  SeqStopsL Fence.wide 2 Tryd.prog 78 #[.pointer (some ⟨Bf, 0, none⟩), .pointer (some ⟨Bn, 0, none⟩)] enc2 (Kt Bf Bn)
   (fun ys => ys = terms f n (cnt f n)) (fun _ => True) (cnt f n) [Bf] w := fun l J Jx W hW hJ _ hY h0 => by
 have h3 := World.block_lt_of_cell? w ⟨2, 0, none⟩ (T 0 (by omega))
 exact touched_in l Bf Bn f n hok J Jx hY W hJ hfn hft (fun i hi => (hW.cell (p := ⟨2, i, none⟩) h3).trans (T i hi)) ((hW.block _ cf.lt).trans cf) ((hW.block _ cn.lt).trans cn) h0
theorem touched_any (f n : Int) (w : World) : CallsIn Fence.wide 2 Tryd.prog 63 #[.int .i64 f, .int .i64 n] w fun e w' =>
  e = .returned (.func (.func 78) #[] #[.pointer (some ⟨w.heap.size, 0, none⟩), .pointer (some ⟨w.heap.size + 1, 0, none⟩)]) ∧ w'.heap.size = w.heap.size + 2 ∧ Below w.heap.size w w' ∧
   Boxed w' w.heap.size 3 (.int .i64 f) ∧ Boxed w' (w.heap.size + 1) 3 (.int .i64 n) := by
 refine callsIn_of_wp Tryd.func63 rfl trivial ?_ rfl
 simp only [Tryd.ntmps63, List.size_toArray, List.length_cons, List.length_nil, Nat.reduceAdd, Nat.reduceSub, Array.replicate_succ, Array.replicate_zero, List.push_toArray, List.append_toArray, List.nil_append, List.cons_append]
 gi_wp2
 go_ret
 refine ⟨rfl, by simp, ((Below.refl _ w).alloc (Nat.le_refl _) _).alloc (by simp) _, (Boxed.new w _ _).alloc _, ?_⟩
 have := Boxed.new (w.alloc (.cells #[.int .i64 f] 3)) 3 (.int .i64 n)
 rwa [World.size_alloc] at this
/-- A month and its days, as cells. -/
def cl (l : List (Int × Int)) : List Value := l.flatMap fun x => [.int .i64 x.1, .int .i64 x.2]
theorem cl_snoc (l : List (Int × Int)) (x : Int × Int) : cl (l ++ [x]) = cl l ++ [.int .i64 x.1, .int .i64 x.2] := by simp [cl]
def badT (f n : Int) : Bool := decide (f < 1 ∨ n ≤ f ∨ 3652060 < n)
theorem months_no (f n : Int) (w : World) (h : badT f n = true) : Calls Tryd.prog 43 #[.int .i64 f, .int .i64 n] w fun e w' => e = .returned (.tuple #[.slice none 0 0, .int .i64 2]) ∧ Below w.heap.size w w' := by
 refine (callsIn_wide (n := 3)).1 ?_
 refine callsIn_of_wp_marks Tryd.func43 rfl trivial ?_ rfl
 simp only [Tryd.ntmps43, List.size_toArray, List.length_cons, List.length_nil, Nat.reduceAdd, Nat.reduceSub, Array.replicate_succ, Array.replicate_zero, List.push_toArray, List.append_toArray, List.nil_append, List.cons_append]
 have h' : f < 1 ∨ n ≤ f ∨ 3652060 < n := by simpa [badT] using h
 clear h
 by_cases h1 : f < 1
 ·gi_wp2
  exact ⟨.tuple #[.slice none 0 0, .int .i64 2], by simp [results, Tryd.results43, go_sem], rfl, Below.refl _ _⟩
 ·by_cases h2 : n ≤ f
  ·gi_wp2
   exact ⟨.tuple #[.slice none 0 0, .int .i64 2], by simp [results, Tryd.results43, go_sem], rfl, Below.refl _ _⟩
  ·have h3 : 3652060 < n := by omega
   gi_wp2
   exact ⟨.tuple #[.slice none 0 0, .int .i64 2], by simp [results, Tryd.results43, go_sem], rfl, Below.refl _ _⟩
theorem infoE : (Tryd.prog.info? 88).map (fun i => (i.zero, i.size, i.bytes)) = some (some (.agg #[.int .i64 0, .int .i64 0]), 2, 16) := by kernel_rfl
theorem app_block {W w1 : World} {b Bo : Nat} {v v' : Value} {tmp : Obj} (hg : (W.alloc tmp).grownBy w1 v.ownBlock) (hb : b < W.heap.size) (h1 : b ≠ Bo) (h2 : some b ≠ v.ownBlock) : (w1.setCell ⟨Bo, 0, none⟩ v').heap[b]? = W.heap[b]? :=
 (Below.heap_setCell _ _ _ b h1).trans ((hg.block b (by simp; omega) h2).trans (Below.heap_alloc _ _ _ hb))
theorem own_ne {W : World} {base e size n b : Nat} {v : Value} {xs : List Value} (h : W.ownsRow base e size v n xs) (hb : b < base) : some b ≠ v.ownBlock := fun e => by
 have := Go.Proofs.YtgceecnlgjmghaaDoorW.PrintWords.own_base h b e.symm
 omega
theorem own_ne' {W : World} {base e size n b : Nat} {v : Value} {xs : List Value} (h : W.ownsRow base e size v n xs) (hb : b < base) : v.ownBlock = none ∨ v.ownBlock ≠ some b := .inr fun e => own_ne h hb e.symm
set_option maxRecDepth 100000 in
set_option maxHeartbeats 2000000 in
theorem months_yes (f n : Int) (w : World) (hok : Ok f n) (T : Tab w) : Calls Tryd.prog 43 #[.int .i64 f, .int .i64 n] w fun e w' =>
  ∃ v, e = .returned (.tuple #[v, .int .i64 0]) ∧ w'.ownsRow w.heap.size 88 2 v (cnt f n) (cl (terms f n (cnt f n))) ∧ Below w.heap.size w w' := by
 refine (callsIn_wide (n := 3)).1 ?_
 refine callsIn_of_wp_marks Tryd.func43 rfl trivial ?_ rfl
 simp only [Tryd.ntmps43, List.size_toArray, List.length_cons, List.length_nil, Nat.reduceAdd, Nat.reduceSub, Array.replicate_succ, Array.replicate_zero, List.push_toArray, List.append_toArray, List.nil_append, List.cons_append]
 have hTl := World.block_lt_of_cell? w ⟨2, 0, none⟩ (T 0 (by omega))
 simp only at hTl
 have HT := Lib.hid T
 have HO := Lib.hid hok
 obtain ⟨h1, h2, h3⟩ := hok
 clear T
 have h1' : ¬ f < 1 := by omega
 have h2' : ¬ n ≤ f := by omega
 have h3' : ¬ 3652060 < n := by omega
 gi_wp2_with fail
 refine ⟨trivial, (touched_any f n _).mono ?_⟩
 rintro e w2 ⟨rfl, s2, B2, cf, cn⟩
 clear h1' h2' h3' h1 h2 h3
 simp only [World.size_alloc] at s2 B2 cf cn
 have sz := s2
 have bo : Boxed w2 w.heap.size 84 (.slice none 0 0) := (B2.block _ (by omega)).trans (Boxed.new w _ _)
 have b0 : Below w.heap.size w w2 := ((Below.refl _ w).alloc (Nat.le_refl _) _).trans (B2.mono (by omega))
 have T2 : Tab w2 := fun i hi => (b0.cell (p := ⟨2, i, none⟩) hTl).trans (HT.out i hi)
 have hcn := (cnt_spec HO.out).2.2.1
 obtain ⟨i0, hi, hz0, hz1, hz2⟩ := info_parts infoE
 have hst := touched_stops f n (w.heap.size + 1) (w.heap.size + 1 + 1) w2 HO.out (by omega) (by omega) T2 cf cn
 have HST := Lib.hid hst
 have hcnt : ∃ C, cnt f n = C := ⟨_, rfl⟩
 obtain ⟨C, hC⟩ := hcnt
 rw [hC] at HST hcn
 have HC := Lib.hid hC
 clear B2 cf cn T2 hst hC
 gi_wp2
 refine wpIn_range (L := [w.heap.size + 1]) rfl (by omega) (gf := 78) (lb := #[.pointer (some ⟨w.heap.size + 1, 0, none⟩), .pointer (some ⟨w.heap.size + 1 + 1, 0, none⟩)]) (by simp [go_sem]) trivial (enters_of Tryd.func78 (by kernel_rfl) rfl)
  HST.out (by simp; omega) (fun h k => h.trans k) (fun W l o o' hl _ _ => Kt.put W l o' hl (by omega) (by omega) (by omega)) (Below.refl _ _) (fun _ => rfl)
  (fun pre W => (∃ v, Boxed W w.heap.size 84 v ∧ W.ownsRow (w.heap.size + 3) 88 2 v pre.length (cl pre) ∧ True) ∧ Below w.heap.size w2 W)
  (fun _ _ _ => False)
  (OwnFrom.and (Own.from (holdsRow_own (w.heap.size + 3) w.heap.size 84 88 2 (fun pre : List (Int × Int) => pre.length) cl (fun _ _ => True)) _) (ownFrom_below (by omega) (by omega)))
  (fun _ _ _ _ _ hs _ _ => hs)
  (fun s A B row hs hg hr => by
   obtain ⟨⟨v, hb, ho, _⟩, hB⟩ := hs
   have hr' : row = none ∨ row = some (w.heap.size + 1) := by
    cases row with
    | none => exact .inl rfl
    | some r => have := hr r rfl; simp at this; exact .inr (by rw [this])
   rcases hr' with rfl | rfl
   ·exact ⟨⟨v, hb.kept hg (by simp), ho.kept hg (by cases v.ownBlock <;> simp), trivial⟩, hB.grown hg (by have := hB.size; omega) (fun k e => by cases e)⟩
   ·exact ⟨⟨v, hb.kept hg (by simp), ho.kept hg (own_ne' ho (by omega)), trivial⟩, hB.grown hg (by have := hB.size; omega) (fun k e => by cases e; omega)⟩)
  (fun _ _ _ _ _ hs _ _ => hs)
  ⟨⟨_, bo, World.ownsRow_nil _ _ _ _, trivial⟩, Below.refl _ _⟩ ?a1 ?assign ?body ?done ?stop
 case assign =>
  intro l x W K hK
  gi_wp2
  exact hK
 case body =>
  rintro l pre x W ⟨⟨v, hv, hr, _⟩, hB⟩ hlen
  have hc := hv.cell
  have hB1 : w.heap.size ≤ W.heap.size := Nat.le_trans b0.size hB.size
  have hB2 := hB.size
  have HV := Lib.hid (And.intro hv (And.intro hr hB))
  have hbs : w.heap.size + 3 ≤ W.heap.size := by omega
  gi_wp2_with (first | (gi_at_builtin; (refine wpListIn_append_own_at _ rfl _ _ 84 rfl (w.heap.size + 3) 88 i0 (.agg #[.int .i64 0, .int .i64 0]) 2 16 Tryd.underlying84 hi hz0 hz1 hz2 rfl (by decide) v pre.length (cl pre) rfl (HV.out.2.1.alloc _) ⟨W.heap.size, 0, none⟩ 1 1 [.int .i64 x.1, .int .i64 x.2] rfl rfl (cell_two_new _ _ _ _) ?h1 ?h63 ?hby ?hbase ?_); (case h1 => simp [Value.oneCell']); (case h63 => unfold maxLen; omega); (case hby => omega); (case hbase => simp; omega); intro v' w1 hown' hgrow _ hat; obtain ⟨g', cap', rfl⟩ := ownsRow_succ hown'; obtain ⟨hv1, hv2, hr2, hk2, hb2⟩ := HV.out.1.appended (by decide) (Go.Proofs.YtgceecnlgjmghaaDoorW.PrintWords.own_weaken HV.out.2.1 (show w.heap.size ≤ _ by omega)) hB1 (Nat.le_refl _) (Go.Proofs.YtgceecnlgjmghaaDoorW.PrintWords.own_weaken hown' (show w.heap.size ≤ _ by omega)) hgrow; have hc1 := hv1.cell; have hf1 := hv1.frozen))
  refine ⟨hk2.from _, ⟨hb2.size, app_block hgrow (by omega) (by omega) (own_ne HV.out.2.1 (by omega)), app_block hgrow (by omega) (by omega) (own_ne HV.out.2.1 (by omega)), app_block hgrow (by omega) (by omega) (own_ne HV.out.2.1 (by omega))⟩, ⟨⟨_, hv2, ?_, trivial⟩, HV.out.2.2.trans hb2⟩⟩
  rw [cl_snoc, List.length_append]
  exact hown'.kept (grownBy_setCell' _ _ _) (own_ne' hown' (by omega))
 case done =>
  rintro D ys W hD rfl ⟨⟨v, hv, hr, _⟩, hB⟩ hK
  have hc := hv.cell
  have HV := Lib.hid (And.intro hr hB)
  have HK := Lib.hid hK
  clear hK hr hB hv
  gi_wp2
  refine ⟨by simp, .inl ⟨_, _, rfl, run_takeDeferred HK.out, ?_⟩⟩
  refine ⟨.tuple #[v, .int .i64 0], ?_, v, rfl, ?_, ?_⟩
  ·simp [results, Tryd.results43, go_sem]
  ·have h := ownsRow_putObj (Go.Proofs.YtgceecnlgjmghaaDoorW.PrintWords.own_weaken HV.out.1 (show w.heap.size ≤ _ by omega)) (.deferred none) HK.out rfl
   rw [terms_len] at h
   rw [HC.out]
   exact h
  ·exact (b0.trans HV.out.2).trans (belowK_b (w := w) (Nat.le_refl _) _ D _ _ (by have := b0.size; omega) HK.out rfl rfl)
 case stop =>
  rintro D c pre W _ _ h _
  exact h.elim
end Go.Proofs.YtgceecnlgjmghaaDoor.pmon
namespace Go.Proofs.YtgceecnlgjmghaaDoor.PH
open Go.RowKit Go.Proofs.YtgceecnlgjmghaaDoorW.PrintWords
/-- A month and its days. -/
def shr (x : Int × Int) : S88 := ⟨x.1, x.2⟩
theorem reps_share (w : World) (base : Nat) (ok : Nat → Prop) : ∀ l : List (Int × Int), Reps (k88.M w base ok) 2 (l.map shr) (pmon.cl l)
 | [] => Reps.none _ _
 | x :: l => Reps.c2 (k88_mkM w base ok (shr x)) (reps_share w base ok l)
noncomputable def prorate_Months.f (a0 a1 : Int) : Option (List S88 × Int) := if pmon.badT a0 a1 = true then some ([], 2) else some ((Tm.terms a0 a1 (Tm.cnt a0 a1)).map shr, 0)
theorem prorate_Months.calls (a0 a1 : Int) (r1 : List S88) (r2 : Int) (w : World) (HTab : Aside0 (Tab w)) (h : prorate_Months.f a0 a1 = some (r1, r2)) :
  Calls Tryd.prog 43 #[.int .i64 a0, .int .i64 a1] w fun e w' => ∃ v0_ : Value, e = .returned (.tuple #[v0_, .int .i64 r2]) ∧ Kd.R k88 88 w' w.heap.size (fun _ => True) v0_ r1 ∧ Below w.heap.size w w' := by
 unfold prorate_Months.f at h
 split at h
 ·rename_i hb
  simp only [Option.some.injEq, Prod.mk.injEq] at h
  obtain ⟨rfl, rfl⟩ := h
  exact (pmon.months_no a0 a1 w hb).mono fun e w' ⟨he, hB⟩ => ⟨_, he, Kd.R_nil _ _ _ _ _, hB⟩
 ·rename_i hb
  simp only [Option.some.injEq, Prod.mk.injEq] at h
  obtain ⟨rfl, rfl⟩ := h
  have hok : Tm.Ok a0 a1 := by
   have : ¬ (a0 < 1 ∨ a1 ≤ a0 ∨ 3652060 < a1) := by simpa [pmon.badT] using hb
   exact ⟨by omega, by omega, by omega⟩
  refine (pmon.months_yes a0 a1 w hok HTab.out).mono fun e w' ⟨v, he, ho, hB⟩ => ⟨v, he, ⟨fun _ _ => trivial, _, ?_, reps_share _ _ _ _⟩, hB⟩
  rw [List.length_map, Tm.terms_len]
  exact ho
end Go.Proofs.YtgceecnlgjmghaaDoor.PH

