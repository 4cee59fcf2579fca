/- A loop over an iterator that reads what the rounds turn: what the rounds keep for it, and what it tells them of each thing. No conditions. What slices.Backward tells of a row that is turned meanwhile (a walk). No conditions. What sched.Cut answers (a walk), in the printed form. No conditions. What sched.Cut answers where it cuts (a walk), in the printed form. No conditions. What sched.made, Milestones and Straight answer (walks), in the printed form. No conditions but that numbers are of 64 bits. What sched.Straight answers (a walk), Straight and Milestones in the printed form. The table of the days ahead of months holds its numbers. -/
import Derived.Test.YtgceecnlgjmghaaDoorMMon
import Derived.Test.YtgceecnlgjmghaaDoorMSc1
import Derived.Test.YtgceecnlgjmghaaDoorMSp
namespace Go.Proofs.YtgceecnlgjmghaaDoor.rl
open Go.RowKit
variable {F : Fence} {n : Nat} {P : Program}
/-- The contract of such an iterator. -/
def SeqStopsT {α : Type} (F : Fence) (n : Nat) (P : Program) (g : Nat) (lb : Array Value) (encs : α → Array Value) (Kp : World → World → Prop) (S Sp : List α → Prop) (N : Nat) (L : List Nat) (w : World) (R : List α → World → Prop) (T : List α → α → Prop) : Prop :=
 ∀ (l : Nat) (J Jx : List α → World → Prop) (W : World), Below w.heap.size w W → Bears L J → Bears L Jx → (∀ pre W1, J pre W1 → R pre W1) →
  (∀ pre x W1, J pre W1 → pre.length < N → T pre x → YieldAt F (n - 1) P l (encs x) W1 fun e W' =>
   (e = .returned (.bool true) ∧ J (pre ++ [x]) W' ∧ Kp W1 W') ∨ (e = .returned (.bool false) ∧ Jx (pre ++ [x]) W')) →
  J [] W →
  CallsIn F n P g (#[.func (.yield l) #[] #[]] ++ lb) W fun e W' => (∃ v, e = .returned v) ∧ ((∃ xs, S xs ∧ J xs W') ∨ (∃ pre, Sp pre ∧ Jx pre W'))
/-- The caller's law, of an iterator that reads what its rounds turn: the rounds keep R for it, and it tells each round T. -/
theorem wpIn_rangeT {α : Type} {g : Operand} {ps : Array Tmp} {assign body : Code} {Q : Exit → Act → World → Prop} {a : Act} {w : World}
  (hro : F.round = none) (h1 : 1 ≤ n) {gf : Nat} {lb : Array Value} (hg : a.eval g = .func (.func gf) #[] lb) (hFg : F.fn gf) (eg : ∀ args w, (callFunc gf args).run P w = .ok (.enter gf args) w)
  {encs : α → Array Value} {Kp : World → World → Prop} {S Sp : List α → Prop} {N : Nat} {L : List Nat} {w0 : World} {R : List α → World → Prop} {T : List α → α → Prop} (hseq : SeqStopsT F (n - 1) P gf lb encs Kp S Sp N L w0 R T) (hL : ∀ r ∈ L, r < w.heap.size)
  (hKt : ∀ {A B C : World}, Kp A B → Kp B C → Kp A C) (hKb : ∀ (W : World) (l : Nat) (o o' : Obj), w.heap.size ≤ l → W.heap[l]? = some o → o.isCells = false → Kp W (W.putObj l o')) (hb0 : Below w0.heap.size w0 w) (hps : ∀ x, (encs x).size = ps.size)
  (I : List α → World → Prop) (Ix : Code → List α → World → Prop) (hI : OwnFrom w.heap.size I) (hIx : ∀ c, OwnFrom w.heap.size (Ix c)) (hIR : ∀ pre W, I pre W → R pre W) (bI : Bears L I) (bIx : ∀ c, Bears L (Ix c)) (h0 : I [] w) (Ax : α → Act → World → Prop) (hAx : ∀ x a', OwnFrom w.heap.size (fun (_ : Unit) W => Ax x a' W))
  (hassign : ∀ (l : Nat) (pre : List α) (x : α) (W : World) (K : Act → World → Prop), I pre W → (∀ a' W', KeepsFrom w.heap.size W W' → Kp W W' → I pre W' → Ax x a' W' → K a' W') →
   assign.wpIn (F.inRound l) (n - 1 - 1) P (Exit.then K (fun _ _ _ => False)) { tmps := (ps.zip (encs x)).foldl (fun t (p, v) => t.setIfInBounds p v) a.tmps, defers := [] } W)
  (hbody : ∀ (l : Nat) (pre : List α) (x : α) (a' : Act) (W : World), I pre W → Ax x a' W → pre.length < N → T pre x → body.wpIn (F.inRound l) (n - 1 - 1) P (ownPostG w.heap.size Kp I Ix (pre ++ [x]) W) a' W)
  (hdone : ∀ (D : Nat) (xs : List α) (W : World), w.heap.size ≤ D → S xs → I xs W → W.heap[D]? = some (.deferred (some [])) → Q .normal { a with defers := { target := .collected D, args := #[] } :: a.defers } W)
  (hstop : ∀ (D : Nat) (c : Code) (pre : List α) (W : World), w.heap.size ≤ D → Sp pre → Ix c pre W → W.heap[D]? = some (.deferred (some [])) → c.wpIn F n P Q { a with defers := { target := .collected D, args := #[] } :: a.defers } W) :
  (Code.rangeFunc g ps assign body).wpIn F n P Q a w := by
 refine wpIn_rangeFunc fun fn hfn => ?_
 rw [hro]
 -- the loop's record, and the world in which the iterator is called
 obtain ⟨rec, hrec⟩ : ∃ rec : LoopState → Option Code → Loop, rec = fun st pe => { state := st, pending := pe, fn, tmps := a.tmps, params := ps, assign, body, defers := w.heap.size } := ⟨_, rfl⟩
 let m := w.heap.size
 have hm : w.heap.size = m := rfl
 let V := (w.alloc (.deferred (some []))).alloc (.loop (rec .ready none))
 have hV : V = (w.alloc (.deferred (some []))).alloc (.loop (rec .ready none)) := rfl
 have rV : V.heap[m + 1]? = some (.loop (rec .ready none)) := by
  have := World.alloc_heap_new (w.alloc (.deferred (some []))) (.loop (rec .ready none))
  rwa [World.size_alloc] at this
 have dV : V.heap[m]? = some (.deferred (some [])) := (Below.heap_alloc _ _ _ (by simp [m])).trans (World.alloc_heap_new w _)
 have iV : I [] V := hI.alloc _ (hI.alloc _ h0)
 have bV : Below w0.heap.size w0 V := hb0.trans ((((Below.refl _ w).alloc (Nat.le_refl _) _).alloc (by simp) _).mono hb0.size)
 have n0 : m ∉ L := fun h => absurd (hL _ h) (by omega)
 have n1 : m + 1 ∉ L := fun h => absurd (hL _ h) (by omega)
 refine ⟨m + 1, [{ target := .collected m, args := #[] }], V, { target := .fn (.func gf) lb, args := #[.func (.yield (m + 1)) #[] #[]] }, V, gf,
  #[.func (.yield (m + 1)) #[] #[]] ++ lb, V, by rw [hV, hrec]; exact run_enterLoop_outer _ _ _ _ _, ?_, ?_, by simp [invoke, go_sem, eg], fun _ => h1, ?_⟩
 ·simp only [resolve, hg]
  simp [go_sem]
 ·intro f' hf'
  simp [Target.leads] at hf'
  exact hf' ▸ hFg
 let J : List α → World → Prop := fun pre W => (I pre W ∧ W.heap[m + 1]? = some (.loop (rec .ready none))) ∧ W.heap[m]? = some (.deferred (some []))
 let Jx : List α → World → Prop := fun pre W => ∃ c, (Ix c pre W ∧ W.heap[m + 1]? = some (.loop (rec .done (some c)))) ∧ W.heap[m]? = some (.deferred (some []))
 have bJ : Bears L J := (bI.and (Bears.block n1 _)).and (Bears.block n0 _)
 have bJx : Bears L Jx := fun s A B row ⟨c, hc⟩ hg hr => ⟨c, (((bIx c).and (Bears.block n1 (fun _ => Obj.loop (rec .done (some c))))).and (Bears.block n0 (fun _ => Obj.deferred (some [])))) s A B row hc hg hr⟩
 refine (hseq (m + 1) J Jx V bV bJ bJx (fun pre W1 q => hIR _ _ q.1.1) ?_ ⟨⟨iV, rV⟩, dV⟩).mono ?_
 ·-- a round
  rintro pre x W0 ⟨⟨hi0, hl0⟩, hk0⟩ hlen hT
  have hy := run_yield (P := P) (args := encs x) hl0 (by rw [hrec]; exact hps x)
  rw [hrec] at hy
  refine ⟨fn, _, assign, body, hy, roundIn_of_wpIn hfn (hassign _ pre x W0 _ hi0 ?_)⟩
  clear hy
  intro a' W hkf hkp0 hi hax
  have hl := hkf.same _ _ (by omega) hl0 rfl
  have hk := hkf.same _ _ (Nat.le_refl _) hk0 rfl
  have hlt : m + 1 < W.heap.size := (Array.getElem?_eq_some_iff.1 hl).1
  refine ⟨_, run_beginRound hl (by rw [hrec]), ?_⟩
  obtain ⟨U, hU⟩ : ∃ U, W.putObj (m + 1) (.loop { rec .ready none with state := .busy }) = U := ⟨_, rfl⟩
  have iU : I pre U := hU ▸ hI.putObj _ hi (by omega) hl rfl
  have kU : Kp W U := hU ▸ hKb _ _ _ _ (by omega) hl rfl
  have rU : U.heap[m + 1]? = some (.loop { rec .ready none with state := .busy }) := hU ▸ World.putObj_heap_same hlt
  have dU : U.heap[m]? = some (.deferred (some [])) := hU ▸ (World.putObj_heap_other (by omega)).trans hk
  have aU : Ax x a' U := hU ▸ (hAx x a').putObj (s := ()) _ hax (by omega) hl rfl
  rw [hU]
  refine wpIn_mono (hbody _ pre x a' U iU aU hlen hT) ?_
  -- what the end of a round does
  have fin : ∀ (j : Option Code) (X : World), KeepsFrom m U X → ∃ Y, (Instr.endRound (m + 1) j).run P X = .ok (.bool j.isNone) Y ∧ Y = X.putObj (m + 1) (.loop (rec (if j.isNone then .ready else .done) j)) ∧
    X.heap[m + 1]? = some (.loop { rec .ready none with state := .busy }) ∧ Y.heap[m + 1]? = some (.loop (rec (if j.isNone then .ready else .done) j)) ∧ Y.heap[m]? = some (.deferred (some [])) := by
   intro j X hX
   have r3 := hX.same _ _ (by omega) rU rfl
   have e := run_endRound (P := P) j r3
   rw [hrec] at e r3 ⊢
   exact ⟨_, e, rfl, r3, World.putObj_heap_same (Array.getElem?_eq_some_iff.1 r3).1, (World.putObj_heap_other (by omega)).trans (hX.same _ _ (Nat.le_refl _) dU rfl)⟩
  rintro e a3 X hp
  cases e with
  | normal =>
   obtain ⟨hX, hK, hi3⟩ := hp
   obtain ⟨Y, q1, rfl, q2, q3, q4⟩ := fin none X hX
   exact ⟨_, _, q1, .inl ⟨rfl, ⟨⟨hI.putObj _ hi3 (by omega) q2 rfl, q3⟩, q4⟩, hKt hkp0 (hKt (hKt kU hK) (hKb _ _ _ _ (by omega) q2 rfl))⟩⟩
  | ret =>
   obtain ⟨hX, hi3⟩ := hp
   obtain ⟨Y, q1, rfl, q2, q3, q4⟩ := fin (some .ret) X hX
   exact ⟨_, _, q1, .inr ⟨rfl, .ret, ⟨(hIx _).putObj _ hi3 (by omega) q2 rfl, q3⟩, q4⟩⟩
  | exit id =>
   obtain ⟨hX, hi3⟩ := hp
   obtain ⟨Y, q1, rfl, q2, q3, q4⟩ := fin (some (.exit id)) X hX
   exact ⟨_, _, q1, .inr ⟨rfl, .exit id, ⟨(hIx _).putObj _ hi3 (by omega) q2 rfl, q3⟩, q4⟩⟩
  | goto t =>
   obtain ⟨hX, hi3⟩ := hp
   obtain ⟨Y, q1, rfl, q2, q3, q4⟩ := fin (some (.goto t)) X hX
   exact ⟨_, _, q1, .inr ⟨rfl, .goto t, ⟨(hIx _).putObj _ hi3 (by omega) q2 rfl, q3⟩, q4⟩⟩
  | panic ch => exact hp.elim
  | outgrown => exact hp.elim
 ·-- behind the iterator
  rintro e W ⟨⟨v, rfl⟩, (⟨xs, hS, ⟨hi, hl⟩, hk⟩ | ⟨pre, hSp, c, ⟨hi, hl⟩, hk⟩)⟩
  ·have q := run_endLoop (P := P) hl (by rw [hrec]; simp)
   rw [hrec] at q
   exact ⟨none, _, q, hdone _ xs _ (Nat.le_refl _) hS (hI.putObj _ hi (by omega) hl rfl) ((World.putObj_heap_other (by omega)).trans hk)⟩
  ·have q := run_endLoop (P := P) hl (by rw [hrec]; simp)
   rw [hrec] at q
   exact ⟨some c, _, q, hstop _ c pre _ (Nat.le_refl _) hSp ((hIx c).putObj _ hi (by omega) hl rfl) ((World.putObj_heap_other (by omega)).trans hk)⟩
end Go.Proofs.YtgceecnlgjmghaaDoor.rl

namespace Go.Proofs.YtgceecnlgjmghaaDoor.sch
open Go.RowKit Go.Proofs.YtgceecnlgjmghaaDoor.base Go.Shelf Go.Proofs.YtgceecnlgjmghaaDoor.rl Go.Proofs.YtgceecnlgjmghaaDoorW.PrintMore Go.Proofs.YtgceecnlgjmghaaDoorW.PrintWords
set_option linter.unusedSimpArgs false
attribute [local go_sem] Oper.semAt_some min2_int min_two
/-- The first so many from the end. -/
def bk (l : List Sl) (k : Nat) : List (Nat × Sl) := (List.range k).map (fun j => (l.length - 1 - j, l.getD (l.length - 1 - j) zs))
theorem bk_len (l : List Sl) (k : Nat) : (bk l k).length = k := by simp [bk]
theorem bk_succ (l : List Sl) (k : Nat) : bk l (k + 1) = bk l k ++ [(l.length - 1 - k, l.getD (l.length - 1 - k) zs)] := by simp [bk, List.range_succ]
/-- Those that have not been told lie as they lay. -/
def Ahead (g : Nat) (l : List Sl) (pre : List (Nat × Sl)) (W : World) : Prop := ∀ j, j + pre.length < l.length →
 W.cell? ⟨g, j * 3, none⟩ = some (.int .i64 (l.getD j zs).f0) ∧ W.cell? ⟨g, j * 3 + 1, none⟩ = some (.int .i64 (l.getD j zs).f1) ∧ W.cell? ⟨g, j * 3 + 2, none⟩ = some (.bool (l.getD j zs).f2)
def Told (l : List Sl) (pre : List (Nat × Sl)) (x : Nat × Sl) : Prop := pre = bk l pre.length ∧ x = (l.length - 1 - pre.length, l.getD (l.length - 1 - pre.length) zs)
set_option maxRecDepth 100000 in
set_option maxHeartbeats 2000000 in
theorem back_in (ly B M g cap : Nat) (l : List Sl) (J Jx : List (Nat × Sl) → World → Prop) (hR : ∀ pre W, J pre W → Ahead g l pre W)
  (hY : ∀ pre x W, J pre W → pre.length < l.length → Told l pre x → YieldAt Fence.wide 1 Tryd.prog ly (encA x) W fun e W' =>
   (e = .returned (.bool true) ∧ J (pre ++ [x]) W' ∧ Ka M [B] W W') ∨ (e = .returned (.bool false) ∧ Jx (pre ++ [x]) W'))
  (W : World) (hn : l.length ≤ 4611686018427387904) (cl : Boxed W B 23 (.slice (some ⟨g, 0, none⟩) l.length cap)) (h0 : J [] W) :
  CallsIn Fence.wide 2 Tryd.prog 61 #[.func (.yield ly) #[] #[], .pointer (some ⟨B, 0, none⟩)] W fun e W' => (∃ v, e = .returned v) ∧
   ((∃ ys, ys = bk l l.length ∧ J ys W') ∨ (∃ pre, True ∧ Jx pre W')) := by
 refine callsIn_of_wp Tryd.func61 rfl trivial ?_ rfl
 simp only [Tryd.ntmps61, List.size_toArray, List.length_cons, List.length_nil, Nat.reduceAdd, Nat.reduceSub, Array.replicate_succ, Array.replicate_zero, List.push_toArray, List.append_toArray, List.nil_append, List.cons_append]
 have HY := Lib.hid hY
 have HR := Lib.hid hR
 have HB := Lib.hid cl
 have cl1 := cl.cell
 have w0 : wrap64 ((l.length : Int) - 1) = (l.length : Int) - 1 := by unfold wrap64; omega
 clear hY hR cl
 gi_wp2
 clear w0
 gi_loopw [3] (fun m wr => ∃ k : Nat, m = .int .i64 ((l.length : Int) - 1 - k) ∧ k ≤ l.length ∧ J (bk l k) wr ∧ Ka M [B] W wr) (fun m _ => (intOf m + 1).toNat)
 case atStart => exact ⟨0, by simp, Nat.zero_le _, h0, Ka.refl _ _ _⟩
 case round =>
  obtain ⟨k, rfl, hk, hJs, hka⟩ := hrel
  clear cl1
  by_cases hlt : k < l.length
  ·obtain ⟨i, hi⟩ : ∃ i : Nat, l.length - 1 - k = i := ⟨_, rfl⟩
   have ei : (l.length : Int) - 1 - k = (i : Int) := by omega
   have HBS := Lib.hid (bk_succ l k)
   rw [hi] at HBS
   rw [ei]
   have hah := HR.out _ _ hJs i (by rw [bk_len]; omega)
   obtain ⟨c0, c1, c2⟩ := hah
   have cb := (show Boxed wr B _ _ from (hka.ks B (by simp)).trans HB.out).cell
   have q1 : (0 : Int) ≤ (i : Int) := by omega
   have q2 : i < l.length := by omega
   have HT := Lib.hid (show Told l (bk l k) (i, l.getD i zs) from ⟨by rw [bk_len], by rw [bk_len, hi]⟩)
   have HJS := Lib.hid (And.intro hJs hka)
   have HI := Lib.hid (And.intro hi ei)
   have HLT := Lib.hid hlt
   obtain ⟨fn, tmps, assign, body, hy, hRR⟩ := HY.out _ (i, l.getD i zs) wr HJS.out.1 (by rw [bk_len]; exact hlt) HT.out
   dsimp only [encA, sv] at hy
   have w1 : (i : Int) - 1 = (l.length : Int) - 1 - ((k + 1 : Nat) : Int) := by omega
   have W1 := Lib.hid w1
   clear hJs hka ei hi w1
   generalize l.getD i zs = x at *
   gi_wp2
   refine hRR.mono ?_
   rintro e' W3 (⟨rfl, J3, k3⟩ | ⟨rfl, Jx3⟩)
   ·have H3 := Lib.hid (And.intro J3 k3)
    clear J3 k3
    gi_wp2
    go_roundw
    case rel =>
     refine ⟨k + 1, by rw [W1.out], HLT.out, ?_, HJS.out.2.trans H3.out.2⟩
     rw [HBS.out]
     exact H3.out.1
    case measure => simp [intOf]
   ·gi_wp2
    refine bodyPost_ret (results_none rfl _ _ _) rfl ?_
    exact ⟨⟨_, rfl⟩, .inr ⟨_, trivial, Jx3⟩⟩
  ·obtain rfl : k = l.length := by omega
   rw [show (l.length : Int) - 1 - (l.length : Int) = -1 by omega]
   gi_wp2
   go_end0
   exact ⟨⟨_, rfl⟩, .inl ⟨_, rfl, hJs⟩⟩
theorem back_stops (B M g cap : Nat) (l : List Sl) (w : World) (hn : l.length ≤ 4611686018427387904) (cl : Boxed w B 23 (.slice (some ⟨g, 0, none⟩) l.length cap)) :
  SeqStopsT Fence.wide 2 Tryd.prog 61 #[.pointer (some ⟨B, 0, none⟩)] encA (Ka M [B])
   (fun ys => ys = bk l l.length) (fun _ => True) l.length [] w (Ahead g l) (Told l) := fun ly J Jx W hW _ _ hR hY h0 =>
 back_in ly B M g cap l J Jx hR hY W hn ((hW.block _ cl.lt).trans cl) h0
theorem back_any (A : Option Addr) (n c : Nat) (w : World) : CallsIn Fence.wide 2 Tryd.prog 37 #[.slice A n c] w fun e w' =>
  e = .returned (.func (.func 61) #[] #[.pointer (some ⟨w.heap.size, 0, none⟩)]) ∧ w'.heap.size = w.heap.size + 1 ∧ Below w.heap.size w w' ∧ Boxed w' w.heap.size 23 (.slice A n c) := by
 refine callsIn_of_wp Tryd.func37 rfl trivial ?_ rfl
 simp only [Tryd.ntmps37, List.size_toArray, List.length_cons, List.length_nil, Nat.reduceAdd, Nat.reduceSub, Array.replicate_succ, Array.replicate_zero, List.push_toArray, List.append_toArray, List.nil_append, List.cons_append]
 gi_wp2
 go_ret
 exact ⟨rfl, by simp, (Below.refl _ w).alloc (Nat.le_refl _) _, Boxed.new w _ _⟩
/-! Cutting, in plain words. -/
def mnI (a b : Int) : Int := if a < b then a else b
def cutS (st : List Sl × Int) (y : Nat × Sl) : List Sl × Int :=
 if opn y.2 = true then (st.1.set y.1 ⟨(st.1.getD y.1 zs).f0, wrap64 ((st.1.getD y.1 zs).f1 - mnI st.2 y.2.f1), (st.1.getD y.1 zs).f2⟩, wrap64 (st.2 - mnI st.2 y.2.f1)) else st
def cutP (l : List Sl) (n : Int) (ys : List (Nat × Sl)) : List Sl × Int := ys.foldl cutS (l, n)
theorem cutP_snoc (l : List Sl) (n : Int) (ys : List (Nat × Sl)) (y : Nat × Sl) : cutP l n (ys ++ [y]) = cutS (cutP l n ys) y := by simp [cutP]
theorem cutS_len (st : List Sl × Int) (y : Nat × Sl) : (cutS st y).1.length = st.1.length := by
 unfold cutS
 split <;> simp
theorem cutP_len (l : List Sl) (n : Int) : ∀ k, (cutP l n (bk l k)).1.length = l.length
 | 0 => rfl
 | k + 1 => by rw [bk_succ, cutP_snoc, cutS_len, cutP_len l n k]
theorem cut_ahead (l : List Sl) (n : Int) : ∀ k, k ≤ l.length → ∀ j, j + k < l.length → (cutP l n (bk l k)).1.getD j zs = l.getD j zs
 | 0, _, j, _ => rfl
 | k + 1, hk, j, hj => by
  have ih := cut_ahead l n k (by omega) j (by omega)
  rw [bk_succ, cutP_snoc]
  unfold cutS
  split
  ·simp only
   rw [← ih]
   simp only [List.getD_eq_getElem?_getD, List.getElem?_set_ne (show l.length - 1 - k ≠ j by omega)]
  ·exact ih
end Go.Proofs.YtgceecnlgjmghaaDoor.sch

namespace Go.Proofs.YtgceecnlgjmghaaDoor.sch
open Go.RowKit Go.Proofs.YtgceecnlgjmghaaDoor.base Go.Shelf Go.Proofs.YtgceecnlgjmghaaDoor.rl Go.Proofs.YtgceecnlgjmghaaDoorW.PrintMore Go.Proofs.YtgceecnlgjmghaaDoorW.PrintWords
set_option linter.unusedSimpArgs false
attribute [local go_sem] Oper.semAt_some min2_int min_two
theorem cut_pre (w : World) (a0 a1 a2 a3 m : Int) (A : Option Addr) (c : Nat) (l : List Sl) (V : World) (hV : (((w.alloc (.cells #[.int .u64 a0, .int .u64 a1, .int .i64 a2, .int .u8 a3, .slice A l.length c] 25)).alloc (.cells #[.int .i64 m] 2)).alloc (.cells #[.int .u64 0, .int .u64 0, .int .i64 0, .int .u8 0, .slice none 0 0] 25)) = V) :
  S5 V w.heap.size (.int .u64 a0) (.int .u64 a1) (.int .i64 a2) (.int .u8 a3) (.slice A l.length c) ∧ Boxed V (w.heap.size + 1) 2 (.int .i64 m) ∧ S5 V (w.heap.size + 1 + 1) (.int .u64 0) (.int .u64 0) (.int .i64 0) (.int .u8 0) (.slice none 0 0) ∧ V.heap.size = w.heap.size + 3 ∧ Below w.heap.size w V := by
 subst hV
 have h1 := blk_new w #[.int .u64 a0, .int .u64 a1, .int .i64 a2, .int .u8 a3, .slice A l.length c] 25
 have h2 := blk_new (w.alloc (.cells #[.int .u64 a0, .int .u64 a1, .int .i64 a2, .int .u8 a3, .slice A l.length c] 25)) #[.int .i64 m] 2
 have h3 := blk_new ((w.alloc (.cells #[.int .u64 a0, .int .u64 a1, .int .i64 a2, .int .u8 a3, .slice A l.length c] 25)).alloc (.cells #[.int .i64 m] 2)) #[.int .u64 0, .int .u64 0, .int .i64 0, .int .u8 0, .slice none 0 0] 25
 simp only [World.size_alloc] at h2 h3
 refine ⟨?_, ?_, h3, by simp, ((((Below.refl _ w).alloc (Nat.le_refl _) _).alloc (by simp) _).alloc (by simp <;> omega) _)⟩
 ·exact (Below.heap_alloc _ _ _ (by simp <;> omega)).trans ((Below.heap_alloc _ _ _ (by simp)).trans h1)
 ·exact (Below.heap_alloc _ _ _ (by simp)).trans h2


theorem cut_no (w : World) (a0 a1 a2 a3 : Int) (A : Option Addr) (c : Nat) (l : List Sl) (m : Int) (hC : Csl w A l) (h : okS a0 a2 a3 l = false ∨ m < 1) :
  Calls Tryd.prog 14 #[V5 a0 a1 a2 a3 (.slice A l.length c), .int .i64 m] w fun e w' => e = .returned (.tuple #[Z5, .int .i64 2]) ∧ Below w.heap.size w w' := by
 refine (callsIn_wide (n := 3)).1 ?_
 refine callsIn_of_wp_marks Tryd.func14 rfl trivial ?_ rfl
 simp only [Tryd.ntmps14, List.size_toArray, List.length_cons, List.length_nil, Nat.reduceAdd, Nat.reduceSub, Array.replicate_succ, Array.replicate_zero, List.push_toArray, List.append_toArray, List.nil_append, List.cons_append]
 have HK := Lib.hid (fun w' (q : Below w.heap.size w w') => check_is w' a0 a1 a2 a3 A c l (Kd.C_below hC q))
 obtain ⟨V, hV⟩ : ∃ V, (((w.alloc (.cells #[.int .u64 a0, .int .u64 a1, .int .i64 a2, .int .u8 a3, .slice A l.length c] 25)).alloc (.cells #[.int .i64 m] 2)).alloc (.cells #[.int .u64 0, .int .u64 0, .int .i64 0, .int .u8 0, .slice none 0 0] 25)) = V := ⟨_, rfl⟩
 have HF := Lib.hid (cut_pre w a0 a1 a2 a3 m A c l V hV)
 have HV := Lib.hid hV
 clear hV hC
 cases ho : okS a0 a2 a3 l with
 | false =>
  rw [chk_no ho] at HK
  clear h ho
  gi_wp2_with fail
  rw [HV.out]
  refine ⟨trivial, (callsIn_wide.2 (HK.out V HF.out.2.2.2.2)).mono ?_⟩
  rintro e W ⟨rfl, hB⟩
  have g1 : S5 W w.heap.size _ _ _ _ _ := (hB.block w.heap.size (by have := HF.out.2.2.2.1; omega)).trans HF.out.1
  have g2 : Boxed W (w.heap.size + 1) _ _ := (hB.block (w.heap.size + 1) (by have := HF.out.2.2.2.1; omega)).trans HF.out.2.1
  have g3 : S5 W (w.heap.size + 1 + 1) _ _ _ _ _ := (hB.block (w.heap.size + 1 + 1) (by have := HF.out.2.2.2.1; omega)).trans HF.out.2.2.1
  have HR := Lib.hid (And.intro (HF.out.2.2.2.2.trans (hB.mono HF.out.2.2.2.2.size)) (And.intro g1 (And.intro g2 g3)))
  obtain ⟨c0, c1, c2, c3, c4⟩ := g1.cells
  obtain ⟨e0, e1, e2, e3, e4⟩ := g3.cells
  obtain ⟨y0, y1, y2, y3, y4⟩ := g3.fz
  have dm := g2.cell
  clear hB g1 g2 g3

  gi_wp2
  have f3 := HR.out.2.2.2.put (.int .u64 0) (.int .u64 0) (.int .i64 0) (.int .u8 0) (.slice none 0 0)
  obtain ⟨r0, r1, r2, r3, r4⟩ := f3.cells
  refine ⟨.tuple #[Z5, .int .i64 2], by simp [results, Tryd.results14, go_sem, r0, r1, r2, r3, r4], rfl, ?_⟩
  exact below5 HR.out.1 (by omega) _ _ _ _ _
 | true =>
  rw [show chk a0 a2 a3 l = 0 by rw [chk, ho]; rfl] at HK
  have h3 : m < 1 := by
   rcases h with h | h
   ·rw [ho] at h; cases h
   ·exact h
  clear h ho
  gi_wp2_with fail
  rw [HV.out]
  refine ⟨trivial, (callsIn_wide.2 (HK.out V HF.out.2.2.2.2)).mono ?_⟩
  rintro e W ⟨rfl, hB⟩
  have g1 : S5 W w.heap.size _ _ _ _ _ := (hB.block w.heap.size (by have := HF.out.2.2.2.1; omega)).trans HF.out.1
  have g2 : Boxed W (w.heap.size + 1) _ _ := (hB.block (w.heap.size + 1) (by have := HF.out.2.2.2.1; omega)).trans HF.out.2.1
  have g3 : S5 W (w.heap.size + 1 + 1) _ _ _ _ _ := (hB.block (w.heap.size + 1 + 1) (by have := HF.out.2.2.2.1; omega)).trans HF.out.2.2.1
  have HR := Lib.hid (And.intro (HF.out.2.2.2.2.trans (hB.mono HF.out.2.2.2.2.size)) (And.intro g1 (And.intro g2 g3)))
  obtain ⟨c0, c1, c2, c3, c4⟩ := g1.cells
  obtain ⟨e0, e1, e2, e3, e4⟩ := g3.cells
  obtain ⟨y0, y1, y2, y3, y4⟩ := g3.fz
  have dm := g2.cell
  clear hB g1 g2 g3

  gi_wp2
  have f3 := HR.out.2.2.2.put (.int .u64 0) (.int .u64 0) (.int .i64 0) (.int .u8 0) (.slice none 0 0)
  obtain ⟨r0, r1, r2, r3, r4⟩ := f3.cells
  refine ⟨.tuple #[Z5, .int .i64 2], by simp [results, Tryd.results14, go_sem, r0, r1, r2, r3, r4], rfl, ?_⟩
  exact below5 HR.out.1 (by omega) _ _ _ _ _
set_option maxRecDepth 100000 in
set_option maxHeartbeats 2000000 in
/-- Where it is too much, or the last version. -/
theorem cut_state (w : World) (a0 a1 a2 a3 : Int) (A : Option Addr) (c : Nat) (l : List Sl) (m : Int) (hC : Csl w A l) (ho : okS a0 a2 a3 l = true) (hm : ¬ m < 1) (h : lft a0 a2 a3 l < m ∨ a2 = 1000000) :
  Calls Tryd.prog 14 #[V5 a0 a1 a2 a3 (.slice A l.length c), .int .i64 m] w fun e w' => e = .returned (.tuple #[Z5, .int .i64 9]) ∧ Below w.heap.size w w' := by
 refine (callsIn_wide (n := 3)).1 ?_
 refine callsIn_of_wp_marks Tryd.func14 rfl trivial ?_ rfl
 simp only [Tryd.ntmps14, List.size_toArray, List.length_cons, List.length_nil, Nat.reduceAdd, Nat.reduceSub, Array.replicate_succ, Array.replicate_zero, List.push_toArray, List.append_toArray, List.nil_append, List.cons_append]
 refine wpIn_mono (Q := noP _) ?_ noP_le
 have HK := Lib.hid (fun w' (q : Below w.heap.size w w') => check_is w' a0 a1 a2 a3 A c l (Kd.C_below hC q))
 have HL := Lib.hid (fun w' (q : Below w.heap.size w w') => left_is w' a0 a1 a2 a3 A c l (Kd.C_below hC q))
 rw [show chk a0 a2 a3 l = 0 by rw [chk, ho]; rfl] at HK
 obtain ⟨V, hV⟩ : ∃ V, (((w.alloc (.cells #[.int .u64 a0, .int .u64 a1, .int .i64 a2, .int .u8 a3, .slice A l.length c] 25)).alloc (.cells #[.int .i64 m] 2)).alloc (.cells #[.int .u64 0, .int .u64 0, .int .i64 0, .int .u8 0, .slice none 0 0] 25)) = V := ⟨_, rfl⟩
 have HF := Lib.hid (cut_pre w a0 a1 a2 a3 m A c l V hV)
 have HV := Lib.hid hV
 have hmo : Tryd.prog.follows .mixedOrders = true := by kernel_rfl
 clear hV hC ho
 generalize lft a0 a2 a3 l = lf at *
 have g0 : decide (m < 1) = false := decide_eq_false hm
 by_cases h1 : m > lf
 ·clear h
  have g1 : decide (m > lf) = true := decide_eq_true h1
  have g2 : decide (lf < m) = true := decide_eq_true h1
  clear h1
  gi_upto_region 3 with (first | (rw [HV.out]; refine ⟨trivial, (callsIn_wide.2 (HK.out V HF.out.2.2.2.2)).mono ?_⟩; rintro e W ⟨rfl, hB⟩; have g1 : S5 W w.heap.size _ _ _ _ _ := (hB.block w.heap.size (by have := HF.out.2.2.2.1; omega)).trans HF.out.1; have g2 : Boxed W (w.heap.size + 1) _ _ := (hB.block (w.heap.size + 1) (by have := HF.out.2.2.2.1; omega)).trans HF.out.2.1; have g3 : S5 W (w.heap.size + 1 + 1) _ _ _ _ _ := (hB.block (w.heap.size + 1 + 1) (by have := HF.out.2.2.2.1; omega)).trans HF.out.2.2.1; have HR := Lib.hid (And.intro (HF.out.2.2.2.2.trans (hB.mono HF.out.2.2.2.2.size)) (And.intro g1 (And.intro g2 g3))); obtain ⟨c0, c1, c2, c3, c4⟩ := g1.cells; obtain ⟨e0, e1, e2, e3, e4⟩ := g3.cells; obtain ⟨y0, y1, y2, y3, y4⟩ := g3.fz; have dm := g2.cell; clear hB g1 g2 g3))
  first | gi_region_with_o (refine ⟨trivial, (callsIn_wide.2 (HL.out _ (HR.out.1.trans (below_drew1 (Below.refl _ _))))).mono ?_⟩; rintro e W2 ⟨rfl, B2⟩; have b2 := blk_lt HR.out.2.2.2; have d2 := (B2.cell (p := ⟨w.heap.size, 2, none⟩) (by simp; omega)).trans c2; have d1 := (B2.cell (p := ⟨w.heap.size + 1, 0, none⟩) (by simp; omega)).trans dm; have H2 := Lib.hid (show Below W.heap.size W W2 from ⟨B2.os, B2.tape, B2.output, B2.size, B2.block⟩); clear B2 b2) | fail
  all_goals (
   have u3 : S5 W2 (w.heap.size + 1 + 1) _ _ _ _ _ := (H2.out.block _ (blk_lt HR.out.2.2.2)).trans HR.out.2.2.2
   have bW := HR.out.1.trans (H2.out.mono HR.out.1.size)
   have HU := Lib.hid (And.intro u3 bW)
   clear c0 c1 c2 c3 c4 e0 e1 e2 e3 e4 y0 y1 y2 y3 y4 dm d1 d2
   obtain ⟨e0, e1, e2, e3, e4⟩ := u3.cells
   obtain ⟨y0, y1, y2, y3, y4⟩ := u3.fz
   clear u3 bW
   gi_wp2
   refine noP_ret ?_
   have f3 := HU.out.1.put (.int .u64 0) (.int .u64 0) (.int .i64 0) (.int .u8 0) (.slice none 0 0)
   obtain ⟨r0, r1, r2, r3, r4⟩ := f3.cells
   refine ⟨.tuple #[Z5, .int .i64 9], by simp [results, Tryd.results14, go_sem, r0, r1, r2, r3, r4], rfl, ?_⟩
   exact below5 HU.out.2 (by omega) _ _ _ _ _
   )
 ·have h2 : a2 = 1000000 := by omega
  subst h2
  clear h
  have g1 : decide (m > lf) = false := decide_eq_false h1
  have g2 : decide (lf < m) = false := decide_eq_false h1
  clear h1
  gi_upto_region 3 with (first | (rw [HV.out]; refine ⟨trivial, (callsIn_wide.2 (HK.out V HF.out.2.2.2.2)).mono ?_⟩; rintro e W ⟨rfl, hB⟩; have g1 : S5 W w.heap.size _ _ _ _ _ := (hB.block w.heap.size (by have := HF.out.2.2.2.1; omega)).trans HF.out.1; have g2 : Boxed W (w.heap.size + 1) _ _ := (hB.block (w.heap.size + 1) (by have := HF.out.2.2.2.1; omega)).trans HF.out.2.1; have g3 : S5 W (w.heap.size + 1 + 1) _ _ _ _ _ := (hB.block (w.heap.size + 1 + 1) (by have := HF.out.2.2.2.1; omega)).trans HF.out.2.2.1; have HR := Lib.hid (And.intro (HF.out.2.2.2.2.trans (hB.mono HF.out.2.2.2.2.size)) (And.intro g1 (And.intro g2 g3))); obtain ⟨c0, c1, c2, c3, c4⟩ := g1.cells; obtain ⟨e0, e1, e2, e3, e4⟩ := g3.cells; obtain ⟨y0, y1, y2, y3, y4⟩ := g3.fz; have dm := g2.cell; clear hB g1 g2 g3))
  first | gi_region_with_o (refine ⟨trivial, (callsIn_wide.2 (HL.out _ (HR.out.1.trans (below_drew1 (Below.refl _ _))))).mono ?_⟩; rintro e W2 ⟨rfl, B2⟩; have b2 := blk_lt HR.out.2.2.2; have d2 := (B2.cell (p := ⟨w.heap.size, 2, none⟩) (by simp; omega)).trans c2; have d1 := (B2.cell (p := ⟨w.heap.size + 1, 0, none⟩) (by simp; omega)).trans dm; have H2 := Lib.hid (show Below W.heap.size W W2 from ⟨B2.os, B2.tape, B2.output, B2.size, B2.block⟩); clear B2 b2) | fail
  all_goals (
   have u3 : S5 W2 (w.heap.size + 1 + 1) _ _ _ _ _ := (H2.out.block _ (blk_lt HR.out.2.2.2)).trans HR.out.2.2.2
   have bW := HR.out.1.trans (H2.out.mono HR.out.1.size)
   have HU := Lib.hid (And.intro u3 bW)
   clear c0 c1 c2 c3 c4 e0 e1 e2 e3 e4 y0 y1 y2 y3 y4 dm d1 d2
   obtain ⟨e0, e1, e2, e3, e4⟩ := u3.cells
   obtain ⟨y0, y1, y2, y3, y4⟩ := u3.fz
   clear u3 bW
   gi_wp2
   refine noP_ret ?_
   have f3 := HU.out.1.put (.int .u64 0) (.int .u64 0) (.int .i64 0) (.int .u8 0) (.slice none 0 0)
   obtain ⟨r0, r1, r2, r3, r4⟩ := f3.cells
   refine ⟨.tuple #[Z5, .int .i64 9], by simp [results, Tryd.results14, go_sem, r0, r1, r2, r3, r4], rfl, ?_⟩
   exact below5 HU.out.2 (by omega) _ _ _ _ _
   )
end Go.Proofs.YtgceecnlgjmghaaDoor.sch

namespace Go.Proofs.YtgceecnlgjmghaaDoor.sch
open Go.RowKit Go.Proofs.YtgceecnlgjmghaaDoor.base Go.Shelf Go.Proofs.YtgceecnlgjmghaaDoor.rl Go.Proofs.YtgceecnlgjmghaaDoorW.PrintMore Go.Proofs.YtgceecnlgjmghaaDoorW.PrintWords
set_option linter.unusedSimpArgs false
attribute [local go_sem] Oper.semAt_some min2_int min_two
set_option maxRecDepth 100000 in
set_option maxHeartbeats 2000000 in
theorem cut_yes (w : World) (a0 a1 a2 a3 : Int) (A : Option Addr) (c : Nat) (l : List Sl) (m : Int) (hC : Csl w A l) (ho : okS a0 a2 a3 l = true) (hm : ¬ m < 1) (h1 : m ≤ lft a0 a2 a3 l) (h2 : a2 ≠ 1000000) (hv : -9223372036854775808 ≤ a2 ∧ a2 < 9223372036854775807) :
  Calls Tryd.prog 14 #[V5 a0 a1 a2 a3 (.slice A l.length c), .int .i64 m] w fun e w' => ∃ v, e = .returned (.tuple #[V5 a0 a1 (a2 + 1) a3 v, .int .i64 0]) ∧ Rsl w' w.heap.size v (cutP l m (bk l l.length)).1 ∧ Below w.heap.size w w' := by
 refine (callsIn_wide (n := 3)).1 ?_
 refine callsIn_of_wp_marks Tryd.func14 rfl trivial ?_ rfl
 simp only [Tryd.ntmps14, List.size_toArray, List.length_cons, List.length_nil, Nat.reduceAdd, Nat.reduceSub, Array.replicate_succ, Array.replicate_zero, List.push_toArray, List.append_toArray, List.nil_append, List.cons_append]
 refine wpIn_mono (Q := noP _) ?_ noP_le
 have hpt := okS_parts ho
 have HN := Lib.hid hpt.1
 have HK := Lib.hid (fun w' (q : Below w.heap.size w w') => check_is w' a0 a1 a2 a3 A c l (Kd.C_below hC q))
 have HL := Lib.hid (fun w' (q : Below w.heap.size w w') => left_is w' a0 a1 a2 a3 A c l (Kd.C_below hC q))
 have HO := Lib.hid (fun w' (q : Below w.heap.size w w') => own_is w' a0 a1 a2 a3 A c l (Kd.C_below hC q) (by omega) (by omega))
 rw [show chk a0 a2 a3 l = 0 by rw [chk, ho]; rfl] at HK
 obtain ⟨V, hV⟩ : ∃ V, (((w.alloc (.cells #[.int .u64 a0, .int .u64 a1, .int .i64 a2, .int .u8 a3, .slice A l.length c] 25)).alloc (.cells #[.int .i64 m] 2)).alloc (.cells #[.int .u64 0, .int .u64 0, .int .i64 0, .int .u8 0, .slice none 0 0] 25)) = V := ⟨_, rfl⟩
 have HF := Lib.hid (cut_pre w a0 a1 a2 a3 m A c l V hV)
 have HV := Lib.hid hV
 have hmo : Tryd.prog.follows .mixedOrders = true := by kernel_rfl
 generalize lft a0 a2 a3 l = lf at *
 have g0 : decide (m < 1) = false := decide_eq_false hm
 have g1 : decide (m > lf) = false := decide_eq_false (by omega)
 have g2 : decide (lf < m) = false := g1
 have g3 : (a2 == 1000000) = false := by simpa using h2
 have wv : wrap64 (a2 + 1) = a2 + 1 := by unfold wrap64; omega
 clear hV hC ho hpt hm h1 h2 hv
 gi_upto_region 3 with (first | (rw [HV.out]; refine ⟨trivial, (callsIn_wide.2 (HK.out V HF.out.2.2.2.2)).mono ?_⟩; rintro e W ⟨rfl, hB⟩; have g1 : S5 W w.heap.size _ _ _ _ _ := (hB.block w.heap.size (by have := HF.out.2.2.2.1; omega)).trans HF.out.1; have g2 : Boxed W (w.heap.size + 1) _ _ := (hB.block (w.heap.size + 1) (by have := HF.out.2.2.2.1; omega)).trans HF.out.2.1; have g3 : S5 W (w.heap.size + 1 + 1) _ _ _ _ _ := (hB.block (w.heap.size + 1 + 1) (by have := HF.out.2.2.2.1; omega)).trans HF.out.2.2.1; have HR := Lib.hid (And.intro (HF.out.2.2.2.2.trans (hB.mono HF.out.2.2.2.2.size)) (And.intro g1 (And.intro g2 g3))); obtain ⟨c0, c1, c2, c3, c4⟩ := g1.cells; obtain ⟨e0, e1, e2, e3, e4⟩ := g3.cells; obtain ⟨y0, y1, y2, y3, y4⟩ := g3.fz; have dm := g2.cell; clear hB g1 g2 g3))
 refine wpIn_mono (Q := atN (fun a Y => ∃ W2 : World, Below W.heap.size W W2 ∧ a = { tmps := #[V5 a0 a1 a2 a3 (.slice A l.length c), .int .i64 m, .pointer (some ⟨w.heap.size, 0, none⟩), .pointer (some ⟨w.heap.size + 1, 0, none⟩), .pointer (some ⟨w.heap.size + 1 + 1, 0, none⟩), .int .i64 0, undef, undef, undef, .bool false, .agg #[.int .u64 a0, .int .u64 a1, .int .i64 a2, .int .u8 a3, .slice A l.length c], .int .i64 0, .bool false, .bool false, .int .i64 m, .bool false, .bool false, undef, .bool false, .int .i64 m, .agg #[.int .u64 a0, .int .u64 a1, .int .i64 a2, .int .u8 a3, .slice A l.length c], .int .i64 lf, .bool false, .bool false, .pointer (some ⟨w.heap.size, 2, none⟩), .int .i64 a2, .bool false, .bool false, undef, undef, undef, undef, undef, undef, undef, undef, undef, undef, undef, undef, undef, undef, undef, undef, undef, undef, undef, undef, undef, undef, undef, undef, undef, undef, undef, undef, undef, undef, undef, undef], defers := [] } ∧ Y = W2)) ?_ ?_
 ·first | gi_region_with_o (refine ⟨trivial, (callsIn_wide.2 (HL.out _ (HR.out.1.trans (below_drew1 (Below.refl _ _))))).mono ?_⟩; rintro e W2 ⟨rfl, B2⟩; have b2 := blk_lt HR.out.2.2.2; have d2 := (B2.cell (p := ⟨w.heap.size, 2, none⟩) (by simp; omega)).trans c2; have d1 := (B2.cell (p := ⟨w.heap.size + 1, 0, none⟩) (by simp; omega)).trans dm; have H2 := Lib.hid (show Below W.heap.size W W2 from ⟨B2.os, B2.tape, B2.output, B2.size, B2.block⟩); clear B2 b2) | fail
  all_goals exact ⟨W2, H2.out, rfl, rfl⟩
 rintro e a Y hn
 cases e
 case normal =>
  obtain ⟨W2, h2, rfl, rfl⟩ := hn
  have bW := HR.out.1.trans (h2.mono HR.out.1.size)
  have g1' : S5 Y w.heap.size _ _ _ _ _ := (h2.block _ (blk_lt HR.out.2.1)).trans HR.out.2.1
  have g2' : Boxed Y (w.heap.size + 1) _ _ := (h2.block _ HR.out.2.2.1.lt).trans HR.out.2.2.1
  have g3' : S5 Y (w.heap.size + 1 + 1) _ _ _ _ _ := (h2.block _ (blk_lt HR.out.2.2.2)).trans HR.out.2.2.2
  have HU := Lib.hid (And.intro bW (And.intro g1' (And.intro g2' g3')))
  clear c0 c1 c2 c3 c4 e0 e1 e2 e3 e4 y0 y1 y2 y3 y4 dm
  obtain ⟨c0, c1, c2, c3, c4⟩ := g1'.cells
  obtain ⟨z0, z1, z2, z3, z4⟩ := g1'.fz
  clear bW g1' g2' g3' h2
  gi_wp2_with fail
  refine ⟨trivial, (callsIn_wide.2 (HO.out _ HU.out.1)).mono ?_⟩
  rintro e W3 ⟨v, rfl, hR3, hB3⟩
  obtain ⟨g, cap, rfl, hg1, hg2, cells, hgc⟩ := Kd.R_form hR3 (by have := HN.out; omega)
  have gW := blk_lt HU.out.2.2.2
  have u1 : S5 W3 w.heap.size _ _ _ _ _ := (hB3.block _ (blk_lt HU.out.2.1)).trans HU.out.2.1
  have u2 : Boxed W3 (w.heap.size + 1) _ _ := (hB3.block _ HU.out.2.2.1.lt).trans HU.out.2.2.1
  have u3 : S5 W3 (w.heap.size + 1 + 1) _ _ _ _ _ := (hB3.block _ gW).trans HU.out.2.2.2
  have bW3 := HU.out.1.trans (hB3.mono HU.out.1.size)
  clear c0 c1 c2 c3 c4 z0 z1 z2 z3 z4
  obtain ⟨c0, c1, c2, c3, c4⟩ := u1.cells
  obtain ⟨z0, z1, z2, z3, z4⟩ := u1.fz
  have HU3 := Lib.hid (And.intro u1 (And.intro u2 (And.intro u3 (And.intro bW3 (Kd.R_lower hR3 HU.out.1.size)))))
  have HG := Lib.hid (show w.heap.size + 1 + 1 < g ∧ g < W3.heap.size from ⟨by omega, hg2⟩)
  clear u1 u2 u3 bW3 hR3 hB3 hgc hg1 hg2 gW
  gi_wp2_with fail
  obtain ⟨W4, hW4⟩ : ∃ W4, (P5 W3 w.heap.size (.int .u64 a0) (.int .u64 a1) (.int .i64 a2) (.int .u8 a3) (.slice (some ⟨g, 0, none⟩) l.length cap)).setCell ⟨w.heap.size, 2, none⟩ (.int .i64 (a2 + 1)) = W4 := ⟨_, rfl⟩
  have v1 := HU3.out.1.put (.int .u64 a0) (.int .u64 a1) (.int .i64 a2) (.int .u8 a3) (.slice (some ⟨g, 0, none⟩) l.length cap)
  have t1 : S5 W4 w.heap.size (.int .u64 a0) (.int .u64 a1) (.int .i64 (a2 + 1)) (.int .u8 a3) (.slice (some ⟨g, 0, none⟩) l.length cap) := by rw [← hW4]; exact v1.set2 _
  have t2 : Boxed W4 (w.heap.size + 1) 2 (.int .i64 m) := by rw [← hW4]; exact (far1 (by omega) _).trans ((far5 (by omega) _ _ _ _ _).trans HU3.out.2.1)
  have t3 : S5 W4 (w.heap.size + 1 + 1) (.int .u64 0) (.int .u64 0) (.int .i64 0) (.int .u8 0) (.slice none 0 0) := by rw [← hW4]; exact (far1 (by omega) _).trans ((far5 (by omega) _ _ _ _ _).trans HU3.out.2.2.1)
  have t5 : Rsl W4 w.heap.size (.slice (some ⟨g, 0, none⟩) l.length cap) l := by rw [← hW4]; exact v1.row1 (HU3.out.1.row HU3.out.2.2.2.2 (.int .u64 a0) (.int .u64 a1) (.int .i64 a2) (.int .u8 a3) (.slice (some ⟨g, 0, none⟩) l.length cap)) 2 _
  have t6 : Below w.heap.size w W4 := by rw [← hW4]; exact belowS (below5 HU3.out.2.2.2.1 (Nat.le_refl _) (.int .u64 a0) (.int .u64 a1) (.int .i64 a2) (.int .u8 a3) (.slice (some ⟨g, 0, none⟩) l.length cap)) (Nat.le_refl _) 2 _
  have t7 : W4.heap.size = W3.heap.size := by rw [← hW4]; simp
  have e3' := hW4
  change (((((W3.setCell _ _).setCell _ _).setCell _ _).setCell _ _).setCell _ _).setCell _ _ = W4 at e3'
  rw [e3']
  refine ⟨trivial, (back_any (some ⟨g, 0, none⟩) l.length cap W4).mono ?_⟩
  rintro e W5 ⟨rfl, s5, B5, cl⟩
  have r1 : S5 W5 w.heap.size (.int .u64 a0) (.int .u64 a1) (.int .i64 (a2 + 1)) (.int .u8 a3) (.slice (some ⟨g, 0, none⟩) l.length cap) := (B5.block _ (blk_lt t1)).trans t1
  have r2 : Boxed W5 (w.heap.size + 1) _ _ := (B5.block _ t2.lt).trans t2
  have r3 : S5 W5 (w.heap.size + 1 + 1) _ _ _ _ _ := (B5.block _ (blk_lt t3)).trans t3
  have r5 := Kd.R_below t5 B5
  have r6 := t6.trans (B5.mono t6.size)
  have hs5 : W5.heap.size = W4.heap.size + 1 := s5
  have HST := Lib.hid (back_stops W4.heap.size w.heap.size g cap l W5 (by have := HN.out; omega) cl)
  have HR4 := Lib.hid (And.intro r1 (And.intro r2 (And.intro r3 (And.intro r5 r6))))
  have HS := Lib.hid (show w.heap.size + 1 + 1 < g ∧ g < W4.heap.size ∧ W5.heap.size = W4.heap.size + 1 from ⟨HG.out.1, by have := HG.out.2; omega, hs5⟩)
  have HWV := Lib.hid wv
  clear wv v1 hW4 e3' t1 t2 t3 t5 t6 t7 s5 hs5 B5 cl r1 r2 r3 r5 r6 c0 c1 c2 c3 c4 z0 z1 z2 z3 z4
  gi_wp2_with fail
  refine wpIn_rangeT (L := []) rfl (by decide) (gf := 61) (lb := #[.pointer (some ⟨W4.heap.size, 0, none⟩)]) (by simp [go_sem]) trivial (enters_of Tryd.func61 (by kernel_rfl) rfl)
   HST.out (by simp) (fun h k => h.trans k) (fun X l o o' hl _ _ => ?kb) (Below.refl _ _) (fun _ => rfl)
   (fun pre X => (pre = bk l pre.length ∧ Rsl X w.heap.size (.slice (some ⟨g, 0, none⟩) l.length cap) (cutP l m pre).1 ∧ S5 X w.heap.size (.int .u64 a0) (.int .u64 a1) (.int .i64 (a2 + 1)) (.int .u8 a3) (.slice (some ⟨g, 0, none⟩) l.length cap) ∧ Boxed X (w.heap.size + 1) 2 (.int .i64 (cutP l m pre).2) ∧ S5 X (w.heap.size + 1 + 1) (.int .u64 0) (.int .u64 0) (.int .i64 0) (.int .u8 0) (.slice none 0 0)) ∧ Below w.heap.size W5 X)
   (fun _ _ _ => False)
   ?oI (fun _ _ _ _ _ hs _ _ => hs) ?hIR ?bI (fun _ _ _ _ _ hs _ _ => hs) ⟨⟨rfl, HR4.out.2.2.2.1, HR4.out.1, HR4.out.2.1, HR4.out.2.2.1⟩, Below.refl _ _⟩
   (fun y a' X => ∃ Bp, W5.heap.size ≤ Bp ∧ X.heap[Bp]? = some (.cells #[.int .i64 y.2.f0, .int .i64 y.2.f1, .bool y.2.f2] 61 (0, 0)) ∧ a' = { tmps := #[V5 a0 a1 a2 a3 (.slice A l.length c), .int .i64 m, .pointer (some ⟨w.heap.size, 0, none⟩), .pointer (some ⟨w.heap.size + 1, 0, none⟩), .pointer (some ⟨w.heap.size + 1 + 1, 0, none⟩), .int .i64 0, .int .i64 (y.1 : Int), .pointer (some ⟨Bp, 0, none⟩), undef, .bool false, .agg #[.int .u64 a0, .int .u64 a1, .int .i64 a2, .int .u8 a3, .slice A l.length c], .int .i64 0, .bool false, .bool false, .int .i64 m, .bool false, .bool false, undef, .bool false, .int .i64 m, .agg #[.int .u64 a0, .int .u64 a1, .int .i64 a2, .int .u8 a3, .slice A l.length c], .int .i64 lf, .bool false, .bool false, .pointer (some ⟨w.heap.size, 2, none⟩), .int .i64 a2, .bool false, .bool false, undef, .agg #[.int .u64 a0, .int .u64 a1, .int .i64 a2, .int .u8 a3, .slice A l.length c], .agg #[.int .u64 a0, .int .u64 a1, .int .i64 a2, .int .u8 a3, .slice (some ⟨g, 0, none⟩) l.length cap], .pointer (some ⟨w.heap.size, 2, none⟩), .int .i64 a2, .int .i64 (wrap64 (a2 + 1)), .pointer (some ⟨w.heap.size, 2, none⟩), .pointer (some ⟨w.heap.size, 4, none⟩), .slice (some ⟨g, 0, none⟩) l.length cap, .func (.func 61) #[] #[.pointer (some ⟨W4.heap.size, 0, none⟩)], .int .i64 (y.1 : Int), .agg #[.int .i64 y.2.f0, .int .i64 y.2.f1, .bool y.2.f2], undef, undef, undef, undef, undef, undef, undef, undef, undef, undef, undef, undef, undef, undef, undef, undef, undef, undef, undef, undef], defers := [] }) ?hAx ?assign ?body ?done ?stop
  case kb => exact ⟨below_put _ _ _ _ (by have := HS.out; omega) (by assumption), fun b hb => World.putObj_heap_other (by have := HS.out; simp at hb; omega)⟩
  case oI =>
   rintro s X B row ⟨⟨h0, h1, h2, h3, h4⟩, hB⟩ hg hr
   exact ⟨⟨h0, Rsl.grown h1 hg (fun r e => (hr r e).2), cells_own W5.heap.size w.heap.size (fun _ : Unit => _) _ () X B row h2 hg hr, cells_own W5.heap.size (w.heap.size + 1) (fun _ : Unit => _) _ () X B row h3 hg hr, cells_own W5.heap.size (w.heap.size + 1 + 1) (fun _ : Unit => _) _ () X B row h4 hg hr⟩, ownFrom_below (β := Unit) (B := W5.heap.size) (by have := HS.out; omega) (by have := HS.out; omega) () X B row hB hg hr⟩
  case hIR =>
   rintro pre X ⟨⟨h0, h1, _⟩, _⟩ j hj
   have q := (Rsl.at h1 j (by omega)).1
   rw [h0, cut_ahead l m pre.length (by omega) j hj] at q
   exact q
  case bI =>
   rintro s X B row ⟨⟨h0, h1, h2, h3, h4⟩, hB⟩ hg hr
   have hr' : row = none := by
    cases row with
    | none => rfl
    | some r => exact absurd (hr r rfl) (by simp)
   subst hr'
   exact ⟨⟨h0, Rsl.grown h1 hg (fun r e => by cases e), (hg.block _ (blk_lt h2) (by simp)).trans h2, (hg.block _ (blk_lt h3) (by simp)).trans h3, (hg.block _ (blk_lt h4) (by simp)).trans h4⟩, hB.grown hg (by have := hB.size; have := HS.out; omega) (fun k e => by cases e)⟩
  case hAx =>
   rintro y a' s X B row ⟨Bp, h1, h2, h3⟩ hg hr
   exact ⟨Bp, h1, cells_own W5.heap.size Bp (fun _ : Unit => #[.int .i64 y.2.f0, .int .i64 y.2.f1, .bool y.2.f2]) _ () X B row h2 hg hr, h3⟩
  case assign =>
   rintro ly pre ⟨k, x⟩ X KK ⟨⟨h0, h1, h2, h3, h4⟩, hB⟩ hK
   have HI := Lib.hid (And.intro h0 (And.intro h1 (And.intro h2 (And.intro h3 (And.intro h4 hB)))))
   have HXS := Lib.hid (show W5.heap.size ≤ X.heap.size from hB.size)
   simp only [encA, sv]
   clear h0 h1 h2 h3 h4 hB
   gi_wp2
   refine hK _ _ ((KeepsOthers.alloc _ _).from _) ⟨(Below.refl _ X).alloc (by have := HS.out; have := HXS.out; omega) _, fun b hb => Below.heap_alloc _ _ _ (by have := HS.out; have := HXS.out; simp at hb; omega)⟩
    ⟨⟨HI.out.1, Kd.R_alloc HI.out.2.1 _, (Below.heap_alloc _ _ _ (blk_lt HI.out.2.2.1)).trans HI.out.2.2.1, HI.out.2.2.2.1.alloc _, (Below.heap_alloc _ _ _ (blk_lt HI.out.2.2.2.2.1)).trans HI.out.2.2.2.2.1⟩, HI.out.2.2.2.2.2.trans ((Below.refl _ X).alloc (by have := HS.out; have := HXS.out; omega) _)⟩ ⟨_, HXS.out, blk_new X _ _, rfl⟩
  case body =>
   rintro ly pre ⟨k, x⟩ a' X ⟨⟨h0, h1, h2, h3, h4⟩, hB⟩ ⟨Bp, hBp, hpp, rfl⟩ hlen ⟨_, hT⟩
   dsimp only at hpp ⊢
   simp only [Prod.mk.injEq] at hT
   obtain ⟨hk, hx⟩ := hT
   have hkl : k < l.length := by omega
   have hcur : (cutP l m pre).1.getD k zs = x := by rw [h0, cut_ahead l m pre.length (by omega) k (by omega), hx, hk]
   have hsn : cutP l m (pre ++ [(k, x)]) = cutS (cutP l m pre) (k, x) := cutP_snoc _ _ _ _
   have hpn : pre ++ [(k, x)] = bk l (pre ++ [(k, x)]).length := by
    rw [List.length_append]
    show _ = bk l (pre.length + 1)
    rw [bk_succ, ← h0, hk, hx]
   obtain ⟨p0, p1, p2⟩ : X.cell? ⟨Bp, 0, none⟩ = some (.int .i64 x.f0) ∧ X.cell? ⟨Bp, 1, none⟩ = some (.int .i64 x.f1) ∧ X.cell? ⟨Bp, 2, none⟩ = some (.bool x.f2) := by
    have u0 := blk_cell hpp 0
    have u1 := blk_cell hpp 1
    have u2 := blk_cell hpp 2
    simp at u0 u1 u2
    exact ⟨u0, u1, u2⟩
   have HI := Lib.hid (And.intro h1 (And.intro h2 (And.intro h3 (And.intro h4 hB))))
   have HE := Lib.hid (And.intro hsn (And.intro hpn hcur))
   have HKL := Lib.hid hkl
   have HPP := Lib.hid hpp
   clear h0 h1 h2 h3 h4 hB hpp hsn hpn hcur hk hx
   generalize hst : cutP l m pre = st at *
   obtain ⟨ml, nn⟩ := st
   dsimp only at *
   gi_wp2_with fail
   refine ⟨trivial, (CallsIn.inRound ly (callsIn_wide.2 (open_is x _))).mono ?_⟩
   rintro e X1 ⟨rfl, b1⟩
   have h1 := Kd.R_below HI.out.1 b1
   have h2 : S5 X1 w.heap.size (.int .u64 a0) (.int .u64 a1) (.int .i64 (a2 + 1)) (.int .u8 a3) (.slice (some ⟨g, 0, none⟩) l.length cap) := (b1.block _ (blk_lt HI.out.2.1)).trans HI.out.2.1
   have h3 : Boxed X1 (w.heap.size + 1) 2 (.int .i64 nn) := (b1.block _ HI.out.2.2.1.lt).trans HI.out.2.2.1
   have h4 : S5 X1 (w.heap.size + 1 + 1) (.int .u64 0) (.int .u64 0) (.int .i64 0) (.int .u8 0) (.slice none 0 0) := (b1.block _ (blk_lt HI.out.2.2.2.1)).trans HI.out.2.2.2.1
   have hpp : X1.heap[Bp]? = _ := (b1.block _ (blk_lt HPP.out)).trans HPP.out
   have hXs : W5.heap.size ≤ X.heap.size := HI.out.2.2.2.2.size
   have HI1 := Lib.hid (And.intro h1 (And.intro h2 (And.intro h3 (And.intro h4 (And.intro b1 hXs)))))
   obtain ⟨⟨k0, k1, k2⟩, l0, l1, l2⟩ := Rsl.at h1 k HKL.out
   rw [HE.out.2.2] at k0 k1 k2
   obtain ⟨d0, d1, d2, d3, d4⟩ := h2.cells
   clear p0 p1 p2
   have p1 := blk_cell hpp 1
   simp at p1
   have n0 := h3.cell
   have nz := h3.frozen
   have q1 : ¬ g = w.heap.size + 1 := by have := HS.out; omega
   have q2 : ¬ w.heap.size + 1 = g := by have := HS.out; omega
   have q3 : ¬ g = Bp := by have := HS.out; omega
   have q4 : ¬ Bp = g := by have := HS.out; omega
   have q5 : (0 : Int) ≤ (k : Int) := by omega
   have q6 : ¬ w.heap.size = g := by have := HS.out; omega
   have q7 : ¬ g = w.heap.size := by have := HS.out; omega
   clear h1 h2 h3 h4 hpp b1 hXs
   by_cases hop : opn x = true
   ·have hc1 : cutS (ml, nn) (k, x) = (ml.set k ⟨x.f0, wrap64 (x.f1 - mnI nn x.f1), x.f2⟩, wrap64 (nn - mnI nn x.f1)) := by rw [cutS, if_pos hop, HE.out.2.2]
    have HC1 := Lib.hid hc1
    have HEC := Lib.hid HE.out.2.2
    rw [hop]
    clear hc1
    have z0 : ∀ n : Int, wrap64 (n - n) = 0 := fun n => by unfold wrap64; omega
    by_cases hmn : nn < x.f1
    ·have em : mnI nn x.f1 = nn := if_pos hmn
     rw [em, z0] at HC1
     clear em z0
     gi_wp2
     have hput := Rsl.put1 HI1.out.1 k HKL.out (wrap64 (x.f1 - nn))
     rw [HEC.out] at hput
     have hbx : Boxed (X1.setCell ⟨g, k * 3 + 1, none⟩ (.int .i64 (wrap64 (x.f1 - nn)))) (w.heap.size + 1) 2 (.int .i64 nn) := (far1 q2 _).trans HI1.out.2.2.1
     refine ⟨(KeepsFrom.of_grownBy (grown_of HI1.out.2.2.2.2.1) (fun j e => by cases e)).trans (((KeepsOthers.setCell _ _ _).trans (KeepsOthers.setCell _ _ _)).from _),
      (Ka.below HI1.out.2.2.2.2.1 (by have := HS.out; have := HI1.out.2.2.2.2.2; omega) (fun b hb => by have := HS.out; have := HI1.out.2.2.2.2.2; simp at hb; omega)).trans ⟨belowS (belowS (Below.refl _ X1) (by have := HS.out; omega) _ _) (by omega) _ _, fun b hb => (far1 (by have := HS.out; simp at hb; omega) _).trans (far1 (by have := HS.out; simp at hb; omega) _)⟩, ⟨HE.out.2.1, ?_, ?_, ?_, ?_⟩, ?_⟩
     ·rw [HE.out.1, HC1.out]
      exact Kd.R_set hput.1 hbx (by decide) 0 _
     ·exact (far1 (by omega) _).trans ((far1 q6 _).trans HI1.out.2.1)
     ·rw [HE.out.1, HC1.out]
      exact hbx.set _
     ·exact (far1 (by omega) _).trans ((far1 (by have := HS.out; omega) _).trans HI1.out.2.2.2.1)
     ·exact (HI.out.2.2.2.2.trans (HI1.out.2.2.2.2.1.mono (by have := HS.out; have := HI1.out.2.2.2.2.2; omega))).trans (belowS (belowS (Below.refl _ X1) (by have := HS.out; omega) _ _) (by omega) _ _)
    ·by_cases heq : nn = x.f1
     ·have em : mnI nn x.f1 = x.f1 := if_neg hmn
      rw [em, ← heq, z0] at HC1
      have HEQ := Lib.hid heq
      clear em hmn z0
      gi_wp2
      have hput := Rsl.put1 HI1.out.1 k HKL.out (0)
      rw [HEC.out] at hput
      have hbx : Boxed (X1.setCell ⟨g, k * 3 + 1, none⟩ (.int .i64 (0))) (w.heap.size + 1) 2 (.int .i64 nn) := (far1 q2 _).trans HI1.out.2.2.1
      refine ⟨(KeepsFrom.of_grownBy (grown_of HI1.out.2.2.2.2.1) (fun j e => by cases e)).trans (((KeepsOthers.setCell _ _ _).trans (KeepsOthers.setCell _ _ _)).from _),
       (Ka.below HI1.out.2.2.2.2.1 (by have := HS.out; have := HI1.out.2.2.2.2.2; omega) (fun b hb => by have := HS.out; have := HI1.out.2.2.2.2.2; simp at hb; omega)).trans ⟨belowS (belowS (Below.refl _ X1) (by have := HS.out; omega) _ _) (by omega) _ _, fun b hb => (far1 (by have := HS.out; simp at hb; omega) _).trans (far1 (by have := HS.out; simp at hb; omega) _)⟩, ⟨HE.out.2.1, ?_, ?_, ?_, ?_⟩, ?_⟩
      ·rw [HE.out.1, HC1.out]
       exact Kd.R_set hput.1 hbx (by decide) 0 _
      ·exact (far1 (by omega) _).trans ((far1 q6 _).trans HI1.out.2.1)
      ·rw [HE.out.1, HC1.out]
       exact hbx.set _
      ·exact (far1 (by omega) _).trans ((far1 (by have := HS.out; omega) _).trans HI1.out.2.2.2.1)
      ·exact (HI.out.2.2.2.2.trans (HI1.out.2.2.2.2.1.mono (by have := HS.out; have := HI1.out.2.2.2.2.2; omega))).trans (belowS (belowS (Below.refl _ X1) (by have := HS.out; omega) _ _) (by omega) _ _)
     ·have hgt : x.f1 < nn := by omega
      have em : mnI nn x.f1 = x.f1 := if_neg hmn
      rw [em, z0] at HC1
      clear em hmn heq z0
      gi_wp2
      have hput := Rsl.put1 HI1.out.1 k HKL.out (0)
      rw [HEC.out] at hput
      have hbx : Boxed (X1.setCell ⟨g, k * 3 + 1, none⟩ (.int .i64 (0))) (w.heap.size + 1) 2 (.int .i64 nn) := (far1 q2 _).trans HI1.out.2.2.1
      refine ⟨(KeepsFrom.of_grownBy (grown_of HI1.out.2.2.2.2.1) (fun j e => by cases e)).trans (((KeepsOthers.setCell _ _ _).trans (KeepsOthers.setCell _ _ _)).from _),
       (Ka.below HI1.out.2.2.2.2.1 (by have := HS.out; have := HI1.out.2.2.2.2.2; omega) (fun b hb => by have := HS.out; have := HI1.out.2.2.2.2.2; simp at hb; omega)).trans ⟨belowS (belowS (Below.refl _ X1) (by have := HS.out; omega) _ _) (by omega) _ _, fun b hb => (far1 (by have := HS.out; simp at hb; omega) _).trans (far1 (by have := HS.out; simp at hb; omega) _)⟩, ⟨HE.out.2.1, ?_, ?_, ?_, ?_⟩, ?_⟩
      ·rw [HE.out.1, HC1.out]
       exact Kd.R_set hput.1 hbx (by decide) 0 _
      ·exact (far1 (by omega) _).trans ((far1 q6 _).trans HI1.out.2.1)
      ·rw [HE.out.1, HC1.out]
       exact hbx.set _
      ·exact (far1 (by omega) _).trans ((far1 (by have := HS.out; omega) _).trans HI1.out.2.2.2.1)
      ·exact (HI.out.2.2.2.2.trans (HI1.out.2.2.2.2.1.mono (by have := HS.out; have := HI1.out.2.2.2.2.2; omega))).trans (belowS (belowS (Below.refl _ X1) (by have := HS.out; omega) _ _) (by omega) _ _)
   ·have hc1 : cutS (ml, nn) (k, x) = (ml, nn) := by rw [cutS, if_neg hop]
    have HC1 := Lib.hid hc1
    have hop' : opn x = false := by simpa using hop
    rw [hop']
    clear hc1 hop hop'
    gi_wp2
    refine ⟨KeepsFrom.of_grownBy (grown_of HI1.out.2.2.2.2.1) (fun j e => by cases e), Ka.below HI1.out.2.2.2.2.1 (by have := HS.out; have := HI1.out.2.2.2.2.2; omega) (fun b hb => by have := HS.out; have := HI1.out.2.2.2.2.2; simp at hb; omega), ⟨HE.out.2.1, ?_, HI1.out.2.1, ?_, HI1.out.2.2.2.1⟩, ?_⟩
    ·rw [HE.out.1, HC1.out]; exact HI1.out.1
    ·rw [HE.out.1, HC1.out]; exact HI1.out.2.2.1
    ·exact HI.out.2.2.2.2.trans (HI1.out.2.2.2.2.1.mono (by have := HS.out; have := HI1.out.2.2.2.2.2; omega))
  case done =>
   rintro D ys X hD rfl ⟨⟨_, h1, h2, h3, h4⟩, hB⟩ hK
   obtain ⟨d0, d1, d2, d3, d4⟩ := h2.cells
   obtain ⟨e0, e1, e2, e3, e4⟩ := h4.cells
   obtain ⟨y0, y1, y2, y3, y4⟩ := h4.fz
   have f1 := h4.put (.int .u64 a0) (.int .u64 a1) (.int .i64 (a2 + 1)) (.int .u8 a3) (.slice (some ⟨g, 0, none⟩) l.length cap)
   have f3 := h4.row h1 (.int .u64 a0) (.int .u64 a1) (.int .i64 (a2 + 1)) (.int .u8 a3) (.slice (some ⟨g, 0, none⟩) l.length cap)
   have f4 := (far5 (show D ≠ w.heap.size + 1 + 1 by have := HS.out; omega) (.int .u64 a0) (.int .u64 a1) (.int .i64 (a2 + 1)) (.int .u8 a3) (.slice (some ⟨g, 0, none⟩) l.length cap)).trans hK
   have f5 := below5 (HR4.out.2.2.2.2.trans hB) (show w.heap.size ≤ w.heap.size + 1 + 1 by omega) (.int .u64 a0) (.int .u64 a1) (.int .i64 (a2 + 1)) (.int .u8 a3) (.slice (some ⟨g, 0, none⟩) l.length cap)
   have HE := Lib.hid (And.intro f1 (And.intro f3 (And.intro f4 f5)))
   clear h1 h2 h3 h4 hB hK f1 f3 f4 f5
   generalize hml : (cutP l m (bk l l.length)).1 = ml at *
   gi_wp2
   refine noP_ret ?_
   refine ⟨by simp, .inl ⟨_, _, rfl, run_takeDeferred HE.out.2.2.1, ?_⟩⟩
   obtain ⟨r0, r1, r2, r3, r4⟩ := (show S5 (World.putObj _ D (.deferred none)) (w.heap.size + 1 + 1) _ _ _ _ _ from (World.putObj_heap_other (by have := HS.out; omega)).trans HE.out.1).cells
   refine ⟨.tuple #[V5 a0 a1 (a2 + 1) a3 (.slice (some ⟨g, 0, none⟩) l.length cap), .int .i64 0], by simp [results, Tryd.results14, go_sem, r0, r1, r2, r3, r4], ⟨_, rfl, ?_, ?_⟩⟩
   ·rw [hml]
    exact Rsl.grown HE.out.2.1 (grownBy_putObj' _ D _) (fun r e => by cases e; exact ⟨_, HE.out.2.2.1, rfl⟩)
   ·exact HE.out.2.2.2.trans (belowK_b (w := w) (Nat.le_refl _) _ D _ _ (by have := HS.out; have := HR4.out.2.2.2.2.size; omega) HE.out.2.2.1 rfl rfl)
  case stop =>
   rintro D c pre W _ _ h _
   exact h.elim
 all_goals exact hn.elim
end Go.Proofs.YtgceecnlgjmghaaDoor.sch
namespace Go.Proofs.YtgceecnlgjmghaaDoor.PH
open Go.RowKit Go.Proofs.YtgceecnlgjmghaaDoorW.PrintWords Go.Proofs.YtgceecnlgjmghaaDoor.sch
def sched_Cut.f (a0 a1 a2 a3 : Int) (l : List S61) (m : Int) : Option (Int × Int × Int × Int × List S61 × Int) :=
 some (if okS a0 a2 a3 l = true ∧ 1 ≤ m then (if lft a0 a2 a3 l < m ∨ a2 = 1000000 then (0, 0, 0, 0, [], 9) else (a0, a1, a2 + 1, a3, (cutP l m (bk l l.length)).1, 0)) else (0, 0, 0, 0, [], 2))
theorem sched_Cut.calls (a0_0 : Int) (a0_1 : Int) (a0_2 : Int) (a0_3 : Int) (A0_4 : Option Addr) (c0_4 : Nat) (l0_4 : List (S61)) (a1 : Int) (r1 : Int) (r2 : Int) (r3 : Int) (r4 : Int) (r5 : List (S61)) (r6 : Int) (w : World) (hr0_4 : Kd.C k61 w A0_4 l0_4.length l0_4) (_ : l0_4.length ≤ c0_4) (h : sched_Cut.f a0_0 a0_1 a0_2 a0_3 l0_4 a1 = some (r1, r2, r3, r4, r5, r6)) :
  Calls Tryd.prog 14 #[.agg #[.int .u64 a0_0, .int .u64 a0_1, .int .i64 a0_2, .int .u8 a0_3, .slice A0_4 l0_4.length c0_4], .int .i64 a1] w fun e w' => ∃ v4_ : Value, e = .returned (.tuple #[.agg #[.int .u64 r1, .int .u64 r2, .int .i64 r3, .int .u8 r4, v4_], .int .i64 r6]) ∧ Kd.R k61 61 w' w.heap.size (fun _ => True) v4_ r5 ∧ Below w.heap.size w w' := by
 simp only [sched_Cut.f, Option.some.injEq] at h
 by_cases hg : okS a0_0 a0_2 a0_3 l0_4 = true ∧ 1 ≤ a1
 ·rw [if_pos hg] at h
  by_cases hs : lft a0_0 a0_2 a0_3 l0_4 < a1 ∨ a0_2 = 1000000
  ·rw [if_pos hs] at h
   simp only [Prod.mk.injEq] at h
   obtain ⟨rfl, rfl, rfl, rfl, rfl, rfl⟩ := h
   refine (cut_state w a0_0 a0_1 a0_2 a0_3 A0_4 c0_4 l0_4 a1 hr0_4 hg.1 (by omega) hs).mono ?_
   rintro e w' ⟨rfl, hB⟩
   exact ⟨_, rfl, Kd.R_nil _ _ _ _ _, hB⟩
  ·rw [if_neg hs] at h
   simp only [Prod.mk.injEq] at h
   obtain ⟨rfl, rfl, rfl, rfl, rfl, rfl⟩ := h
   have hv : -9223372036854775808 ≤ a0_2 ∧ a0_2 < 9223372036854775807 := by
    have := hg.1
    simp [okS, hd] at this
    omega
   refine (cut_yes w a0_0 a0_1 a0_2 a0_3 A0_4 c0_4 l0_4 a1 hr0_4 hg.1 (by omega) (by omega) (fun q => hs (.inr q)) hv).mono ?_
   rintro e w' ⟨v, rfl, hR, hB⟩
   exact ⟨v, rfl, hR, hB⟩
 ·rw [if_neg hg] at h
  simp only [Prod.mk.injEq] at h
  obtain ⟨rfl, rfl, rfl, rfl, rfl, rfl⟩ := h
  refine (cut_no w a0_0 a0_1 a0_2 a0_3 A0_4 c0_4 l0_4 a1 hr0_4 ?_).mono ?_
  ·by_cases q1 : okS a0_0 a0_2 a0_3 l0_4 = true
   ·exact .inr (by
     refine Classical.byContradiction fun q => hg ⟨q1, by omega⟩)
   ·exact .inl (by simpa using q1)
  ·rintro e w' ⟨rfl, hB⟩
   exact ⟨_, rfl, Kd.R_nil _ _ _ _ _, hB⟩
end Go.Proofs.YtgceecnlgjmghaaDoor.PH

namespace Go.Proofs.YtgceecnlgjmghaaDoor.sch
open Go.RowKit Go.Proofs.YtgceecnlgjmghaaDoor.base Go.Proofs.YtgceecnlgjmghaaDoorW.PrintMore Go.Proofs.YtgceecnlgjmghaaDoorW.PrintWords
set_option linter.unusedSimpArgs false
attribute [local go_sem] Oper.semAt_some min2_int min_two
/-- Slices of amounts, the months by their places. -/
def mdl (mf : Nat → Int) (zs : List Int) (i : Nat) : List Sl := (List.range i).map (fun j => ⟨mf j, zs.getD j 0, false⟩)
theorem mdl_succ (mf : Nat → Int) (zs : List Int) (i : Nat) : mdl mf zs (i + 1) = mdl mf zs i ++ [⟨mf i, zs.getD i 0, false⟩] := by simp [mdl, List.range_succ]
theorem zero_is (i : Int) (w : World) : Calls Tryd.prog 49 #[.int .i64 i] w fun e V => e = .returned (.int .i64 0) ∧ V = w := by
 go_enter Tryd.func49, Tryd.ntmps49
 go_wp2
 go_ret
 exact ⟨rfl, rfl⟩
set_option maxRecDepth 100000 in
set_option maxHeartbeats 2000000 in
theorem made_zero (w : World) (A : Option Addr) (c : Nat) (zs : List Int) (mf : Nat → Int) (hC : Kd.C (Kd.int .i64) w A zs.length zs) (hn : zs.length ≤ 4096)
  (hm : ∀ i : Nat, i < zs.length → ∀ W, Below w.heap.size w W → Calls Tryd.prog 49 #[.int .i64 (i : Int)] W fun e V => e = .returned (.int .i64 (mf i)) ∧ V = W) :
  Calls Tryd.prog 45 #[.slice A zs.length c, .func (.func 49) #[] #[]] w fun e w' => ∃ v, e = .returned v ∧ Rsl w' w.heap.size v (mdl mf zs zs.length) ∧ Below w.heap.size w w' := by
 have HC := Lib.hid hC
 have HN := Lib.hid hn
 have HM := Lib.hid hm
 clear hC hn hm
 go_enter Tryd.func45, Tryd.ntmps45
 go_wp2
 go_loopg [5, 10] (zs.length + 1) (fun kq v5 v10 w' => ∃ i : Nat, v10 = .int .i64 (i : Int) ∧ Aside0 (i ≤ zs.length ∧ zs.length + 1 ≤ kq + i) ∧ Aside0 (Rsl w' w.heap.size v5 (mdl mf zs i) ∧ Below w.heap.size w w'))
 case atStart => exact ⟨0, rfl, ⟨by omega⟩, ⟨Kd.R_nil _ _ _ _ _, Below.refl _ _⟩⟩
 case round =>
  obtain ⟨i, rfl, HI, HW⟩ := hrel
  by_cases hi : i < zs.length
  ·obtain ⟨k1, rfl⟩ : ∃ k1, gk = k1 + 1 := ⟨gk - 1, by have := HI.out; omega⟩
   obtain ⟨ad, rfl, c0⟩ := spl.cell_at (Kd.C_below HC.out HW.out.2) i hi
   have HS := Lib.hid (mdl_succ mf zs i)
   have HL := Lib.hid hi
   have HMi := Lib.hid (HM.out i hi)
   have p0 : (0 : Int) ≤ (i : Int) := by omega
   have HI2 := Lib.hid (show i ≤ zs.length ∧ zs.length + 1 ≤ k1 + 1 + i from HI.out)
   clear HI
   generalize zs.getD i 0 = z at *
   generalize mf i = y at *
   go_wp2_with fail
   refine (HMi.out _ HW.out.2).mono ?_
   rintro e W1 ⟨rfl, rfl⟩
   go_wp2_with ((with_reducible refine gate_builtin (b := .append) (xs := #[.tmp 15, .tmp 21]) rfl ?_); at_builtin; refine Kd.R_append PH.k61 (w0 := w) w.heap.size rfl (.tmp 15) (.tmp 21) 23 61 (.agg #[.int .i64 0, .int .i64 0, .bool false]) 24 rfl Tryd.underlying23 PH.info61 rfl (by decide) (by decide) _ (mdl mf zs i) ⟨y, z, false⟩ [.int .i64 y, .int .i64 z, .bool false] (fun _ => True) (fun _ => False) rfl rfl ?aP (fun _ hk => hk.elim) (fun _ _ => trivial) ?aO ?aB ?aS ?aL ?_; (case aP => exact PH.k61_mkM _ _ _ ⟨y, z, false⟩); (case aO => exact HW.out.1); (case aB => exact HW.out.2); (case aS => exact HW.out.2.size); (case aL => (have := HN.out; have := HL.out; simp [mdl]; omega)); intro v1 w3 hR hb hg hat; have HR := Lib.hid (And.intro hR hb); clear hR hb hg hat)
   go_roundg k1
   case measure => exact Nat.lt_succ_self _
   refine ⟨i + 1, by rw [show wrap64 ((i : Int) + 1) = ((i + 1 : Nat) : Int) from by have := HN.out; have := HL.out; unfold wrap64; omega], ⟨by have := HI2.out; omega⟩, ⟨?_, HR.out.2⟩⟩
   rw [HS.out]
   exact HR.out.1
  ·obtain rfl : i = zs.length := by have := HI.out; omega
   go_wp2
   go_ret
   exact ⟨_, rfl, HW.out.1, HW.out.2⟩
set_option maxRecDepth 100000 in
set_option maxHeartbeats 2000000 in
theorem made_at (w : World) (A : Option Addr) (c : Nat) (zs : List Int) (B : Nat) (mf : Nat → Int) (hC : Kd.C (Kd.int .i64) w A zs.length zs) (hn : zs.length ≤ 4096)
  (hm : ∀ i : Nat, i < zs.length → ∀ W, Below w.heap.size w W → Calls Tryd.prog 46 #[.int .i64 (i : Int), .pointer (some ⟨B, 0, none⟩)] W fun e V => e = .returned (.int .i64 (mf i)) ∧ V = W) :
  Calls Tryd.prog 45 #[.slice A zs.length c, .func (.func 46) #[] #[.pointer (some ⟨B, 0, none⟩)]] w fun e w' => ∃ v, e = .returned v ∧ Rsl w' w.heap.size v (mdl mf zs zs.length) ∧ Below w.heap.size w w' := by
 have HC := Lib.hid hC
 have HN := Lib.hid hn
 have HM := Lib.hid hm
 clear hC hn hm
 go_enter Tryd.func45, Tryd.ntmps45
 go_wp2
 go_loopg [5, 10] (zs.length + 1) (fun kq v5 v10 w' => ∃ i : Nat, v10 = .int .i64 (i : Int) ∧ Aside0 (i ≤ zs.length ∧ zs.length + 1 ≤ kq + i) ∧ Aside0 (Rsl w' w.heap.size v5 (mdl mf zs i) ∧ Below w.heap.size w w'))
 case atStart => exact ⟨0, rfl, ⟨by omega⟩, ⟨Kd.R_nil _ _ _ _ _, Below.refl _ _⟩⟩
 case round =>
  obtain ⟨i, rfl, HI, HW⟩ := hrel
  by_cases hi : i < zs.length
  ·obtain ⟨k1, rfl⟩ : ∃ k1, gk = k1 + 1 := ⟨gk - 1, by have := HI.out; omega⟩
   obtain ⟨ad, rfl, c0⟩ := spl.cell_at (Kd.C_below HC.out HW.out.2) i hi
   have HS := Lib.hid (mdl_succ mf zs i)
   have HL := Lib.hid hi
   have HMi := Lib.hid (HM.out i hi)
   have p0 : (0 : Int) ≤ (i : Int) := by omega
   have HI2 := Lib.hid (show i ≤ zs.length ∧ zs.length + 1 ≤ k1 + 1 + i from HI.out)
   clear HI
   generalize zs.getD i 0 = z at *
   generalize mf i = y at *
   go_wp2_with fail
   refine (HMi.out _ HW.out.2).mono ?_
   rintro e W1 ⟨rfl, rfl⟩
   go_wp2_with ((with_reducible refine gate_builtin (b := .append) (xs := #[.tmp 15, .tmp 21]) rfl ?_); at_builtin; refine Kd.R_append PH.k61 (w0 := w) w.heap.size rfl (.tmp 15) (.tmp 21) 23 61 (.agg #[.int .i64 0, .int .i64 0, .bool false]) 24 rfl Tryd.underlying23 PH.info61 rfl (by decide) (by decide) _ (mdl mf zs i) ⟨y, z, false⟩ [.int .i64 y, .int .i64 z, .bool false] (fun _ => True) (fun _ => False) rfl rfl ?aP (fun _ hk => hk.elim) (fun _ _ => trivial) ?aO ?aB ?aS ?aL ?_; (case aP => exact PH.k61_mkM _ _ _ ⟨y, z, false⟩); (case aO => exact HW.out.1); (case aB => exact HW.out.2); (case aS => exact HW.out.2.size); (case aL => (have := HN.out; have := HL.out; simp [mdl]; omega)); intro v1 w3 hR hb hg hat; have HR := Lib.hid (And.intro hR hb); clear hR hb hg hat)
   go_roundg k1
   case measure => exact Nat.lt_succ_self _
   refine ⟨i + 1, by rw [show wrap64 ((i : Int) + 1) = ((i + 1 : Nat) : Int) from by have := HN.out; have := HL.out; unfold wrap64; omega], ⟨by have := HI2.out; omega⟩, ⟨?_, HR.out.2⟩⟩
   rw [HS.out]
   exact HR.out.1
  ·obtain rfl : i = zs.length := by have := HI.out; omega
   go_wp2
   go_ret
   exact ⟨_, rfl, HW.out.1, HW.out.2⟩
/-- What is split, as slices of no month. -/
theorem mil_is (w : World) (T : Int) (A : Option Addr) (c : Nat) (xs : List Int) (hC : Kd.C (Kd.int .i64) w A xs.length xs) (hc : xs.length ≤ c) (out : List Int) (e0 : Int) (hs : PH.split_Split.f T xs = some (out, e0)) (ho : out.length ≤ 4096) :
  Calls Tryd.prog 23 #[.int .i64 T, .slice A xs.length c] w fun e w' => ∃ v, e = .returned (.tuple #[v, .int .i64 e0]) ∧ Rsl w' w.heap.size v (mdl (fun _ => 0) out out.length) ∧ Below w.heap.size w w' := by
 have HS := Lib.hid (PH.split_Split.calls T A c xs out e0 w hC hc hs)
 have HO := Lib.hid ho
 clear hC hc hs ho
 go_enter Tryd.func23, Tryd.ntmps23
 go_wp2_with fail
 refine HS.out.mono ?_
 rintro e W ⟨v, rfl, hR, hB⟩
 obtain ⟨A', c', rfl, hc', hC'⟩ := Kd.R_reads hR
 have HM := Lib.hid (made_zero W A' c' out (fun _ => 0) hC' HO.out (fun i _ W' _ => zero_is i W'))
 have HB := Lib.hid hB
 clear hR hB hC' hc' HS
 go_wp2_with fail
 refine HM.out.mono ?_
 rintro e W2 ⟨v, rfl, hR, hB⟩
 obtain ⟨A2, c2, rfl⟩ := Kd.R_slice hR
 have H2 := Lib.hid (And.intro (Kd.R_lower hR HB.out.size) (HB.out.trans (hB.mono HB.out.size)))
 clear hR hB HM
 go_wp2
 go_ret2
 exact ⟨_, rfl, H2.out.1, H2.out.2⟩
end Go.Proofs.YtgceecnlgjmghaaDoor.sch

namespace Go.Proofs.YtgceecnlgjmghaaDoor.sch
open Go.RowKit Go.Proofs.YtgceecnlgjmghaaDoor.base Go.Proofs.YtgceecnlgjmghaaDoorW.PrintMore Go.Proofs.YtgceecnlgjmghaaDoorW.PrintWords
set_option linter.unusedSimpArgs false
attribute [local go_sem] Oper.semAt_some min2_int min_two
abbrev Sh8 := PH.S88
abbrev z8 : Sh8 := PH.z88
abbrev Csh (w : World) (A : Option Addr) (l : List Sh8) : Prop := Kd.C PH.k88 w A l.length l
theorem row8_cells {w : World} {A : Option Addr} {l : List Sh8} (h : Csh w A l) (i : Nat) (hi : i < l.length) : ∃ b off, A = some ⟨b, off, none⟩ ∧ w.cell? ⟨b, off + i * 2, none⟩ = some (.int .i64 (l.getD i z8).f0) ∧ w.cell? ⟨b, off + i * 2 + 1, none⟩ = some (.int .i64 (l.getD i z8).f1) := by
 obtain ⟨ad, e, h0, h1⟩ := PH.at_T88 h (i : Int) (by omega) (by omega)
 have ei : ((i : Int)).toNat = i := rfl
 rw [ei] at h0 h1
 have er : PH.rd_T88 l (i : Int) = l.getD i z8 := rfl
 rw [er] at h0 h1
 obtain ⟨ad0, e', h0', _⟩ := PH.at_T88 h 0 (by omega) (by omega)
 rw [e] at e'
 obtain rfl := Option.some.inj e'
 rw [show ad.add ((0 : Int).toNat * 2) = ad from by simp [Addr.add]] at h0'
 obtain ⟨b, off, sp⟩ := ad
 have hsp : sp = none := by
  unfold World.cell? at h0'
  cases sp with
  | none => rfl
  | some q => simp only at h0'; split at h0' <;> simp at h0'
 subst hsp
 refine ⟨b, off, e, ?_, ?_⟩
 ·by_cases hz : i * 2 = 0
  ·simpa [Addr.add, hz] using h0
  ·simpa [Addr.add, hz] using h0
 ·by_cases hz : i * 2 = 0
  ·simpa [Addr.add, hz] using h1
  ·simpa [Addr.add, hz] using h1
theorem at_is (B : Nat) (A : Option Addr) (c : Nat) (l : List Sh8) (i : Nat) (w : World) (hb : Boxed w B 84 (.slice A l.length c)) (hC : Csh w A l) (hi : i < l.length) :
  Calls Tryd.prog 46 #[.int .i64 (i : Int), .pointer (some ⟨B, 0, none⟩)] w fun e V => e = .returned (.int .i64 (l.getD i z8).f0) ∧ V = w := by
 obtain ⟨b, off, rfl, c0, _⟩ := row8_cells hC i hi
 have hc := hb.cell
 have p0 : (0 : Int) ≤ (i : Int) := by omega
 clear hC hb
 generalize l.getD i z8 = x at *
 go_enter Tryd.func46, Tryd.ntmps46
 go_wp2
 go_ret
 exact ⟨rfl, rfl⟩
theorem str_no (w : World) (T f n : Int) (h : pmon.badT f n = true) :
  Calls Tryd.prog 21 #[.int .i64 T, .int .i64 f, .int .i64 n] w fun e w' => e = .returned (.tuple #[.slice none 0 0, .int .i64 2]) ∧ Below w.heap.size w w' := by
 have HM := Lib.hid (pmon.months_no f n w h)
 clear h
 go_enter Tryd.func21, Tryd.ntmps21
 go_wp2_with fail
 refine HM.out.mono ?_
 rintro e W ⟨rfl, hB⟩
 have HB := Lib.hid hB
 clear hB
 go_wp2
 go_ret2
 exact ⟨rfl, below_alloc HB.out _⟩
theorem lit1 (W : World) (base : Nat) (a : Int) (hb : base ≤ W.heap.size) : spl.Ri (W.alloc (.cells #[.int .i64 a] 2)) base (.slice (some ⟨W.heap.size, 0, none⟩) 1 1) [a] := by
 have h2 := World.ownsRow_lit (base := base) (e := 2) (size := 1) W #[.int .i64 a] 1 hb (by unfold maxLen; omega) (by simp)
 exact .of (by simpa [encs] using h2)
/-- The days of months. -/
def dys (l : List Sh8) : List Int := l.map (·.f1)
theorem dys_take (l : List Sh8) (i : Nat) (h : i < l.length) : dys (l.take (i + 1)) = dys (l.take i) ++ [(l.getD i z8).f1] := by
 unfold dys
 rw [List.take_succ_eq_append_getElem h, List.map_append, List.getD_eq_getElem?_getD, List.getElem?_eq_getElem h]
 rfl
set_option maxRecDepth 100000 in
set_option maxHeartbeats 2000000 in
theorem str_yes (w : World) (T f n : Int) (hT : civ.Tab w) (l : List Sh8) (hm : PH.prorate_Months.f f n = some (l, 0)) (hl : l.length ≤ 200000) (out : List Int) (e0 : Int) (hs : PH.split_Split.f T (dys l) = some (out, e0)) (ho : out.length ≤ 4096) (hol : out.length ≤ l.length) :
  Calls Tryd.prog 21 #[.int .i64 T, .int .i64 f, .int .i64 n] w fun e w' => ∃ v, e = .returned (.tuple #[v, .int .i64 e0]) ∧ Rsl w' w.heap.size v (mdl (fun i => (l.getD i z8).f0) out out.length) ∧ Below w.heap.size w w' := by
 have HM := Lib.hid (PH.prorate_Months.calls f n l 0 w ⟨hT⟩ hm)
 have HS := Lib.hid hs
 have HO := Lib.hid (And.intro ho (And.intro hol hl))
 clear hT hm hs ho hol hl
 go_enter Tryd.func21, Tryd.ntmps21
 go_wp2_with fail
 refine HM.out.mono ?_
 rintro e W ⟨v, rfl, hR, hB⟩
 obtain ⟨A, c, rfl, hc, hC⟩ := Kd.R_reads hR
 obtain ⟨V, hV⟩ : ∃ V, W.alloc (.cells #[.slice A l.length c] 84) = V := ⟨_, rfl⟩
 have v1 : Boxed V W.heap.size 84 (.slice A l.length c) := by rw [← hV]; exact Boxed.new W _ _
 have v2 : Csh V A l := by rw [← hV]; exact Kd.C_below hC (below_alloc (Below.refl _ _) _)
 have v3 : Below w.heap.size w V := by rw [← hV]; exact below_alloc hB _
 have v4 : V.heap.size = W.heap.size + 1 := by rw [← hV]; simp
 have HW := Lib.hid (And.intro v1 (And.intro v2 (And.intro v3 (And.intro v4 hB.size))))
 have HV := Lib.hid hV
 clear hR hB hc hC HM v1 v2 v3 v4 hV
 go_wp2_with fail
 rw [HV.out]
 have HBV := Lib.hid (Below.refl V.heap.size V)
 go_loopg [10, 25] (l.length + 1) (fun kq v10 v25 w' => ∃ i : Nat, v25 = .int .i64 (i : Int) ∧ Aside0 (i ≤ l.length ∧ l.length + 1 ≤ kq + i) ∧ Aside0 (spl.Ri w' V.heap.size v10 (dys (l.take i)) ∧ Below V.heap.size V w'))
 case atStart => exact ⟨0, rfl, ⟨by omega⟩, ⟨Kd.R_nil _ _ _ _ _, Below.refl _ _⟩⟩
 case round =>
  obtain ⟨i, rfl, HI, HX⟩ := hrel
  by_cases hi : i < l.length
  ·obtain ⟨k1, rfl⟩ : ∃ k1, gk = k1 + 1 := ⟨gk - 1, by have := HI.out; omega⟩
   obtain ⟨b, off, rfl, c0, c1⟩ := row8_cells (Kd.C_below HW.out.2.1 HX.out.2) i hi
   have HD := Lib.hid (dys_take l i hi)
   have HL := Lib.hid hi
   have p0 : (0 : Int) ≤ (i : Int) := by omega
   have HI2 := Lib.hid (show i ≤ l.length ∧ l.length + 1 ≤ k1 + 1 + i from HI.out)
   clear HI
   generalize l.getD i z8 = x at *
   have w1 := below_alloc (Below.refl wr.heap.size wr) (.cells #[.int .i64 x.f0, .int .i64 x.f1] 88)
   have w2 := Kd.R_below HX.out.1 w1
   have HU2 := Lib.hid (And.intro w2 (And.intro (HX.out.2.trans (w1.mono HX.out.2.size)) w1))
   clear w1 w2
   go_wp2_with (first | ((with_reducible refine gate_builtin (b := .append) (xs := #[.tmp 29, .tmp 32]) rfl ?_); at_builtin; refine Kd.R_append_row (Value.int .i64) (0 : Int) (h1 := fun _ => rfl) (w0 := V) V.heap.size rfl (.tmp 29) (.tmp 32) 48 2 (.int .i64 0) 8 rfl Tryd.underlying48 spl.infoI rfl (by decide) u10 (dys (l.take i)) [x.f1] _ 1 1 (fun _ => True) rfl rfl (fun _ _ => trivial) ?aO ?aR ?aB ?aS ?aL ?_; (case aO => exact Kd.R_below HU2.out.1 (below_alloc (Below.refl _ _) _)); (case aR => (have h := (Kd.R_reads' (lit1 (wr.alloc (.cells #[.int .i64 x.f0, .int .i64 x.f1] 88)) V.heap.size x.f1 HU2.out.2.1.size)).2.2; rw [World.size_alloc] at h; exact h)); (case aB => exact below_alloc HU2.out.2.1 _); (case aS => exact (below_alloc HU2.out.2.1 _).size); (case aL => (have := HO.out; have := HL.out; simp [dys]; omega)); intro v1 w3 hR hb hg hat; have HR := Lib.hid (And.intro hR hb); clear hR hb hg hat))
   go_roundg k1
   case measure => exact Nat.lt_succ_self _
   refine ⟨i + 1, by rw [show wrap64 ((i : Int) + 1) = ((i + 1 : Nat) : Int) from by have := HO.out; have := HL.out; unfold wrap64; omega], ⟨by have := HI2.out; have := HL.out; omega⟩, ⟨?_, HR.out.2⟩⟩
   rw [HD.out]
   exact HR.out.1
  ·obtain rfl : i = l.length := by have := HI.out; omega
   have hV : Below w.heap.size w wr := HW.out.2.2.1.trans (HX.out.2.mono HW.out.2.2.1.size)
   have hR := HX.out.1
   rw [List.take_length] at hR
   obtain ⟨A5, c5, rfl, hc5, hC5⟩ := Kd.R_reads hR
   have HP := Lib.hid (PH.split_Split.calls T A5 c5 (dys l) out e0 wr (by simpa using hC5) (by simpa using hc5) HS.out)
   have HVB := Lib.hid (And.intro hV (And.intro ((HX.out.2.block W.heap.size (by have := HW.out.2.2.2.1; omega)).trans HW.out.1) (Kd.C_below HW.out.2.1 HX.out.2)))
   have hdl : (dys l).length = l.length := by simp [dys]
   rw [hdl] at HP
   clear hV hR hc5 hC5
   go_wp2_with fail
   refine HP.out.mono ?_
   rintro e W2 ⟨v, rfl, hR, hB⟩
   obtain ⟨A', c', rfl, hc', hC'⟩ := Kd.R_reads hR
   have HM := Lib.hid (made_at W2 A' c' out W.heap.size (fun i => (l.getD i z8).f0) hC' HO.out.1 (fun i hi' W' hW' => at_is W.heap.size A c l i W' ((hW'.block W.heap.size (by have := hB.size; have := HX.out.2.size; have := HW.out.2.2.2.1; omega)).trans ((hB.block W.heap.size (by have := HX.out.2.size; have := HW.out.2.2.2.1; omega)).trans HVB.out.2.1)) (Kd.C_below (Kd.C_below HVB.out.2.2 hB) hW') (by have := HO.out; omega)))
   have HB := Lib.hid (HVB.out.1.trans (hB.mono HVB.out.1.size))
   clear hR hB hC' hc' HS
   go_wp2_with fail
   refine HM.out.mono ?_
   rintro e W3 ⟨v, rfl, hR, hB⟩
   obtain ⟨A2, c2, rfl⟩ := Kd.R_slice hR
   have H2 := Lib.hid (And.intro (Kd.R_lower hR HB.out.size) (HB.out.trans (hB.mono HB.out.size)))
   clear hR hB HM
   go_wp2
   go_ret2
   exact ⟨_, rfl, H2.out.1, H2.out.2⟩
end Go.Proofs.YtgceecnlgjmghaaDoor.sch
namespace Sp
theorem outOf_len {T : Int} {xs : List Int} : (outOf T xs).length ≤ xs.length := by
 unfold outOf
 split
 ·rename_i h; exact Nat.le_of_eq h.choose_spec.len
 ·exact Nat.zero_le _
theorem split_len {T : Int} {xs out : List Int} {e0 : Int} (h : Go.Proofs.YtgceecnlgjmghaaDoor.PH.split_Split.f T xs = some (out, e0)) : out.length ≤ 4096 ∧ out.length ≤ xs.length := by
 unfold Go.Proofs.YtgceecnlgjmghaaDoor.PH.split_Split.f at h
 split at h
 ·simp only [Option.some.injEq] at h
  split at h
  ·rename_i hk
   simp only [Prod.mk.injEq] at h
   obtain ⟨rfl, _⟩ := h
   have h2 := outOf_len (T := T) (xs := xs)
   have h3 := (okB_iff.1 hk).n1
   exact ⟨by omega, h2⟩
  ·simp only [Prod.mk.injEq] at h
   obtain ⟨rfl, _⟩ := h
   exact ⟨Nat.zero_le _, Nat.zero_le _⟩
 ·cases h
end Sp
namespace Go.Proofs.YtgceecnlgjmghaaDoor.PH
open Go.RowKit Go.Proofs.YtgceecnlgjmghaaDoorW.PrintWords Go.Proofs.YtgceecnlgjmghaaDoor.sch
noncomputable def sched_Milestones.f (T : Int) (xs : List Int) : Option (List S61 × Int) := (split_Split.f T xs).map fun r => (mdl (fun _ => 0) r.1 r.1.length, r.2)
theorem sched_Milestones.calls (T : Int) (A1 : Option Addr) (c1 : Nat) (l1 : List Int) (r1 : List S61) (r2 : Int) (w : World) (hr1 : Kd.C (Kd.int .i64) w A1 l1.length l1) (hc1 : l1.length ≤ c1) (h : sched_Milestones.f T l1 = some (r1, r2)) :
  Calls Tryd.prog 23 #[.int .i64 T, .slice A1 l1.length c1] w fun e w' => ∃ v0_, e = .returned (.tuple #[v0_, .int .i64 r2]) ∧ Kd.R k61 61 w' w.heap.size (fun _ => True) v0_ r1 ∧ Below w.heap.size w w' := by
 unfold sched_Milestones.f at h
 obtain ⟨⟨out, e0⟩, hs, he⟩ := Option.map_eq_some_iff.1 h
 simp only [Prod.mk.injEq] at he
 obtain ⟨rfl, rfl⟩ := he
 exact mil_is w T A1 c1 l1 hr1 hc1 out e0 hs (Sp.split_len hs).1
noncomputable def sched_Straight.f (T f n : Int) : Option (List S61 × Int) := (prorate_Months.f f n).bind fun m => if pmon.badT f n = true then some ([], 2) else (split_Split.f T (dys m.1)).map fun r => (mdl (fun i => (m.1.getD i z8).f0) r.1 r.1.length, r.2)
theorem sched_Straight.calls (T f n : Int) (r1 : List S61) (r2 : Int) (w : World) (HTab : Aside0 (Tab w)) (h : sched_Straight.f T f n = some (r1, r2)) :
  Calls Tryd.prog 21 #[.int .i64 T, .int .i64 f, .int .i64 n] w fun e w' => ∃ v0_, e = .returned (.tuple #[v0_, .int .i64 r2]) ∧ Kd.R k61 61 w' w.heap.size (fun _ => True) v0_ r1 ∧ Below w.heap.size w w' := by
 unfold sched_Straight.f at h
 obtain ⟨⟨l, e1⟩, hm, h2⟩ := Option.bind_eq_some_iff.1 h
 by_cases hb : pmon.badT f n = true
 ·rw [if_pos hb] at h2
  simp only [Option.some.injEq, Prod.mk.injEq] at h2
  obtain ⟨rfl, rfl⟩ := h2
  exact (str_no w T f n hb).mono fun e w' ⟨he, hB⟩ => ⟨_, he, Kd.R_nil _ _ _ _ _, hB⟩
 ·rw [if_neg hb] at h2
  obtain ⟨⟨out, e0⟩, hs, he⟩ := Option.map_eq_some_iff.1 h2
  simp only [Prod.mk.injEq] at he
  obtain ⟨rfl, rfl⟩ := he
  have hm2 := hm
  unfold prorate_Months.f at hm2
  rw [if_neg hb] at hm2
  simp only [Option.some.injEq, Prod.mk.injEq] at hm2
  obtain ⟨rfl, rfl⟩ := hm2
  have hok : Tm.Ok f n := by
   have : ¬ (f < 1 ∨ n ≤ f ∨ 3652060 < n) := by simpa [pmon.badT] using hb
   exact ⟨by omega, by omega, by omega⟩
  have hc := Tm.cnt_spec hok
  have hlen : ((Tm.terms f n (Tm.cnt f n)).map shr).length ≤ 200000 := by
   rw [List.length_map, Tm.terms_len]
   omega
  have h3 := Sp.split_len hs
  have h4 : (dys ((Tm.terms f n (Tm.cnt f n)).map shr)).length = ((Tm.terms f n (Tm.cnt f n)).map shr).length := by simp [dys]
  exact str_yes w T f n HTab.out _ hm hlen out e0 hs h3.1 (h4 ▸ h3.2)
end Go.Proofs.YtgceecnlgjmghaaDoor.PH

