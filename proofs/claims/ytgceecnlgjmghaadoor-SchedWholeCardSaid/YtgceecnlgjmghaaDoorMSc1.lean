/- What package sched's iterator over asked slices tells (a walk). No conditions. The sum of asked slices (a walk). No conditions but that numbers are of 64 bits. What sched.Check answers (a walk), in the printed form. No conditions. What sched.Check answers of slices (a walk), in the printed form. No conditions. What sched.Left answers; a schedule in memory of its own (walks). No conditions. What sched.Reach answers (a walk), in the printed form. No conditions. What sched.Take answers (a walk), in the printed form. No conditions. -/
import Derived.Test.YtgceecnlgjmghaaDoorBase
import Derived.Test.YtgceecnlgjmghaaDoorMMon
import Derived.Test.YtgceecnlgjmghaaDoorPHx0
import Derived.RangeFuncBox
import Derived.Shelf.Abstract
import Derived.Shelf.RegionOpen
import Derived.OwnWalkIn
import Derived.TacticsInMore
import Derived.LoopNIn
import Derived.LoopIn
import Derived.Sort.CutIn
import Derived.Maps.AppendAt
import Derived.Maps.OwnIn
import Derived.Test.YtgceecnlgjmghaaDoorMP
import Derived.Test.YtgceecnlgjmghaaDoorWMore
import Derived.Lib.SliceRun
namespace Go.Proofs.YtgceecnlgjmghaaDoor.sch
open Go.RowKit Go.Proofs.YtgceecnlgjmghaaDoor.base Go.Shelf Go.Proofs.YtgceecnlgjmghaaDoor.rl Go.Proofs.YtgceecnlgjmghaaDoorW.PrintMore Go.Proofs.YtgceecnlgjmghaaDoorW.PrintWords
set_option linter.unusedSimpArgs false
attribute [local go_sem] Oper.semAt_some min2_int min_two
abbrev Sl := PH.S61
abbrev zs : Sl := PH.z61
abbrev Csl (w : World) (A : Option Addr) (l : List Sl) : Prop := Kd.C PH.k61 w A l.length l
def sv (x : Sl) : Value := .agg #[.int .i64 x.f0, .int .i64 x.f1, .bool x.f2]
def encA (y : Nat × Sl) : Array Value := #[.int .i64 (y.1 : Int), sv y.2]
/-- Those of the first that are asked for, with their places. -/
def picks (p : Sl → Bool) (l : List Sl) (i : Nat) : List (Nat × Sl) := ((List.range i).filter (fun j => p (l.getD j zs))).map (fun j => (j, l.getD j zs))
theorem grown_of {w w' : World} (h : Below w.heap.size w w') : w.grownBy w' none := ⟨h.os, h.tape, h.output, h.size, fun k hk _ => h.block k hk⟩
theorem picks_succ (p : Sl → Bool) (l : List Sl) (i : Nat) : picks p l (i + 1) = if p (l.getD i zs) = true then picks p l i ++ [(i, l.getD i zs)] else picks p l i := by
 unfold picks
 rw [List.range_succ, List.filter_append, List.map_append]
 by_cases h : p (l.getD i zs) = true
 ·rw [if_pos h, List.filter_cons, if_pos h]
  rfl
 ·rw [if_neg h, List.filter_cons, if_neg h]
  simp
theorem picks_len (p : Sl → Bool) (l : List Sl) (i : Nat) : (picks p l i).length ≤ i := by
 unfold picks
 rw [List.length_map]
 exact Nat.le_trans (List.length_filter_le _ _) (by simp)
/-- Where a slice of slices lies. -/
theorem row_cells {w : World} {A : Option Addr} {l : List Sl} (h : Csl w A l) (i : Nat) (hi : i < l.length) : ∃ b off, A = some ⟨b, off, none⟩ ∧ w.cell? ⟨b, off + i * 3, none⟩ = some (.int .i64 (l.getD i zs).f0) ∧ w.cell? ⟨b, off + i * 3 + 1, none⟩ = some (.int .i64 (l.getD i zs).f1) ∧ w.cell? ⟨b, off + i * 3 + 2, none⟩ = some (.bool (l.getD i zs).f2) := by
 obtain ⟨ad, e, h0, h1, h2⟩ := PH.at_T61 h (i : Int) (by omega) (by omega)
 have ei : ((i : Int)).toNat = i := rfl
 rw [ei] at h0 h1 h2
 have er : PH.rd_T61 l (i : Int) = l.getD i zs := rfl
 rw [er] at h0 h1 h2
 obtain ⟨ad0, e', h0', _⟩ := PH.at_T61 h 0 (by omega) (by omega)
 rw [e] at e'
 obtain rfl := Option.some.inj e'
 rw [show ad.add ((0 : Int).toNat * 3) = ad from by simp [Addr.add]] at h0'
 obtain ⟨b, off, sp⟩ := ad
 have hsp : sp = none := by
  unfold World.cell? at h0'
  cases sp with
  | none => rfl
  | some q => simp only at h0'; split at h0' <;> simp at h0'
 subst hsp
 refine ⟨b, off, e, ?_, ?_, ?_⟩
 ·by_cases hz : i * 3 = 0
  ·simpa [Addr.add, hz] using h0
  ·simpa [Addr.add, hz] using h0
 ·by_cases hz : i * 3 = 0
  ·simpa [Addr.add, hz] using h1
  ·simpa [Addr.add, hz] using h1
 ·by_cases hz : i * 3 = 0
  ·simpa [Addr.add, hz] using h2
  ·simpa [Addr.add, hz] using h2
/-- What a round keeps: what lies below a place, and some blocks. -/
structure Ka (M : Nat) (L : List Nat) (W W' : World) : Prop where
 bel : Below M W W'
 ks : ∀ b ∈ L, W'.heap[b]? = W.heap[b]?
theorem Ka.refl (M : Nat) (L : List Nat) (W : World) : Ka M L W W := ⟨Below.refl _ _, fun _ _ => rfl⟩
theorem Ka.trans {M : Nat} {L : List Nat} {A B C : World} (h : Ka M L A B) (k : Ka M L B C) : Ka M L A C := ⟨h.bel.trans k.bel, fun b hb => (k.ks b hb).trans (h.ks b hb)⟩
theorem Ka.below {M : Nat} {L : List Nat} {A B : World} (h : Below A.heap.size A B) (hM : M ≤ A.heap.size) (hL : ∀ b ∈ L, b < A.heap.size) : Ka M L A B := ⟨h.mono hM, fun b hb => h.block b (hL b hb)⟩
/-- A way of asking: what is called answers a test, and makes memory alone. -/
def Asks (M : Nat) (L : List Nat) (g : Nat) (caps : Array Value) (p : Sl → Bool) (w : World) : Prop := ∀ (W : World) (x : Sl), Ka M L w W →
 CallsIn Fence.wide 1 Tryd.prog g (#[sv x] ++ caps) W fun e V => e = .returned (.bool (p x)) ∧ Below W.heap.size W V
set_option maxRecDepth 100000 in
set_option maxHeartbeats 2000000 in
theorem asked_in (ly Bl Bi M : Nat) (L : List Nat) (A : Option Addr) (c : Nat) (l : List Sl) (g : Nat) (caps : Array Value) (eg : ∀ args w, (callFunc g args).run Tryd.prog w = .ok (.enter g args) w) (p : Sl → Bool)
  (J Jx : List (Nat × Sl) → World → Prop)
  (hY : ∀ pre x W, J pre W → pre.length < l.length → x.1 < l.length → x.2 = l.getD x.1 zs → YieldAt Fence.wide 1 Tryd.prog ly (encA x) W fun e W' =>
   (e = .returned (.bool true) ∧ J (pre ++ [x]) W' ∧ Ka M L W W') ∨ (e = .returned (.bool false) ∧ Jx (pre ++ [x]) W'))
  (W : World) (hJ : Bears [] J) (hC : Csl W A l) (hM : M ≤ W.heap.size) (hA : ∀ b off, A = some ⟨b, off, none⟩ → b < M) (hLl : ∀ b ∈ L, b < W.heap.size) (hn : l.length ≤ 4611686018427387904)
  (cl : Boxed W Bl 23 (.slice A l.length c)) (ci : Boxed W Bi 76 (.func (.func g) #[] caps)) (hl : Bl ∈ L) (hi : Bi ∈ L) (hp : Asks M L g caps p W) (h0 : J [] W) :
  CallsIn Fence.wide 2 Tryd.prog 60 #[.func (.yield ly) #[] #[], .pointer (some ⟨Bl, 0, none⟩), .pointer (some ⟨Bi, 0, none⟩)] W fun e W' => (∃ v, e = .returned v) ∧
   ((∃ ys, ys = picks p l l.length ∧ J ys W') ∨ (∃ i, i ≤ l.length ∧ ∃ pre, pre = picks p l i ∧ Jx pre W')) := by
 refine callsIn_of_wp Tryd.func60 rfl trivial ?_ rfl
 simp only [Tryd.ntmps60, List.size_toArray, List.length_cons, List.length_nil, Nat.reduceAdd, Nat.reduceSub, Array.replicate_succ, Array.replicate_zero, List.push_toArray, List.append_toArray, List.nil_append, List.cons_append]
 have HY := Lib.hid hY
 have HJ := Lib.hid hJ
 have HP := Lib.hid hp
 have HC := Lib.hid hC
 have HA := Lib.hid hA
 have HLl := Lib.hid hLl
 have HL := Lib.hid hl
 have HI := Lib.hid hi
 have HB := Lib.hid (And.intro cl ci)
 have cl1 := cl.cell
 clear hY hJ hp hC hA hLl hl hi cl ci
 gi_wp2
 gi_loopw [8] (fun m wr => ∃ i : Nat, m = .int .i64 (i : Int) ∧ i ≤ l.length ∧ J (picks p l i) wr ∧ Ka M L W wr) (fun m _ => ((l.length : Int) - intOf m).toNat)
 case atStart =>
  refine ⟨0, rfl, Nat.zero_le _, h0, Ka.refl _ _ _⟩
 case round =>
  obtain ⟨i, rfl, hi, hJs, hk⟩ := hrel
  clear cl1
  by_cases hlt : i < l.length
  ·obtain ⟨b, off, rfl, e0, e1, e2⟩ := row_cells HC.out i hlt
   have hb := HA.out b off rfl
   have hbW : b < W.heap.size := Nat.lt_of_lt_of_le hb hM
   have c0 := (hk.bel.cell (p := ⟨b, off + i * 3, none⟩) hb).trans e0
   have c1 := (hk.bel.cell (p := ⟨b, off + i * 3 + 1, none⟩) hb).trans e1
   have c2 := (hk.bel.cell (p := ⟨b, off + i * 3 + 2, none⟩) hb).trans e2
   have ci := (show Boxed wr Bi _ _ from (hk.ks Bi HI.out).trans HB.out.2).cell
   have HJS := Lib.hid hJs
   have HK := Lib.hid hk
   have HS := Lib.hid (picks_succ p l i)
   have HLT := Lib.hid hlt
   have q1 : (0 : Int) ≤ (i : Int) := by omega
   have q2 : Bi < wr.heap.size := Nat.lt_of_lt_of_le (HLl.out _ HI.out) hk.bel.size
   have q4 : b < wr.heap.size := Nat.lt_of_lt_of_le hbW hk.bel.size
   clear hJs hk e0 e1 e2 hb hbW
   generalize hx : l.getD i zs = x at *
   gi_wp2_with fail
   obtain ⟨V0, hV0⟩ : ∃ V0, wr.alloc (.cells #[.int .i64 x.f0, .int .i64 x.f1, .bool x.f2] 61) = V0 := ⟨_, rfl⟩
   have s0 : V0.heap.size = wr.heap.size + 1 := by rw [← hV0]; simp
   have b0 : Below wr.heap.size wr V0 := by rw [← hV0]; exact below_alloc (Below.refl _ _) _
   have k0 : Ka M L wr V0 := Ka.below b0 (Nat.le_trans hM HK.out.bel.size) (fun b hb => Nat.lt_of_lt_of_le (HLl.out b hb) HK.out.bel.size)
   have x0 : V0.cell? ⟨wr.heap.size, 0, none⟩ = some (.int .i64 x.f0) ∧ V0.cell? ⟨wr.heap.size, 1, none⟩ = some (.int .i64 x.f1) ∧ V0.cell? ⟨wr.heap.size, 2, none⟩ = some (.bool x.f2) := by rw [← hV0]; simp
   rw [hV0]
   have HQ := HP.out V0 x (HK.out.trans k0)
   simp only [sv] at HQ
   refine ⟨trivial, HQ.mono ?_⟩
   rintro e V1 ⟨rfl, b1⟩
   have x1 := (b1.cell (p := ⟨wr.heap.size, 0, none⟩) (by simp; omega)).trans x0.1
   have x2 := (b1.cell (p := ⟨wr.heap.size, 1, none⟩) (by simp; omega)).trans x0.2.1
   have x3 := (b1.cell (p := ⟨wr.heap.size, 2, none⟩) (by simp; omega)).trans x0.2.2
   have k1 : Ka M L wr V1 := k0.trans (Ka.below b1 (by have := HK.out.bel.size; omega) (fun b hb => by have := HLl.out b hb; have := HK.out.bel.size; omega))
   have bb : Below wr.heap.size wr V1 := b0.trans (b1.mono (by omega))
   have j1 : J (picks p l i) V1 := HJ.out _ _ _ none HJS.out (grown_of bb) (fun _ e => by cases e)
   have H1 := Lib.hid (And.intro k1 j1)
   clear HQ b0 k0 x0 b1 k1 bb j1 c0 c1 c2 ci hV0 s0
   by_cases hpx : p x = true
   ·rw [if_pos hpx] at HS
    obtain ⟨fn, tmps, assign, body, hy, hR⟩ := HY.out _ (i, x) V1 H1.out.2 (by have := HLT.out; have := picks_len p l i; omega) HLT.out hx.symm
    dsimp only [encA, sv] at hy
    rw [hpx]
    gi_wp2
    refine hR.mono ?_
    rintro e' W3 (⟨rfl, J3, k3⟩ | ⟨rfl, Jx3⟩)
    ·have H3 := Lib.hid (And.intro J3 k3)
     clear J3 k3
     gi_wp2
     go_roundw
     case rel =>
      refine ⟨i + 1, by simp, HLT.out, ?_, HK.out.trans (H1.out.1.trans H3.out.2)⟩
      rw [HS.out]
      exact H3.out.1
     case measure => simp [intOf]; omega
    ·gi_wp2
     refine bodyPost_ret (results_none rfl _ _ _) rfl ?_
     exact ⟨⟨_, rfl⟩, .inr ⟨i + 1, HLT.out, _, HS.out.symm, Jx3⟩⟩
   ·have hpx' : p x = false := by simpa using hpx
    rw [if_neg hpx] at HS
    rw [hpx']
    gi_wp2_with fail
    refine ⟨by simp, ?_⟩
    gi_wp2
    go_roundw
    case rel =>
     refine ⟨i + 1, by simp, HLT.out, ?_, HK.out.trans H1.out.1⟩
     rw [HS.out]
     exact H1.out.2
    case measure => simp [intOf]; omega
  ·obtain rfl : i = l.length := by omega
   gi_wp2
   go_end0
   exact ⟨⟨_, rfl⟩, .inl ⟨_, rfl, hJs⟩⟩
theorem Asks.mono {M : Nat} {L : List Nat} {g : Nat} {caps : Array Value} {p : Sl → Bool} {w W : World} (h : Asks M L g caps p w) (k : Ka M L w W) : Asks M L g caps p W := fun V x q => h V x (k.trans q)
theorem asked_stops (Bl Bi M : Nat) (L : List Nat) (A : Option Addr) (c : Nat) (l : List Sl) (g : Nat) (caps : Array Value) (eg : ∀ args w, (callFunc g args).run Tryd.prog w = .ok (.enter g args) w) (p : Sl → Bool)
  (w : World) (hC : Csl w A l) (hM : M ≤ w.heap.size) (hA : ∀ b off, A = some ⟨b, off, none⟩ → b < M) (hLl : ∀ b ∈ L, b < w.heap.size) (hn : l.length ≤ 4611686018427387904)
  (cl : Boxed w Bl 23 (.slice A l.length c)) (ci : Boxed w Bi 76 (.func (.func g) #[] caps)) (hl : Bl ∈ L) (hi : Bi ∈ L) (hp : Asks M L g caps p w) :
  SeqStopsL Fence.wide 2 Tryd.prog 60 #[.pointer (some ⟨Bl, 0, none⟩), .pointer (some ⟨Bi, 0, none⟩)] encA (Ka M L)
   (fun ys => ys = picks p l l.length) (fun pre => ∃ i, i ≤ l.length ∧ pre = picks p l i) l.length [] w := fun ly J Jx W hW hJ _ hY h0 => by
 have hk : Ka M L w W := Ka.below hW hM hLl
 refine (asked_in ly Bl Bi M L A c l g caps eg p J Jx (fun pre x W a b _ _ => hY pre x W a b) W hJ (Kd.C_below hC hW) (Nat.le_trans hM hW.size) hA (fun b hb => Nat.lt_of_lt_of_le (hLl b hb) hW.size) hn ((hk.ks _ hl).trans cl) ((hk.ks _ hi).trans ci) hl hi (hp.mono hk) h0).mono ?_
 rintro e V ⟨h1, h2 | ⟨i, hi, pre, e2, h2⟩⟩
 ·exact ⟨h1, .inl h2⟩
 ·exact ⟨h1, .inr ⟨pre, ⟨i, hi, e2⟩, h2⟩⟩
/-- A place, with what stands there. -/
def pr (l : List Sl) (i : Fin l.length) : Nat × Sl := (i.1, l.getD i.1 zs)
/-- The same, told by places alone. -/
theorem asked_stopsF (Bl Bi M : Nat) (L : List Nat) (A : Option Addr) (c : Nat) (l : List Sl) (g : Nat) (caps : Array Value) (eg : ∀ args w, (callFunc g args).run Tryd.prog w = .ok (.enter g args) w) (p : Sl → Bool)
  (w : World) (hC : Csl w A l) (hM : M ≤ w.heap.size) (hA : ∀ b off, A = some ⟨b, off, none⟩ → b < M) (hLl : ∀ b ∈ L, b < w.heap.size) (hn : l.length ≤ 4611686018427387904)
  (cl : Boxed w Bl 23 (.slice A l.length c)) (ci : Boxed w Bi 76 (.func (.func g) #[] caps)) (hl : Bl ∈ L) (hi : Bi ∈ L) (hp : Asks M L g caps p w) :
  SeqStopsL Fence.wide 2 Tryd.prog 60 #[.pointer (some ⟨Bl, 0, none⟩), .pointer (some ⟨Bi, 0, none⟩)] (fun i => encA (pr l i)) (Ka M L)
   (fun ys => ys.map (pr l) = picks p l l.length) (fun _ => True) l.length [] w := fun ly J Jx W hW hJ _ hY h0 => by
 have hk : Ka M L w W := Ka.below hW hM hLl
 refine (asked_in ly Bl Bi M L A c l g caps eg p (fun pre V => ∃ q : List (Fin l.length), q.map (pr l) = pre ∧ J q V) (fun pre V => ∃ q : List (Fin l.length), q.map (pr l) = pre ∧ Jx q V) ?_ W ?_ (Kd.C_below hC hW) (Nat.le_trans hM hW.size) hA (fun b hb => Nat.lt_of_lt_of_le (hLl b hb) hW.size) hn ((hk.ks _ hl).trans cl) ((hk.ks _ hi).trans ci) hl hi (hp.mono hk) ⟨[], rfl, h0⟩).mono ?_
 ·rintro pre x V ⟨q, rfl, hq⟩ hlen hx1 hx2
  have e : x = pr l ⟨x.1, hx1⟩ := by
   obtain ⟨a, b⟩ := x
   simp only at hx2
   subst hx2
   rfl
  rw [List.length_map] at hlen
  have hy := hY q ⟨x.1, hx1⟩ V hq hlen
  rw [e]
  obtain ⟨fn, tmps, assign, body, h1, h2⟩ := hy
  refine ⟨fn, tmps, assign, body, h1, h2.mono ?_⟩
  rintro e W' (⟨a1, a2, a3⟩ | ⟨a1, a2⟩)
  ·exact .inl ⟨a1, ⟨_, by rw [List.map_append]; rfl, a2⟩, a3⟩
  ·exact .inr ⟨a1, ⟨_, by rw [List.map_append]; rfl, a2⟩⟩
 ·rintro s X B row ⟨q, h1, h2⟩ hg hr
  exact ⟨q, h1, hJ _ _ _ _ h2 hg hr⟩
 ·rintro e V ⟨h1, ⟨ys, e1, q, e2, h2⟩ | ⟨i, _, pre, _, q, _, h2⟩⟩
  ·exact ⟨h1, .inl ⟨q, e2.trans e1, h2⟩⟩
  ·exact ⟨h1, .inr ⟨q, trivial, h2⟩⟩
theorem asked_any (A : Option Addr) (n c g : Nat) (caps : Array Value) (w : World) : CallsIn Fence.wide 2 Tryd.prog 36 #[.slice A n c, .func (.func g) #[] caps] w fun e w' =>
  e = .returned (.func (.func 60) #[] #[.pointer (some ⟨w.heap.size, 0, none⟩), .pointer (some ⟨w.heap.size + 1, 0, none⟩)]) ∧ w'.heap.size = w.heap.size + 2 ∧ Below w.heap.size w w' ∧
   Boxed w' w.heap.size 23 (.slice A n c) ∧ Boxed w' (w.heap.size + 1) 76 (.func (.func g) #[] caps) := by
 refine callsIn_of_wp Tryd.func36 rfl trivial ?_ rfl
 simp only [Tryd.ntmps36, List.size_toArray, List.length_cons, List.length_nil, Nat.reduceAdd, Nat.reduceSub, Array.replicate_succ, Array.replicate_zero, List.push_toArray, List.append_toArray, List.nil_append, List.cons_append]
 gi_wp2
 go_ret
 refine ⟨rfl, by simp, ((Below.refl _ w).alloc (Nat.le_refl _) _).alloc (by simp) _, (Boxed.new w _ _).alloc _, ?_⟩
 have := Boxed.new (w.alloc (.cells #[.slice A n c] 23)) 76 (.func (.func g) #[] caps)
 rwa [World.size_alloc] at this
/-! The ways of asking. -/
def any (_ : Sl) : Bool := true
def opn (x : Sl) : Bool := !x.f2
/-- May a slice of a kind not be? -/
def bad (k : Int) (x : Sl) : Bool := decide (x.f0 < 0) || decide (119988 < x.f0) || decide (x.f1 < 0) || decide (4611686018427387904 ≤ x.f1) || (decide (x.f0 = 0) && (decide (k = 1) || x.f2))
theorem any_is (x : Sl) (w : World) : Calls Tryd.prog 41 #[sv x] w fun e w' => e = .returned (.bool (any x)) ∧ Below w.heap.size w w' := by
 unfold sv
 go_enter Tryd.func41, Tryd.ntmps41
 go_wp2
 go_ret
 exact ⟨rfl, below_alloc (Below.refl _ _) _⟩
theorem open_is (x : Sl) (w : World) : Calls Tryd.prog 38 #[sv x] w fun e w' => e = .returned (.bool (opn x)) ∧ Below w.heap.size w w' := by
 unfold sv
 go_enter Tryd.func38, Tryd.ntmps38
 go_wp2
 go_ret
 exact ⟨rfl, below_alloc (Below.refl _ _) _⟩
theorem wrong_is (k : Int) (B : Nat) (x : Sl) (w : World) (hb : Boxed w B 5 (.int .u8 k)) : Calls Tryd.prog 62 #[sv x, .pointer (some ⟨B, 0, none⟩)] w fun e w' => e = .returned (.bool (bad k x)) ∧ Below w.heap.size w w' := by
 obtain ⟨m, a, d⟩ := x
 have hB := hb.lt
 have hc := hb.cell
 unfold sv bad
 clear hb
 dsimp only
 by_cases h1 : m < 0
 ·have h0 : ¬ m = 0 := by omega
  go_enter Tryd.func62, Tryd.ntmps62
  go_wp2
  go_ret
  exact ⟨by simp [h1], below_alloc (Below.refl _ _) _⟩
 ·by_cases h2 : m > 119988
  ·have h0 : ¬ m = 0 := by omega
   go_enter Tryd.func62, Tryd.ntmps62
   go_wp2
   go_ret
   exact ⟨by simp [h2], below_alloc (Below.refl _ _) _⟩
  ·by_cases h0 : m = 0
   ·by_cases h3 : k = 1
    ·subst h0 h3
     by_cases h4 : a < 0
     ·go_enter Tryd.func62, Tryd.ntmps62
      go_wp2
      go_ret
      exact ⟨by simp, below_alloc (Below.refl _ _) _⟩
     ·by_cases h5 : a ≥ 4611686018427387904
      ·go_enter Tryd.func62, Tryd.ntmps62
       go_wp2
       go_ret
       exact ⟨by simp, below_alloc (Below.refl _ _) _⟩
      ·go_enter Tryd.func62, Tryd.ntmps62
       go_wp2
       go_ret
       exact ⟨by simp, below_alloc (Below.refl _ _) _⟩
    ·subst h0
     by_cases h4 : a < 0
     ·go_enter Tryd.func62, Tryd.ntmps62
      go_wp2
      go_ret
      exact ⟨by simp [h4], below_alloc (Below.refl _ _) _⟩
     ·by_cases h5 : a ≥ 4611686018427387904
      ·go_enter Tryd.func62, Tryd.ntmps62
       go_wp2
       go_ret
       exact ⟨by simp [h5], below_alloc (Below.refl _ _) _⟩
      ·go_enter Tryd.func62, Tryd.ntmps62
       go_wp2
       go_ret
       exact ⟨by simp [h3, show ¬ a < 0 by omega, show ¬ 4611686018427387904 ≤ a by omega], below_alloc (Below.refl _ _) _⟩
   ·by_cases h4 : a < 0
    ·go_enter Tryd.func62, Tryd.ntmps62
     go_wp2
     go_ret
     exact ⟨by simp [h4], below_alloc (Below.refl _ _) _⟩
    ·by_cases h5 : a ≥ 4611686018427387904
     ·go_enter Tryd.func62, Tryd.ntmps62
      go_wp2
      go_ret
      exact ⟨by simp [h5], below_alloc (Below.refl _ _) _⟩
     ·go_enter Tryd.func62, Tryd.ntmps62
      go_wp2
      go_ret
      exact ⟨by simp [h0, h1, h2, h4, h5], below_alloc (Below.refl _ _) _⟩
end Go.Proofs.YtgceecnlgjmghaaDoor.sch

namespace Go.Proofs.YtgceecnlgjmghaaDoor.sch
open Go.RowKit Go.Proofs.YtgceecnlgjmghaaDoor.base Go.Shelf Go.Proofs.YtgceecnlgjmghaaDoor.rl Go.Proofs.YtgceecnlgjmghaaDoorW.PrintMore Go.Proofs.YtgceecnlgjmghaaDoorW.PrintWords
set_option linter.unusedSimpArgs false
attribute [local go_sem] Oper.semAt_some min2_int min_two
theorem sum_none (w : World) : Calls Tryd.prog 28 #[.slice none 0 0] w fun e w' => e = .returned (.tuple #[.int .i64 0, .bool true]) ∧ Below w.heap.size w w' := by
 go_enter Tryd.func28, Tryd.ntmps28
 go_wp2
 go_loopw [13] (fun i wr => i = .int .i64 0 ∧ wr = w.alloc (.cells #[.int .u64 0, .int .u64 0] 108)) (fun _ _ => 0)
 case atStart => exact ⟨rfl, rfl⟩
 case round =>
  obtain ⟨rfl, rfl⟩ := hrel
  go_wp2
  go_ret2
  exact ⟨rfl, (Below.refl _ _).alloc (Nat.le_refl _) _⟩
/-- What is asked for, as cells. -/
def cla (l : List (Nat × Sl)) : List Value := l.map fun y => .int .i64 y.2.f1
theorem cla_snoc (l : List (Nat × Sl)) (y : Nat × Sl) : cla (l ++ [y]) = cla l ++ [.int .i64 y.2.f1] := by simp [cla]
theorem below_put {n : Nat} (W : World) (l : Nat) (o o' : Obj) (hl : n ≤ l) (h : W.heap[l]? = some o) : Below n W (W.putObj l o') :=
 (Below.refl n W).grown (grownBy_putObj' W l o') (by have := (Array.getElem?_eq_some_iff.1 h).1; omega) (fun k e => by cases e; omega)
theorem cells_own {β : Type} (B b : Nat) (f : β → Array Value) (t : TypeId) : OwnFrom B (fun s W => W.heap[b]? = some (.cells (f s) t (0, 0))) := fun _ X _ _ hs hg hrow =>
 (hg.block b (Array.getElem?_eq_some_iff.1 hs).1 (fun e' => by
  obtain ⟨_, o, ho, hc⟩ := hrow b e'.symm
  rw [show X.heap[b]? = _ from hs] at ho; cases ho; cases hc)).trans hs
theorem app_block {W w1 : World} {b Bo : Nat} {v v' : Value} {tmp : Obj} (hg : (W.alloc tmp).grownBy w1 v.ownBlock) (hb : b < W.heap.size) (h1 : b ≠ Bo) (h2 : some b ≠ v.ownBlock) : (w1.setCell ⟨Bo, 0, none⟩ v').heap[b]? = W.heap[b]? :=
 (Below.heap_setCell _ _ _ b h1).trans ((hg.block b (by simp; omega) h2).trans (Below.heap_alloc _ _ _ hb))
theorem own_ne {W : World} {base e size n b : Nat} {v : Value} {xs : List Value} (h : W.ownsRow base e size v n xs) (hb : b < base) : some b ≠ v.ownBlock := fun e => by
 have := Go.Proofs.YtgceecnlgjmghaaDoorW.PrintWords.own_base h b e.symm
 omega
theorem own_ne' {W : World} {base e size n b : Nat} {v : Value} {xs : List Value} (h : W.ownsRow base e size v n xs) (hb : b < base) : v.ownBlock = none ∨ v.ownBlock ≠ some b := .inr fun e => own_ne h hb e.symm
theorem blk_new (W : World) (cs : Array Value) (t : TypeId) : (W.alloc (.cells cs t)).heap[W.heap.size]? = some (.cells cs t (0, 0)) := World.alloc_heap_new W _
def amounts (p : Sl → Bool) (l : List Sl) : List Int := (picks p l l.length).map (fun y => y.2.f1)
theorem info2 : (Tryd.prog.info? 2).map (fun i => (i.zero, i.size, i.bytes)) = some (some (.int .i64 0), 1, 8) := by kernel_rfl
theorem Asks.sub {M : Nat} {L L' : List Nat} {g : Nat} {caps : Array Value} {p : Sl → Bool} {w : World} (h : Asks M L g caps p w) (hs : ∀ b ∈ L, b ∈ L') : Asks M L' g caps p w := fun V x q => h V x ⟨q.bel, fun b hb => q.ks b (hs b hb)⟩
/-- What is asked for, added. -/
theorem row_sum {W : World} {base : Nat} {v : Value} {ys : List (Nat × Sl)} (h : W.ownsRow base 2 1 v ys.length (cla ys)) (hf : ∀ z ∈ ys.map (fun y => y.2.f1), Ar.fits z = true) (hn : ys.length ≤ 1000000) :
  Calls Tryd.prog 28 #[v] W fun e w' => e = .returned (.tuple #[.int .i64 (Ar.fitV (ys.map (fun y => y.2.f1)).sum), .bool (Ar.fits (ys.map (fun y => y.2.f1)).sum)]) ∧ Below W.heap.size W w' := by
 have e1 : cla ys = encs (Value.int .i64) (ys.map (fun y => y.2.f1)) := by simp [cla, encs]
 have e2 : ys.length = (ys.map (fun y => y.2.f1)).length := by simp
 rw [e1, e2] at h
 rw [e2] at hn
 generalize ys.map (fun y => y.2.f1) = zs at *
 by_cases hz : zs = []
 ·subst hz
  rcases h.2 with ⟨rfl, _⟩ | ⟨g, cap, cur, rfl, _⟩
  ·exact sum_none W
  ·exact arith.sum_any [] g 0 cap W (by simp) (fun j hj => by simp at hj) (fun j hj => by simp at hj)
 ·obtain ⟨A, c, rfl, hc, hC⟩ := Kd.R_reads (Kd.R_of_own h (ok := fun _ => True) (fun _ _ => trivial))
  exact PH.arith_Sum.calls A c zs _ _ W hC hc (by unfold PH.arith_Sum.f; rw [if_pos ⟨hz, hn, hf⟩])
set_option maxRecDepth 100000 in
set_option maxHeartbeats 2000000 in
theorem sum_is (w : World) (A : Option Addr) (c : Nat) (l : List Sl) (g : Nat) (caps : Array Value) (eg : ∀ args w, (callFunc g args).run Tryd.prog w = .ok (.enter g args) w) (p : Sl → Bool)
  (hC : Csl w A l) (hA : ∀ b off, A = some ⟨b, off, none⟩ → b < w.heap.size) (hn : l.length ≤ 1000000) (hp : Asks w.heap.size [] g caps p w) (hf : ∀ x ∈ l, Ar.fits x.f1 = true) :
  Calls Tryd.prog 39 #[.slice A l.length c, .func (.func g) #[] caps] w fun e w' =>
   e = .returned (.tuple #[.int .i64 (Ar.fitV (amounts p l).sum), .bool (Ar.fits (amounts p l).sum)]) ∧ Below w.heap.size w w' := by
 refine (callsIn_wide (n := 3)).1 ?_
 refine callsIn_of_wp_marks Tryd.func39 rfl trivial ?_ rfl
 simp only [Tryd.ntmps39, List.size_toArray, List.length_cons, List.length_nil, Nat.reduceAdd, Nat.reduceSub, Array.replicate_succ, Array.replicate_zero, List.push_toArray, List.append_toArray, List.nil_append, List.cons_append]
 have HC := Lib.hid hC
 have HA := Lib.hid hA
 have HP := Lib.hid hp
 have HF := Lib.hid hf
 clear hC hA hp hf
 gi_wp2_with fail
 refine ⟨trivial, (asked_any A l.length c g caps _).mono ?_⟩
 rintro e w4 ⟨rfl, s4, B4, cl, ci⟩
 simp only [World.size_alloc] at s4 B4 cl ci
 have bo : Boxed w4 w.heap.size 48 (.slice none 0 0) := (B4.block _ (by omega)).trans (Boxed.new w _ _)
 have b0 : Below w.heap.size w w4 := ((Below.refl _ w).alloc (Nat.le_refl _) _).trans (B4.mono (by omega))
 have hst := asked_stops (w.heap.size + 1) (w.heap.size + 1 + 1) w.heap.size [w.heap.size + 1, w.heap.size + 1 + 1] A c l g caps eg p w4 (Kd.C_below HC.out b0) (by omega) HA.out (fun b hb => by simp at hb; omega) (by omega) cl ci (by simp) (by simp) ((HP.out.mono ⟨b0, fun b hb => by cases hb⟩).sub (fun b hb => by cases hb))
 have HST := Lib.hid hst
 obtain ⟨i0, hi, hz0, hz1, hz2⟩ := info_parts info2
 clear hst B4 cl ci
 gi_wp2_with fail
 refine wpIn_rangeH (L := []) rfl (by omega) (gf := 60) (lb := #[.pointer (some ⟨w.heap.size + 1, 0, none⟩), .pointer (some ⟨w.heap.size + 1 + 1, 0, none⟩)]) (by simp [go_sem]) trivial (enters_of Tryd.func60 (by kernel_rfl) rfl)
  HST.out (by simp) (fun h k => h.trans k) (fun W l o o' hl _ _ => ?kb) (Below.refl _ _) (fun _ => rfl)
  (fun pre W => (∃ v, Boxed W w.heap.size 48 v ∧ W.ownsRow (w.heap.size + 3) 2 1 v pre.length (cla pre) ∧ True) ∧ Below w.heap.size w4 W)
  (fun _ _ _ => False)
  (OwnFrom.and (Own.from (holdsRow_own (w.heap.size + 3) w.heap.size 48 2 1 (fun pre : List (Nat × Sl) => pre.length) cla (fun _ _ => True)) _) (ownFrom_below (by omega) (by omega)))
  (fun _ _ _ _ _ hs _ _ => hs)
  (fun s A B row hs hg hr => by
   obtain ⟨⟨v, hb, ho, _⟩, hB⟩ := hs
   obtain rfl : row = none := by
    cases row with
    | none => rfl
    | some r => exact absurd (hr r rfl) (by simp)
   exact ⟨⟨v, hb.kept hg (by simp), ho.kept hg (by cases v.ownBlock <;> simp), trivial⟩, hB.grown hg (by have := hB.size; omega) (fun k e => by cases e)⟩)
  (fun _ _ _ _ _ hs _ _ => hs)
  ⟨⟨_, bo, World.ownsRow_nil _ _ _ _, trivial⟩, Below.refl _ _⟩
  (fun y a' W => ∃ Bp, w4.heap.size ≤ Bp ∧ W.heap[Bp]? = some (.cells #[.int .i64 y.2.f0, .int .i64 y.2.f1, .bool y.2.f2] 61 (0, 0)) ∧ a' = { tmps := #[.slice A l.length c, .func (.func g) #[] caps, undef, undef, .int .i64 0, .bool false, .pointer (some ⟨w.heap.size, 0, none⟩), undef, .pointer (some ⟨Bp, 0, none⟩), .slice A l.length c, .func (.func g) #[] caps, .func (.func 60) #[] #[.pointer (some ⟨w.heap.size + 1, 0, none⟩), .pointer (some ⟨w.heap.size + 1 + 1, 0, none⟩)], .int .i64 (y.1 : Int), .agg #[.int .i64 y.2.f0, .int .i64 y.2.f1, .bool y.2.f2], undef, undef, undef, undef, undef, undef, undef, undef, undef], defers := [] }) ?hAx ?assign ?body ?done ?stop
 case kb =>
  exact ⟨below_put _ _ _ _ (by omega) (by assumption), fun b hb => World.putObj_heap_other (by simp at hb; omega)⟩
 case hAx =>
  rintro y a' s A B row ⟨Bp, h1, h2, h3⟩ hg hr
  exact ⟨Bp, h1, cells_own w4.heap.size Bp (fun _ : Unit => #[.int .i64 y.2.f0, .int .i64 y.2.f1, .bool y.2.f2]) _ () A B row h2 hg hr, h3⟩
 case assign =>
  rintro ly pre y W K ⟨⟨v, hv, hr, _⟩, hB⟩ hK
  have sz := hB.size
  simp only [encA, sv]
  have HH := Lib.hid (And.intro hv hr)
  clear hv hr
  gi_wp2
  exact hK _ _ ((KeepsOthers.alloc _ _).from _) ⟨(Below.refl _ W).alloc (by omega) _, fun b hb => Below.heap_alloc _ _ _ (by simp at hb; omega)⟩
   ⟨⟨v, HH.out.1.alloc _, HH.out.2.alloc _, trivial⟩, hB.trans ((Below.refl _ W).alloc (by omega) _)⟩ ⟨_, sz, blk_new W _ _, rfl⟩
 case body =>
  rintro ly pre y a' W ⟨⟨v, hv, hr, _⟩, hB⟩ ⟨Bp, hBp, hpp, rfl⟩ hlen
  have hc := hv.cell
  have hB1 : w.heap.size ≤ W.heap.size := Nat.le_trans b0.size hB.size
  have hB2 := hB.size
  have p1 := blk_cell hpp 1
  simp at p1
  have HV := Lib.hid (And.intro hv (And.intro hr hB))
  have hbs : w.heap.size + 3 ≤ W.heap.size := by omega
  clear hpp hv hr hB
  gi_wp2_with (first | (gi_at_builtin; (refine wpListIn_append_own_at _ rfl _ _ 48 rfl (w.heap.size + 3) 2 i0 (.int .i64 0) 1 8 Tryd.underlying48 hi hz0 hz1 hz2 rfl (by decide) v pre.length (cla pre) rfl (HV.out.2.1.alloc _) ⟨W.heap.size, 0, none⟩ 1 1 [.int .i64 y.2.f1] rfl rfl (cell_one_new _ _ _) ?h1 ?h63 ?hby ?hbase ?_); (case h1 => simp [Value.oneCell']); (case h63 => unfold maxLen; omega); (case hby => omega); (case hbase => simp; omega); intro v' w1 hown' hgrow _ hat; obtain ⟨g', cap', rfl⟩ := ownsRow_succ hown'; obtain ⟨hv1, hv2, hr2, hk2, hb2⟩ := HV.out.1.appended (by decide) (Go.Proofs.YtgceecnlgjmghaaDoorW.PrintWords.own_weaken HV.out.2.1 (show w.heap.size ≤ _ by omega)) hB1 (Nat.le_refl _) (Go.Proofs.YtgceecnlgjmghaaDoorW.PrintWords.own_weaken hown' (show w.heap.size ≤ _ by omega)) hgrow; have hc1 := hv1.cell; have hf1 := hv1.frozen))
  refine ⟨hk2.from _, ⟨hb2, fun b hb => app_block hgrow (by simp at hb; omega) (by simp at hb; omega) (own_ne HV.out.2.1 (by simp at hb; omega))⟩, ⟨⟨_, hv2, ?_, trivial⟩, HV.out.2.2.trans hb2⟩⟩
  rw [cla_snoc, List.length_append]
  exact hown'.kept (grownBy_setCell' _ _ _) (own_ne' hown' (by omega))
 case done =>
  rintro D ys W hD rfl ⟨⟨v, hv, hr, _⟩, hB⟩ hK
  have hc := hv.cell
  have HV := Lib.hid (And.intro hr hB)
  have HK := Lib.hid hK
  have hS := row_sum hr (fun z hz => by
   obtain ⟨y, hy, rfl⟩ := List.mem_map.1 hz
   obtain ⟨j, hj, rfl⟩ := List.mem_map.1 hy
   have hj' : j < l.length := by simpa using (List.mem_filter.1 hj).1
   show Ar.fits (l.getD j zs).f1 = true
   rw [List.getD_eq_getElem?_getD, List.getElem?_eq_getElem hj']
   exact HF.out _ (List.getElem_mem hj')) (by have := picks_len p l l.length; omega)
  have HS := Lib.hid hS
  clear hK hr hB hv hS
  gi_wp2_with fail
  refine ⟨trivial, (callsIn_wide.2 HS.out).mono ?_⟩
  rintro e W5 ⟨rfl, B5⟩
  have H5 := Lib.hid B5
  clear B5
  gi_wp2
  have hk5 := (H5.out.block D (blk_lt HK.out)).trans HK.out
  refine ⟨by simp, .inl ⟨_, _, rfl, run_takeDeferred hk5, ?_⟩⟩
  refine ⟨.tuple #[.int .i64 (Ar.fitV (amounts p l).sum), .bool (Ar.fits (amounts p l).sum)], ?_, rfl, ?_⟩
  ·simp [results, Tryd.results39, go_sem, amounts]
  ·exact ((b0.trans HV.out.2).trans (H5.out.mono (by have := b0.size; have := HV.out.2.size; omega))).trans (belowK_b (w := w) (Nat.le_refl _) _ D _ _ (by have := b0.size; omega) hk5 rfl rfl)
 case stop =>
  rintro D c pre W _ _ h _
  exact h.elim
end Go.Proofs.YtgceecnlgjmghaaDoor.sch

namespace Go.Proofs.YtgceecnlgjmghaaDoor.sch
open Go.RowKit Go.Proofs.YtgceecnlgjmghaaDoor.base Go.Shelf Go.Proofs.YtgceecnlgjmghaaDoor.rl Go.Proofs.YtgceecnlgjmghaaDoorW.PrintMore Go.Proofs.YtgceecnlgjmghaaDoorW.PrintWords
set_option linter.unusedSimpArgs false
attribute [local go_sem] Oper.semAt_some min2_int min_two
/-- May a schedule's head be? -/
def hd (a0 a2 a3 : Int) (n : Nat) : Bool := decide (a0 ≠ 0) && decide (1 ≤ a2) && decide (a2 ≤ 1000000) && (decide (a3 = 1) || decide (a3 = 2)) && decide (1 ≤ n) && decide (n ≤ 4096)
/-- Do months rise? -/
def rise : Int → List Sl → Bool
 | _, [] => true
 | m, x :: l => decide (m < x.f0) && rise x.f0 l
def all1 (l : List Sl) : Int := (l.map (·.f1)).sum
def okS (a0 a2 a3 : Int) (l : List Sl) : Bool := hd a0 a2 a3 l.length && l.all (fun x => !bad a3 x) && (decide (a3 ≠ 1) || rise 0 l) && decide (all1 l < 4611686018427387904)
def chk (a0 a2 a3 : Int) (l : List Sl) : Int := if okS a0 a2 a3 l = true then 0 else 2
theorem chk_no {a0 a2 a3 : Int} {l : List Sl} (h : okS a0 a2 a3 l = false) : chk a0 a2 a3 l = 2 := by unfold chk; rw [h]; rfl
set_option maxRecDepth 100000 in
set_option maxHeartbeats 2000000 in
theorem head_no (w : World) (a0 a1 a2 a3 : Int) (A : Option Addr) (c : Nat) (n : Nat) (h : hd a0 a2 a3 n = false) :
  Calls Tryd.prog 19 #[.agg #[.int .u64 a0, .int .u64 a1, .int .i64 a2, .int .u8 a3, .slice A n c]] w fun e w' => e = .returned (.int .i64 2) ∧ Below w.heap.size w w' := by
 refine (callsIn_wide (n := 3)).1 ?_
 refine callsIn_of_wp_marks Tryd.func19 rfl trivial ?_ rfl
 simp only [Tryd.ntmps19, List.size_toArray, List.length_cons, List.length_nil, Nat.reduceAdd, Nat.reduceSub, Array.replicate_succ, Array.replicate_zero, List.push_toArray, List.append_toArray, List.nil_append, List.cons_append]
 have h : a0 ≠ 0 → 1 ≤ a2 → a2 ≤ 1000000 → 1 ≤ n → n ≤ 4096 → (a3 ≠ 1 ∧ a3 ≠ 2) := by
  intro c0 c1 c2 c3 c4
  by_cases k1 : a3 = 1
  ·simp [hd, c0, c1, c2, c3, c4, k1] at h
  ·by_cases k2 : a3 = 2
   ·simp [hd, c0, c1, c2, c3, c4, k2] at h
   ·exact ⟨k1, k2⟩
 by_cases k1 : a3 = 1
 ·subst k1
  by_cases q0 : a0 = 0
  ·gi_wp2
   exact ⟨.int .i64 2, by simp [results, Tryd.results19, go_sem], rfl, ((Below.refl _ _).alloc (Nat.le_refl _) _).alloc (by simp) _⟩
  ·by_cases q1 : a2 < 1
   ·gi_wp2
    exact ⟨.int .i64 2, by simp [results, Tryd.results19, go_sem], rfl, ((Below.refl _ _).alloc (Nat.le_refl _) _).alloc (by simp) _⟩
   ·by_cases q2 : a2 > 1000000
    ·gi_wp2
     exact ⟨.int .i64 2, by simp [results, Tryd.results19, go_sem], rfl, ((Below.refl _ _).alloc (Nat.le_refl _) _).alloc (by simp) _⟩
    ·by_cases q3 : (n : Int) < 1
     ·gi_wp2
      exact ⟨.int .i64 2, by simp [results, Tryd.results19, go_sem], rfl, ((Below.refl _ _).alloc (Nat.le_refl _) _).alloc (by simp) _⟩
     ·by_cases q4 : (n : Int) > 4096
      ·gi_wp2
       exact ⟨.int .i64 2, by simp [results, Tryd.results19, go_sem], rfl, ((Below.refl _ _).alloc (Nat.le_refl _) _).alloc (by simp) _⟩
      ·exfalso
       have := h q0 (by omega) (by omega) (by omega) (by omega)
       omega
 ·by_cases k2 : a3 = 2
  ·subst k2
   by_cases q0 : a0 = 0
   ·gi_wp2
    exact ⟨.int .i64 2, by simp [results, Tryd.results19, go_sem], rfl, ((Below.refl _ _).alloc (Nat.le_refl _) _).alloc (by simp) _⟩
   ·by_cases q1 : a2 < 1
    ·gi_wp2
     exact ⟨.int .i64 2, by simp [results, Tryd.results19, go_sem], rfl, ((Below.refl _ _).alloc (Nat.le_refl _) _).alloc (by simp) _⟩
    ·by_cases q2 : a2 > 1000000
     ·gi_wp2
      exact ⟨.int .i64 2, by simp [results, Tryd.results19, go_sem], rfl, ((Below.refl _ _).alloc (Nat.le_refl _) _).alloc (by simp) _⟩
     ·by_cases q3 : (n : Int) < 1
      ·gi_wp2
       exact ⟨.int .i64 2, by simp [results, Tryd.results19, go_sem], rfl, ((Below.refl _ _).alloc (Nat.le_refl _) _).alloc (by simp) _⟩
      ·by_cases q4 : (n : Int) > 4096
       ·gi_wp2
        exact ⟨.int .i64 2, by simp [results, Tryd.results19, go_sem], rfl, ((Below.refl _ _).alloc (Nat.le_refl _) _).alloc (by simp) _⟩
       ·exfalso
        have := h q0 (by omega) (by omega) (by omega) (by omega)
        omega
  ·clear h
   by_cases q0 : a0 = 0
   ·gi_wp2
    exact ⟨.int .i64 2, by simp [results, Tryd.results19, go_sem], rfl, ((Below.refl _ _).alloc (Nat.le_refl _) _).alloc (by simp) _⟩
   ·by_cases q1 : a2 < 1
    ·gi_wp2
     exact ⟨.int .i64 2, by simp [results, Tryd.results19, go_sem], rfl, ((Below.refl _ _).alloc (Nat.le_refl _) _).alloc (by simp) _⟩
    ·by_cases q2 : a2 > 1000000
     ·gi_wp2
      exact ⟨.int .i64 2, by simp [results, Tryd.results19, go_sem], rfl, ((Below.refl _ _).alloc (Nat.le_refl _) _).alloc (by simp) _⟩
     ·gi_wp2
      exact ⟨.int .i64 2, by simp [results, Tryd.results19, go_sem], rfl, ((Below.refl _ _).alloc (Nat.le_refl _) _).alloc (by simp) _⟩
end Go.Proofs.YtgceecnlgjmghaaDoor.sch

namespace Go.Proofs.YtgceecnlgjmghaaDoor.sch
open Go.RowKit Go.Proofs.YtgceecnlgjmghaaDoor.base Go.Shelf Go.Proofs.YtgceecnlgjmghaaDoor.rl Go.Proofs.YtgceecnlgjmghaaDoorW.PrintMore Go.Proofs.YtgceecnlgjmghaaDoorW.PrintWords
set_option linter.unusedSimpArgs false
attribute [local go_sem] Oper.semAt_some min2_int min_two
def lastM : Int → List Sl → Int
 | m, [] => m
 | _, x :: l => lastM x.f0 l
theorem rise_app : ∀ (m : Int) (a b : List Sl), rise m (a ++ b) = (rise m a && rise (lastM m a) b)
 | _, [], _ => rfl
 | m, x :: a, b => by rw [List.cons_append, rise, rise, rise_app x.f0 a b, Bool.and_assoc]; rfl
theorem last_app : ∀ (m : Int) (a : List Sl) (x : Sl), lastM m (a ++ [x]) = x.f0
 | _, [], _ => rfl
 | _, y :: a, x => last_app y.f0 a x
theorem take_snoc (l : List Sl) (i : Nat) (h : i < l.length) : l.take (i + 1) = l.take i ++ [l.getD i zs] := by
 rw [List.take_succ_eq_append_getElem h, List.getD_eq_getElem?_getD, List.getElem?_eq_getElem h]
 rfl
theorem rise_snoc (l : List Sl) (i : Nat) (h : i < l.length) : rise 0 (l.take (i + 1)) = (rise 0 (l.take i) && decide (lastM 0 (l.take i) < (l.getD i zs).f0)) := by
 rw [take_snoc l i h, rise_app]
 simp [rise]
theorem last_snoc (l : List Sl) (i : Nat) (h : i < l.length) : lastM 0 (l.take (i + 1)) = (l.getD i zs).f0 := by rw [take_snoc l i h, last_app]
theorem rise_no {l : List Sl} {i : Nat} (h : rise 0 (l.take i) = false) : rise 0 l = false := by
 have := rise_app 0 (l.take i) (l.drop i)
 rw [List.take_append_drop, h] at this
 simpa using this
theorem picks_none {p : Sl → Bool} {l : List Sl} (h : picks p l l.length = []) : l.all (fun x => !p x) = true := by
 rw [List.all_eq_true]
 intro x hx
 obtain ⟨j, hj, rfl⟩ := List.mem_iff_getElem.1 hx
 rw [Bool.not_eq_true']
 refine Classical.byContradiction fun hp => ?_
 have hp' : p (l.getD j zs) = true := by rw [List.getD_eq_getElem?_getD, List.getElem?_eq_getElem hj]; simpa using hp
 have : (j, l.getD j zs) ∈ picks p l l.length := List.mem_map.2 ⟨j, List.mem_filter.2 ⟨by simpa using hj, hp'⟩, rfl⟩
 rw [h] at this
 simp at this
theorem picks_some {p : Sl → Bool} {l : List Sl} {i : Nat} (hi : i ≤ l.length) (h : picks p l i ≠ []) : l.all (fun x => !p x) = false := by
 obtain ⟨y, r, e⟩ := List.exists_cons_of_ne_nil h
 have hy : y ∈ picks p l i := by rw [e]; simp
 obtain ⟨j, hj, _⟩ := List.mem_map.1 hy
 obtain ⟨h1, h2⟩ := List.mem_filter.1 hj
 have hjl : j < l.length := by have : j < i := by simpa using h1
                               omega
 rw [List.all_eq_false]
 refine ⟨l[j], List.getElem_mem hjl, ?_⟩
 have h2' : p (l.getD j zs) = true := h2
 rw [List.getD_eq_getElem?_getD, List.getElem?_eq_getElem hjl] at h2'
 have h3 : p l[j] = true := h2'
 simp [h3]
theorem map_get (l : List Sl) : (List.range l.length).map (fun j => l.getD j zs) = l := by
 refine List.ext_getElem (by simp) fun i h1 h2 => ?_
 have hi : i < l.length := by simpa using h1
 rw [List.getElem_map, List.getElem_range, List.getD_eq_getElem?_getD, List.getElem?_eq_getElem hi]
 rfl
theorem amounts_any (l : List Sl) : amounts any l = l.map (·.f1) := by
 have e : (List.range l.length).filter (fun j => any (l.getD j zs)) = List.range l.length := List.filter_eq_self.2 (fun _ _ => rfl)
 unfold amounts picks
 rw [e, List.map_map]
 have := congrArg (List.map (fun x : Sl => x.f1)) (map_get l)
 rw [List.map_map] at this
 exact this
theorem good_fits {k : Int} {l : List Sl} (h : l.all (fun x => !bad k x) = true) : ∀ x ∈ l, 0 ≤ x.f1 ∧ x.f1 < 4611686018427387904 := fun x hx => by
 have := List.all_eq_true.1 h x hx
 simp [bad] at this
 omega
theorem sum_hi : ∀ (l : List Sl), (∀ x ∈ l, 0 ≤ x.f1) → 0 ≤ all1 l
 | [], _ => by simp [all1]
 | x :: l, h => by
  have h1 := sum_hi l (fun y hy => h y (by simp [hy]))
  have h2 := h x (by simp)
  simp only [all1, List.map_cons, List.sum_cons] at h1 ⊢
  omega
/-- A post that no panic meets. -/
def noP (Q : Exit → Act → World → Prop) : Exit → Act → World → Prop
 | .panic _, _, _ => False
 | e, a, w => Q e a w
theorem noP_le {Q : Exit → Act → World → Prop} (e : Exit) (a : Act) (w : World) (h : noP Q e a w) : Q e a w := by
 cases e <;> first | exact h | exact h.elim
/-- A post of the straight way. -/
def atN (P : Act → World → Prop) : Exit → Act → World → Prop
 | .normal, a, w => P a w
 | _, _, _ => False
theorem wrong_any (k : Int) (w : World) : CallsIn Fence.wide 2 Tryd.prog 40 #[.int .u8 k] w fun e w' =>
  e = .returned (.func (.func 62) #[] #[.pointer (some ⟨w.heap.size, 0, none⟩)]) ∧ w'.heap.size = w.heap.size + 1 ∧ Below w.heap.size w w' ∧ Boxed w' w.heap.size 5 (.int .u8 k) := by
 refine callsIn_of_wp Tryd.func40 rfl trivial ?_ rfl
 simp only [Tryd.ntmps40, List.size_toArray, List.length_cons, List.length_nil, Nat.reduceAdd, Nat.reduceSub, Array.replicate_succ, Array.replicate_zero, List.push_toArray, List.append_toArray, List.nil_append, List.cons_append]
 gi_wp2
 go_ret
 exact ⟨rfl, by simp, (Below.refl _ w).alloc (Nat.le_refl _) _, Boxed.new w _ _⟩
theorem wrong_asks (k : Int) (B M : Nat) (L : List Nat) (w : World) (hb : Boxed w B 5 (.int .u8 k)) (hB : B < M ∨ B ∈ L) : Asks M L 62 #[.pointer (some ⟨B, 0, none⟩)] (bad k) w := fun W x q => by
 have h2 : Boxed W B 5 (.int .u8 k) := by
  rcases hB with h | h
  ·exact (q.bel.block B h).trans hb
  ·exact (q.ks B h).trans hb
 exact callsIn_wide.2 (wrong_is k B x W h2)
theorem any_asks (M : Nat) (L : List Nat) (w : World) : Asks M L 41 #[] any w := fun W x _ => callsIn_wide.2 (any_is x W)
theorem open_asks (M : Nat) (L : List Nat) (w : World) : Asks M L 38 #[] opn w := fun W x _ => callsIn_wide.2 (open_is x W)
set_option maxRecDepth 100000 in
set_option maxHeartbeats 4000000 in
theorem check_1 (w : World) (a0 a1 a2 : Int) (A : Option Addr) (c : Nat) (l : List Sl) (hC : Csl w A l) (hA : ∀ b off, A = some ⟨b, off, none⟩ → b < w.heap.size) (h : hd a0 a2 1 l.length = true) :
  Calls Tryd.prog 19 #[.agg #[.int .u64 a0, .int .u64 a1, .int .i64 a2, .int .u8 1, .slice A l.length c]] w fun e w' => e = .returned (.int .i64 (chk a0 a2 1 l)) ∧ Below w.heap.size w w' := by
 refine (callsIn_wide (n := 3)).1 ?_
 refine callsIn_of_wp_marks Tryd.func19 rfl trivial ?_ rfl
 simp only [Tryd.ntmps19, List.size_toArray, List.length_cons, List.length_nil, Nat.reduceAdd, Nat.reduceSub, Array.replicate_succ, Array.replicate_zero, List.push_toArray, List.append_toArray, List.nil_append, List.cons_append]
 have HH := Lib.hid h
 have HC := Lib.hid hC
 have HA := Lib.hid hA
 have hmo : Tryd.prog.follows .mixedOrders = true := by kernel_rfl
 simp only [hd, Bool.and_eq_true, decide_eq_true_eq] at h
 obtain ⟨⟨⟨⟨⟨q0, q1⟩, q2⟩, qk⟩, q3⟩, q4⟩ := h
 clear qk
 have q1' : ¬ a2 < 1 := by omega
 have q2' : ¬ a2 > 1000000 := by omega
 have q3' : ¬ (l.length : Int) < 1 := by omega
 have q4' : ¬ (l.length : Int) > 4096 := by omega
 have HQ := Lib.hid (And.intro q3 q4)
 clear hC hA q1 q2 q3 q4
 obtain ⟨V, hV⟩ : ∃ V, (w.alloc (.cells #[.int .u64 a0, .int .u64 a1, .int .i64 a2, .int .u8 1, .slice A l.length c] 25)).alloc (.cells #[.int .i64 0] 30) = V := ⟨_, rfl⟩
 have f1 : V.heap[w.heap.size]? = some (.cells #[.int .u64 a0, .int .u64 a1, .int .i64 a2, .int .u8 1, .slice A l.length c] 25 (0, 0)) := by rw [← hV]; exact (Below.heap_alloc _ _ _ (by simp)).trans (blk_new w _ _)
 have f2 : V.heap[w.heap.size + 1]? = some (.cells #[.int .i64 0] 30 (0, 0)) := by rw [← hV]; have := blk_new (w.alloc (.cells #[.int .u64 a0, .int .u64 a1, .int .i64 a2, .int .u8 1, .slice A l.length c] 25)) #[.int .i64 0] 30; rwa [World.size_alloc] at this
 have f3 : V.heap.size = w.heap.size + 2 := by rw [← hV]; simp
 have f4 : Below w.heap.size w V := by rw [← hV]; exact ((Below.refl _ w).alloc (Nat.le_refl _) _).alloc (by simp) _
 have HF := Lib.hid (And.intro f1 (And.intro f2 (And.intro f3 f4)))
 have HV := Lib.hid hV
 clear f1 f2 f3 f4 hV
 gi_upto_region 4 with fail
 rw [HV.out]
 have c3 := blk_cell HF.out.1 3
 have c4 := blk_cell HF.out.1 4
 simp at c3 c4
 refine wpIn_mono (Q := atN (fun a W => ∃ w2 w3 : World, (w2.heap.size = V.heap.size + 1 ∧ Below V.heap.size V w2 ∧ Boxed w2 V.heap.size 5 (.int .u8 1)) ∧
  (w3.heap.size = w2.heap.size + 2 ∧ Below w2.heap.size w2 w3 ∧ Boxed w3 w2.heap.size 23 (.slice A l.length c) ∧ Boxed w3 (w2.heap.size + 1) 76 (.func (.func 62) #[] #[.pointer (some ⟨V.heap.size, 0, none⟩)])) ∧
  a = { tmps := #[.agg #[.int .u64 a0, .int .u64 a1, .int .i64 a2, .int .u8 1, .slice A l.length c], .pointer (some ⟨w.heap.size, 0, none⟩), .pointer (some ⟨w.heap.size + 1, 0, none⟩), .bool true, undef, undef, undef, undef, undef, .pointer (some ⟨w.heap.size, 3, none⟩), .int .u8 1, .bool true, .bool true, undef, undef, undef, .bool true, .pointer (some ⟨w.heap.size, 0, none⟩), .int .u64 a0, .bool false, .bool false, .pointer (some ⟨w.heap.size, 2, none⟩), .int .i64 a2, .bool false, .bool false, .bool false, .pointer (some ⟨w.heap.size, 2, none⟩), .int .i64 a2, .bool false, .bool false, .bool false, .bool true, .bool false, .bool false, .bool false, .pointer (some ⟨w.heap.size, 4, none⟩), .slice A l.length c, .int .i64 (l.length : Int), .bool false, .bool false, .bool false, .pointer (some ⟨w.heap.size, 4, none⟩), .slice A l.length c, .int .i64 (l.length : Int), .bool false, .bool false, .pointer (some ⟨w.heap.size, 4, none⟩), .slice A l.length c, .pointer (some ⟨w.heap.size, 3, none⟩), .int .u8 1, .func (.func 62) #[] #[.pointer (some ⟨V.heap.size, 0, none⟩)], .func (.func 60) #[] #[.pointer (some ⟨w2.heap.size, 0, none⟩), .pointer (some ⟨w2.heap.size + 1, 0, none⟩)], undef, undef, undef, undef, undef, undef, undef, undef, undef, undef, undef, undef, undef, undef, undef, undef, undef, undef, undef, undef, undef, undef, undef, undef, undef, undef, undef, undef, undef, undef, undef, undef, undef], defers := [] } ∧ W = w3)) ?_ ?_
 ·gi_region_with_o (first | (refine ⟨trivial, (wrong_any _ _).mono ?_⟩; rintro e w2 ⟨rfl, s2, B2, ck⟩; have d4 := (B2.cell (p := ⟨w.heap.size, 4, none⟩) (by have := HF.out.2.2.1; simp; omega)).trans c4; have H2 := Lib.hid (show w2.heap.size = V.heap.size + 1 ∧ Below V.heap.size V w2 ∧ Boxed w2 V.heap.size 5 _ from ⟨s2, ⟨B2.os, B2.tape, B2.output, B2.size, B2.block⟩, ck⟩); clear s2 B2 ck) | (refine ⟨trivial, (asked_any A l.length c _ _ _).mono ?_⟩; rintro e w3 ⟨rfl, s3, B3, cl, ci⟩; have H3 := Lib.hid (show w3.heap.size = w2.heap.size + 2 ∧ Below w2.heap.size w2 w3 ∧ Boxed w3 w2.heap.size 23 (.slice A l.length c) ∧ Boxed w3 (w2.heap.size + 1) 76 _ from ⟨s3, ⟨B3.os, B3.tape, B3.output, B3.size, B3.block⟩, cl, ci⟩); clear s3 B3 cl ci))
  all_goals exact ⟨w2, w3, H2.out, H3.out, rfl, rfl⟩
 rintro e a W hn
 cases e
 case normal =>
  obtain ⟨w2, w3, h2, h3, rfl, rfl⟩ := hn
  have H2 := Lib.hid h2
  have H3 := Lib.hid h3
  clear h2 h3 c3 c4
  gi_wp2_with fail
  have b3 : Below w.heap.size w W := HF.out.2.2.2.trans ((H2.out.2.1.mono (by have := HF.out.2.2.1; omega)).trans (H3.out.2.1.mono (by have := HF.out.2.2.1; have := H2.out.1; omega)))
  have sV := HF.out.2.2.1
  have s2 := H2.out.1
  have s3 := H3.out.1
  have B23 : Below V.heap.size V W := H2.out.2.1.trans (H3.out.2.1.mono (by omega))
  have r1 := (B23.block w.heap.size (by omega)).trans HF.out.1
  have r2 := (B23.block (w.heap.size + 1) (by omega)).trans HF.out.2.1
  have ck3 := (H3.out.2.1.block V.heap.size (by omega)).trans H2.out.2.2
  have HST := Lib.hid (asked_stops w2.heap.size (w2.heap.size + 1) w.heap.size [w2.heap.size, w2.heap.size + 1, V.heap.size] A c l _ _ (enters_of Tryd.func62 (by kernel_rfl) rfl) _ W (Kd.C_below HC.out b3) (by omega) HA.out (fun b hb => by simp at hb; omega) (by omega) H3.out.2.2.1 H3.out.2.2.2 (by simp) (by simp) (wrong_asks _ V.heap.size _ _ W ck3 (.inr (by simp))))
  have HR := Lib.hid (And.intro b3 (And.intro r1 r2))
  have HS := Lib.hid (show V.heap.size = w.heap.size + 2 ∧ w2.heap.size = V.heap.size + 1 ∧ W.heap.size = w2.heap.size + 2 from ⟨sV, s2, s3⟩)
  clear b3 B23 r1 r2 ck3 sV s2 s3
  refine wpIn_range (L := []) rfl (by decide) (gf := 60) (lb := #[.pointer (some ⟨w2.heap.size, 0, none⟩), .pointer (some ⟨w2.heap.size + 1, 0, none⟩)]) (by simp [go_sem]) trivial (enters_of Tryd.func60 (by kernel_rfl) rfl)
   HST.out (by simp) (fun h k => h.trans k) (fun X l o o' hl _ _ => ?kb) (Below.refl _ _) (fun _ => rfl)
   (fun pre X => pre = [] ∧ Below W.heap.size W X)
   (fun cd pre X => (cd = .ret ∧ pre ≠ [] ∧ X.heap[w.heap.size + 1]? = some (.cells #[.int .i64 2] 30 (0, 0))) ∧ Below w.heap.size W X)
   ?oI ?oIx ?bI ?bIx ⟨rfl, Below.refl _ _⟩ (fun y => { tmps := #[.agg #[.int .u64 a0, .int .u64 a1, .int .i64 a2, .int .u8 1, .slice A l.length c], .pointer (some ⟨w.heap.size, 0, none⟩), .pointer (some ⟨w.heap.size + 1, 0, none⟩), .bool true, undef, undef, undef, undef, undef, .pointer (some ⟨w.heap.size, 3, none⟩), .int .u8 1, .bool true, .bool true, undef, undef, undef, .bool true, .pointer (some ⟨w.heap.size, 0, none⟩), .int .u64 a0, .bool false, .bool false, .pointer (some ⟨w.heap.size, 2, none⟩), .int .i64 a2, .bool false, .bool false, .bool false, .pointer (some ⟨w.heap.size, 2, none⟩), .int .i64 a2, .bool false, .bool false, .bool false, .bool true, .bool false, .bool false, .bool false, .pointer (some ⟨w.heap.size, 4, none⟩), .slice A l.length c, .int .i64 (l.length : Int), .bool false, .bool false, .bool false, .pointer (some ⟨w.heap.size, 4, none⟩), .slice A l.length c, .int .i64 (l.length : Int), .bool false, .bool false, .pointer (some ⟨w.heap.size, 4, none⟩), .slice A l.length c, .pointer (some ⟨w.heap.size, 3, none⟩), .int .u8 1, .func (.func 62) #[] #[.pointer (some ⟨V.heap.size, 0, none⟩)], .func (.func 60) #[] #[.pointer (some ⟨w2.heap.size, 0, none⟩), .pointer (some ⟨w2.heap.size + 1, 0, none⟩)], .int .i64 (y.1 : Int), .agg #[.int .i64 y.2.f0, .int .i64 y.2.f1, .bool y.2.f2], undef, undef, undef, undef, undef, undef, undef, undef, undef, undef, undef, undef, undef, undef, undef, undef, undef, undef, undef, undef, undef, undef, undef, undef, undef, undef, undef, undef, undef, undef, undef], defers := [] }) ?assign ?body ?done ?stop
  case kb => exact ⟨below_put _ _ _ _ (by have := HS.out; omega) (by assumption), fun b hb => World.putObj_heap_other (by have := HS.out; simp at hb; omega)⟩
  case oI =>
   rintro s X B row ⟨hp, hB⟩ hg hr
   exact ⟨hp, ownFrom_below (β := Unit) (B := W.heap.size) (by have := HS.out; omega) (by have := HS.out; omega) () X B row hB hg hr⟩
  case oIx =>
   rintro cd s X B row ⟨⟨h1, h2, h3⟩, hB⟩ hg hr
   exact ⟨⟨h1, h2, cells_own W.heap.size (w.heap.size + 1) (fun _ : Unit => #[.int .i64 2]) _ () X B row h3 hg hr⟩, ownFrom_below (β := Unit) (B := W.heap.size) (by have := HS.out; omega) (by have := HS.out; omega) () X B row hB hg hr⟩
  case bI =>
   rintro s X B row ⟨hp, hB⟩ hg hr
   have hr' : row = none := by
    cases row with
    | none => rfl
    | some r => exact absurd (hr r rfl) (by simp)
   subst hr'
   exact ⟨hp, hB.grown hg (by have := hB.size; have := HS.out; omega) (fun k e => by cases e)⟩
  case bIx =>
   rintro cd s X B row ⟨⟨h1, h2, h3⟩, hB⟩ hg hr
   have hr' : row = none := by
    cases row with
    | none => rfl
    | some r => exact absurd (hr r rfl) (by simp)
   subst hr'
   exact ⟨⟨h1, h2, (hg.block _ (blk_lt h3) (by simp)).trans h3⟩, hB.grown hg (by have := hB.size; have := HS.out; omega) (fun k e => by cases e)⟩
  case assign =>
   intro ly y X KK hK
   simp only [encA, sv]
   gi_wp2
   exact hK
  case body =>
   rintro ly pre y X ⟨hp, hB⟩ hlen
   have hrc := (hB.block (w.heap.size + 1) (by have := HS.out; omega)).trans HR.out.2.2
   have e0 := blk_cell hrc 0
   have z0 := blk_frozen hrc 0
   simp at e0
   have HBB := Lib.hid (And.intro hB hrc)
   clear hB hrc
   gi_wp2
   refine ⟨(KeepsOthers.setCell _ _ _).from _, ⟨rfl, by simp, ?_⟩, ?_⟩
   ·have := blk_set HBB.out.2 0 (.int .i64 2)
    simpa using this
   ·exact (HBB.out.1.mono (by have := HS.out; omega)).setCell (by simp) _
  case done =>
   rintro D ys X hD rfl ⟨hp, hB⟩ hK
   have rS := (hB.block w.heap.size (by have := HS.out; omega)).trans HR.out.2.1
   have rE := (hB.block (w.heap.size + 1) (by have := HS.out; omega)).trans HR.out.2.2
   have HX := Lib.hid (And.intro hK (And.intro hB (And.intro rS rE)))
   have HN := Lib.hid (picks_none hp)
   have d3 := blk_cell rS 3
   have d4 := blk_cell rS 4
   simp at d3 d4
   clear hK hB rS rE hp
   gi_wp2
   gi_loopw [4, 57] (fun v4 v57 wr => ∃ i : Nat, v57 = .int .i64 (i : Int) ∧ v4 = .int .i64 (lastM 0 (l.take i)) ∧ i ≤ l.length ∧ (rise 0 (l.take i) = true) ∧ Below X.heap.size X wr) (fun _ v57 _ => ((l.length : Int) - intOf v57).toNat)
   case atStart => exact ⟨0, rfl, rfl, Nat.zero_le _, rfl, Below.refl _ _⟩
   case round =>
    obtain ⟨i, rfl, rfl, hi, hri, hbx⟩ := hrel
    have bX := HX.out.2.1.size
    have sX := HS.out
    have bw : Below w.heap.size w wr := HR.out.1.trans ((HX.out.2.1.mono (by omega)).trans (hbx.mono (by omega)))
    have kD := (hbx.block D (blk_lt HX.out.1)).trans HX.out.1
    have kS := (hbx.block w.heap.size (by omega)).trans HX.out.2.2.1
    have kE := (hbx.block (w.heap.size + 1) (by omega)).trans HX.out.2.2.2
    have kX := hbx.size
    have HW := Lib.hid (And.intro bw (And.intro kD (And.intro kS kE)))
    have HRI := Lib.hid hri
    have HSZ := Lib.hid (show w.heap.size + 1 < wr.heap.size by omega)
    have HDZ := Lib.hid (show D < wr.heap.size from blk_lt kD)
    have HBX := Lib.hid hbx
    clear d3 d4
    have d3 := blk_cell kS 3
    have d4 := blk_cell kS 4
    have d5 := blk_cell kE 0
    have z5 := blk_frozen kE 0
    simp at d3 d4 d5
    clear bX sX bw kD kS kE kX hbx hri
    by_cases hlt : i < l.length
    ·obtain ⟨b, off, rfl, e0, e1, e2⟩ := row_cells HC.out i hlt
     have hb := HA.out b off rfl
     have c0 := (HW.out.1.cell (p := ⟨b, off + i * 3, none⟩) hb).trans e0
     have c1 := (HW.out.1.cell (p := ⟨b, off + i * 3 + 1, none⟩) hb).trans e1
     have c2 := (HW.out.1.cell (p := ⟨b, off + i * 3 + 2, none⟩) hb).trans e2
     have q0' : (0 : Int) ≤ (i : Int) := by omega
     have q5 : w.heap.size < wr.heap.size := by have := HSZ.out; omega
     have q6 : w.heap.size + 1 < wr.heap.size := HSZ.out
     have HLT := Lib.hid hlt
     have HRS := Lib.hid (And.intro (rise_snoc l i hlt) (last_snoc l i hlt))
     clear e0 e1 e2 hb
     generalize l.getD i zs = x at *
     generalize hla : lastM 0 (l.take i) = la at *
     by_cases hgt : la < x.f0
     ·gi_wp2
      go_roundw
      case rel =>
       refine ⟨i + 1, by simp, by rw [HRS.out.2], HLT.out, by rw [HRS.out.1, HRI.out]; simpa using hgt, ?_⟩
       exact HBX.out.trans (below_alloc (Below.refl _ _) _ |>.mono HBX.out.size)
      case measure => simp [intOf]; omega
     ·have hno : okS a0 a2 1 l = false := by
       have : rise 0 (l.take (i + 1)) = false := by rw [HRS.out.1, decide_eq_false hgt]; simp
       rw [okS, rise_no this]
       simp
      have kF : ((wr.setCell ⟨w.heap.size + 1, 0, none⟩ (.int .i64 2)).alloc (.cells #[.int .i64 x.f0, .int .i64 x.f1, .bool x.f2] 61)).heap[D]? = some (.deferred (some [])) := (Below.heap_alloc _ _ _ (by simpa using HDZ.out)).trans ((Below.heap_setCell _ _ _ D (by have := HS.out; show ¬ D = w.heap.size + 1; omega)).trans HW.out.2.1)
      have rF : ((wr.setCell ⟨w.heap.size + 1, 0, none⟩ (.int .i64 2)).alloc (.cells #[.int .i64 x.f0, .int .i64 x.f1, .bool x.f2] 61)).heap[w.heap.size + 1]? = some (.cells #[.int .i64 2] 30 (0, 0)) := (Below.heap_alloc _ _ _ (by simpa using HSZ.out)).trans (by have := blk_set HW.out.2.2.2 0 (.int .i64 2); simpa using this)
      have bF : Below w.heap.size w ((wr.setCell ⟨w.heap.size + 1, 0, none⟩ (.int .i64 2)).alloc (.cells #[.int .i64 x.f0, .int .i64 x.f1, .bool x.f2] 61)) := (HW.out.1.setCell (by simp) _).alloc (by simpa using HW.out.1.size) _
      have HFF := Lib.hid (And.intro kF (And.intro rF bF))
      clear kF rF bF
      gi_wp2
      change bodyPostM _ _ _ _ _ _ _ _
      refine ⟨by simp, .inl ⟨_, _, rfl, run_takeDeferred (HFF.out.1), ?_⟩⟩
      refine ⟨.int .i64 2, ?_, by rw [chk_no hno], ?_⟩
      ·have hz := blk_cell (show (World.putObj ((wr.setCell ⟨w.heap.size + 1, 0, none⟩ (.int .i64 2)).alloc (.cells #[.int .i64 x.f0, .int .i64 x.f1, .bool x.f2] 61)) D (.deferred none)).heap[w.heap.size + 1]? = _ from (World.putObj_heap_other (by have := HS.out; omega)).trans (HFF.out.2.1)) 0
       simp at hz
       simp [results, Tryd.results19, go_sem, hz]
      ·exact (HFF.out.2.2).trans (belowK_b (w := w) (Nat.le_refl _) _ D _ _ (by have := HR.out.1.size; omega) (HFF.out.1) rfl rfl)
    ·obtain rfl : i = l.length := by omega
     have HSU := Lib.hid (sum_is wr A c l 41 #[] (enters_of Tryd.func41 (by kernel_rfl) rfl) any (Kd.C_below HC.out HW.out.1) (fun b off e => Nat.lt_of_lt_of_le (HA.out b off e) HW.out.1.size) (by have := HQ.out; omega) (any_asks _ _ _) (fun x hx => by have := good_fits HN.out x hx; simp [Ar.fits]; omega))
     rw [amounts_any] at HSU
     have hnn := sum_hi l (fun x hx => (good_fits HN.out x hx).1)
     change 0 ≤ (l.map (·.f1)).sum at hnn
     have HOK := Lib.hid (show okS a0 a2 1 l = decide ((l.map (·.f1)).sum < 4611686018427387904) from by rw [okS, HH.out, HN.out, show rise 0 l = true from by have := HRI.out; rwa [List.take_length] at this]; rfl)
     generalize (l.map (·.f1)).sum = S at *
     gi_wp2_with fail
     refine ⟨trivial, (callsIn_wide.2 HSU.out).mono ?_⟩
     rintro e W6 ⟨rfl, B6⟩
     have k6 := (B6.block D HDZ.out).trans HW.out.2.1
     have e6 := (B6.block (w.heap.size + 1) HSZ.out).trans HW.out.2.2.2
     have b6 := HW.out.1.trans (B6.mono HW.out.1.size)
     have H6 := Lib.hid (And.intro k6 (And.intro e6 b6))
     have d6 := blk_cell e6 0
     have z6 := blk_frozen e6 0
     simp at d6
     have kF : ∀ v, (W6.setCell ⟨w.heap.size + 1, 0, none⟩ v).heap[D]? = some (.deferred (some [])) := fun v => (Below.heap_setCell _ _ _ D (by have := HS.out; show ¬ D = w.heap.size + 1; omega)).trans H6.out.1
     have rF : ∀ v, (W6.setCell ⟨w.heap.size + 1, 0, none⟩ v).heap[w.heap.size + 1]? = some (.cells #[v] 30 (0, 0)) := fun v => by have := blk_set H6.out.2.1 0 v; simpa using this
     have bF : ∀ v, Below w.heap.size w (W6.setCell ⟨w.heap.size + 1, 0, none⟩ v) := fun v => H6.out.2.2.setCell (by simp) _
     have HFF := Lib.hid (And.intro kF (And.intro rF bF))
     have HNN := Lib.hid hnn
     clear k6 e6 b6 kF rF bF B6 d3 d4 d5 z5 hnn HSU
     by_cases hfit : Ar.fits S = true
     ·have ev : Ar.fitV S = S := if_pos hfit
      rw [ev, hfit]
      clear ev
      by_cases hlt : S < 4611686018427387904
      ·have HLT := Lib.hid hlt
       have g1 : decide (S ≥ 4611686018427387904) = false := decide_eq_false (by omega)
       gi_wp2
       change bodyPostM _ _ _ _ _ _ _ _
       refine ⟨by simp, .inl ⟨_, _, rfl, run_takeDeferred (HFF.out.1 _), ?_⟩⟩
       refine ⟨.int .i64 0, ?_, by rw [show chk a0 a2 1 l = 0 from by unfold chk; rw [HOK.out, decide_eq_true HLT.out]; rfl], ?_⟩
       ·have hz := blk_cell (show (World.putObj (W6.setCell ⟨w.heap.size + 1, 0, none⟩ (.int .i64 0)) D (.deferred none)).heap[w.heap.size + 1]? = _ from (World.putObj_heap_other (by have := HS.out; omega)).trans (HFF.out.2.1 _)) 0
        simp at hz
        simp [results, Tryd.results19, go_sem, hz]
       ·exact (HFF.out.2.2 _).trans (belowK_b (w := w) (Nat.le_refl _) _ D _ _ (by have := HR.out.1.size; omega) (HFF.out.1 _) rfl rfl)
      ·have HLT := Lib.hid hlt
       have g1 : decide (S ≥ 4611686018427387904) = true := decide_eq_true (by omega)
       gi_wp2
       change bodyPostM _ _ _ _ _ _ _ _
       refine ⟨by simp, .inl ⟨_, _, rfl, run_takeDeferred (HFF.out.1 _), ?_⟩⟩
       refine ⟨.int .i64 2, ?_, by rw [chk_no (HOK.out.trans (decide_eq_false (by have := HLT.out; omega)))], ?_⟩
       ·have hz := blk_cell (show (World.putObj (W6.setCell ⟨w.heap.size + 1, 0, none⟩ (.int .i64 2)) D (.deferred none)).heap[w.heap.size + 1]? = _ from (World.putObj_heap_other (by have := HS.out; omega)).trans (HFF.out.2.1 _)) 0
        simp at hz
        simp [results, Tryd.results19, go_sem, hz]
       ·exact (HFF.out.2.2 _).trans (belowK_b (w := w) (Nat.le_refl _) _ D _ _ (by have := HR.out.1.size; omega) (HFF.out.1 _) rfl rfl)
     ·have hf' : Ar.fits S = false := by simpa using hfit
      have HLT := Lib.hid (show ¬ S < 4611686018427387904 from fun q => hfit (by have := HNN.out; simp [Ar.fits]; omega))
      rw [hf']
      gi_wp2
      change bodyPostM _ _ _ _ _ _ _ _
      refine ⟨by simp, .inl ⟨_, _, rfl, run_takeDeferred (HFF.out.1 _), ?_⟩⟩
      refine ⟨.int .i64 2, ?_, by rw [chk_no (HOK.out.trans (decide_eq_false (by have := HLT.out; omega)))], ?_⟩
      ·have hz := blk_cell (show (World.putObj (W6.setCell ⟨w.heap.size + 1, 0, none⟩ (.int .i64 2)) D (.deferred none)).heap[w.heap.size + 1]? = _ from (World.putObj_heap_other (by have := HS.out; omega)).trans (HFF.out.2.1 _)) 0
       simp at hz
       simp [results, Tryd.results19, go_sem, hz]
      ·exact (HFF.out.2.2 _).trans (belowK_b (w := w) (Nat.le_refl _) _ D _ _ (by have := HR.out.1.size; omega) (HFF.out.1 _) rfl rfl)
  case stop =>
   rintro D cd pre X hD ⟨i, hi, rfl⟩ ⟨⟨rfl, h2, h3⟩, hB⟩ hK
   have hlo : ¬ w.heap.size + 1 = D := fun e => by have := HS.out; omega
   have hx : (X.putObj D (.deferred none)).heap[w.heap.size + 1]? = some (.cells #[.int .i64 2] 30 (0, 0)) := (World.putObj_heap_other hlo).trans h3
   have HX := Lib.hid (And.intro hK (And.intro hB hx))
   have hno : okS a0 a2 1 l = false := by rw [okS, picks_some hi h2]; simp
   have hcz := blk_cell hx 0
   simp at hcz
   clear hK hB hx h3 hlo
   gi_wp2
   change bodyPostM _ _ _ _ _ _ _ _
   refine ⟨by simp, .inl ⟨_, _, rfl, run_takeDeferred HX.out.1, ?_⟩⟩
   refine ⟨.int .i64 2, ?_, by rw [chk_no hno], ?_⟩
   ·simp [results, Tryd.results19, go_sem, hcz]
   ·exact (HR.out.1.trans HX.out.2.1).trans (belowK_b (w := w) (Nat.le_refl _) _ D _ _ (by have := HR.out.1.size; omega) HX.out.1 rfl rfl)
 all_goals exact hn.elim
set_option maxRecDepth 100000 in
set_option maxHeartbeats 4000000 in
theorem check_2 (w : World) (a0 a1 a2 : Int) (A : Option Addr) (c : Nat) (l : List Sl) (hC : Csl w A l) (hA : ∀ b off, A = some ⟨b, off, none⟩ → b < w.heap.size) (h : hd a0 a2 2 l.length = true) :
  Calls Tryd.prog 19 #[.agg #[.int .u64 a0, .int .u64 a1, .int .i64 a2, .int .u8 2, .slice A l.length c]] w fun e w' => e = .returned (.int .i64 (chk a0 a2 2 l)) ∧ Below w.heap.size w w' := by
 refine (callsIn_wide (n := 3)).1 ?_
 refine callsIn_of_wp_marks Tryd.func19 rfl trivial ?_ rfl
 simp only [Tryd.ntmps19, List.size_toArray, List.length_cons, List.length_nil, Nat.reduceAdd, Nat.reduceSub, Array.replicate_succ, Array.replicate_zero, List.push_toArray, List.append_toArray, List.nil_append, List.cons_append]
 have HH := Lib.hid h
 have HC := Lib.hid hC
 have HA := Lib.hid hA
 have hmo : Tryd.prog.follows .mixedOrders = true := by kernel_rfl
 simp only [hd, Bool.and_eq_true, decide_eq_true_eq] at h
 obtain ⟨⟨⟨⟨⟨q0, q1⟩, q2⟩, qk⟩, q3⟩, q4⟩ := h
 clear qk
 have q1' : ¬ a2 < 1 := by omega
 have q2' : ¬ a2 > 1000000 := by omega
 have q3' : ¬ (l.length : Int) < 1 := by omega
 have q4' : ¬ (l.length : Int) > 4096 := by omega
 have HQ := Lib.hid (And.intro q3 q4)
 clear hC hA q1 q2 q3 q4
 obtain ⟨V, hV⟩ : ∃ V, (w.alloc (.cells #[.int .u64 a0, .int .u64 a1, .int .i64 a2, .int .u8 2, .slice A l.length c] 25)).alloc (.cells #[.int .i64 0] 30) = V := ⟨_, rfl⟩
 have f1 : V.heap[w.heap.size]? = some (.cells #[.int .u64 a0, .int .u64 a1, .int .i64 a2, .int .u8 2, .slice A l.length c] 25 (0, 0)) := by rw [← hV]; exact (Below.heap_alloc _ _ _ (by simp)).trans (blk_new w _ _)
 have f2 : V.heap[w.heap.size + 1]? = some (.cells #[.int .i64 0] 30 (0, 0)) := by rw [← hV]; have := blk_new (w.alloc (.cells #[.int .u64 a0, .int .u64 a1, .int .i64 a2, .int .u8 2, .slice A l.length c] 25)) #[.int .i64 0] 30; rwa [World.size_alloc] at this
 have f3 : V.heap.size = w.heap.size + 2 := by rw [← hV]; simp
 have f4 : Below w.heap.size w V := by rw [← hV]; exact ((Below.refl _ w).alloc (Nat.le_refl _) _).alloc (by simp) _
 have HF := Lib.hid (And.intro f1 (And.intro f2 (And.intro f3 f4)))
 have HV := Lib.hid hV
 clear f1 f2 f3 f4 hV
 gi_upto_region 4 with fail
 rw [HV.out]
 have c3 := blk_cell HF.out.1 3
 have c4 := blk_cell HF.out.1 4
 simp at c3 c4
 refine wpIn_mono (Q := atN (fun a W => ∃ w2 w3 : World, (w2.heap.size = V.heap.size + 1 ∧ Below V.heap.size V w2 ∧ Boxed w2 V.heap.size 5 (.int .u8 2)) ∧
  (w3.heap.size = w2.heap.size + 2 ∧ Below w2.heap.size w2 w3 ∧ Boxed w3 w2.heap.size 23 (.slice A l.length c) ∧ Boxed w3 (w2.heap.size + 1) 76 (.func (.func 62) #[] #[.pointer (some ⟨V.heap.size, 0, none⟩)])) ∧
  a = { tmps := #[.agg #[.int .u64 a0, .int .u64 a1, .int .i64 a2, .int .u8 2, .slice A l.length c], .pointer (some ⟨w.heap.size, 0, none⟩), .pointer (some ⟨w.heap.size + 1, 0, none⟩), .bool true, undef, undef, undef, undef, undef, .pointer (some ⟨w.heap.size, 3, none⟩), .int .u8 2, .bool false, .bool false, .pointer (some ⟨w.heap.size, 3, none⟩), .int .u8 2, .bool true, .bool true, .pointer (some ⟨w.heap.size, 0, none⟩), .int .u64 a0, .bool false, .bool false, .pointer (some ⟨w.heap.size, 2, none⟩), .int .i64 a2, .bool false, .bool false, .bool false, .pointer (some ⟨w.heap.size, 2, none⟩), .int .i64 a2, .bool false, .bool false, .bool false, .bool true, .bool false, .bool false, .bool false, .pointer (some ⟨w.heap.size, 4, none⟩), .slice A l.length c, .int .i64 (l.length : Int), .bool false, .bool false, .bool false, .pointer (some ⟨w.heap.size, 4, none⟩), .slice A l.length c, .int .i64 (l.length : Int), .bool false, .bool false, .pointer (some ⟨w.heap.size, 4, none⟩), .slice A l.length c, .pointer (some ⟨w.heap.size, 3, none⟩), .int .u8 2, .func (.func 62) #[] #[.pointer (some ⟨V.heap.size, 0, none⟩)], .func (.func 60) #[] #[.pointer (some ⟨w2.heap.size, 0, none⟩), .pointer (some ⟨w2.heap.size + 1, 0, none⟩)], undef, undef, undef, undef, undef, undef, undef, undef, undef, undef, undef, undef, undef, undef, undef, undef, undef, undef, undef, undef, undef, undef, undef, undef, undef, undef, undef, undef, undef, undef, undef, undef, undef], defers := [] } ∧ W = w3)) ?_ ?_
 ·gi_region_with_o (first | (refine ⟨trivial, (wrong_any _ _).mono ?_⟩; rintro e w2 ⟨rfl, s2, B2, ck⟩; have d4 := (B2.cell (p := ⟨w.heap.size, 4, none⟩) (by have := HF.out.2.2.1; simp; omega)).trans c4; have H2 := Lib.hid (show w2.heap.size = V.heap.size + 1 ∧ Below V.heap.size V w2 ∧ Boxed w2 V.heap.size 5 _ from ⟨s2, ⟨B2.os, B2.tape, B2.output, B2.size, B2.block⟩, ck⟩); clear s2 B2 ck) | (refine ⟨trivial, (asked_any A l.length c _ _ _).mono ?_⟩; rintro e w3 ⟨rfl, s3, B3, cl, ci⟩; have H3 := Lib.hid (show w3.heap.size = w2.heap.size + 2 ∧ Below w2.heap.size w2 w3 ∧ Boxed w3 w2.heap.size 23 (.slice A l.length c) ∧ Boxed w3 (w2.heap.size + 1) 76 _ from ⟨s3, ⟨B3.os, B3.tape, B3.output, B3.size, B3.block⟩, cl, ci⟩); clear s3 B3 cl ci))
  all_goals exact ⟨w2, w3, H2.out, H3.out, rfl, rfl⟩
 rintro e a W hn
 cases e
 case normal =>
  obtain ⟨w2, w3, h2, h3, rfl, rfl⟩ := hn
  have H2 := Lib.hid h2
  have H3 := Lib.hid h3
  clear h2 h3 c3 c4
  gi_wp2_with fail
  have b3 : Below w.heap.size w W := HF.out.2.2.2.trans ((H2.out.2.1.mono (by have := HF.out.2.2.1; omega)).trans (H3.out.2.1.mono (by have := HF.out.2.2.1; have := H2.out.1; omega)))
  have sV := HF.out.2.2.1
  have s2 := H2.out.1
  have s3 := H3.out.1
  have B23 : Below V.heap.size V W := H2.out.2.1.trans (H3.out.2.1.mono (by omega))
  have r1 := (B23.block w.heap.size (by omega)).trans HF.out.1
  have r2 := (B23.block (w.heap.size + 1) (by omega)).trans HF.out.2.1
  have ck3 := (H3.out.2.1.block V.heap.size (by omega)).trans H2.out.2.2
  have HST := Lib.hid (asked_stops w2.heap.size (w2.heap.size + 1) w.heap.size [w2.heap.size, w2.heap.size + 1, V.heap.size] A c l _ _ (enters_of Tryd.func62 (by kernel_rfl) rfl) _ W (Kd.C_below HC.out b3) (by omega) HA.out (fun b hb => by simp at hb; omega) (by omega) H3.out.2.2.1 H3.out.2.2.2 (by simp) (by simp) (wrong_asks _ V.heap.size _ _ W ck3 (.inr (by simp))))
  have HR := Lib.hid (And.intro b3 (And.intro r1 r2))
  have HS := Lib.hid (show V.heap.size = w.heap.size + 2 ∧ w2.heap.size = V.heap.size + 1 ∧ W.heap.size = w2.heap.size + 2 from ⟨sV, s2, s3⟩)
  clear b3 B23 r1 r2 ck3 sV s2 s3
  refine wpIn_range (L := []) rfl (by decide) (gf := 60) (lb := #[.pointer (some ⟨w2.heap.size, 0, none⟩), .pointer (some ⟨w2.heap.size + 1, 0, none⟩)]) (by simp [go_sem]) trivial (enters_of Tryd.func60 (by kernel_rfl) rfl)
   HST.out (by simp) (fun h k => h.trans k) (fun X l o o' hl _ _ => ?kb) (Below.refl _ _) (fun _ => rfl)
   (fun pre X => pre = [] ∧ Below W.heap.size W X)
   (fun cd pre X => (cd = .ret ∧ pre ≠ [] ∧ X.heap[w.heap.size + 1]? = some (.cells #[.int .i64 2] 30 (0, 0))) ∧ Below w.heap.size W X)
   ?oI ?oIx ?bI ?bIx ⟨rfl, Below.refl _ _⟩ (fun y => { tmps := #[.agg #[.int .u64 a0, .int .u64 a1, .int .i64 a2, .int .u8 2, .slice A l.length c], .pointer (some ⟨w.heap.size, 0, none⟩), .pointer (some ⟨w.heap.size + 1, 0, none⟩), .bool true, undef, undef, undef, undef, undef, .pointer (some ⟨w.heap.size, 3, none⟩), .int .u8 2, .bool false, .bool false, .pointer (some ⟨w.heap.size, 3, none⟩), .int .u8 2, .bool true, .bool true, .pointer (some ⟨w.heap.size, 0, none⟩), .int .u64 a0, .bool false, .bool false, .pointer (some ⟨w.heap.size, 2, none⟩), .int .i64 a2, .bool false, .bool false, .bool false, .pointer (some ⟨w.heap.size, 2, none⟩), .int .i64 a2, .bool false, .bool false, .bool false, .bool true, .bool false, .bool false, .bool false, .pointer (some ⟨w.heap.size, 4, none⟩), .slice A l.length c, .int .i64 (l.length : Int), .bool false, .bool false, .bool false, .pointer (some ⟨w.heap.size, 4, none⟩), .slice A l.length c, .int .i64 (l.length : Int), .bool false, .bool false, .pointer (some ⟨w.heap.size, 4, none⟩), .slice A l.length c, .pointer (some ⟨w.heap.size, 3, none⟩), .int .u8 2, .func (.func 62) #[] #[.pointer (some ⟨V.heap.size, 0, none⟩)], .func (.func 60) #[] #[.pointer (some ⟨w2.heap.size, 0, none⟩), .pointer (some ⟨w2.heap.size + 1, 0, none⟩)], .int .i64 (y.1 : Int), .agg #[.int .i64 y.2.f0, .int .i64 y.2.f1, .bool y.2.f2], undef, undef, undef, undef, undef, undef, undef, undef, undef, undef, undef, undef, undef, undef, undef, undef, undef, undef, undef, undef, undef, undef, undef, undef, undef, undef, undef, undef, undef, undef, undef], defers := [] }) ?assign ?body ?done ?stop
  case kb => exact ⟨below_put _ _ _ _ (by have := HS.out; omega) (by assumption), fun b hb => World.putObj_heap_other (by have := HS.out; simp at hb; omega)⟩
  case oI =>
   rintro s X B row ⟨hp, hB⟩ hg hr
   exact ⟨hp, ownFrom_below (β := Unit) (B := W.heap.size) (by have := HS.out; omega) (by have := HS.out; omega) () X B row hB hg hr⟩
  case oIx =>
   rintro cd s X B row ⟨⟨h1, h2, h3⟩, hB⟩ hg hr
   exact ⟨⟨h1, h2, cells_own W.heap.size (w.heap.size + 1) (fun _ : Unit => #[.int .i64 2]) _ () X B row h3 hg hr⟩, ownFrom_below (β := Unit) (B := W.heap.size) (by have := HS.out; omega) (by have := HS.out; omega) () X B row hB hg hr⟩
  case bI =>
   rintro s X B row ⟨hp, hB⟩ hg hr
   have hr' : row = none := by
    cases row with
    | none => rfl
    | some r => exact absurd (hr r rfl) (by simp)
   subst hr'
   exact ⟨hp, hB.grown hg (by have := hB.size; have := HS.out; omega) (fun k e => by cases e)⟩
  case bIx =>
   rintro cd s X B row ⟨⟨h1, h2, h3⟩, hB⟩ hg hr
   have hr' : row = none := by
    cases row with
    | none => rfl
    | some r => exact absurd (hr r rfl) (by simp)
   subst hr'
   exact ⟨⟨h1, h2, (hg.block _ (blk_lt h3) (by simp)).trans h3⟩, hB.grown hg (by have := hB.size; have := HS.out; omega) (fun k e => by cases e)⟩
  case assign =>
   intro ly y X KK hK
   simp only [encA, sv]
   gi_wp2
   exact hK
  case body =>
   rintro ly pre y X ⟨hp, hB⟩ hlen
   have hrc := (hB.block (w.heap.size + 1) (by have := HS.out; omega)).trans HR.out.2.2
   have e0 := blk_cell hrc 0
   have z0 := blk_frozen hrc 0
   simp at e0
   have HBB := Lib.hid (And.intro hB hrc)
   clear hB hrc
   gi_wp2
   refine ⟨(KeepsOthers.setCell _ _ _).from _, ⟨rfl, by simp, ?_⟩, ?_⟩
   ·have := blk_set HBB.out.2 0 (.int .i64 2)
    simpa using this
   ·exact (HBB.out.1.mono (by have := HS.out; omega)).setCell (by simp) _
  case done =>
   rintro D ys X hD rfl ⟨hp, hB⟩ hK
   have rS := (hB.block w.heap.size (by have := HS.out; omega)).trans HR.out.2.1
   have rE := (hB.block (w.heap.size + 1) (by have := HS.out; omega)).trans HR.out.2.2
   have HX := Lib.hid (And.intro hK (And.intro hB (And.intro rS rE)))
   have HN := Lib.hid (picks_none hp)
   have d3 := blk_cell rS 3
   have d4 := blk_cell rS 4
   simp at d3 d4
   clear hK hB rS rE hp
   gi_wp2
   gi_loopw [4, 57] (fun v4 v57 wr => ∃ i : Nat, v57 = .int .i64 (i : Int) ∧ v4 = .int .i64 (lastM 0 (l.take i)) ∧ i ≤ l.length ∧ (True) ∧ Below X.heap.size X wr) (fun _ v57 _ => ((l.length : Int) - intOf v57).toNat)
   case atStart => exact ⟨0, rfl, rfl, Nat.zero_le _, trivial, Below.refl _ _⟩
   case round =>
    obtain ⟨i, rfl, rfl, hi, hri, hbx⟩ := hrel
    have bX := HX.out.2.1.size
    have sX := HS.out
    have bw : Below w.heap.size w wr := HR.out.1.trans ((HX.out.2.1.mono (by omega)).trans (hbx.mono (by omega)))
    have kD := (hbx.block D (blk_lt HX.out.1)).trans HX.out.1
    have kS := (hbx.block w.heap.size (by omega)).trans HX.out.2.2.1
    have kE := (hbx.block (w.heap.size + 1) (by omega)).trans HX.out.2.2.2
    have kX := hbx.size
    have HW := Lib.hid (And.intro bw (And.intro kD (And.intro kS kE)))
    have HRI := Lib.hid hri
    have HSZ := Lib.hid (show w.heap.size + 1 < wr.heap.size by omega)
    have HDZ := Lib.hid (show D < wr.heap.size from blk_lt kD)
    have HBX := Lib.hid hbx
    clear d3 d4
    have d3 := blk_cell kS 3
    have d4 := blk_cell kS 4
    have d5 := blk_cell kE 0
    have z5 := blk_frozen kE 0
    simp at d3 d4 d5
    clear bX sX bw kD kS kE kX hbx hri
    by_cases hlt : i < l.length
    ·obtain ⟨b, off, rfl, e0, e1, e2⟩ := row_cells HC.out i hlt
     have hb := HA.out b off rfl
     have c0 := (HW.out.1.cell (p := ⟨b, off + i * 3, none⟩) hb).trans e0
     have c1 := (HW.out.1.cell (p := ⟨b, off + i * 3 + 1, none⟩) hb).trans e1
     have c2 := (HW.out.1.cell (p := ⟨b, off + i * 3 + 2, none⟩) hb).trans e2
     have q0' : (0 : Int) ≤ (i : Int) := by omega
     have q5 : w.heap.size < wr.heap.size := by have := HSZ.out; omega
     have q6 : w.heap.size + 1 < wr.heap.size := HSZ.out
     have HLT := Lib.hid hlt
     have HRS := Lib.hid (And.intro (rise_snoc l i hlt) (last_snoc l i hlt))
     clear e0 e1 e2 hb
     generalize l.getD i zs = x at *
     generalize hla : lastM 0 (l.take i) = la at *
     by_cases hgt : la < x.f0
     ·gi_wp2
      go_roundw
      case rel =>
       refine ⟨i + 1, by simp, by rw [HRS.out.2], HLT.out, trivial, ?_⟩
       exact HBX.out.trans (below_alloc (Below.refl _ _) _ |>.mono HBX.out.size)
      case measure => simp [intOf]; omega
     ·gi_wp2
      go_roundw
      case rel =>
       refine ⟨i + 1, by simp, by rw [HRS.out.2], HLT.out, trivial, ?_⟩
       exact HBX.out.trans (below_alloc (Below.refl _ _) _ |>.mono HBX.out.size)
      case measure => simp [intOf]; omega
    ·obtain rfl : i = l.length := by omega
     have HSU := Lib.hid (sum_is wr A c l 41 #[] (enters_of Tryd.func41 (by kernel_rfl) rfl) any (Kd.C_below HC.out HW.out.1) (fun b off e => Nat.lt_of_lt_of_le (HA.out b off e) HW.out.1.size) (by have := HQ.out; omega) (any_asks _ _ _) (fun x hx => by have := good_fits HN.out x hx; simp [Ar.fits]; omega))
     rw [amounts_any] at HSU
     have hnn := sum_hi l (fun x hx => (good_fits HN.out x hx).1)
     change 0 ≤ (l.map (·.f1)).sum at hnn
     have HOK := Lib.hid (show okS a0 a2 2 l = decide ((l.map (·.f1)).sum < 4611686018427387904) from by rw [okS, HH.out, HN.out]; rfl)
     generalize (l.map (·.f1)).sum = S at *
     gi_wp2_with fail
     refine ⟨trivial, (callsIn_wide.2 HSU.out).mono ?_⟩
     rintro e W6 ⟨rfl, B6⟩
     have k6 := (B6.block D HDZ.out).trans HW.out.2.1
     have e6 := (B6.block (w.heap.size + 1) HSZ.out).trans HW.out.2.2.2
     have b6 := HW.out.1.trans (B6.mono HW.out.1.size)
     have H6 := Lib.hid (And.intro k6 (And.intro e6 b6))
     have d6 := blk_cell e6 0
     have z6 := blk_frozen e6 0
     simp at d6
     have kF : ∀ v, (W6.setCell ⟨w.heap.size + 1, 0, none⟩ v).heap[D]? = some (.deferred (some [])) := fun v => (Below.heap_setCell _ _ _ D (by have := HS.out; show ¬ D = w.heap.size + 1; omega)).trans H6.out.1
     have rF : ∀ v, (W6.setCell ⟨w.heap.size + 1, 0, none⟩ v).heap[w.heap.size + 1]? = some (.cells #[v] 30 (0, 0)) := fun v => by have := blk_set H6.out.2.1 0 v; simpa using this
     have bF : ∀ v, Below w.heap.size w (W6.setCell ⟨w.heap.size + 1, 0, none⟩ v) := fun v => H6.out.2.2.setCell (by simp) _
     have HFF := Lib.hid (And.intro kF (And.intro rF bF))
     have HNN := Lib.hid hnn
     clear k6 e6 b6 kF rF bF B6 d3 d4 d5 z5 hnn HSU
     by_cases hfit : Ar.fits S = true
     ·have ev : Ar.fitV S = S := if_pos hfit
      rw [ev, hfit]
      clear ev
      by_cases hlt : S < 4611686018427387904
      ·have HLT := Lib.hid hlt
       have g1 : decide (S ≥ 4611686018427387904) = false := decide_eq_false (by omega)
       gi_wp2
       change bodyPostM _ _ _ _ _ _ _ _
       refine ⟨by simp, .inl ⟨_, _, rfl, run_takeDeferred (HFF.out.1 _), ?_⟩⟩
       refine ⟨.int .i64 0, ?_, by rw [show chk a0 a2 2 l = 0 from by unfold chk; rw [HOK.out, decide_eq_true HLT.out]; rfl], ?_⟩
       ·have hz := blk_cell (show (World.putObj (W6.setCell ⟨w.heap.size + 1, 0, none⟩ (.int .i64 0)) D (.deferred none)).heap[w.heap.size + 1]? = _ from (World.putObj_heap_other (by have := HS.out; omega)).trans (HFF.out.2.1 _)) 0
        simp at hz
        simp [results, Tryd.results19, go_sem, hz]
       ·exact (HFF.out.2.2 _).trans (belowK_b (w := w) (Nat.le_refl _) _ D _ _ (by have := HR.out.1.size; omega) (HFF.out.1 _) rfl rfl)
      ·have HLT := Lib.hid hlt
       have g1 : decide (S ≥ 4611686018427387904) = true := decide_eq_true (by omega)
       gi_wp2
       change bodyPostM _ _ _ _ _ _ _ _
       refine ⟨by simp, .inl ⟨_, _, rfl, run_takeDeferred (HFF.out.1 _), ?_⟩⟩
       refine ⟨.int .i64 2, ?_, by rw [chk_no (HOK.out.trans (decide_eq_false (by have := HLT.out; omega)))], ?_⟩
       ·have hz := blk_cell (show (World.putObj (W6.setCell ⟨w.heap.size + 1, 0, none⟩ (.int .i64 2)) D (.deferred none)).heap[w.heap.size + 1]? = _ from (World.putObj_heap_other (by have := HS.out; omega)).trans (HFF.out.2.1 _)) 0
        simp at hz
        simp [results, Tryd.results19, go_sem, hz]
       ·exact (HFF.out.2.2 _).trans (belowK_b (w := w) (Nat.le_refl _) _ D _ _ (by have := HR.out.1.size; omega) (HFF.out.1 _) rfl rfl)
     ·have hf' : Ar.fits S = false := by simpa using hfit
      have HLT := Lib.hid (show ¬ S < 4611686018427387904 from fun q => hfit (by have := HNN.out; simp [Ar.fits]; omega))
      rw [hf']
      gi_wp2
      change bodyPostM _ _ _ _ _ _ _ _
      refine ⟨by simp, .inl ⟨_, _, rfl, run_takeDeferred (HFF.out.1 _), ?_⟩⟩
      refine ⟨.int .i64 2, ?_, by rw [chk_no (HOK.out.trans (decide_eq_false (by have := HLT.out; omega)))], ?_⟩
      ·have hz := blk_cell (show (World.putObj (W6.setCell ⟨w.heap.size + 1, 0, none⟩ (.int .i64 2)) D (.deferred none)).heap[w.heap.size + 1]? = _ from (World.putObj_heap_other (by have := HS.out; omega)).trans (HFF.out.2.1 _)) 0
       simp at hz
       simp [results, Tryd.results19, go_sem, hz]
      ·exact (HFF.out.2.2 _).trans (belowK_b (w := w) (Nat.le_refl _) _ D _ _ (by have := HR.out.1.size; omega) (HFF.out.1 _) rfl rfl)
  case stop =>
   rintro D cd pre X hD ⟨i, hi, rfl⟩ ⟨⟨rfl, h2, h3⟩, hB⟩ hK
   have hlo : ¬ w.heap.size + 1 = D := fun e => by have := HS.out; omega
   have hx : (X.putObj D (.deferred none)).heap[w.heap.size + 1]? = some (.cells #[.int .i64 2] 30 (0, 0)) := (World.putObj_heap_other hlo).trans h3
   have HX := Lib.hid (And.intro hK (And.intro hB hx))
   have hno : okS a0 a2 2 l = false := by rw [okS, picks_some hi h2]; simp
   have hcz := blk_cell hx 0
   simp at hcz
   clear hK hB hx h3 hlo
   gi_wp2
   change bodyPostM _ _ _ _ _ _ _ _
   refine ⟨by simp, .inl ⟨_, _, rfl, run_takeDeferred HX.out.1, ?_⟩⟩
   refine ⟨.int .i64 2, ?_, by rw [chk_no hno], ?_⟩
   ·simp [results, Tryd.results19, go_sem, hcz]
   ·exact (HR.out.1.trans HX.out.2.1).trans (belowK_b (w := w) (Nat.le_refl _) _ D _ _ (by have := HR.out.1.size; omega) HX.out.1 rfl rfl)
 all_goals exact hn.elim
theorem check_is (w : World) (a0 a1 a2 a3 : Int) (A : Option Addr) (c : Nat) (l : List Sl) (hC : Csl w A l) :
  Calls Tryd.prog 19 #[.agg #[.int .u64 a0, .int .u64 a1, .int .i64 a2, .int .u8 a3, .slice A l.length c]] w fun e w' => e = .returned (.int .i64 (chk a0 a2 a3 l)) ∧ Below w.heap.size w w' := by
 cases h : hd a0 a2 a3 l.length with
 | false =>
  rw [chk_no (by rw [okS, h]; simp)]
  exact head_no w a0 a1 a2 a3 A c l.length h
 | true =>
  have h1 : 0 < l.length := by simp [hd] at h; omega
  obtain ⟨b, off, rfl, e0, _⟩ := row_cells hC 0 h1
  have hA : ∀ b' off', some (⟨b, off, none⟩ : Addr) = some ⟨b', off', none⟩ → b' < w.heap.size := fun b' off' e => by
   cases e
   exact World.block_lt_of_cell? w _ e0
  have hk : a3 = 1 ∨ a3 = 2 := by simp [hd] at h; omega
  rcases hk with rfl | rfl
  ·exact check_1 w a0 a1 a2 _ c l hC hA h
  ·exact check_2 w a0 a1 a2 _ c l hC hA h
end Go.Proofs.YtgceecnlgjmghaaDoor.sch
namespace Go.Proofs.YtgceecnlgjmghaaDoor.PH
open Go.RowKit Go.Proofs.YtgceecnlgjmghaaDoorW.PrintWords
def sched_Check.f (a0_0 : Int) (_a0_1 : Int) (a0_2 : Int) (a0_3 : Int) (l0_4 : List S61) : Option Int := some (sch.chk a0_0 a0_2 a0_3 l0_4)
theorem sched_Check.calls (a0_0 : Int) (a0_1 : Int) (a0_2 : Int) (a0_3 : Int) (A0_4 : Option Addr) (c0_4 : Nat) (l0_4 : List (S61)) (r : Int) (w : World) (hr0_4 : Kd.C k61 w A0_4 l0_4.length l0_4) (_ : l0_4.length ≤ c0_4) (h : sched_Check.f a0_0 a0_1 a0_2 a0_3 l0_4 = some r) :
  Calls Tryd.prog 19 #[.agg #[.int .u64 a0_0, .int .u64 a0_1, .int .i64 a0_2, .int .u8 a0_3, .slice A0_4 l0_4.length c0_4]] w fun e w' => e = .returned (.int .i64 r) ∧ Below w.heap.size w w' := by
 simp only [sched_Check.f, Option.some.injEq] at h
 subst h
 exact sch.check_is w a0_0 a0_1 a0_2 a0_3 A0_4 c0_4 l0_4 hr0_4
end Go.Proofs.YtgceecnlgjmghaaDoor.PH

namespace Go.Proofs.YtgceecnlgjmghaaDoor.sch
open Go.RowKit Go.Proofs.YtgceecnlgjmghaaDoor.base Go.Proofs.YtgceecnlgjmghaaDoorW.PrintMore Go.Proofs.YtgceecnlgjmghaaDoorW.PrintWords
set_option linter.unusedSimpArgs false
attribute [local go_sem] Oper.semAt_some min2_int min_two
theorem picks_snd (p : Sl → Bool) (l : List Sl) : ∀ i, i ≤ l.length → (picks p l i).map (·.2) = (l.take i).filter p
 | 0, _ => by simp [picks]
 | i + 1, h => by
  have ih := picks_snd p l i (by omega)
  rw [picks_succ, take_snoc l i (by omega), List.filter_append]
  by_cases hp : p (l.getD i zs) = true
  ·rw [if_pos hp, List.map_append, ih, List.filter_cons, if_pos hp]
   rfl
  ·rw [if_neg hp, ih, List.filter_cons, if_neg hp]
   simp
theorem amounts_eq (p : Sl → Bool) (l : List Sl) : amounts p l = (l.filter p).map (·.f1) := by
 have := picks_snd p l l.length (Nat.le_refl _)
 rw [List.take_length] at this
 rw [← this, List.map_map]
 rfl
/-- What is left. -/
def lft (a0 a2 a3 : Int) (l : List Sl) : Int := if okS a0 a2 a3 l = true then Ar.fitV ((l.filter opn).map (·.f1)).sum else 0
theorem okS_parts {a0 a2 a3 : Int} {l : List Sl} (h : okS a0 a2 a3 l = true) : (1 ≤ l.length ∧ l.length ≤ 4096) ∧ (∀ x ∈ l, 0 ≤ x.f1 ∧ x.f1 < 4611686018427387904) ∧ all1 l < 4611686018427387904 := by
 simp only [okS, Bool.and_eq_true, decide_eq_true_eq] at h
 obtain ⟨⟨⟨h1, h2⟩, _⟩, h4⟩ := h
 simp only [hd, Bool.and_eq_true, decide_eq_true_eq] at h1
 exact ⟨⟨h1.1.2, h1.2⟩, good_fits h2, h4⟩
theorem row_in {w : World} {A : Option Addr} {l : List Sl} (hC : Csl w A l) (h : 0 < l.length) : ∀ b off, A = some ⟨b, off, none⟩ → b < w.heap.size := fun b off e => by
 obtain ⟨b', off', e', e0, _⟩ := row_cells hC 0 h
 rw [e] at e'
 cases e'
 exact World.block_lt_of_cell? w _ e0
theorem left_is (w : World) (a0 a1 a2 a3 : Int) (A : Option Addr) (c : Nat) (l : List Sl) (hC : Csl w A l) :
  Calls Tryd.prog 17 #[.agg #[.int .u64 a0, .int .u64 a1, .int .i64 a2, .int .u8 a3, .slice A l.length c]] w fun e w' => e = .returned (.int .i64 (lft a0 a2 a3 l)) ∧ Below w.heap.size w w' := by
 have HK := Lib.hid (fun w' (q : Below w.heap.size w w') => check_is w' a0 a1 a2 a3 A c l (Kd.C_below hC q))
 have HC := Lib.hid hC
 clear hC
 cases h : okS a0 a2 a3 l with
 | false =>
  rw [chk_no h] at HK
  rw [show lft a0 a2 a3 l = 0 by rw [lft, h]; rfl]
  go_enter Tryd.func17, Tryd.ntmps17
  go_wp2_with fail
  refine (HK.out _ (below_alloc (Below.refl _ _) _)).mono ?_
  rintro e w1 ⟨rfl, B1⟩
  have HB := Lib.hid ((below_alloc (Below.refl w.heap.size w) (.cells #[.int .u64 a0, .int .u64 a1, .int .i64 a2, .int .u8 a3, .slice A l.length c] 25)).trans (B1.mono (by simp)))
  clear B1
  go_wp2
  go_ret
  exact ⟨rfl, HB.out⟩
 | true =>
  have hp := okS_parts h
  have hA := row_in HC.out (by omega)
  have HS := Lib.hid (fun w' (q : Below w.heap.size w w') => sum_is w' A c l 38 #[] (enters_of Tryd.func38 (by kernel_rfl) rfl) opn (Kd.C_below HC.out q) (fun b off e => Nat.lt_of_lt_of_le (hA b off e) q.size) (by omega) (open_asks _ _ _) (fun x hx => by have := hp.2.1 x hx; simp [Ar.fits]; omega))
  rw [amounts_eq] at HS
  rw [show chk a0 a2 a3 l = 0 by rw [chk, h]; rfl] at HK
  rw [show lft a0 a2 a3 l = Ar.fitV ((l.filter opn).map (·.f1)).sum by rw [lft, h]; rfl]
  generalize ((l.filter opn).map (·.f1)).sum = S at *
  clear hp hA
  go_enter Tryd.func17, Tryd.ntmps17
  go_wp2_with fail
  refine (HK.out _ (below_alloc (Below.refl _ _) _)).mono ?_
  rintro e w1 ⟨rfl, B1⟩
  have HB := Lib.hid ((below_alloc (Below.refl w.heap.size w) (.cells #[.int .u64 a0, .int .u64 a1, .int .i64 a2, .int .u8 a3, .slice A l.length c] 25)).trans (B1.mono (by simp)))
  have d4 : w1.cell? ⟨w.heap.size, 4, none⟩ = some (.slice A l.length c) := (B1.cell (p := ⟨w.heap.size, 4, none⟩) (by simp)).trans (by simp)
  clear B1
  go_wp2_with fail
  refine (HS.out _ HB.out).mono ?_
  rintro e w2 ⟨rfl, B2⟩
  have HB2 := Lib.hid (HB.out.trans (B2.mono HB.out.size))
  clear B2
  go_wp2
  go_ret
  exact ⟨rfl, HB2.out⟩
abbrev Rsl (W : World) (base : Nat) (v : Value) (l : List Sl) : Prop := Kd.R PH.k61 61 W base (fun _ => True) v l
theorem Rsl.nil (W : World) (base : Nat) (hb : base ≤ W.heap.size) : Rsl (W.alloc (.cells #[] 61)) base (.slice (some ⟨W.heap.size, 0, none⟩) 0 0) [] := by
 have h2 := World.ownsRow_lit (base := base) (e := 61) (size := 3) W #[] 0 hb (by unfold maxLen; omega) (by simp)
 have h3 : (W.alloc (.cells #[] 61)).ownsRow base 61 3 (.slice (some ⟨W.heap.size, 0, none⟩) 0 0) 0 [] := by simpa using h2
 exact ⟨fun _ _ => trivial, [], h3, ⟨rfl, fun j p h => by simp at h⟩⟩
set_option maxRecDepth 100000 in
set_option maxHeartbeats 4000000 in
theorem clone_is (w : World) (A : Option Addr) (c : Nat) (xs : List Sl) (hC : Csl w A xs) (h0 : 0 < xs.length) (hn : xs.length ≤ 5000) :
  Calls Tryd.prog 59 #[.slice A xs.length c] w fun e w' => ∃ v, e = .returned v ∧ Rsl w' w.heap.size v xs ∧ Below w.heap.size w w' := by
 obtain ⟨ad, rfl, _⟩ := hC.2.2 h0
 have HC := Lib.hid hC
 have HN := Lib.hid hn
 clear hC hn
 obtain ⟨n, hnn⟩ : ∃ n, xs.length = n := ⟨_, rfl⟩
 have HL := Lib.hid hnn
 rw [hnn] at h0 ⊢
 clear hnn
 have q22 : ∀ (w : World) (a : Option Addr) (n c n' c' : Nat), (binOp .eql 23 (.slice a n c) (.slice none n' c')).run Tryd.prog w = .ok (.bool a.isNone) w := fun w a n c n' c' => Lib.run_eql_slice_nil w _ _ a n c n' c' Tryd.underlying23
 go_enter Tryd.func59, Tryd.ntmps59
 go_wp2_with ((with_reducible refine gate_builtin (b := .append) (xs := #[.tmp 5, .tmp 6]) rfl ?_); at_builtin; refine Kd.R_append_rows PH.k61 (Rr := PH.k61.K (w.alloc (.cells #[] 61))) (w0 := w) w.heap.size rfl (.tmp 5) (.tmp 6) 23 61 (.agg #[.int .i64 0, .int .i64 0, .bool false]) 24 rfl Tryd.underlying23 PH.info61 rfl (by decide) (by decide) (.slice (some ⟨w.heap.size, 0, none⟩) 0 0) [] xs (some ad) n c (fun _ => True) (fun _ => False) rfl rfl ?aO ?aR ?aK (fun _ hk => hk.elim) (fun _ _ => trivial) ?aB ?aS ?aL ?_; (case aO => exact Rsl.nil w w.heap.size (Nat.le_refl _)); (case aR => (have q := Kd.C_below HC.out (below_alloc (Below.refl _ w) (.cells #[] 61)); rw [HL.out] at q; exact q)); (case aK => (intro x cs hx; rw [PH.k61_open hx]; exact PH.k61_mkM _ _ _ x)); (case aB => exact below_alloc (Below.refl _ w) _); (case aS => simp); (case aL => (have := HN.out; have := HL.out; simp; omega)); intro v1 w9 hR hb hg hat; have HR := Lib.hid (And.intro hR hb); clear hR hb hg hat)
 go_ret
 exact ⟨v1, rfl, HR.out.1, HR.out.2⟩
/-- A schedule's block. -/
abbrev S5 (W : World) (b : Nat) (x0 x1 x2 x3 x4 : Value) : Prop := W.heap[b]? = some (.cells #[x0, x1, x2, x3, x4] 25 (0, 0))
/-- A whole schedule is stored. -/
abbrev P5 (W : World) (b : Nat) (y0 y1 y2 y3 y4 : Value) : World := ((((W.setCell ⟨b, 0, none⟩ y0).setCell ⟨b, 1, none⟩ y1).setCell ⟨b, 2, none⟩ y2).setCell ⟨b, 3, none⟩ y3).setCell ⟨b, 4, none⟩ y4
theorem S5.put {W : World} {b : Nat} {x0 x1 x2 x3 x4 : Value} (h : S5 W b x0 x1 x2 x3 x4) (y0 y1 y2 y3 y4 : Value) : S5 (P5 W b y0 y1 y2 y3 y4) b y0 y1 y2 y3 y4 := by
 have := blk_set (blk_set (blk_set (blk_set (blk_set h 0 y0) 1 y1) 2 y2) 3 y3) 4 y4
 simpa using this
theorem S5.set2 {W : World} {b : Nat} {x0 x1 x2 x3 x4 : Value} (h : S5 W b x0 x1 x2 x3 x4) (v : Value) : S5 (W.setCell ⟨b, 2, none⟩ v) b x0 x1 v x3 x4 := by
 have := blk_set h 2 v
 simpa using this
theorem far1 {W : World} {b k i : Nat} (h : k ≠ b) (v : Value) : (W.setCell ⟨b, i, none⟩ v).heap[k]? = W.heap[k]? := Below.heap_setCell _ _ _ k h
theorem far5 {W : World} {b k : Nat} (h : k ≠ b) (y0 y1 y2 y3 y4 : Value) : (P5 W b y0 y1 y2 y3 y4).heap[k]? = W.heap[k]? := ((((far1 h y4).trans (far1 h y3)).trans (far1 h y2)).trans (far1 h y1)).trans (far1 h y0)
theorem S5.row1 {W : World} {b base : Nat} {x0 x1 x2 x3 x4 v : Value} {l : List Sl} (h : S5 W b x0 x1 x2 x3 x4) (hR : Rsl W base v l) (i : Nat) (y : Value) : Rsl (W.setCell ⟨b, i, none⟩ y) base v l := Kd.R_set hR h (by decide) i y
theorem S5.row {W : World} {b base : Nat} {x0 x1 x2 x3 x4 v : Value} {l : List Sl} (h : S5 W b x0 x1 x2 x3 x4) (hR : Rsl W base v l) (y0 y1 y2 y3 y4 : Value) : Rsl (P5 W b y0 y1 y2 y3 y4) base v l :=
 Kd.R_set (Kd.R_set (Kd.R_set (Kd.R_set (Kd.R_set hR h (by decide) 0 y0) (blk_set h 0 y0) (by decide) 1 y1) (blk_set (blk_set h 0 y0) 1 y1) (by decide) 2 y2) (blk_set (blk_set (blk_set h 0 y0) 1 y1) 2 y2) (by decide) 3 y3)
  (blk_set (blk_set (blk_set (blk_set h 0 y0) 1 y1) 2 y2) 3 y3) (by decide) 4 y4
theorem below5 {w W : World} {m b : Nat} (h : Below m w W) (hb : m ≤ b) (y0 y1 y2 y3 y4 : Value) : Below m w (P5 W b y0 y1 y2 y3 y4) := ((((h.setCell hb _).setCell hb _).setCell hb _).setCell hb _).setCell hb _
theorem S5.cells {W : World} {b : Nat} {x0 x1 x2 x3 x4 : Value} (h : S5 W b x0 x1 x2 x3 x4) : W.cell? ⟨b, 0, none⟩ = some x0 ∧ W.cell? ⟨b, 1, none⟩ = some x1 ∧ W.cell? ⟨b, 2, none⟩ = some x2 ∧ W.cell? ⟨b, 3, none⟩ = some x3 ∧ W.cell? ⟨b, 4, none⟩ = some x4 := by
 have c0 := blk_cell h 0
 have c1 := blk_cell h 1
 have c2 := blk_cell h 2
 have c3 := blk_cell h 3
 have c4 := blk_cell h 4
 simp at c0 c1 c2 c3 c4
 exact ⟨c0, c1, c2, c3, c4⟩
theorem S5.fz {W : World} {b : Nat} {x0 x1 x2 x3 x4 : Value} (h : S5 W b x0 x1 x2 x3 x4) : W.frozen? ⟨b, 0, none⟩ = false ∧ W.frozen? ⟨b, 1, none⟩ = false ∧ W.frozen? ⟨b, 2, none⟩ = false ∧ W.frozen? ⟨b, 3, none⟩ = false ∧ W.frozen? ⟨b, 4, none⟩ = false :=
 ⟨blk_frozen h 0, blk_frozen h 1, blk_frozen h 2, blk_frozen h 3, blk_frozen h 4⟩
set_option maxHeartbeats 1000000 in
theorem own_is (w : World) (a0 a1 a2 a3 : Int) (A : Option Addr) (c : Nat) (l : List Sl) (hC : Csl w A l) (h0 : 0 < l.length) (hn : l.length ≤ 5000) :
  Calls Tryd.prog 33 #[.agg #[.int .u64 a0, .int .u64 a1, .int .i64 a2, .int .u8 a3, .slice A l.length c]] w fun e w' => ∃ v, e = .returned (.agg #[.int .u64 a0, .int .u64 a1, .int .i64 a2, .int .u8 a3, v]) ∧ Rsl w' w.heap.size v l ∧ Below w.heap.size w w' := by
 have HK := Lib.hid (fun w' (q : Below w.heap.size w w') => clone_is w' A c l (Kd.C_below hC q) h0 hn)
 clear hC
 go_enter Tryd.func33, Tryd.ntmps33
 obtain ⟨V, hV⟩ : ∃ V, (w.alloc (.cells #[.int .u64 a0, .int .u64 a1, .int .i64 a2, .int .u8 a3, .slice A l.length c] 25)).alloc (.cells #[.int .u64 0, .int .u64 0, .int .i64 0, .int .u8 0, .slice none 0 0] 25) = V := ⟨_, rfl⟩
 have f1 : V.heap[w.heap.size]? = some (.cells #[.int .u64 a0, .int .u64 a1, .int .i64 a2, .int .u8 a3, .slice A l.length c] 25 (0, 0)) := by rw [← hV]; exact (Below.heap_alloc _ _ _ (by simp)).trans (blk_new w _ _)
 have f2 : V.heap[w.heap.size + 1]? = some (.cells #[.int .u64 0, .int .u64 0, .int .i64 0, .int .u8 0, .slice none 0 0] 25 (0, 0)) := by rw [← hV]; have := blk_new (w.alloc (.cells #[.int .u64 a0, .int .u64 a1, .int .i64 a2, .int .u8 a3, .slice A l.length c] 25)) #[.int .u64 0, .int .u64 0, .int .i64 0, .int .u8 0, .slice none 0 0] 25; rwa [World.size_alloc] at this
 have f3 : V.heap.size = w.heap.size + 2 := by rw [← hV]; simp
 have f4 : Below w.heap.size w V := by rw [← hV]; exact ((Below.refl _ w).alloc (Nat.le_refl _) _).alloc (by simp) _
 have HV := Lib.hid hV
 have HF := Lib.hid (And.intro f1 (And.intro f2 (And.intro f3 f4)))
 clear hV f1 f2 f3 f4
 go_wp2_with fail
 rw [HV.out]
 obtain ⟨f1, f2, f3, f4⟩ := HF.out
 refine (HK.out V f4).mono ?_
 rintro e W ⟨v, rfl, hR, hB⟩
 obtain ⟨A', c', rfl⟩ := Kd.R_slice hR
 have g1 : S5 W w.heap.size _ _ _ _ _ := (hB.block w.heap.size (by omega)).trans f1
 have g2 : S5 W (w.heap.size + 1) _ _ _ _ _ := (hB.block (w.heap.size + 1) (by omega)).trans f2
 have HR := Lib.hid (And.intro hR (And.intro (f4.trans (hB.mono f4.size)) (And.intro g1 g2)))
 obtain ⟨c0, c1, c2, c3, c4⟩ := g1.cells
 obtain ⟨e0, e1, e2, e3, e4⟩ := g2.cells
 obtain ⟨_, _, _, _, z4⟩ := g1.fz
 obtain ⟨y0, y1, y2, y3, y4⟩ := g2.fz
 clear hR hB g1 g2 f1 f2 f3 f4
 go_wp2
 have hne : w.heap.size + 1 ≠ w.heap.size := by omega
 have u2 : S5 (W.setCell ⟨w.heap.size, 4, none⟩ (.slice A' l.length c')) (w.heap.size + 1) _ _ _ _ _ := (far1 hne _).trans HR.out.2.2.2
 obtain ⟨r0, r1, r2, r3, r4⟩ := (u2.put (.int .u64 a0) (.int .u64 a1) (.int .i64 a2) (.int .u8 a3) (.slice A' l.length c')).cells
 refine bodyPost_ret (v := .agg #[.int .u64 a0, .int .u64 a1, .int .i64 a2, .int .u8 a3, .slice A' l.length c']) (by simp [results, Tryd.results33, go_sem, r0, r1, r2, r3, r4]) rfl ⟨_, rfl, ?_, ?_⟩
 ·exact u2.row (HR.out.2.2.1.row1 (Kd.R_lower HR.out.1 (by have := HF.out.2.2.1; omega)) 4 _) _ _ _ _ _
 ·exact below5 (HR.out.2.1.setCell (by simp) _) (by omega) _ _ _ _ _
end Go.Proofs.YtgceecnlgjmghaaDoor.sch
namespace Go.Proofs.YtgceecnlgjmghaaDoor.PH
open Go.RowKit Go.Proofs.YtgceecnlgjmghaaDoorW.PrintWords
def sched_Left.f (a0_0 : Int) (_a0_1 : Int) (a0_2 : Int) (a0_3 : Int) (l0_4 : List S61) : Option Int := some (sch.lft a0_0 a0_2 a0_3 l0_4)
theorem sched_Left.calls (a0_0 : Int) (a0_1 : Int) (a0_2 : Int) (a0_3 : Int) (A0_4 : Option Addr) (c0_4 : Nat) (l0_4 : List (S61)) (r : Int) (w : World) (hr0_4 : Kd.C k61 w A0_4 l0_4.length l0_4) (_ : l0_4.length ≤ c0_4) (h : sched_Left.f a0_0 a0_1 a0_2 a0_3 l0_4 = some r) :
  Calls Tryd.prog 17 #[.agg #[.int .u64 a0_0, .int .u64 a0_1, .int .i64 a0_2, .int .u8 a0_3, .slice A0_4 l0_4.length c0_4]] w fun e w' => e = .returned (.int .i64 r) ∧ Below w.heap.size w w' := by
 simp only [sched_Left.f, Option.some.injEq] at h
 subst h
 exact sch.left_is w a0_0 a0_1 a0_2 a0_3 A0_4 c0_4 l0_4 hr0_4
end Go.Proofs.YtgceecnlgjmghaaDoor.PH

namespace Go.Proofs.YtgceecnlgjmghaaDoor.sch
open Go.RowKit Go.Proofs.YtgceecnlgjmghaaDoor.base Go.Proofs.YtgceecnlgjmghaaDoorW.PrintMore Go.Proofs.YtgceecnlgjmghaaDoorW.PrintWords
set_option linter.unusedSimpArgs false
attribute [local go_sem] Oper.semAt_some min2_int min_two
section
variable {W : World} {base g n cap : Nat} {l : List Sl}
theorem Rsl.at (h : Rsl W base (.slice (some ⟨g, 0, none⟩) n cap) l) (i : Nat) (hi : i < n) :
  (W.cell? ⟨g, i * 3, none⟩ = some (.int .i64 (l.getD i zs).f0) ∧ W.cell? ⟨g, i * 3 + 1, none⟩ = some (.int .i64 (l.getD i zs).f1) ∧ W.cell? ⟨g, i * 3 + 2, none⟩ = some (.bool (l.getD i zs).f2)) ∧
  (W.frozen? ⟨g, i * 3, none⟩ = false ∧ W.frozen? ⟨g, i * 3 + 1, none⟩ = false ∧ W.frozen? ⟨g, i * 3 + 2, none⟩ = false) := by
 obtain ⟨c, _, hM, hc, hf⟩ := Kd.R_elem h zs (i : Int) (by omega) (by omega)
 have hM' : PH.k61.M W base (fun k => True ∧ k ≠ g) (l.getD i zs) c := hM
 obtain rfl := PH.k61_openM hM'
 have c0 := hc 0 _ rfl
 have c1 := hc 1 _ rfl
 have c2 := hc 2 _ rfl
 have f0 := hf 0
 have f1 := hf 1
 have f2 := hf 2
 exact ⟨⟨c0, c1, c2⟩, f0, f1, f2⟩
theorem Rsl.put0 (h : Rsl W base (.slice (some ⟨g, 0, none⟩) n cap) l) (i : Nat) (hi : i < n) (m : Int) :
  Rsl (W.setCell ⟨g, i * 3, none⟩ (.int .i64 m)) base (.slice (some ⟨g, 0, none⟩) n cap) (l.set i ⟨m, (l.getD i zs).f1, (l.getD i zs).f2⟩) ∧ W.grownBy (W.setCell ⟨g, i * 3, none⟩ (.int .i64 m)) (some g) := by
 obtain ⟨c, hl, hM, hc, _⟩ := Kd.R_elem h zs (i : Int) (by omega) (by omega)
 have hM' : PH.k61.M W base (fun k => True ∧ k ≠ g) (l.getD i zs) c := hM
 obtain rfl := PH.k61_openM hM'
 exact Kd.R_seg h (i : Int) (by omega) (by omega) (seg := [.int .i64 m]) (j := 0) hl hc (show 1 ≤ 3 by decide) (x' := (⟨m, (l.getD i zs).f1, (l.getD i zs).f2⟩ : Sl)) (PH.k61_mkM _ _ _ (⟨m, (l.getD i zs).f1, (l.getD i zs).f2⟩ : Sl)) (fun _ hk => hk)
theorem Rsl.put1 (h : Rsl W base (.slice (some ⟨g, 0, none⟩) n cap) l) (i : Nat) (hi : i < n) (m : Int) :
  Rsl (W.setCell ⟨g, i * 3 + 1, none⟩ (.int .i64 m)) base (.slice (some ⟨g, 0, none⟩) n cap) (l.set i ⟨(l.getD i zs).f0, m, (l.getD i zs).f2⟩) ∧ W.grownBy (W.setCell ⟨g, i * 3 + 1, none⟩ (.int .i64 m)) (some g) := by
 obtain ⟨c, hl, hM, hc, _⟩ := Kd.R_elem h zs (i : Int) (by omega) (by omega)
 have hM' : PH.k61.M W base (fun k => True ∧ k ≠ g) (l.getD i zs) c := hM
 obtain rfl := PH.k61_openM hM'
 exact Kd.R_seg h (i : Int) (by omega) (by omega) (seg := [.int .i64 m]) (j := 1) hl hc (show 2 ≤ 3 by decide) (x' := (⟨(l.getD i zs).f0, m, (l.getD i zs).f2⟩ : Sl)) (PH.k61_mkM _ _ _ (⟨(l.getD i zs).f0, m, (l.getD i zs).f2⟩ : Sl)) (fun _ hk => hk)
theorem Rsl.put2 (h : Rsl W base (.slice (some ⟨g, 0, none⟩) n cap) l) (i : Nat) (hi : i < n) (d : Bool) :
  Rsl (W.setCell ⟨g, i * 3 + 2, none⟩ (.bool d)) base (.slice (some ⟨g, 0, none⟩) n cap) (l.set i ⟨(l.getD i zs).f0, (l.getD i zs).f1, d⟩) ∧ W.grownBy (W.setCell ⟨g, i * 3 + 2, none⟩ (.bool d)) (some g) := by
 obtain ⟨c, hl, hM, hc, _⟩ := Kd.R_elem h zs (i : Int) (by omega) (by omega)
 have hM' : PH.k61.M W base (fun k => True ∧ k ≠ g) (l.getD i zs) c := hM
 obtain rfl := PH.k61_openM hM'
 exact Kd.R_seg h (i : Int) (by omega) (by omega) (seg := [.bool d]) (j := 2) hl hc (show 3 ≤ 3 by decide) (x' := (⟨(l.getD i zs).f0, (l.getD i zs).f1, d⟩ : Sl)) (PH.k61_mkM _ _ _ (⟨(l.getD i zs).f0, (l.getD i zs).f1, d⟩ : Sl)) (fun _ hk => hk)
end
theorem belowS {w W : World} {m g : Nat} (h : Below m w W) (hg : m ≤ g) (i : Nat) (v : Value) : Below m w (W.setCell ⟨g, i, none⟩ v) := h.setCell hg v
/-- Is there such a month? -/
def mon (n : Int) : Bool := decide (1 ≤ n) && decide (n ≤ 119988)
theorem month_is (n : Int) (w : World) : Calls Tryd.prog 32 #[.int .i64 n] w fun e w' => e = .returned (.bool (mon n)) ∧ w' = w := by
 unfold mon
 by_cases h1 : n ≥ 1
 ·go_enter Tryd.func32, Tryd.ntmps32
  go_wp2
  go_ret
  exact ⟨by simp [h1], rfl⟩
 ·go_enter Tryd.func32, Tryd.ntmps32
  go_wp2
  go_ret
  exact ⟨by simp [show ¬ 1 ≤ n by omega], rfl⟩
abbrev V5 (a0 a1 a2 a3 : Int) (v : Value) : Value := .agg #[.int .u64 a0, .int .u64 a1, .int .i64 a2, .int .u8 a3, v]
abbrev Z5 : Value := V5 0 0 0 0 (.slice none 0 0)



theorem reach_pre (w : World) (a0 a1 a2 a3 : Int) (A : Option Addr) (c : Nat) (l : List Sl) (V : World) (hV : (w.alloc (.cells #[.int .u64 a0, .int .u64 a1, .int .i64 a2, .int .u8 a3, .slice A l.length c] 25)).alloc (.cells #[.int .u64 0, .int .u64 0, .int .i64 0, .int .u8 0, .slice none 0 0] 25) = V) :
  S5 V w.heap.size (.int .u64 a0) (.int .u64 a1) (.int .i64 a2) (.int .u8 a3) (.slice A l.length c) ∧ S5 V (w.heap.size + 1) (.int .u64 0) (.int .u64 0) (.int .i64 0) (.int .u8 0) (.slice none 0 0) ∧ V.heap.size = w.heap.size + 2 ∧ Below w.heap.size w V := by
 subst hV
 refine ⟨(Below.heap_alloc _ _ _ (by simp)).trans (blk_new w _ _), ?_, by simp, ((Below.refl _ w).alloc (Nat.le_refl _) _).alloc (by simp) _⟩
 have := blk_new (w.alloc (.cells #[.int .u64 a0, .int .u64 a1, .int .i64 a2, .int .u8 a3, .slice A l.length c] 25)) #[.int .u64 0, .int .u64 0, .int .i64 0, .int .u8 0, .slice none 0 0] 25
 rwa [World.size_alloc] at this
/-- Where it is refused. -/
theorem reach_no (w : World) (a0 a1 a2 a3 : Int) (A : Option Addr) (c : Nat) (l : List Sl) (at_ m : Int) (hC : Csl w A l) (h : okS a0 a2 a3 l = false ∨ at_ < 0 ∨ (l.length : Int) ≤ at_ ∨ mon m = false) :
  Calls Tryd.prog 10 #[V5 a0 a1 a2 a3 (.slice A l.length c), .int .i64 at_, .int .i64 m] w fun e w' => e = .returned (.tuple #[Z5, .int .i64 2]) ∧ Below w.heap.size w w' := by
 have HK := Lib.hid (fun w' (q : Below w.heap.size w w') => check_is w' a0 a1 a2 a3 A c l (Kd.C_below hC q))
 obtain ⟨V, hV⟩ : ∃ V, (w.alloc (.cells #[.int .u64 a0, .int .u64 a1, .int .i64 a2, .int .u8 a3, .slice A l.length c] 25)).alloc (.cells #[.int .u64 0, .int .u64 0, .int .i64 0, .int .u8 0, .slice none 0 0] 25) = V := ⟨_, rfl⟩
 have HF := Lib.hid (reach_pre w a0 a1 a2 a3 A c l V hV)
 have HV := Lib.hid hV
 clear hV hC
 cases ho : okS a0 a2 a3 l with
 | false =>
  rw [chk_no ho] at HK
  clear h ho
  go_enter Tryd.func10, Tryd.ntmps10
  go_wp2_with fail
  rw [HV.out]
  refine (HK.out V HF.out.2.2.2).mono ?_
  rintro e W ⟨rfl, hB⟩
  have g1 : S5 W w.heap.size _ _ _ _ _ := (hB.block w.heap.size (by have := HF.out.2.2.1; omega)).trans HF.out.1
  have g2 : S5 W (w.heap.size + 1) _ _ _ _ _ := (hB.block (w.heap.size + 1) (by have := HF.out.2.2.1; omega)).trans HF.out.2.1
  have HR := Lib.hid (And.intro (HF.out.2.2.2.trans (hB.mono HF.out.2.2.2.size)) (And.intro g1 g2))
  obtain ⟨c0, c1, c2, c3, c4⟩ := g1.cells
  obtain ⟨e0, e1, e2, e3, e4⟩ := g2.cells
  obtain ⟨z0, z1, z2, z3, z4⟩ := g1.fz
  obtain ⟨y0, y1, y2, y3, y4⟩ := g2.fz
  clear hB g1 g2

  go_wp2
  obtain ⟨r0, r1, r2, r3, r4⟩ := (HR.out.2.2.put (.int .u64 0) (.int .u64 0) (.int .i64 0) (.int .u8 0) (.slice none 0 0)).cells
  refine bodyPost_ret (v := .tuple #[Z5, .int .i64 2]) (by simp [results, Tryd.results10, go_sem, r0, r1, r2, r3, r4]) rfl ⟨rfl, ?_⟩
  exact below5 HR.out.1 (by omega) _ _ _ _ _

 | true =>
  rw [show chk a0 a2 a3 l = 0 by rw [chk, ho]; rfl] at HK
  by_cases h1 : at_ < 0
  ·clear h ho
   go_enter Tryd.func10, Tryd.ntmps10
   go_wp2_with fail
   rw [HV.out]
   refine (HK.out V HF.out.2.2.2).mono ?_
   rintro e W ⟨rfl, hB⟩
   have g1 : S5 W w.heap.size _ _ _ _ _ := (hB.block w.heap.size (by have := HF.out.2.2.1; omega)).trans HF.out.1
   have g2 : S5 W (w.heap.size + 1) _ _ _ _ _ := (hB.block (w.heap.size + 1) (by have := HF.out.2.2.1; omega)).trans HF.out.2.1
   have HR := Lib.hid (And.intro (HF.out.2.2.2.trans (hB.mono HF.out.2.2.2.size)) (And.intro g1 g2))
   obtain ⟨c0, c1, c2, c3, c4⟩ := g1.cells
   obtain ⟨e0, e1, e2, e3, e4⟩ := g2.cells
   obtain ⟨z0, z1, z2, z3, z4⟩ := g1.fz
   obtain ⟨y0, y1, y2, y3, y4⟩ := g2.fz
   clear hB g1 g2

   go_wp2
   obtain ⟨r0, r1, r2, r3, r4⟩ := (HR.out.2.2.put (.int .u64 0) (.int .u64 0) (.int .i64 0) (.int .u8 0) (.slice none 0 0)).cells
   refine bodyPost_ret (v := .tuple #[Z5, .int .i64 2]) (by simp [results, Tryd.results10, go_sem, r0, r1, r2, r3, r4]) rfl ⟨rfl, ?_⟩
   exact below5 HR.out.1 (by omega) _ _ _ _ _

  ·by_cases h2 : at_ ≥ (l.length : Int)
   ·clear h ho
    go_enter Tryd.func10, Tryd.ntmps10
    go_wp2_with fail
    rw [HV.out]
    refine (HK.out V HF.out.2.2.2).mono ?_
    rintro e W ⟨rfl, hB⟩
    have g1 : S5 W w.heap.size _ _ _ _ _ := (hB.block w.heap.size (by have := HF.out.2.2.1; omega)).trans HF.out.1
    have g2 : S5 W (w.heap.size + 1) _ _ _ _ _ := (hB.block (w.heap.size + 1) (by have := HF.out.2.2.1; omega)).trans HF.out.2.1
    have HR := Lib.hid (And.intro (HF.out.2.2.2.trans (hB.mono HF.out.2.2.2.size)) (And.intro g1 g2))
    obtain ⟨c0, c1, c2, c3, c4⟩ := g1.cells
    obtain ⟨e0, e1, e2, e3, e4⟩ := g2.cells
    obtain ⟨z0, z1, z2, z3, z4⟩ := g1.fz
    obtain ⟨y0, y1, y2, y3, y4⟩ := g2.fz
    clear hB g1 g2

    go_wp2
    obtain ⟨r0, r1, r2, r3, r4⟩ := (HR.out.2.2.put (.int .u64 0) (.int .u64 0) (.int .i64 0) (.int .u8 0) (.slice none 0 0)).cells
    refine bodyPost_ret (v := .tuple #[Z5, .int .i64 2]) (by simp [results, Tryd.results10, go_sem, r0, r1, r2, r3, r4]) rfl ⟨rfl, ?_⟩
    exact below5 HR.out.1 (by omega) _ _ _ _ _

   ·have h3 : mon m = false := by
     rcases h with h | h | h | h
     ·rw [ho] at h; cases h
     ·omega
     ·omega
     ·exact h
    have HM := Lib.hid (fun w' => month_is m w')
    rw [h3] at HM
    clear h ho h3
    go_enter Tryd.func10, Tryd.ntmps10
    go_wp2_with fail
    rw [HV.out]
    refine (HK.out V HF.out.2.2.2).mono ?_
    rintro e W ⟨rfl, hB⟩
    have g1 : S5 W w.heap.size _ _ _ _ _ := (hB.block w.heap.size (by have := HF.out.2.2.1; omega)).trans HF.out.1
    have g2 : S5 W (w.heap.size + 1) _ _ _ _ _ := (hB.block (w.heap.size + 1) (by have := HF.out.2.2.1; omega)).trans HF.out.2.1
    have HR := Lib.hid (And.intro (HF.out.2.2.2.trans (hB.mono HF.out.2.2.2.size)) (And.intro g1 g2))
    obtain ⟨c0, c1, c2, c3, c4⟩ := g1.cells
    obtain ⟨e0, e1, e2, e3, e4⟩ := g2.cells
    obtain ⟨z0, z1, z2, z3, z4⟩ := g1.fz
    obtain ⟨y0, y1, y2, y3, y4⟩ := g2.fz
    clear hB g1 g2

    go_wp2_with fail
    refine (HM.out _).mono ?_
    rintro e w' ⟨rfl, rfl⟩
    go_wp2
    obtain ⟨r0, r1, r2, r3, r4⟩ := (HR.out.2.2.put (.int .u64 0) (.int .u64 0) (.int .i64 0) (.int .u8 0) (.slice none 0 0)).cells
    refine bodyPost_ret (v := .tuple #[Z5, .int .i64 2]) (by simp [results, Tryd.results10, go_sem, r0, r1, r2, r3, r4]) rfl ⟨rfl, ?_⟩
    exact below5 HR.out.1 (by omega) _ _ _ _ _

theorem reach_state (w : World) (a0 a1 a2 a3 : Int) (A : Option Addr) (c : Nat) (l : List Sl) (i : Nat) (m : Int) (hC : Csl w A l) (ho : okS a0 a2 a3 l = true) (hi : i < l.length) (hm : mon m = true) (hx : (l.getD i zs).f0 ≠ 0) :
  Calls Tryd.prog 10 #[V5 a0 a1 a2 a3 (.slice A l.length c), .int .i64 (i : Int), .int .i64 m] w fun e w' => e = .returned (.tuple #[Z5, .int .i64 9]) ∧ Below w.heap.size w w' := by
 obtain ⟨b, off, rfl, x0, _⟩ := row_cells hC i hi
 have hb := World.block_lt_of_cell? w _ x0
 have HX := Lib.hid (And.intro x0 hb)
 have HK := Lib.hid (fun w' (q : Below w.heap.size w w') => check_is w' a0 a1 a2 a3 (some ⟨b, off, none⟩) c l (Kd.C_below hC q))
 have HM := Lib.hid (fun w' => month_is m w')
 rw [hm] at HM
 rw [show chk a0 a2 a3 l = 0 by rw [chk, ho]; rfl] at HK
 obtain ⟨V, hV⟩ : ∃ V, (w.alloc (.cells #[.int .u64 a0, .int .u64 a1, .int .i64 a2, .int .u8 a3, .slice (some ⟨b, off, none⟩) l.length c] 25)).alloc (.cells #[.int .u64 0, .int .u64 0, .int .i64 0, .int .u8 0, .slice none 0 0] 25) = V := ⟨_, rfl⟩
 have HF := Lib.hid (reach_pre w a0 a1 a2 a3 _ c l V hV)
 have HV := Lib.hid hV
 have h1 : ¬ (i : Int) < 0 := by omega
 have h2 : ¬ (i : Int) ≥ (l.length : Int) := by omega
 clear hV hC ho hm x0 hb
 go_enter Tryd.func10, Tryd.ntmps10
 go_wp2_with fail
 rw [HV.out]
 refine (HK.out V HF.out.2.2.2).mono ?_
 rintro e W ⟨rfl, hB⟩
 have g1 : S5 W w.heap.size _ _ _ _ _ := (hB.block w.heap.size (by have := HF.out.2.2.1; omega)).trans HF.out.1
 have g2 : S5 W (w.heap.size + 1) _ _ _ _ _ := (hB.block (w.heap.size + 1) (by have := HF.out.2.2.1; omega)).trans HF.out.2.1
 have HR := Lib.hid (And.intro (HF.out.2.2.2.trans (hB.mono HF.out.2.2.2.size)) (And.intro g1 g2))
 obtain ⟨c0, c1, c2, c3, c4⟩ := g1.cells
 obtain ⟨e0, e1, e2, e3, e4⟩ := g2.cells
 obtain ⟨z0, z1, z2, z3, z4⟩ := g1.fz
 obtain ⟨y0, y1, y2, y3, y4⟩ := g2.fz
 clear hB g1 g2

 go_wp2_with fail
 refine (HM.out _).mono ?_
 rintro e w' ⟨rfl, rfl⟩
 have x0 := (HR.out.1.cell (p := ⟨b, off + i * 3, none⟩) HX.out.2).trans HX.out.1
 have p0 : (0 : Int) ≤ (i : Int) := by omega
 generalize l.getD i zs = x at *
 go_wp2
 obtain ⟨r0, r1, r2, r3, r4⟩ := (HR.out.2.2.put (.int .u64 0) (.int .u64 0) (.int .i64 0) (.int .u8 0) (.slice none 0 0)).cells
 refine bodyPost_ret (v := .tuple #[Z5, .int .i64 9]) (by simp [results, Tryd.results10, go_sem, r0, r1, r2, r3, r4]) rfl ⟨rfl, ?_⟩
 exact below5 HR.out.1 (by omega) _ _ _ _ _

theorem reach_yes (w : World) (a0 a1 a2 a3 : Int) (A : Option Addr) (c : Nat) (l : List Sl) (i : Nat) (m : Int) (hC : Csl w A l) (ho : okS a0 a2 a3 l = true) (hi : i < l.length) (hm : mon m = true) (hx : (l.getD i zs).f0 = 0) :
  Calls Tryd.prog 10 #[V5 a0 a1 a2 a3 (.slice A l.length c), .int .i64 (i : Int), .int .i64 m] w fun e w' => ∃ v, e = .returned (.tuple #[V5 a0 a1 a2 a3 v, .int .i64 0]) ∧ Rsl w' w.heap.size v (l.set i ⟨m, (l.getD i zs).f1, (l.getD i zs).f2⟩) ∧ Below w.heap.size w w' := by
 obtain ⟨b, off, rfl, x0, _⟩ := row_cells hC i hi
 have hb := World.block_lt_of_cell? w _ x0
 rw [hx] at x0
 have HX := Lib.hid (And.intro x0 hb)
 have hpt := okS_parts ho
 have HK := Lib.hid (fun w' (q : Below w.heap.size w w') => check_is w' a0 a1 a2 a3 (some ⟨b, off, none⟩) c l (Kd.C_below hC q))
 have HO := Lib.hid (fun w' (q : Below w.heap.size w w') => own_is w' a0 a1 a2 a3 (some ⟨b, off, none⟩) c l (Kd.C_below hC q) (by omega) (by omega))
 have HM := Lib.hid (fun w' => month_is m w')
 rw [hm] at HM
 rw [show chk a0 a2 a3 l = 0 by rw [chk, ho]; rfl] at HK
 obtain ⟨V, hV⟩ : ∃ V, (w.alloc (.cells #[.int .u64 a0, .int .u64 a1, .int .i64 a2, .int .u8 a3, .slice (some ⟨b, off, none⟩) l.length c] 25)).alloc (.cells #[.int .u64 0, .int .u64 0, .int .i64 0, .int .u8 0, .slice none 0 0] 25) = V := ⟨_, rfl⟩
 have HF := Lib.hid (reach_pre w a0 a1 a2 a3 _ c l V hV)
 have HV := Lib.hid hV
 have h1 : ¬ (i : Int) < 0 := by omega
 have h2 : ¬ (i : Int) ≥ (l.length : Int) := by omega
 clear hV hC ho hm x0 hb hpt hx
 go_enter Tryd.func10, Tryd.ntmps10
 go_wp2_with fail
 rw [HV.out]
 refine (HK.out V HF.out.2.2.2).mono ?_
 rintro e W ⟨rfl, hB⟩
 have g1 : S5 W w.heap.size _ _ _ _ _ := (hB.block w.heap.size (by have := HF.out.2.2.1; omega)).trans HF.out.1
 have g2 : S5 W (w.heap.size + 1) _ _ _ _ _ := (hB.block (w.heap.size + 1) (by have := HF.out.2.2.1; omega)).trans HF.out.2.1
 have HR := Lib.hid (And.intro (HF.out.2.2.2.trans (hB.mono HF.out.2.2.2.size)) (And.intro g1 g2))
 obtain ⟨c0, c1, c2, c3, c4⟩ := g1.cells
 obtain ⟨e0, e1, e2, e3, e4⟩ := g2.cells
 obtain ⟨z0, z1, z2, z3, z4⟩ := g1.fz
 obtain ⟨y0, y1, y2, y3, y4⟩ := g2.fz
 clear hB g1 g2

 go_wp2_with fail
 refine (HM.out _).mono ?_
 rintro e w' ⟨rfl, rfl⟩
 have x0 := (HR.out.1.cell (p := ⟨b, off + i * 3, none⟩) HX.out.2).trans HX.out.1
 have p0 : (0 : Int) ≤ (i : Int) := by omega
 go_wp2_with fail
 refine (HO.out _ HR.out.1).mono ?_
 rintro e W2 ⟨v, rfl, hR2, hB2⟩
 obtain ⟨g, cap, rfl, hg1, hg2, cells, hgc⟩ := Kd.R_form hR2 (by omega)
 have sW := HR.out.1.size
 have gW : w.heap.size + 2 ≤ w'.heap.size := by have := blk_lt HR.out.2.2; omega
 have u1 : S5 W2 w.heap.size _ _ _ _ _ := (hB2.block w.heap.size (by omega)).trans HR.out.2.1
 have u2 : S5 W2 (w.heap.size + 1) _ _ _ _ _ := (hB2.block (w.heap.size + 1) (by omega)).trans HR.out.2.2
 have n1 : ¬ g = w.heap.size := by omega
 have n2 : ¬ w.heap.size = g := by omega
 have n3 : ¬ g = w.heap.size + 1 := by omega
 have n4 : ¬ w.heap.size + 1 = g := by omega
 have R1 := u1.row hR2 (.int .u64 a0) (.int .u64 a1) (.int .i64 a2) (.int .u8 a3) (.slice (some ⟨g, 0, none⟩) l.length cap)
 have R2 := Rsl.put0 R1 i hi m
 have v2 : S5 ((P5 W2 w.heap.size (.int .u64 a0) (.int .u64 a1) (.int .i64 a2) (.int .u8 a3) (.slice (some ⟨g, 0, none⟩) l.length cap)).setCell ⟨g, i * 3, none⟩ (.int .i64 m)) (w.heap.size + 1) _ _ _ _ _ := (far1 n4 _).trans ((far5 (by omega) _ _ _ _ _).trans u2)
 have bF := below5 (belowS (below5 (HR.out.1.trans (hB2.mono sW)) (Nat.le_refl _) (.int .u64 a0) (.int .u64 a1) (.int .i64 a2) (.int .u8 a3) (.slice (some ⟨g, 0, none⟩) l.length cap)) (show w.heap.size ≤ g by omega) (i * 3) (.int .i64 m)) (show w.heap.size ≤ w.heap.size + 1 by omega) (.int .u64 a0) (.int .u64 a1) (.int .i64 a2) (.int .u8 a3) (.slice (some ⟨g, 0, none⟩) l.length cap)
 have FN := Lib.hid (And.intro (v2.put (.int .u64 a0) (.int .u64 a1) (.int .i64 a2) (.int .u8 a3) (.slice (some ⟨g, 0, none⟩) l.length cap)) (And.intro (v2.row R2.1 (.int .u64 a0) (.int .u64 a1) (.int .i64 a2) (.int .u8 a3) (.slice (some ⟨g, 0, none⟩) l.length cap)) bF))
 obtain ⟨⟨k0, k1, k2⟩, l0, l1, l2⟩ := Rsl.at hR2 i hi
 clear c0 c1 c2 c3 c4 e0 e1 e2 e3 e4 z0 z1 z2 z3 z4 y0 y1 y2 y3 y4
 obtain ⟨c0, c1, c2, c3, c4⟩ := u1.cells
 obtain ⟨e0, e1, e2, e3, e4⟩ := u2.cells
 obtain ⟨z0, z1, z2, z3, z4⟩ := u1.fz
 obtain ⟨y0, y1, y2, y3, y4⟩ := u2.fz
 clear hR2 hB2 u1 u2 R1 R2 v2 bF x0 hgc sW
 go_wp2
 obtain ⟨r0, r1, r2, r3, r4⟩ := FN.out.1.cells
 refine bodyPost_ret (v := .tuple #[V5 a0 a1 a2 a3 (.slice (some ⟨g, 0, none⟩) l.length cap), .int .i64 0]) (by simp [results, Tryd.results10, go_sem, r0, r1, r2, r3, r4]) rfl ⟨_, rfl, Kd.R_lower FN.out.2.1 (by omega), FN.out.2.2⟩
/-- What Reach tells. -/
def rchE (a0 a2 a3 : Int) (l : List Sl) (at_ m : Int) : Int := if okS a0 a2 a3 l = true ∧ 0 ≤ at_ ∧ at_ < (l.length : Int) ∧ mon m = true then (if (l.getD at_.toNat zs).f0 = 0 then 0 else 9) else 2
def rchL (l : List Sl) (at_ m : Int) : List Sl := l.set at_.toNat ⟨m, (l.getD at_.toNat zs).f1, (l.getD at_.toNat zs).f2⟩
end Go.Proofs.YtgceecnlgjmghaaDoor.sch
namespace Go.Proofs.YtgceecnlgjmghaaDoor.PH
open Go.RowKit Go.Proofs.YtgceecnlgjmghaaDoorW.PrintWords Go.Proofs.YtgceecnlgjmghaaDoor.sch
def sched_Reach.f (a0 a1 a2 a3 : Int) (l : List S61) (at_ m : Int) : Option (Int × Int × Int × Int × List S61 × Int) :=
 some (if rchE a0 a2 a3 l at_ m = 0 then (a0, a1, a2, a3, rchL l at_ m, 0) else (0, 0, 0, 0, [], rchE a0 a2 a3 l at_ m))
theorem sched_Reach.calls (a0_0 : Int) (a0_1 : Int) (a0_2 : Int) (a0_3 : Int) (A0_4 : Option Addr) (c0_4 : Nat) (l0_4 : List (S61)) (a1 : Int) (a2 : Int) (r1 : Int) (r2 : Int) (r3 : Int) (r4 : Int) (r5 : List (S61)) (r6 : Int) (w : World) (hr0_4 : Kd.C k61 w A0_4 l0_4.length l0_4) (_ : l0_4.length ≤ c0_4) (h : sched_Reach.f a0_0 a0_1 a0_2 a0_3 l0_4 a1 a2 = some (r1, r2, r3, r4, r5, r6)) :
  Calls Tryd.prog 10 #[.agg #[.int .u64 a0_0, .int .u64 a0_1, .int .i64 a0_2, .int .u8 a0_3, .slice A0_4 l0_4.length c0_4], .int .i64 a1, .int .i64 a2] w fun e w' => ∃ v4_ : Value, e = .returned (.tuple #[.agg #[.int .u64 r1, .int .u64 r2, .int .i64 r3, .int .u8 r4, v4_], .int .i64 r6]) ∧ Kd.R k61 61 w' w.heap.size (fun _ => True) v4_ r5 ∧ Below w.heap.size w w' := by
 simp only [sched_Reach.f, Option.some.injEq] at h
 by_cases hg : okS a0_0 a0_2 a0_3 l0_4 = true ∧ 0 ≤ a1 ∧ a1 < (l0_4.length : Int) ∧ mon a2 = true
 ·obtain ⟨ho, h0, h1, hm⟩ := hg
  obtain ⟨i, rfl⟩ : ∃ i : Nat, a1 = (i : Int) := ⟨a1.toNat, by omega⟩
  have hi : i < l0_4.length := by omega
  have ei : ((i : Int)).toNat = i := rfl
  have he : rchE a0_0 a0_2 a0_3 l0_4 (i : Int) a2 = if (l0_4.getD i zs).f0 = 0 then 0 else 9 := by rw [rchE, if_pos ⟨ho, h0, h1, hm⟩, ei]
  by_cases hx : (l0_4.getD i zs).f0 = 0
  ·rw [he, if_pos hx, if_pos rfl] at h
   simp only [Prod.mk.injEq] at h
   obtain ⟨rfl, rfl, rfl, rfl, rfl, rfl⟩ := h
   refine (reach_yes w a0_0 a0_1 a0_2 a0_3 A0_4 c0_4 l0_4 i a2 hr0_4 ho hi hm hx).mono ?_
   rintro e w' ⟨v, rfl, hR, hB⟩
   exact ⟨v, rfl, hR, hB⟩
  ·rw [he, if_neg hx, if_neg (by decide)] at h
   simp only [Prod.mk.injEq] at h
   obtain ⟨rfl, rfl, rfl, rfl, rfl, rfl⟩ := h
   refine (reach_state w a0_0 a0_1 a0_2 a0_3 A0_4 c0_4 l0_4 i a2 hr0_4 ho hi hm hx).mono ?_
   rintro e w' ⟨rfl, hB⟩
   exact ⟨_, rfl, Kd.R_nil _ _ _ _ _, hB⟩
 ·have he : rchE a0_0 a0_2 a0_3 l0_4 a1 a2 = 2 := by rw [rchE, if_neg hg]
  rw [he, if_neg (by decide)] at h
  simp only [Prod.mk.injEq] at h
  obtain ⟨rfl, rfl, rfl, rfl, rfl, rfl⟩ := h
  refine (reach_no w a0_0 a0_1 a0_2 a0_3 A0_4 c0_4 l0_4 a1 a2 hr0_4 ?_).mono ?_
  ·by_cases q1 : okS a0_0 a0_2 a0_3 l0_4 = true
   ·by_cases q2 : a1 < 0
    ·exact .inr (.inl q2)
    ·by_cases q3 : (l0_4.length : Int) ≤ a1
     ·exact .inr (.inr (.inl q3))
     ·exact .inr (.inr (.inr (by
       cases hm : mon a2 with
       | false => rfl
       | true => exact absurd ⟨q1, by omega, by omega, hm⟩ hg)))
   ·exact .inl (by simpa using q1)
  ·rintro e w' ⟨rfl, hB⟩
   exact ⟨_, rfl, Kd.R_nil _ _ _ _ _, hB⟩
end Go.Proofs.YtgceecnlgjmghaaDoor.PH

namespace Go.Proofs.YtgceecnlgjmghaaDoor.sch
open Go.RowKit Go.Proofs.YtgceecnlgjmghaaDoor.base Go.Shelf Go.Proofs.YtgceecnlgjmghaaDoor.rl Go.Proofs.YtgceecnlgjmghaaDoorW.PrintMore Go.Proofs.YtgceecnlgjmghaaDoorW.PrintWords
set_option linter.unusedSimpArgs false
attribute [local go_sem] Oper.semAt_some min2_int min_two
theorem drew5 {W : World} {b : Nat} {x0 x1 x2 x3 x4 : Value} (h : S5 W b x0 x1 x2 x3 x4) : S5 W.drew b x0 x1 x2 x3 x4 := h
theorem drewB {W : World} {b t : Nat} {v : Value} (h : Boxed W b t v) : Boxed W.drew b t v := h
theorem drewH {W : World} {b : Nat} {o : Option Obj} (h : W.heap[b]? = o) : W.drew.heap[b]? = o := h
theorem noP_ret {Q : Exit → Act → World → Prop} {a : Act} {w : World} (h : Q .ret a w) : noP Q .ret a w := h
/-- Is a slice due? -/
def due (m : Int) (x : Sl) : Bool := !x.f2 && decide (1 ≤ x.f0) && decide (x.f0 ≤ m)
theorem due_is (m : Int) (B : Nat) (x : Sl) (w : World) (hb : Boxed w B 3 (.int .i64 m)) : Calls Tryd.prog 35 #[sv x, .pointer (some ⟨B, 0, none⟩)] w fun e w' => e = .returned (.bool (due m x)) ∧ Below w.heap.size w w' := by
 obtain ⟨k, a, d⟩ := x
 have hB := hb.lt
 have hc := hb.cell
 unfold sv due
 clear hb
 dsimp only
 cases d with
 | true =>
  go_enter Tryd.func35, Tryd.ntmps35
  go_wp2
  go_ret
  exact ⟨by simp, below_alloc (Below.refl _ _) _⟩
 | false =>
  by_cases h1 : k ≥ 1
  ·go_enter Tryd.func35, Tryd.ntmps35
   go_wp2
   go_ret
   exact ⟨by simp [show 1 ≤ k from h1], below_alloc (Below.refl _ _) _⟩
  ·go_enter Tryd.func35, Tryd.ntmps35
   go_wp2
   go_ret
   exact ⟨by simp [show ¬ 1 ≤ k by omega], below_alloc (Below.refl _ _) _⟩
theorem due_asks (m : Int) (B M : Nat) (L : List Nat) (w : World) (hb : Boxed w B 3 (.int .i64 m)) (hB : B < M ∨ B ∈ L) : Asks M L 35 #[.pointer (some ⟨B, 0, none⟩)] (due m) w := fun W x q => by
 have h2 : Boxed W B 3 (.int .i64 m) := by
  rcases hB with h | h
  ·exact (q.bel.block B h).trans hb
  ·exact (q.ks B h).trans hb
 exact callsIn_wide.2 (due_is m B x W h2)
/-- One is done. -/
def mk1 (l : List Sl) (i : Nat) : List Sl := l.set i ⟨(l.getD i zs).f0, (l.getD i zs).f1, true⟩
def mkP (l : List Sl) (ys : List (Nat × Sl)) : List Sl := ys.foldl (fun l y => mk1 l y.1) l
def smP (ys : List (Nat × Sl)) : Int := ys.foldl (fun n y => wrap64 (n + y.2.f1)) 0
theorem mkP_snoc (l : List Sl) (ys : List (Nat × Sl)) (y : Nat × Sl) : mkP l (ys ++ [y]) = mk1 (mkP l ys) y.1 := by simp [mkP]
theorem smP_snoc (ys : List (Nat × Sl)) (y : Nat × Sl) : smP (ys ++ [y]) = wrap64 (smP ys + y.2.f1) := by simp [smP]
theorem take_pre (w : World) (a0 a1 a2 a3 m : Int) (A : Option Addr) (c : Nat) (l : List Sl) (V : World) (hV : ((((w.alloc (.cells #[.int .u64 a0, .int .u64 a1, .int .i64 a2, .int .u8 a3, .slice A l.length c] 25)).alloc (.cells #[.int .i64 m] 3)).alloc (.cells #[.int .u64 0, .int .u64 0, .int .i64 0, .int .u8 0, .slice none 0 0] 25)).alloc (.cells #[.int .i64 0] 2)) = V) :
  S5 V w.heap.size (.int .u64 a0) (.int .u64 a1) (.int .i64 a2) (.int .u8 a3) (.slice A l.length c) ∧ Boxed V (w.heap.size + 1) 3 (.int .i64 m) ∧ S5 V (w.heap.size + 1 + 1) (.int .u64 0) (.int .u64 0) (.int .i64 0) (.int .u8 0) (.slice none 0 0) ∧ Boxed V (w.heap.size + 1 + 1 + 1) 2 (.int .i64 0) ∧ V.heap.size = w.heap.size + 4 ∧ Below w.heap.size w V := by
 subst hV
 have h1 := blk_new w #[.int .u64 a0, .int .u64 a1, .int .i64 a2, .int .u8 a3, .slice A l.length c] 25
 have h2 := blk_new (w.alloc (.cells #[.int .u64 a0, .int .u64 a1, .int .i64 a2, .int .u8 a3, .slice A l.length c] 25)) #[.int .i64 m] 3
 have h3 := blk_new ((w.alloc (.cells #[.int .u64 a0, .int .u64 a1, .int .i64 a2, .int .u8 a3, .slice A l.length c] 25)).alloc (.cells #[.int .i64 m] 3)) #[.int .u64 0, .int .u64 0, .int .i64 0, .int .u8 0, .slice none 0 0] 25
 have h4 := blk_new (((w.alloc (.cells #[.int .u64 a0, .int .u64 a1, .int .i64 a2, .int .u8 a3, .slice A l.length c] 25)).alloc (.cells #[.int .i64 m] 3)).alloc (.cells #[.int .u64 0, .int .u64 0, .int .i64 0, .int .u8 0, .slice none 0 0] 25)) #[.int .i64 0] 2
 simp only [World.size_alloc] at h2 h3 h4
 refine ⟨?_, ?_, ?_, h4, by simp, (((((Below.refl _ w).alloc (Nat.le_refl _) _).alloc (by simp) _).alloc (by simp <;> omega) _).alloc (by simp <;> omega) _)⟩
 ·exact (Below.heap_alloc _ _ _ (by simp <;> omega)).trans ((Below.heap_alloc _ _ _ (by simp <;> omega)).trans ((Below.heap_alloc _ _ _ (by simp)).trans h1))
 ·exact (Below.heap_alloc _ _ _ (by simp <;> omega)).trans ((Below.heap_alloc _ _ _ (by simp)).trans h2)
 ·exact (Below.heap_alloc _ _ _ (by simp)).trans h3


theorem take_no (w : World) (a0 a1 a2 a3 : Int) (A : Option Addr) (c : Nat) (l : List Sl) (m : Int) (hC : Csl w A l) (h : okS a0 a2 a3 l = false ∨ mon m = false) :
  Calls Tryd.prog 12 #[V5 a0 a1 a2 a3 (.slice A l.length c), .int .i64 m] w fun e w' => e = .returned (.tuple #[Z5, .int .i64 0, .int .i64 2]) ∧ Below w.heap.size w w' := by
 refine (callsIn_wide (n := 3)).1 ?_
 refine callsIn_of_wp_marks Tryd.func12 rfl trivial ?_ rfl
 simp only [Tryd.ntmps12, List.size_toArray, List.length_cons, List.length_nil, Nat.reduceAdd, Nat.reduceSub, Array.replicate_succ, Array.replicate_zero, List.push_toArray, List.append_toArray, List.nil_append, List.cons_append]
 have HK := Lib.hid (fun w' (q : Below w.heap.size w w') => check_is w' a0 a1 a2 a3 A c l (Kd.C_below hC q))
 have HM := Lib.hid (fun w' => month_is m w')
 obtain ⟨V, hV⟩ : ∃ V, ((((w.alloc (.cells #[.int .u64 a0, .int .u64 a1, .int .i64 a2, .int .u8 a3, .slice A l.length c] 25)).alloc (.cells #[.int .i64 m] 3)).alloc (.cells #[.int .u64 0, .int .u64 0, .int .i64 0, .int .u8 0, .slice none 0 0] 25)).alloc (.cells #[.int .i64 0] 2)) = V := ⟨_, rfl⟩
 have HF := Lib.hid (take_pre w a0 a1 a2 a3 m A c l V hV)
 have HV := Lib.hid hV
 clear hV hC
 cases ho : okS a0 a2 a3 l with
 | false =>
  rw [chk_no ho] at HK
  clear h ho
  gi_wp2_with fail
  rw [HV.out]
  refine ⟨trivial, (callsIn_wide.2 (HK.out V HF.out.2.2.2.2.2)).mono ?_⟩
  rintro e W ⟨rfl, hB⟩
  have g1 : S5 W w.heap.size _ _ _ _ _ := (hB.block w.heap.size (by have := HF.out.2.2.2.2.1; omega)).trans HF.out.1
  have g2 : Boxed W (w.heap.size + 1) _ _ := (hB.block (w.heap.size + 1) (by have := HF.out.2.2.2.2.1; omega)).trans HF.out.2.1
  have g3 : S5 W (w.heap.size + 1 + 1) _ _ _ _ _ := (hB.block (w.heap.size + 1 + 1) (by have := HF.out.2.2.2.2.1; omega)).trans HF.out.2.2.1
  have g4 : Boxed W (w.heap.size + 1 + 1 + 1) _ _ := (hB.block (w.heap.size + 1 + 1 + 1) (by have := HF.out.2.2.2.2.1; omega)).trans HF.out.2.2.2.1
  have HR := Lib.hid (And.intro (HF.out.2.2.2.2.2.trans (hB.mono HF.out.2.2.2.2.2.size)) (And.intro g1 (And.intro g2 (And.intro g3 g4))))
  obtain ⟨c0, c1, c2, c3, c4⟩ := g1.cells
  obtain ⟨e0, e1, e2, e3, e4⟩ := g3.cells
  obtain ⟨y0, y1, y2, y3, y4⟩ := g3.fz
  have dm := g2.cell
  have dn := g4.cell
  have zn := g4.frozen
  clear hB g1 g2 g3 g4

  gi_wp2_with fail
  refine ⟨trivial, ?_⟩
  gi_wp2
  have f3 := HR.out.2.2.2.1.put (.int .u64 0) (.int .u64 0) (.int .i64 0) (.int .u8 0) (.slice none 0 0)
  have f4 := (far5 (show w.heap.size + 1 + 1 + 1 ≠ w.heap.size + 1 + 1 by omega) (.int .u64 0) (.int .u64 0) (.int .i64 0) (.int .u8 0) (.slice none 0 0)).trans HR.out.2.2.2.2
  have f5 : S5 ((P5 _ (w.heap.size + 1 + 1) (.int .u64 0) (.int .u64 0) (.int .i64 0) (.int .u8 0) (.slice none 0 0)).setCell ⟨w.heap.size + 1 + 1 + 1, 0, none⟩ (.int .i64 0)) (w.heap.size + 1 + 1) _ _ _ _ _ := (far1 (by omega) _).trans f3
  have f6 := blk_set f4 0 (.int .i64 0)
  obtain ⟨r0, r1, r2, r3, r4⟩ := f5.cells
  have r5 := blk_cell f6 0
  simp at r5
  refine ⟨.tuple #[Z5, .int .i64 0, .int .i64 2], by simp [results, Tryd.results12, go_sem, r0, r1, r2, r3, r4, r5], rfl, ?_⟩
  exact belowS (below5 HR.out.1 (by omega) _ _ _ _ _) (by omega) _ _

 | true =>
  rw [show chk a0 a2 a3 l = 0 by rw [chk, ho]; rfl] at HK
  have h3 : mon m = false := by
   rcases h with h | h
   ·rw [ho] at h; cases h
   ·exact h
  rw [h3] at HM
  clear h ho h3
  gi_wp2_with fail
  rw [HV.out]
  refine ⟨trivial, (callsIn_wide.2 (HK.out V HF.out.2.2.2.2.2)).mono ?_⟩
  rintro e W ⟨rfl, hB⟩
  have g1 : S5 W w.heap.size _ _ _ _ _ := (hB.block w.heap.size (by have := HF.out.2.2.2.2.1; omega)).trans HF.out.1
  have g2 : Boxed W (w.heap.size + 1) _ _ := (hB.block (w.heap.size + 1) (by have := HF.out.2.2.2.2.1; omega)).trans HF.out.2.1
  have g3 : S5 W (w.heap.size + 1 + 1) _ _ _ _ _ := (hB.block (w.heap.size + 1 + 1) (by have := HF.out.2.2.2.2.1; omega)).trans HF.out.2.2.1
  have g4 : Boxed W (w.heap.size + 1 + 1 + 1) _ _ := (hB.block (w.heap.size + 1 + 1 + 1) (by have := HF.out.2.2.2.2.1; omega)).trans HF.out.2.2.2.1
  have HR := Lib.hid (And.intro (HF.out.2.2.2.2.2.trans (hB.mono HF.out.2.2.2.2.2.size)) (And.intro g1 (And.intro g2 (And.intro g3 g4))))
  obtain ⟨c0, c1, c2, c3, c4⟩ := g1.cells
  obtain ⟨e0, e1, e2, e3, e4⟩ := g3.cells
  obtain ⟨y0, y1, y2, y3, y4⟩ := g3.fz
  have dm := g2.cell
  have dn := g4.cell
  have zn := g4.frozen
  clear hB g1 g2 g3 g4

  gi_wp2_with fail
  refine ⟨trivial, (callsIn_wide.2 (HM.out _)).mono ?_⟩
  rintro e w' ⟨rfl, rfl⟩
  gi_wp2
  have f3 := HR.out.2.2.2.1.put (.int .u64 0) (.int .u64 0) (.int .i64 0) (.int .u8 0) (.slice none 0 0)
  have f4 := (far5 (show w.heap.size + 1 + 1 + 1 ≠ w.heap.size + 1 + 1 by omega) (.int .u64 0) (.int .u64 0) (.int .i64 0) (.int .u8 0) (.slice none 0 0)).trans HR.out.2.2.2.2
  have f5 : S5 ((P5 _ (w.heap.size + 1 + 1) (.int .u64 0) (.int .u64 0) (.int .i64 0) (.int .u8 0) (.slice none 0 0)).setCell ⟨w.heap.size + 1 + 1 + 1, 0, none⟩ (.int .i64 0)) (w.heap.size + 1 + 1) _ _ _ _ _ := (far1 (by omega) _).trans f3
  have f6 := blk_set f4 0 (.int .i64 0)
  obtain ⟨r0, r1, r2, r3, r4⟩ := f5.cells
  have r5 := blk_cell f6 0
  simp at r5
  refine ⟨.tuple #[Z5, .int .i64 0, .int .i64 2], by simp [results, Tryd.results12, go_sem, r0, r1, r2, r3, r4, r5], rfl, ?_⟩
  exact belowS (below5 HR.out.1 (by omega) _ _ _ _ _) (by omega) _ _

theorem Rsl.grown {X B : World} {base : Nat} {v : Value} {l : List Sl} {row : Option Nat} (hR : Rsl X base v l) (hg : X.grownBy B row) (h : ∀ r, row = some r → ∃ o, X.heap[r]? = some o ∧ o.isCells = false) : Rsl B base v l :=
 Kd.R_grown2 hR rfl hg (fun k e e2 => by
  obtain ⟨o, ho, hc⟩ := h k e
  obtain ⟨_, _, _, q, _, cells, hcells⟩ := (Kd.R_bound hR).1 k e2.symm
  rw [ho] at hcells
  cases hcells
  cases hc)
set_option maxRecDepth 100000 in
set_option maxHeartbeats 1000000 in
theorem take_yes (w : World) (a0 a1 a2 a3 : Int) (A : Option Addr) (c : Nat) (l : List Sl) (m : Int) (hC : Csl w A l) (ho : okS a0 a2 a3 l = true) (hm : mon m = true) :
  Calls Tryd.prog 12 #[V5 a0 a1 a2 a3 (.slice A l.length c), .int .i64 m] w fun e w' => ∃ v, e = .returned (.tuple #[V5 a0 a1 a2 a3 v, .int .i64 (smP (picks (due m) l l.length)), .int .i64 0]) ∧ Rsl w' w.heap.size v (mkP l (picks (due m) l l.length)) ∧ Below w.heap.size w w' := by
 refine (callsIn_wide (n := 3)).1 ?_
 refine callsIn_of_wp_marks Tryd.func12 rfl trivial ?_ rfl
 simp only [Tryd.ntmps12, List.size_toArray, List.length_cons, List.length_nil, Nat.reduceAdd, Nat.reduceSub, Array.replicate_succ, Array.replicate_zero, List.push_toArray, List.append_toArray, List.nil_append, List.cons_append]
 refine wpIn_mono (Q := noP _) ?_ noP_le
 have hpt := okS_parts ho
 have HA := Lib.hid (row_in hC (by omega))
 have HN := Lib.hid hpt.1
 have HK := Lib.hid (fun w' (q : Below w.heap.size w w') => check_is w' a0 a1 a2 a3 A c l (Kd.C_below hC q))
 have HO := Lib.hid (fun w' (q : Below w.heap.size w w') => own_is w' a0 a1 a2 a3 A c l (Kd.C_below hC q) (by omega) (by omega))
 have HM := Lib.hid (fun w' => month_is m w')
 have HC := Lib.hid hC
 rw [hm] at HM
 rw [show chk a0 a2 a3 l = 0 by rw [chk, ho]; rfl] at HK
 obtain ⟨V, hV⟩ : ∃ V, ((((w.alloc (.cells #[.int .u64 a0, .int .u64 a1, .int .i64 a2, .int .u8 a3, .slice A l.length c] 25)).alloc (.cells #[.int .i64 m] 3)).alloc (.cells #[.int .u64 0, .int .u64 0, .int .i64 0, .int .u8 0, .slice none 0 0] 25)).alloc (.cells #[.int .i64 0] 2)) = V := ⟨_, rfl⟩
 have HF := Lib.hid (take_pre w a0 a1 a2 a3 m A c l V hV)
 have HV := Lib.hid hV
 clear hV hC ho hm hpt
 gi_wp2_with fail
 rw [HV.out]
 refine ⟨trivial, (callsIn_wide.2 (HK.out V HF.out.2.2.2.2.2)).mono ?_⟩
 rintro e W ⟨rfl, hB⟩
 have g1 : S5 W w.heap.size _ _ _ _ _ := (hB.block w.heap.size (by have := HF.out.2.2.2.2.1; omega)).trans HF.out.1
 have g2 : Boxed W (w.heap.size + 1) _ _ := (hB.block (w.heap.size + 1) (by have := HF.out.2.2.2.2.1; omega)).trans HF.out.2.1
 have g3 : S5 W (w.heap.size + 1 + 1) _ _ _ _ _ := (hB.block (w.heap.size + 1 + 1) (by have := HF.out.2.2.2.2.1; omega)).trans HF.out.2.2.1
 have g4 : Boxed W (w.heap.size + 1 + 1 + 1) _ _ := (hB.block (w.heap.size + 1 + 1 + 1) (by have := HF.out.2.2.2.2.1; omega)).trans HF.out.2.2.2.1
 have HR := Lib.hid (And.intro (HF.out.2.2.2.2.2.trans (hB.mono HF.out.2.2.2.2.2.size)) (And.intro g1 (And.intro g2 (And.intro g3 g4))))
 obtain ⟨c0, c1, c2, c3, c4⟩ := g1.cells
 obtain ⟨e0, e1, e2, e3, e4⟩ := g3.cells
 obtain ⟨y0, y1, y2, y3, y4⟩ := g3.fz
 have dm := g2.cell
 have dn := g4.cell
 have zn := g4.frozen
 clear hB g1 g2 g3 g4

 gi_wp2_with fail
 refine ⟨trivial, (callsIn_wide.2 (HM.out _)).mono ?_⟩
 rintro e W0 ⟨rfl, rfl⟩
 gi_wp2_with fail
 refine ⟨trivial, (callsIn_wide.2 (HO.out _ HR.out.1)).mono ?_⟩
 rintro e W2 ⟨v, rfl, hR2, hB2⟩
 obtain ⟨g, cap, rfl, hg1, hg2, cells, hgc⟩ := Kd.R_form hR2 (by have := HN.out; omega)
 have gW : w.heap.size + 4 ≤ W0.heap.size := by have := HR.out.1.size; have := HR.out.2.2.2.2.lt; omega
 have u1 : S5 W2 w.heap.size _ _ _ _ _ := (hB2.block w.heap.size (by omega)).trans HR.out.2.1
 have u2 : Boxed W2 (w.heap.size + 1) _ _ := (hB2.block (w.heap.size + 1) (by omega)).trans HR.out.2.2.1
 have u3 : S5 W2 (w.heap.size + 1 + 1) _ _ _ _ _ := (hB2.block (w.heap.size + 1 + 1) (by omega)).trans HR.out.2.2.2.1
 have u4 : Boxed W2 (w.heap.size + 1 + 1 + 1) _ _ := (hB2.block (w.heap.size + 1 + 1 + 1) (by omega)).trans HR.out.2.2.2.2
 have bW2 := HR.out.1.trans (hB2.mono HR.out.1.size)
 clear c0 c1 c2 c3 c4 e0 e1 e2 e3 e4 y0 y1 y2 y3 y4 dm dn zn
 obtain ⟨c0, c1, c2, c3, c4⟩ := u1.cells
 obtain ⟨e0, e1, e2, e3, e4⟩ := u3.cells
 obtain ⟨y0, y1, y2, y3, y4⟩ := u3.fz
 have HU := Lib.hid (And.intro u1 (And.intro u2 (And.intro u3 (And.intro u4 (And.intro bW2 hR2)))))
 have HG := Lib.hid (show w.heap.size + 4 ≤ g ∧ g < W2.heap.size from ⟨by omega, hg2⟩)
 clear u1 u2 u3 u4 bW2 hR2 hB2 hgc hg1 hg2 gW
 gi_wp2_with fail
 obtain ⟨W3, hW3⟩ : ∃ W3, P5 W2 (w.heap.size + 1 + 1) (.int .u64 a0) (.int .u64 a1) (.int .i64 a2) (.int .u8 a3) (.slice (some ⟨g, 0, none⟩) l.length cap) = W3 := ⟨_, rfl⟩
 have t1 : S5 W3 w.heap.size (.int .u64 a0) (.int .u64 a1) (.int .i64 a2) (.int .u8 a3) (.slice A l.length c) := by rw [← hW3]; exact (far5 (by omega) _ _ _ _ _).trans HU.out.1
 have t2 : Boxed W3 (w.heap.size + 1) 3 (.int .i64 m) := by rw [← hW3]; exact (far5 (by omega) _ _ _ _ _).trans HU.out.2.1
 have t3 : S5 W3 (w.heap.size + 1 + 1) (.int .u64 a0) (.int .u64 a1) (.int .i64 a2) (.int .u8 a3) (.slice (some ⟨g, 0, none⟩) l.length cap) := by rw [← hW3]; exact HU.out.2.2.1.put _ _ _ _ _
 have t4 : Boxed W3 (w.heap.size + 1 + 1 + 1) 2 (.int .i64 0) := by rw [← hW3]; exact (far5 (by omega) _ _ _ _ _).trans HU.out.2.2.2.1
 have t5 : Rsl W3 w.heap.size (.slice (some ⟨g, 0, none⟩) l.length cap) l := by rw [← hW3]; exact HU.out.2.2.1.row (Kd.R_lower HU.out.2.2.2.2.2 (HR.out.1.size)) _ _ _ _ _
 have t6 : Below w.heap.size w W3 := by rw [← hW3]; exact below5 HU.out.2.2.2.2.1 (by omega) _ _ _ _ _
 have t7 : W3.heap.size = W2.heap.size := by rw [← hW3]; simp
 have e3' := hW3
 change ((((W2.setCell _ _).setCell _ _).setCell _ _).setCell _ _).setCell _ _ = W3 at e3'
 rw [e3']
 refine ⟨trivial, (asked_any A l.length c _ _ W3).mono ?_⟩
 rintro e W4 ⟨rfl, s4, B4, cl, ci⟩
 have r1 : S5 W4 w.heap.size _ _ _ _ _ := (B4.block _ (blk_lt t1)).trans t1
 have r2 : Boxed W4 (w.heap.size + 1) _ _ := (B4.block _ t2.lt).trans t2
 have r3 : S5 W4 (w.heap.size + 1 + 1) _ _ _ _ _ := (B4.block _ (blk_lt t3)).trans t3
 have r4 : Boxed W4 (w.heap.size + 1 + 1 + 1) _ _ := (B4.block _ t4.lt).trans t4
 have r5 := Kd.R_below t5 B4
 have r6 := t6.trans (B4.mono t6.size)
 have hs4 : W4.heap.size = W3.heap.size + 2 := s4
 have HST := Lib.hid (asked_stopsF W3.heap.size (W3.heap.size + 1) w.heap.size [W3.heap.size, W3.heap.size + 1, w.heap.size + 1] A c l _ _ (enters_of Tryd.func35 (by kernel_rfl) rfl) _ W4 (Kd.C_below HC.out r6) (by have := r6.size; omega) HA.out (fun b hb => by have := HG.out; simp at hb; omega) (by have := HN.out; omega) cl ci (by simp) (by simp) (due_asks m (w.heap.size + 1) _ _ W4 r2 (.inr (by simp))))
 have HR4 := Lib.hid (And.intro r1 (And.intro r2 (And.intro r3 (And.intro r4 (And.intro r5 r6)))))
 have HS := Lib.hid (show w.heap.size + 4 ≤ g ∧ g < W3.heap.size ∧ W4.heap.size = W3.heap.size + 2 from ⟨HG.out.1, by have := HG.out.2; omega, hs4⟩)
 clear hW3 e3' t1 t2 t3 t4 t5 t6 t7 s4 hs4 B4 cl ci r1 r2 r3 r4 r5 r6 c0 c1 c2 c3 c4 e0 e1 e2 e3 e4 y0 y1 y2 y3 y4
 gi_wp2_with fail
 refine wpIn_rangeH (L := []) rfl (by decide) (gf := 60) (lb := #[.pointer (some ⟨W3.heap.size, 0, none⟩), .pointer (some ⟨W3.heap.size + 1, 0, none⟩)]) (by simp [go_sem]) trivial (enters_of Tryd.func60 (by kernel_rfl) rfl)
  HST.out (by simp) (fun h k => h.trans k) (fun X l o o' hl _ _ => ?kb) (Below.refl _ _) (fun _ => rfl)
  (fun pre X => (Rsl X w.heap.size (.slice (some ⟨g, 0, none⟩) l.length cap) (mkP l (pre.map (pr l))) ∧ S5 X (w.heap.size + 1 + 1) (.int .u64 a0) (.int .u64 a1) (.int .i64 a2) (.int .u8 a3) (.slice (some ⟨g, 0, none⟩) l.length cap) ∧ Boxed X (w.heap.size + 1 + 1 + 1) 2 (.int .i64 (smP (pre.map (pr l))))) ∧ Below w.heap.size W4 X)
  (fun _ _ _ => False)
  ?oI (fun _ _ _ _ _ hs _ _ => hs) ?bI (fun _ _ _ _ _ hs _ _ => hs) ⟨⟨HR4.out.2.2.2.2.1, HR4.out.2.2.1, HR4.out.2.2.2.1⟩, Below.refl _ _⟩
  (fun i a' X => ∃ Bp, W4.heap.size ≤ Bp ∧ X.heap[Bp]? = some (.cells #[.int .i64 (l.getD i.1 zs).f0, .int .i64 (l.getD i.1 zs).f1, .bool (l.getD i.1 zs).f2] 61 (0, 0)) ∧ a' = { tmps := #[V5 a0 a1 a2 a3 (.slice A l.length c), .int .i64 m, .pointer (some ⟨w.heap.size, 0, none⟩), .pointer (some ⟨w.heap.size + 1, 0, none⟩), .pointer (some ⟨w.heap.size + 1 + 1, 0, none⟩), .pointer (some ⟨w.heap.size + 1 + 1 + 1, 0, none⟩), .int .i64 0, .func (.func 35) #[] #[.pointer (some ⟨w.heap.size + 1, 0, none⟩)], .int .i64 (i.1 : Int), .pointer (some ⟨Bp, 0, none⟩), .agg #[.int .u64 a0, .int .u64 a1, .int .i64 a2, .int .u8 a3, .slice A l.length c], .int .i64 0, .bool false, .bool false, .int .i64 m, .bool true, .bool false, .bool false, undef, .func (.func 35) #[] #[.pointer (some ⟨w.heap.size + 1, 0, none⟩)], .agg #[.int .u64 a0, .int .u64 a1, .int .i64 a2, .int .u8 a3, .slice A l.length c], .agg #[.int .u64 a0, .int .u64 a1, .int .i64 a2, .int .u8 a3, .slice (some ⟨g, 0, none⟩) l.length cap], .pointer (some ⟨w.heap.size, 4, none⟩), .slice A l.length c, .func (.func 35) #[] #[.pointer (some ⟨w.heap.size + 1, 0, none⟩)], .func (.func 60) #[] #[.pointer (some ⟨W3.heap.size, 0, none⟩), .pointer (some ⟨W3.heap.size + 1, 0, none⟩)], .int .i64 (i.1 : Int), .agg #[.int .i64 (l.getD i.1 zs).f0, .int .i64 (l.getD i.1 zs).f1, .bool (l.getD i.1 zs).f2], undef, undef, undef, undef, undef, undef, undef, undef, undef, undef, undef], defers := [] }) ?hAx ?assign ?body ?done ?stop
 case kb => exact ⟨below_put _ _ _ _ (by have := HS.out; omega) (by assumption), fun b hb => World.putObj_heap_other (by have := HS.out; simp at hb; omega)⟩
 case oI =>
  rintro s X B row ⟨⟨h1, h2, h3⟩, hB⟩ hg hr
  exact ⟨⟨h1.grown hg (fun r e => (hr r e).2), cells_own W4.heap.size (w.heap.size + 1 + 1) (fun _ : Unit => _) _ () X B row h2 hg hr, cells_own W4.heap.size (w.heap.size + 1 + 1 + 1) (fun _ : Unit => _) _ () X B row h3 hg hr⟩, ownFrom_below (β := Unit) (B := W4.heap.size) (by have := HS.out; omega) (by have := HS.out; omega) () X B row hB hg hr⟩
 case bI =>
  rintro s X B row ⟨⟨h1, h2, h3⟩, hB⟩ hg hr
  have hr' : row = none := by
   cases row with
   | none => rfl
   | some r => exact absurd (hr r rfl) (by simp)
  subst hr'
  exact ⟨⟨h1.grown hg (fun r e => by cases e), (hg.block _ (blk_lt h2) (by simp)).trans h2, (hg.block _ (blk_lt h3) (by simp)).trans h3⟩, hB.grown hg (by have := hB.size; have := HS.out; omega) (fun k e => by cases e)⟩
 case hAx =>
  rintro i a' s X B row ⟨Bp, h1, h2, h3⟩ hg hr
  exact ⟨Bp, h1, cells_own W4.heap.size Bp (fun _ : Unit => #[.int .i64 (l.getD i.1 zs).f0, .int .i64 (l.getD i.1 zs).f1, .bool (l.getD i.1 zs).f2]) _ () X B row h2 hg hr, h3⟩
 case assign =>
  rintro ly pre ⟨k, hk⟩ X KK ⟨⟨h1, h2, h3⟩, hB⟩ hK
  have HI := Lib.hid (And.intro h1 (And.intro h2 (And.intro h3 hB)))
  have HXS := Lib.hid (show W4.heap.size ≤ X.heap.size from hB.size)
  have hK2 := hK
  simp only [pr, encA, sv]
  dsimp only at hK2
  generalize l.getD k zs = x at hK2 ⊢
  clear h1 h2 h3 hB
  gi_wp2
  refine hK2 _ _ ((KeepsOthers.alloc _ _).from _) ⟨(Below.refl _ X).alloc (by have := HS.out; have := HXS.out; omega) _, fun b hb => Below.heap_alloc _ _ _ (by have := HS.out; have := HXS.out; simp at hb; omega)⟩
   ⟨⟨Kd.R_alloc HI.out.1 _, (Below.heap_alloc _ _ _ (blk_lt HI.out.2.1)).trans HI.out.2.1, HI.out.2.2.1.alloc _⟩, HI.out.2.2.2.trans ((Below.refl _ X).alloc (by have := HS.out; have := HXS.out; omega) _)⟩ ⟨_, HXS.out, blk_new X _ _, rfl⟩
 case body =>
  rintro ly pre ⟨k, hk⟩ a' X ⟨⟨h1, h2, h3⟩, hB⟩ ⟨Bp, hBp, hpp, rfl⟩ hlen
  dsimp only at hpp ⊢
  obtain ⟨⟨k0, k1, k2⟩, l0, l1, l2⟩ := Rsl.at h1 k hk
  obtain ⟨d0, d1, d2, d3, d4⟩ := h2.cells
  have hI' := smP_snoc (pre.map (pr l)) (pr l ⟨k, hk⟩)
  have hM' := mkP_snoc l (pre.map (pr l)) (pr l ⟨k, hk⟩)
  have ep : pr l ⟨k, hk⟩ = (k, l.getD k zs) := rfl
  rw [ep] at hI' hM'
  dsimp only at hI' hM'
  have em : (pre ++ [(⟨k, hk⟩ : Fin l.length)]).map (pr l) = pre.map (pr l) ++ [(k, l.getD k zs)] := by rw [List.map_append]; rfl
  generalize l.getD k zs = x at *
  have p1 := blk_cell hpp 1
  simp at p1
  have n0 := h3.cell
  have nz := h3.frozen
  have sX := hB.size
  have HSX := Lib.hid sX
  have HI := Lib.hid (And.intro h1 (And.intro h2 (And.intro h3 hB)))
  have HE := Lib.hid (And.intro hI' (And.intro hM' em))
  have q1 : ¬ g = w.heap.size + 1 + 1 + 1 := by have := HS.out; omega
  have q2 : ¬ w.heap.size + 1 + 1 + 1 = g := by have := HS.out; omega
  have q3 : ¬ g = Bp := by have := HS.out; omega
  have q4 : ¬ Bp = g := by have := HS.out; omega
  have q5 : (0 : Int) ≤ (k : Int) := by omega
  clear h1 h2 h3 hB hpp sX hI' hM' em ep
  gi_wp2
  have hput := Rsl.put2 HI.out.1 k hk true
  have hbx : Boxed (X.setCell ⟨g, k * 3 + 2, none⟩ (.bool true)) (w.heap.size + 1 + 1 + 1) 2 (.int .i64 (smP (pre.map (pr l)))) := (far1 q2 _).trans HI.out.2.2.1
  refine ⟨((KeepsOthers.setCell _ _ _).trans (KeepsOthers.setCell _ _ _)).from _, ⟨belowS (belowS (Below.refl _ X) (by have := HS.out; omega) _ _) (by omega) _ _, fun b hb => (far1 (by have := HS.out; simp at hb; omega) _).trans (far1 (by have := HS.out; simp at hb; omega) _)⟩, ⟨?_, ?_, ?_⟩, ?_⟩
  ·rw [HE.out.2.2, HE.out.2.1]
   exact Kd.R_set hput.1 hbx (by decide) 0 _
  ·exact (far1 (by omega) _).trans ((far1 (by have := HS.out; omega) _).trans HI.out.2.1)
  ·rw [HE.out.2.2, HE.out.1]
   exact hbx.set _
  ·exact HI.out.2.2.2.trans (belowS (belowS (Below.refl _ X) (by have := HS.out; omega) _ _) (by omega) _ _)
 case done =>
  rintro D ys X hD hS ⟨⟨h1, h2, h3⟩, hB⟩ hK
  rw [hS] at h1 h3
  obtain ⟨d0, d1, d2, d3, d4⟩ := h2.cells
  obtain ⟨z0, z1, z2, z3, z4⟩ := h2.fz
  have n0 := h3.cell
  have nz := h3.frozen
  have HI := Lib.hid (And.intro h1 (And.intro h2 (And.intro h3 (And.intro hB hK))))
  have hmo : Tryd.prog.follows .mixedOrders = true := by kernel_rfl
  clear h1 h2 h3 hB hK hS
  generalize hml : mkP l (picks (due m) l l.length) = ml at *
  generalize hsm : smP (picks (due m) l l.length) = sm at *
  gi_upto_region 10 with fail
  gi_region_with_o fail
  all_goals (
   have f1 : S5 X (w.heap.size + 1 + 1) (.int .u64 a0) (.int .u64 a1) (.int .i64 a2) (.int .u8 a3) (.slice (some ⟨g, 0, none⟩) l.length cap) := HI.out.2.1
   have f2 : Boxed X (w.heap.size + 1 + 1 + 1) 2 (.int .i64 sm) := HI.out.2.2.1
   have f3 : Rsl X w.heap.size (.slice (some ⟨g, 0, none⟩) l.length cap) ml := HI.out.1
   have f4 : X.heap[D]? = some (.deferred (some [])) := HI.out.2.2.2.2
   have f5 : Below w.heap.size w X := HR4.out.2.2.2.2.2.trans HI.out.2.2.2.1
   have g1 := f1.put (.int .u64 a0) (.int .u64 a1) (.int .i64 a2) (.int .u8 a3) (.slice (some ⟨g, 0, none⟩) l.length cap)
   have g2 : Boxed (P5 X (w.heap.size + 1 + 1) (.int .u64 a0) (.int .u64 a1) (.int .i64 a2) (.int .u8 a3) (.slice (some ⟨g, 0, none⟩) l.length cap)) (w.heap.size + 1 + 1 + 1) 2 (.int .i64 sm) := (far5 (by omega) _ _ _ _ _).trans f2
   have g3 := f1.row f3 (.int .u64 a0) (.int .u64 a1) (.int .i64 a2) (.int .u8 a3) (.slice (some ⟨g, 0, none⟩) l.length cap)
   have g4 := (far5 (show D ≠ w.heap.size + 1 + 1 by have := HS.out; omega) (.int .u64 a0) (.int .u64 a1) (.int .i64 a2) (.int .u8 a3) (.slice (some ⟨g, 0, none⟩) l.length cap)).trans f4
   have e1 : S5 ((P5 X (w.heap.size + 1 + 1) (.int .u64 a0) (.int .u64 a1) (.int .i64 a2) (.int .u8 a3) (.slice (some ⟨g, 0, none⟩) l.length cap)).setCell ⟨w.heap.size + 1 + 1 + 1, 0, none⟩ (.int .i64 sm)) (w.heap.size + 1 + 1) (.int .u64 a0) (.int .u64 a1) (.int .i64 a2) (.int .u8 a3) (.slice (some ⟨g, 0, none⟩) l.length cap) := (far1 (by omega) _).trans g1
   have e2 : Boxed ((P5 X (w.heap.size + 1 + 1) (.int .u64 a0) (.int .u64 a1) (.int .i64 a2) (.int .u8 a3) (.slice (some ⟨g, 0, none⟩) l.length cap)).setCell ⟨w.heap.size + 1 + 1 + 1, 0, none⟩ (.int .i64 sm)) (w.heap.size + 1 + 1 + 1) 2 (.int .i64 sm) := g2.set _
   have e3 := Kd.R_set g3 g2 (by decide) 0 (.int .i64 sm)
   have e4 := (far1 (i := 0) (show D ≠ w.heap.size + 1 + 1 + 1 by have := HS.out; omega) (.int .i64 sm)).trans g4
   have e5 := belowS (below5 f5 (show w.heap.size ≤ w.heap.size + 1 + 1 by omega) (.int .u64 a0) (.int .u64 a1) (.int .i64 a2) (.int .u8 a3) (.slice (some ⟨g, 0, none⟩) l.length cap)) (show w.heap.size ≤ w.heap.size + 1 + 1 + 1 by omega) 0 (.int .i64 sm)
   have HE := Lib.hid (And.intro (drew5 e1) (And.intro (drewB e2) (And.intro (Kd.R_drew e3) (And.intro (drewH e4) (e5.trans (below_drew1 (Below.refl _ _)))))))
   clear f1 f2 f3 f4 f5 g1 g2 g3 g4 e1 e2 e3 e4 e5
   gi_wp2
   refine noP_ret ?_
   refine ⟨by simp, .inl ⟨_, _, rfl, run_takeDeferred HE.out.2.2.2.1, ?_⟩⟩
   obtain ⟨r0, r1, r2, r3, r4⟩ := (show S5 (World.putObj _ D (.deferred none)) (w.heap.size + 1 + 1) _ _ _ _ _ from (World.putObj_heap_other (by have := HS.out; omega)).trans HE.out.1).cells
   have r5 := (show Boxed (World.putObj _ D (.deferred none)) (w.heap.size + 1 + 1 + 1) _ _ from (World.putObj_heap_other (by have := HS.out; omega)).trans HE.out.2.1).cell
   refine ⟨.tuple #[V5 a0 a1 a2 a3 (.slice (some ⟨g, 0, none⟩) l.length cap), .int .i64 sm, .int .i64 0], by simp [results, Tryd.results12, go_sem, r0, r1, r2, r3, r4, r5], ⟨_, by rw [hsm], ?_, ?_⟩⟩
   ·rw [hml]
    exact Rsl.grown HE.out.2.2.1 (grownBy_putObj' _ D _) (fun r e => by cases e; exact ⟨_, HE.out.2.2.2.1, rfl⟩)
   ·exact HE.out.2.2.2.2.trans (belowK_b (w := w) (Nat.le_refl _) _ D _ _ (by have := HS.out; have := HR4.out.2.2.2.2.2.size; omega) HE.out.2.2.2.1 rfl rfl)
   )
 case stop =>
  rintro D c pre W _ _ h _
  exact h.elim
/-! What it is, in plain words. -/
def don (p : Sl → Bool) (x : Sl) : Sl := if p x = true then ⟨x.f0, x.f1, true⟩ else x
theorem getD_app (a b : List Sl) (i : Nat) (h : a.length = i) : (a ++ b).getD i zs = b.getD 0 zs := by
 subst h
 rw [List.getD_eq_getElem?_getD, List.getD_eq_getElem?_getD, List.getElem?_append_right (Nat.le_refl _), Nat.sub_self]
theorem mkP_picks (p : Sl → Bool) (l : List Sl) : ∀ i, i ≤ l.length → mkP l (picks p l i) = (l.take i).map (don p) ++ l.drop i
 | 0, _ => by simp [mkP, picks]
 | i + 1, h => by
  have hi : i < l.length := by omega
  have ih := mkP_picks p l i (by omega)
  have hd : l.drop i = l.getD i zs :: l.drop (i + 1) := by
   rw [List.drop_eq_getElem_cons hi, List.getD_eq_getElem?_getD, List.getElem?_eq_getElem hi]
   rfl
  have hl : ((l.take i).map (don p)).length = i := by simp; omega
  rw [picks_succ, take_snoc l i hi, List.map_append, List.append_assoc]
  by_cases hp : p (l.getD i zs) = true
  ·rw [if_pos hp, mkP_snoc, ih, mk1]
   show ((l.take i).map (don p) ++ l.drop i).set i _ = _
   rw [getD_app _ _ i hl, hd, List.set_append_right _ _ (by omega), hl, Nat.sub_self]
   show _ ++ _ :: _ = _
   simp only [List.getD_cons_zero, List.map_cons, List.map_nil, List.cons_append, List.nil_append]
   rw [don, if_pos hp]
  ·rw [if_neg hp, ih, hd]
   simp only [List.map_cons, List.map_nil, List.cons_append, List.nil_append]
   rw [don, if_neg hp]
def tkL (m : Int) (l : List Sl) : List Sl := l.map (don (due m))
theorem mkP_all (m : Int) (l : List Sl) : mkP l (picks (due m) l l.length) = tkL m l := by
 rw [mkP_picks _ _ _ (Nat.le_refl _), List.take_length, List.drop_length, List.append_nil]
 rfl
def tkN (m : Int) (l : List Sl) : Int := ((l.filter (due m)).map (·.f1)).sum
theorem fold_sum : ∀ (ys : List (Nat × Sl)) (n : Int), 0 ≤ n → (∀ y ∈ ys, 0 ≤ y.2.f1) → n + (ys.map (fun y => y.2.f1)).sum < 9223372036854775808 → ys.foldl (fun n y => wrap64 (n + y.2.f1)) n = n + (ys.map (fun y => y.2.f1)).sum
 | [], n, _, _, _ => by simp
 | y :: ys, n, h0, h1, h2 => by
  have hy := h1 y (by simp)
  have hs : 0 ≤ (ys.map (fun y => y.2.f1)).sum := by
   have : ∀ zs : List (Nat × Sl), (∀ y ∈ zs, 0 ≤ y.2.f1) → 0 ≤ (zs.map (fun y => y.2.f1)).sum := fun zs => by
    induction zs with
    | nil => intro _; simp
    | cons z zs ih =>
     intro hz
     have a := hz z (by simp)
     have b := ih (fun y q => hz y (by simp [q]))
     simp only [List.map_cons, List.sum_cons]
     omega
   exact this ys (fun y q => h1 y (by simp [q]))
  simp only [List.map_cons, List.sum_cons] at h2 ⊢
  rw [List.foldl_cons, show wrap64 (n + y.2.f1) = n + y.2.f1 by unfold wrap64; omega, fold_sum ys (n + y.2.f1) (by omega) (fun y q => h1 y (by simp [q])) (by omega)]
  omega
theorem filter_sum (p : Sl → Bool) : ∀ l : List Sl, (∀ x ∈ l, 0 ≤ x.f1) → 0 ≤ ((l.filter p).map (·.f1)).sum ∧ ((l.filter p).map (·.f1)).sum ≤ all1 l
 | [], _ => by simp [all1]
 | x :: l, h => by
  have ih := filter_sum p l (fun y q => h y (by simp [q]))
  have hx := h x (by simp)
  unfold all1 at ih ⊢
  simp only [List.map_cons, List.sum_cons]
  by_cases hp : p x = true
  ·rw [List.filter_cons, if_pos hp]
   simp only [List.map_cons, List.sum_cons]
   omega
  ·rw [List.filter_cons, if_neg hp]
   omega
theorem smP_all {a0 a2 a3 : Int} (m : Int) {l : List Sl} (ho : okS a0 a2 a3 l = true) : smP (picks (due m) l l.length) = tkN m l := by
 obtain ⟨_, h1, h2⟩ := okS_parts ho
 have e := amounts_eq (due m) l
 have hf := filter_sum (due m) l (fun x hx => (h1 x hx).1)
 unfold smP
 rw [fold_sum _ 0 (Int.le_refl _) (fun y hy => by
  obtain ⟨j, hj, rfl⟩ := List.mem_map.1 hy
  have hj' : j < l.length := by simpa using (List.mem_filter.1 hj).1
  show 0 ≤ (l.getD j zs).f1
  rw [List.getD_eq_getElem?_getD, List.getElem?_eq_getElem hj']
  exact (h1 _ (List.getElem_mem hj')).1) (by
  have : ((picks (due m) l l.length).map (fun y => y.2.f1)) = (l.filter (due m)).map (·.f1) := e
  rw [this]
  omega)]
 have : ((picks (due m) l l.length).map (fun y => y.2.f1)) = (l.filter (due m)).map (·.f1) := e
 rw [this, tkN]
 omega
end Go.Proofs.YtgceecnlgjmghaaDoor.sch
namespace Go.Proofs.YtgceecnlgjmghaaDoor.PH
open Go.RowKit Go.Proofs.YtgceecnlgjmghaaDoorW.PrintWords Go.Proofs.YtgceecnlgjmghaaDoor.sch
def sched_Take.f (a0 a1 a2 a3 : Int) (l : List S61) (m : Int) : Option (Int × Int × Int × Int × List S61 × Int × Int) :=
 some (if okS a0 a2 a3 l = true ∧ mon m = true then (a0, a1, a2, a3, tkL m l, tkN m l, 0) else (0, 0, 0, 0, [], 0, 2))
theorem sched_Take.calls (a0_0 : Int) (a0_1 : Int) (a0_2 : Int) (a0_3 : Int) (A0_4 : Option Addr) (c0_4 : Nat) (l0_4 : List (S61)) (a1 : Int) (r1 : Int) (r2 : Int) (r3 : Int) (r4 : Int) (r5 : List (S61)) (r6 : Int) (r7 : Int) (w : World) (hr0_4 : Kd.C k61 w A0_4 l0_4.length l0_4) (_ : l0_4.length ≤ c0_4) (h : sched_Take.f a0_0 a0_1 a0_2 a0_3 l0_4 a1 = some (r1, r2, r3, r4, r5, r6, r7)) :
  Calls Tryd.prog 12 #[.agg #[.int .u64 a0_0, .int .u64 a0_1, .int .i64 a0_2, .int .u8 a0_3, .slice A0_4 l0_4.length c0_4], .int .i64 a1] w fun e w' => ∃ v4_ : Value, e = .returned (.tuple #[.agg #[.int .u64 r1, .int .u64 r2, .int .i64 r3, .int .u8 r4, v4_], .int .i64 r6, .int .i64 r7]) ∧ Kd.R k61 61 w' w.heap.size (fun _ => True) v4_ r5 ∧ Below w.heap.size w w' := by
 simp only [sched_Take.f, Option.some.injEq] at h
 by_cases hg : okS a0_0 a0_2 a0_3 l0_4 = true ∧ mon a1 = true
 ·rw [if_pos hg] at h
  simp only [Prod.mk.injEq] at h
  obtain ⟨rfl, rfl, rfl, rfl, rfl, rfl, rfl⟩ := h
  refine (take_yes w a0_0 a0_1 a0_2 a0_3 A0_4 c0_4 l0_4 a1 hr0_4 hg.1 hg.2).mono ?_
  rw [mkP_all, smP_all a1 hg.1]
  rintro e w' ⟨v, rfl, hR, hB⟩
  exact ⟨v, rfl, hR, hB⟩
 ·rw [if_neg hg] at h
  simp only [Prod.mk.injEq] at h
  obtain ⟨rfl, rfl, rfl, rfl, rfl, rfl, rfl⟩ := h
  refine (take_no w a0_0 a0_1 a0_2 a0_3 A0_4 c0_4 l0_4 a1 hr0_4 ?_).mono ?_
  ·by_cases q1 : okS a0_0 a0_2 a0_3 l0_4 = true
   ·exact .inr (by
     cases hm : mon a1 with
     | false => rfl
     | true => exact absurd ⟨q1, hm⟩ hg)
   ·exact .inl (by simpa using q1)
  ·rintro e w' ⟨rfl, hB⟩
   exact ⟨_, rfl, Kd.R_nil _ _ _ _ _, hB⟩
end Go.Proofs.YtgceecnlgjmghaaDoor.PH

