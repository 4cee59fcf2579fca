/- order.Get, walked, and its printed form. No conditions. -/
import Derived.Test.YtbghkjoejbfnbaaDoorPOrdW
import Derived.Test.YtbghkjoejbfnbaaDoorPHx3
import Derived.Test.YtbghkjoejbfnbaaDoorBase
import Derived.RangeFuncBox
import Derived.OwnWalkIn
import Derived.TacticsInMore
import Derived.LoopNIn
import Derived.LoopIn
import Derived.Sort.CutIn
import Derived.Maps.AppendAt
import Derived.Maps.OwnIn
namespace Go.Proofs.YtbghkjoejbfnbaaDoor.orf
open Go.RowKit Go.Proofs.YtbghkjoejbfnbaaDoorW.PrintWords Go.Proofs.YtbghkjoejbfnbaaDoor.base Go.Proofs.YtbghkjoejbfnbaaDoor.ord Go.Shelf Go.Proofs.YtbghkjoejbfnbaaDoor.rl Go.Proofs.YtbghkjoejbfnbaaDoorW.PrintMore
attribute [local go_sem] Oper.semAt_some min2_int min_two
theorem fields_any (kinds key : ByteArray) (w : World) : CallsIn Fence.wide 2 Tryd.prog 28 #[.string kinds, .string key] w fun e w' =>
    e = .returned (.func (.func 50) #[] #[.pointer (some ⟨w.heap.size + 1, 0, none⟩), .pointer (some ⟨w.heap.size, 0, none⟩)]) ∧ w'.heap.size = w.heap.size + 2 ∧ Below w.heap.size w w' ∧
      Boxed w' w.heap.size 9 (.string kinds) ∧ Boxed w' (w.heap.size + 1) 9 (.string key) := by
  refine callsIn_of_wp Tryd.func28 rfl trivial ?_ rfl
  simp only [Tryd.ntmps28, List.size_toArray, List.length_cons, List.length_nil, Nat.reduceAdd, Nat.reduceSub, Array.replicate_succ, Array.replicate_zero, List.push_toArray, List.append_toArray, List.nil_append, List.cons_append]
  gi_wp2
  go_ret
  refine ⟨rfl, by simp, ((Below.refl _ w).alloc (Nat.le_refl _) _).alloc (by simp) _, (Boxed.new w _ _).alloc _, ?_⟩
  have := Boxed.new (w.alloc (.cells #[.string kinds] 9)) 9 (.string key)
  rwa [World.size_alloc] at this
theorem fields_stops (kinds key : ByteArray) (Bk Bs : Nat) (w : World) (hok : KindsOk kinds) (hkey : key.size ≤ 1024) (hks : Bk ≠ Bs)
    (cf : Boxed w Bk 9 (.string key)) (cn : Boxed w Bs 9 (.string kinds)) :
    SeqStopsL Fence.wide 2 Tryd.prog 50 #[.pointer (some ⟨Bk, 0, none⟩), .pointer (some ⟨Bs, 0, none⟩)] encF (Kf Bk Bs)
      (fun ys => ys = items kinds 17 0 key) (fun pre => pre <+: items kinds 17 0 key) 17 [Bk] w := fun l J Jx W hW hJ _ hY h0 =>
  fields_in l Bk Bs kinds key hok hkey J Jx hY W hJ hks ((hW.block _ cf.lt).trans cf) ((hW.block _ cn.lt).trans cn) h0
/-- Fields as cells. -/
def clf (l : List Fd) : List Value := l.flatMap fun x => [.int .u64 x.1.1, .int .i64 x.1.2.1, .string x.1.2.2]
theorem clf_snoc (l : List Fd) (x : Fd) : clf (l ++ [x]) = clf l ++ [.int .u64 x.1.1, .int .i64 x.1.2.1, .string x.1.2.2] := by simp [clf]
theorem infoF : (Tryd.prog.info? 47).map (fun i => (i.zero, i.size, i.bytes)) = some (some (.agg #[.int .u64 0, .int .i64 0, .string ⟨#[]⟩]), 3, 32) := by kernel_rfl
theorem app_block {W w1 : World} {b Bo : Nat} {v v' : Value} {tmp : Obj} (hg : (W.alloc tmp).grownBy w1 v.ownBlock) (hb : b < W.heap.size) (h1 : b ≠ Bo) (h2 : some b ≠ v.ownBlock) : (w1.setCell ⟨Bo, 0, none⟩ v').heap[b]? = W.heap[b]? :=
  (Below.heap_setCell _ _ _ b h1).trans ((hg.block b (by simp; omega) h2).trans (Below.heap_alloc _ _ _ hb))
theorem own_ne {W : World} {base e size n b : Nat} {v : Value} {xs : List Value} (h : W.ownsRow base e size v n xs) (hb : b < base) : some b ≠ v.ownBlock := fun e => by
  have := Go.Proofs.YtbghkjoejbfnbaaDoorW.PrintWords.own_base h b e.symm
  omega
theorem own_ne' {W : World} {base e size n b : Nat} {v : Value} {xs : List Value} (h : W.ownsRow base e size v n xs) (hb : b < base) : v.ownBlock = none ∨ v.ownBlock ≠ some b := .inr fun e => own_ne h hb e.symm
theorem cells_own {β : Type} (B b : Nat) (f : β → Array Value) (t : TypeId) : OwnFrom B (fun s W => W.heap[b]? = some (.cells (f s) t (0, 0))) := fun _ X _ _ hs hg hrow =>
  (hg.block b (Array.getElem?_eq_some_iff.1 hs).1 (fun e' => by
    obtain ⟨_, o, ho, hc⟩ := hrow b e'.symm
    rw [show X.heap[b]? = _ from hs] at ho; cases ho; cases hc)).trans hs
theorem cell_three_new (w : World) (a b c : Value) (t : TypeId) : ∀ j u, [a, b, c][j]? = some u → (w.alloc (.cells #[a, b, c] t)).cell? ((⟨w.heap.size, 0, none⟩ : Addr).add j) = some u := by
  intro j u hj
  match j, hj with
  | 0, hj => simp at hj; subst hj; simp [Addr.add]
  | 1, hj => simp at hj; subst hj; simp [Addr.add]
  | 2, hj => simp at hj; subst hj; simp [Addr.add]
  | j + 3, hj => simp at hj
/-- The two results' cells. -/
structure RC (w W : World) (v : Value) (n : Int) : Prop where
  r0 : Boxed W w.heap.size 22 v
  r1 : Boxed W (w.heap.size + 1) 27 (.int .i64 n)
  bel : Below w.heap.size w W
theorem RC.below {w W V : World} {v : Value} {n : Int} (h : RC w W v n) (q : Below W.heap.size W V) : RC w V v n := ⟨blk_below h.r0 q, blk_below h.r1 q, h.bel.trans (q.mono h.bel.size)⟩
theorem RC.start (w : World) : RC w ((w.alloc (.cells #[.slice none 0 0] 22)).alloc (.cells #[.int .i64 0] 27)) (.slice none 0 0) 0 := by
  refine ⟨(Boxed.new w _ _).alloc _, ?_, ((Below.refl _ w).alloc (Nat.le_refl _) _).alloc (by simp) _⟩
  have := Boxed.new (w.alloc (.cells #[.slice none 0 0] 22)) 27 (.int .i64 0)
  rwa [World.size_alloc] at this
theorem RC.put {w W : World} {v : Value} {n : Int} (h : RC w W v n) (v' : Value) (n' : Int) : RC w ((W.setCell ⟨w.heap.size, 0, none⟩ v').setCell ⟨w.heap.size + 1, 0, none⟩ (.int .i64 n')) v' n' :=
  ⟨blk_far (blk_put h.r0 0 v' rfl) (by simp) _, blk_put (blk_far h.r1 (by simp) _) 0 _ rfl, (h.bel.setCell (by simp) _).setCell (by simp) _⟩
theorem RC.own {β : Type} {w : World} {v : Value} {n : Int} {B : Nat} (hB : w.heap.size ≤ B) : OwnFrom B (fun (_ : β) W => RC w W v n) := fun _ X Y row h hg hr =>
  ⟨cells_own B w.heap.size (fun _ : Unit => #[v]) _ () X Y row h.r0 hg hr, cells_own B (w.heap.size + 1) (fun _ : Unit => #[.int .i64 n]) _ () X Y row h.r1 hg hr, ownFrom_below (β := Unit) (B := B) (Nat.le_refl _) hB () X Y row h.bel hg hr⟩
theorem RC.grown {w X Y : World} {v : Value} {n : Int} {row : Option Nat} (h : RC w X v n) (hg : X.grownBy Y row) (hr : ∀ r, row = some r → w.heap.size + 1 < r) : RC w Y v n :=
  ⟨h.r0.kept hg (fun e => by have := hr _ e.symm; omega), h.r1.kept hg (fun e => by have := hr _ e.symm; omega), h.bel.grown hg h.bel.size (fun k e => by have := hr k e; omega)⟩
theorem RC.far {w X Y : World} {v : Value} {n : Int} {m : Nat} (h : RC w X v n) (hB : Below m X Y) (hm : w.heap.size + 2 ≤ m) : RC w Y v n :=
  ⟨(hB.block _ (by omega)).trans h.r0, (hB.block _ (by omega)).trans h.r1, h.bel.trans (hB.mono (by omega))⟩
theorem RC.put1 {w W : World} {v : Value} {n : Int} (h : RC w W v n) (v' : Value) : RC w (W.setCell ⟨w.heap.size, 0, none⟩ v') v' n :=
  ⟨blk_put h.r0 0 v' rfl, blk_far h.r1 (by simp) _, h.bel.setCell (by simp) _⟩
set_option maxRecDepth 100000 in
set_option maxHeartbeats 2000000 in
theorem get_arg (kinds key : ByteArray) (w : World) (hk : PH.order_Kinds.f kinds = some false) : Calls Tryd.prog 16 #[.string kinds, .string key] w fun e w' => e = .returned (.tuple #[.slice none 0 0, .int .i64 2]) ∧ Below w.heap.size w w' := by
  refine (callsIn_wide (n := 3)).1 ?_
  refine callsIn_of_wp_marks Tryd.func16 rfl trivial ?_ rfl
  simp only [Tryd.ntmps16, List.size_toArray, List.length_cons, List.length_nil, Nat.reduceAdd, Nat.reduceSub, Array.replicate_succ, Array.replicate_zero, List.push_toArray, List.append_toArray, List.nil_append, List.cons_append]
  have HK := Lib.hid (fun V => PH.order_Kinds.calls kinds false V hk)
  clear hk
  gi_wp2_with fail
  refine ⟨trivial, (callsIn_wide.2 (HK.out _)).mono ?_⟩
  rintro e w2 ⟨rfl, B2⟩
  have HC := Lib.hid ((RC.start w).below B2)
  clear B2
  have c0 := HC.out.r0.cell
  have c1 := HC.out.r1.cell
  have f0 := HC.out.r0.frozen
  have f1 := HC.out.r1.frozen
  have o1 : ∀ v, (w2.setCell ⟨w.heap.size, 0, none⟩ v).cell? ⟨w.heap.size + 1, 0, none⟩ = some (.int .i64 0) := fun v => (HC.out.put1 v).r1.cell
  gi_wp2
  replace HC := Lib.hid (HC.out.put (.slice none 0 0) 2)
  clear c0 c1 f0 f1 o1
  generalize (w2.setCell ⟨w.heap.size, 0, none⟩ (.slice none 0 0)).setCell ⟨w.heap.size + 1, 0, none⟩ (.int .i64 2) = W5 at HC ⊢
  have c0 := HC.out.r0.cell
  have c1 := HC.out.r1.cell
  exact ⟨.tuple #[.slice none 0 0, .int .i64 2], by simp [results, Tryd.results16, go_sem, c0, c1], rfl, HC.out.bel⟩
set_option maxRecDepth 100000 in
set_option maxHeartbeats 2000000 in
theorem get_long (kinds key : ByteArray) (w : World) (hk : PH.order_Kinds.f kinds = some true) (hl : 1024 < key.size) : Calls Tryd.prog 16 #[.string kinds, .string key] w fun e w' => e = .returned (.tuple #[.slice none 0 0, .int .i64 3]) ∧ Below w.heap.size w w' := by
  refine (callsIn_wide (n := 3)).1 ?_
  refine callsIn_of_wp_marks Tryd.func16 rfl trivial ?_ rfl
  simp only [Tryd.ntmps16, List.size_toArray, List.length_cons, List.length_nil, Nat.reduceAdd, Nat.reduceSub, Array.replicate_succ, Array.replicate_zero, List.push_toArray, List.append_toArray, List.nil_append, List.cons_append]
  have HK := Lib.hid (fun V => PH.order_Kinds.calls kinds true V hk)
  clear hk
  have hl' : ¬ key.size ≤ 1024 := by omega
  gi_wp2_with fail
  refine ⟨trivial, (callsIn_wide.2 (HK.out _)).mono ?_⟩
  rintro e w2 ⟨rfl, B2⟩
  have HC := Lib.hid ((RC.start w).below B2)
  clear B2
  have c0 := HC.out.r0.cell
  have c1 := HC.out.r1.cell
  have f0 := HC.out.r0.frozen
  have f1 := HC.out.r1.frozen
  have o1 : ∀ v, (w2.setCell ⟨w.heap.size, 0, none⟩ v).cell? ⟨w.heap.size + 1, 0, none⟩ = some (.int .i64 0) := fun v => (HC.out.put1 v).r1.cell
  gi_wp2
  replace HC := Lib.hid (HC.out.put (.slice none 0 0) 3)
  clear c0 c1 f0 f1 o1
  generalize (w2.setCell ⟨w.heap.size, 0, none⟩ (.slice none 0 0)).setCell ⟨w.heap.size + 1, 0, none⟩ (.int .i64 3) = W5 at HC ⊢
  have c0 := HC.out.r0.cell
  have c1 := HC.out.r1.cell
  exact ⟨.tuple #[.slice none 0 0, .int .i64 3], by simp [results, Tryd.results16, go_sem, c0, c1], rfl, HC.out.bel⟩
/-- What Get answers where it reads. -/
def GetPost (kinds key : ByteArray) (w : World) (e : Ending) (w' : World) : Prop := ∃ v n, e = .returned (.tuple #[v, .int .i64 n]) ∧
  (((items kinds 17 0 key).all (·.2) = true ∧ n = 0 ∧ w'.ownsRow w.heap.size 47 3 v (items kinds 17 0 key).length (clf (items kinds 17 0 key))) ∨ ((items kinds 17 0 key).all (·.2) = false ∧ n = 5 ∧ v = .slice none 0 0)) ∧ Below w.heap.size w w'
set_option maxRecDepth 100000 in
set_option maxHeartbeats 2000000 in
theorem get_yes (kinds key : ByteArray) (w : World) (hk : PH.order_Kinds.f kinds = some true) (hok : KindsOk kinds) (hl : key.size ≤ 1024) : Calls Tryd.prog 16 #[.string kinds, .string key] w fun e w' => GetPost kinds key w e w' := by
  refine (callsIn_wide (n := 3)).1 ?_
  refine callsIn_of_wp_marks Tryd.func16 rfl trivial ?_ rfl
  simp only [Tryd.ntmps16, List.size_toArray, List.length_cons, List.length_nil, Nat.reduceAdd, Nat.reduceSub, Array.replicate_succ, Array.replicate_zero, List.push_toArray, List.append_toArray, List.nil_append, List.cons_append]
  have HK := Lib.hid (fun V => PH.order_Kinds.calls kinds true V hk)
  clear hk
  have hl' : ¬ 1024 < key.size := by omega
  have HO := Lib.hid (And.intro hok hl)
  clear hok hl
  gi_wp2_with fail
  refine ⟨trivial, (callsIn_wide.2 (HK.out _)).mono ?_⟩
  rintro e w2 ⟨rfl, B2⟩
  have HC := Lib.hid ((RC.start w).below B2)
  clear B2 HK
  gi_wp2_with fail
  refine ⟨trivial, (fields_any kinds key _).mono ?_⟩
  rintro e w4 ⟨rfl, s4, B4, b4, k4⟩
  have bo : Boxed w4 w2.heap.size 22 (.slice none 0 0) := (B4.block _ (by simp)).trans (Boxed.new w2 _ _)
  have B24 : Below w2.heap.size w2 w4 := ((Below.refl _ w2).alloc (Nat.le_refl _) _).trans (B4.mono (by simp))
  simp only [World.size_alloc] at s4 b4 k4
  have HW2 := Lib.hid (show w.heap.size + 2 ≤ w2.heap.size from blk_lt HC.out.r1)
  replace HC := Lib.hid (HC.out.below B24)
  have hst := fields_stops kinds key (w2.heap.size + 1 + 1) (w2.heap.size + 1) w4 HO.out.1 HO.out.2 (by omega) k4 b4
  have HST := Lib.hid hst
  have hsz := B24.size
  have hw2 : w.heap.size + 2 ≤ w2.heap.size := HW2.out
  obtain ⟨i0, hi, hz0, hz1, hz2⟩ := info_parts infoF
  clear B4 b4 k4 hst hl'
  gi_wp2
  refine wpIn_rangeH (L := [w2.heap.size + 1 + 1]) rfl (by omega) (gf := 50) (lb := #[.pointer (some ⟨w2.heap.size + 1 + 1, 0, none⟩), .pointer (some ⟨w2.heap.size + 1, 0, none⟩)]) (by simp [go_sem]) trivial (enters_of Tryd.func50 (by kernel_rfl) rfl)
    HST.out (by simp; omega) (fun h k => h.trans k) (fun W l o o' hl _ _ => Kf.put W l o' hl (by omega) (by omega)) (Below.refl _ _) (fun _ => rfl)
    (fun pre W => (∃ v, Boxed W w2.heap.size 22 v ∧ W.ownsRow (w2.heap.size + 3) 47 3 v pre.length (clf pre) ∧ True) ∧ Below w2.heap.size w4 W ∧ pre.all (·.2) = true)
    (fun c pre W => (c = .ret ∧ pre.all (·.2) = false) ∧ RC w W (.slice none 0 0) 5)
    (OwnFrom.and (Own.from (holdsRow_own (w2.heap.size + 3) w2.heap.size 22 47 3 (fun pre : List Fd => pre.length) clf (fun _ _ => True)) _) (OwnFrom.and (ownFrom_below (by omega) (by omega)) (ownFrom_pure _ (fun pre : List Fd => pre.all (·.2) = true))))
    (fun c => OwnFrom.and (ownFrom_pure _ (fun pre : List Fd => c = .ret ∧ pre.all (·.2) = false)) (RC.own (by omega)))
    (fun s A B row hs hg hr => by
      obtain ⟨⟨v, hb, ho, _⟩, hB, hp⟩ := hs
      have hr' : row = none ∨ row = some (w2.heap.size + 1 + 1) := by
        cases row with
        | none => exact .inl rfl
        | some r => have := hr r rfl; simp at this; exact .inr (by rw [this])
      rcases hr' with rfl | rfl
      · exact ⟨⟨v, hb.kept hg (by simp), ho.kept hg (by cases v.ownBlock <;> simp), trivial⟩, hB.grown hg (by have := hB.size; omega) (fun k e => by cases e), hp⟩
      · exact ⟨⟨v, hb.kept hg (by simp; omega), ho.kept hg (own_ne' ho (by omega)), trivial⟩, hB.grown hg (by have := hB.size; omega) (fun k e => by cases e; omega), hp⟩)
    (fun c s A B row hs hg hr => ⟨hs.1, hs.2.grown hg (fun r e => by have := hr r e; simp at this; omega)⟩)
    ⟨⟨_, bo, World.ownsRow_nil _ _ _ _, trivial⟩, Below.refl _ _, rfl⟩
    (fun y a' W => ∃ Bp, w4.heap.size ≤ Bp ∧ W.heap[Bp]? = some (.cells #[.int .u64 y.1.1, .int .i64 y.1.2.1, .string y.1.2.2] 47 (0, 0)) ∧ a' = { tmps := #[.string kinds, .string key, undef, undef, .pointer (some ⟨w.heap.size, 0, none⟩), .pointer (some ⟨w.heap.size + 1, 0, none⟩), .pointer (some ⟨w2.heap.size, 0, none⟩), .pointer (some ⟨Bp, 0, none⟩), .bool y.2, .bool false, .string kinds, .bool true, .bool false, .bool (decide (1024 < (key.size : Int))), .string key, .int .i64 (key.size : Int), .bool (decide (1024 < (key.size : Int))), .string kinds, .string key, .func (.func 50) #[] #[.pointer (some ⟨w2.heap.size + 1 + 1, 0, none⟩), .pointer (some ⟨w2.heap.size + 1, 0, none⟩)], .agg #[.int .u64 y.1.1, .int .i64 y.1.2.1, .string y.1.2.2], .bool y.2, undef, undef, undef, undef, undef, undef, undef], defers := [] }) ?hAx ?assign ?body ?done ?stop
  case hAx =>
    rintro y a' s A B row ⟨Bp, h1, h2, h3⟩ hg hr
    exact ⟨Bp, h1, cells_own w4.heap.size Bp (fun _ : Unit => #[.int .u64 y.1.1, .int .i64 y.1.2.1, .string y.1.2.2]) _ () A B row h2 hg hr, h3⟩
  case assign =>
    rintro ly pre y W K ⟨⟨v, hv, hr, _⟩, hB, hp⟩ hK
    have sz := hB.size
    simp only [encF]
    have HH := Lib.hid (And.intro hv hr)
    clear hv hr
    gi_wp2
    exact hK _ _ ((KeepsOthers.alloc _ _).from _) ⟨by simp, Below.heap_alloc _ _ _ (by omega), Below.heap_alloc _ _ _ (by omega)⟩
      ⟨⟨v, HH.out.1.alloc _, HH.out.2.alloc _, trivial⟩, hB.trans ((Below.refl _ W).alloc (by omega) _), hp⟩ ⟨_, sz, blk_new W _, rfl⟩
  case body =>
    rintro ly pre ⟨⟨x1, x2, x3⟩, xi⟩ a' W ⟨⟨v, hv, hr, _⟩, hB, hp⟩ ⟨Bp, hBp, hpp, rfl⟩ hlen
    dsimp only at hpp ⊢
    have hc := hv.cell
    have hB1 : w2.heap.size ≤ W.heap.size := Nat.le_trans B24.size hB.size
    have hB2 := hB.size
    have HV := Lib.hid (And.intro hv (And.intro hr hB))
    have HPp := Lib.hid hp
    have hbs : w2.heap.size + 3 ≤ W.heap.size := by omega
    have p0 := blk_cell hpp 0
    have p1 := blk_cell hpp 1
    have p2 := blk_cell hpp 2
    simp at p0 p1 p2
    clear hpp hv hr hB hp
    cases xi
    · have HRC := Lib.hid (HC.out.far HV.out.2.2 HW2.out)
      have c0 := HRC.out.r0.cell
      have c1 := HRC.out.r1.cell
      have f0 := HRC.out.r0.frozen
      have f1 := HRC.out.r1.frozen
      have o1 : ∀ v, (W.setCell ⟨w.heap.size, 0, none⟩ v).cell? ⟨w.heap.size + 1, 0, none⟩ = some (.int .i64 0) := fun v => (HRC.out.put1 v).r1.cell
      gi_wp2
      exact ⟨((KeepsOthers.setCell _ _ _).trans (KeepsOthers.setCell _ _ _)).from _, ⟨rfl, by simp⟩, HRC.out.put (.slice none 0 0) 5⟩
    · gi_wp2_with (first | (gi_at_builtin; (refine wpListIn_append_own_at _ rfl _ _ 22 rfl (w2.heap.size + 3) 47 i0 (.agg #[.int .u64 0, .int .i64 0, .string ⟨#[]⟩]) 3 32 Tryd.underlying22 hi hz0 hz1 hz2 rfl (by decide) v pre.length (clf pre) rfl (HV.out.2.1.alloc _) ⟨W.heap.size, 0, none⟩ 1 1 [.int .u64 x1, .int .i64 x2, .string x3] rfl rfl (cell_three_new _ _ _ _ _) ?h1 ?h63 ?hby ?hbase ?_); (case h1 => simp [Value.oneCell']); (case h63 => unfold maxLen; omega); (case hby => omega); (case hbase => simp; omega); intro v' w1 hown' hgrow _ hat; obtain ⟨g', cap', rfl⟩ := ownsRow_succ hown'; obtain ⟨hv1, hv2, hr2, hk2, hb2⟩ := HV.out.1.appended (by decide) (Go.Proofs.YtbghkjoejbfnbaaDoorW.PrintWords.own_weaken HV.out.2.1 (show w2.heap.size ≤ _ by omega)) hB1 (Nat.le_refl _) (Go.Proofs.YtbghkjoejbfnbaaDoorW.PrintWords.own_weaken hown' (show w2.heap.size ≤ _ by omega)) hgrow; have hc1 := hv1.cell; have hf1 := hv1.frozen))
      refine ⟨hk2.from _, ⟨hb2.size, app_block hgrow (by omega) (by omega) (own_ne HV.out.2.1 (by omega)), app_block hgrow (by omega) (by omega) (own_ne HV.out.2.1 (by omega))⟩, ⟨⟨_, hv2, ?_, trivial⟩, HV.out.2.2.trans hb2, by simpa using HPp.out⟩⟩
      rw [clf_snoc, List.length_append]
      exact hown'.kept (grownBy_setCell' _ _ _) (own_ne' hown' (by omega))
  case done =>
    rintro D ys W hD rfl ⟨⟨v, hv, hr, _⟩, hB, hp⟩ hK
    obtain ⟨A, cap, rfl⟩ := Go.Proofs.YtbghkjoejbfnbaaDoorW.PrintWords.own_slice hr
    generalize hits : items kinds 17 0 key = its at hv hr hp ⊢
    generalize hn : its.length = n at hv hr ⊢
    have HI := Lib.hid (And.intro hits hn)
    clear hits hn
    have hc := hv.cell
    have HV := Lib.hid (And.intro hr (And.intro hB hp))
    have HRC := Lib.hid (HC.out.far hB HW2.out)
    have HK := Lib.hid hK
    have c0 := HRC.out.r0.cell
    have c1 := HRC.out.r1.cell
    have f0 := HRC.out.r0.frozen
    have f1 := HRC.out.r1.frozen
    have o1 : ∀ v, (W.setCell ⟨w.heap.size, 0, none⟩ v).cell? ⟨w.heap.size + 1, 0, none⟩ = some (.int .i64 0) := fun v => (HRC.out.put1 v).r1.cell
    clear hK hr hB hv hp
    gi_wp2
    have hk5 : ((W.setCell ⟨w.heap.size, 0, none⟩ (.slice A n cap)).setCell ⟨w.heap.size + 1, 0, none⟩ (.int .i64 0)).heap[D]? = some (.deferred (some [])) := (Below.heap_setCell _ _ _ D (by simp; omega)).trans ((Below.heap_setCell _ _ _ D (by simp; omega)).trans HK.out)
    refine ⟨by simp, .inl ⟨_, _, rfl, run_takeDeferred hk5, ?_⟩⟩
    have hown := ownsRow_putObj ((HV.out.1.kept (grownBy_setCell' W w.heap.size (.slice A n cap)) (own_ne' HV.out.1 (by omega))).kept (grownBy_setCell' _ (w.heap.size + 1) (.int .i64 0)) (own_ne' HV.out.1 (by omega))) (.deferred none) hk5 rfl
    have R6 := (HRC.out.put (.slice A n cap) 0).far (m := w.heap.size + 2) (Y := ((W.setCell ⟨w.heap.size, 0, none⟩ (.slice A n cap)).setCell ⟨w.heap.size + 1, 0, none⟩ (.int .i64 0)).putObj D (.deferred none)) ⟨rfl, rfl, rfl, by simp, fun k hk => World.putObj_heap_other (by omega)⟩ (Nat.le_refl _)
    generalize ((W.setCell ⟨w.heap.size, 0, none⟩ (.slice A n cap)).setCell ⟨w.heap.size + 1, 0, none⟩ (.int .i64 0)).putObj D (.deferred none) = W6 at R6 hown ⊢
    have d0 := R6.r0.cell
    have d1 := R6.r1.cell
    refine ⟨.tuple #[.slice A n cap, .int .i64 0], by simp [results, Tryd.results16, go_sem, d0, d1], _, _, rfl, .inl ⟨?_, rfl, ?_⟩, R6.bel⟩
    · rw [HI.out.1]; exact HV.out.2.2
    · rw [HI.out.1, HI.out.2]
      exact Go.Proofs.YtbghkjoejbfnbaaDoorW.PrintWords.own_weaken hown (by omega)
  case stop =>
    rintro D c pre W hD hSp ⟨⟨rfl, hp⟩, hRC⟩ hK
    gi_wp2
    refine ⟨by simp, .inl ⟨_, _, rfl, run_takeDeferred hK, ?_⟩⟩
    have hD2 : w.heap.size + 2 ≤ D := by omega
    have R6 := hRC.far (m := w.heap.size + 2) (Y := W.putObj D (.deferred none)) ⟨rfl, rfl, rfl, by simp, fun k hk => World.putObj_heap_other (by omega)⟩ (Nat.le_refl _)
    generalize W.putObj D (.deferred none) = W6 at R6 ⊢
    have d0 := R6.r0.cell
    have d1 := R6.r1.cell
    refine ⟨.tuple #[.slice none 0 0, .int .i64 5], by simp [results, Tryd.results16, go_sem, d0, d1], _, _, rfl, .inr ⟨?_, rfl, rfl⟩, R6.bel⟩
    obtain ⟨t, ht⟩ := hSp
    rw [← ht, List.all_append, hp]
    rfl
theorem dropWhile_nil {α : Type} (p : α → Bool) : ∀ l : List α, l.dropWhile p = [] → ∀ x ∈ l, p x = true
  | [], _ => by simp
  | a :: l, h => by
    intro x hx
    rw [List.dropWhile_cons] at h
    by_cases ha : p a = true
    · rw [if_pos ha] at h
      rcases List.mem_cons.1 hx with rfl | hx
      · exact ha
      · exact dropWhile_nil p l h x hx
    · rw [if_neg ha] at h; cases h
theorem dropWhile_all {α : Type} (p : α → Bool) : ∀ l : List α, (∀ x ∈ l, p x = true) → l.dropWhile p = []
  | [], _ => rfl
  | a :: l, h => by
    rw [List.dropWhile_cons, if_pos (h a (by simp))]
    exact dropWhile_all p l (fun x hx => h x (by simp [hx]))
theorem trimS_nil (l cs : List UInt8) : Lib.trimS l cs = [] ↔ ∀ x ∈ l, cs.contains x = true := by
  unfold Lib.trimS Lib.trimLeftS Lib.trimRightS
  constructor
  · intro h x hx
    have h1 := dropWhile_nil _ _ h
    by_cases he : (l.reverse.dropWhile (cs.contains ·)) = []
    · exact dropWhile_nil _ _ he x (by simpa using hx)
    · exfalso
      obtain ⟨y, t, ht⟩ := List.exists_cons_of_ne_nil he
      have hy := h1 y (by rw [ht]; simp)
      have : ¬ cs.contains y = true := by
        have := List.head_dropWhile_not (cs.contains ·) he
        simp only [ht, List.head_cons] at this
        simpa using this
      exact this hy
  · intro h
    rw [dropWhile_all _ l.reverse (fun x hx => h x (by simpa using hx))]
    rfl
theorem kinds_some (a : ByteArray) : PH.order_Kinds.f a = some (decide (a.size ≤ 16) && (Lib.trimS a.data.toList [110, 105, 115]).isEmpty) := by
  unfold PH.order_Kinds.f PH.strings_Trim.f
  by_cases h : a.size ≤ 16
  · rw [if_pos (by omega), if_pos ⟨by omega, rfl⟩, Option.bind_some]
    have e : (⟨(Lib.trimS a.data.toList [110, 105, 115]).toArray⟩ : ByteArray).toList = Lib.trimS a.data.toList [110, 105, 115] := by rw [Lib.toList_data]
    rw [e]
    simp only [h, decide_true, Bool.true_and]
    cases Lib.trimS a.data.toList [110, 105, 115] <;> rfl
  · rw [if_neg (by omega)]
    simp [h]
theorem kinds_ok (a : ByteArray) : PH.order_Kinds.f a = some true ↔ KindsOk a := by
  rw [kinds_some, Option.some.injEq, Bool.and_eq_true, decide_eq_true_eq, List.isEmpty_iff, trimS_nil]
  unfold KindsOk
  refine and_congr_right fun _ => ?_
  constructor
  · intro h i hi
    have hm : a[i]'hi ∈ a.data.toList := by
      rw [show a[i]'hi = a.data[i]'hi from rfl]
      simp
    have := h _ hm
    have hb : bt a i = ((a[i]'hi).toNat : Int) := (bt_at a i hi).symm
    rw [hb]
    generalize a[i]'hi = c at this
    have : c = 110 ∨ c = 105 ∨ c = 115 := by simpa using this
    rcases this with rfl | rfl | rfl <;> simp
  · intro h x hx
    obtain ⟨i, hi, rfl⟩ := List.getElem_of_mem hx
    have hi' : i < a.size := by simpa using hi
    have := h i hi'
    have hb : bt a i = ((a[i]'hi').toNat : Int) := (bt_at a i hi').symm
    rw [hb] at this
    have e : a.data.toList[i] = a[i]'hi' := by simp; rfl
    rw [e]
    generalize a[i]'hi' = c at this
    have : c = 110 ∨ c = 105 ∨ c = 115 := by
      rcases this with q | q | q
      · exact .inl (UInt8.toNat_inj.1 (by simpa using Int.ofNat.inj q))
      · exact .inr (.inl (UInt8.toNat_inj.1 (by simpa using Int.ofNat.inj q)))
      · exact .inr (.inr (UInt8.toNat_inj.1 (by simpa using Int.ofNat.inj q)))
    rcases this with rfl | rfl | rfl <;> decide
end Go.Proofs.YtbghkjoejbfnbaaDoor.orf
noncomputable section
namespace Go.Proofs.YtbghkjoejbfnbaaDoor.PH
open Go.RowKit Go.Proofs.YtbghkjoejbfnbaaDoorW.PrintWords
/-- A field. -/
def fld (x : orf.Fd) : S47 := ⟨x.1.1, x.1.2.1, x.1.2.2⟩
theorem reps_fld (w : World) (base : Nat) (ok : Nat → Prop) : ∀ l : List orf.Fd, Reps (k47.M w base ok) 3 (l.map fld) (orf.clf l)
  | [] => Reps.none _ _
  | x :: l => Reps.c3 (k47_mkM w base ok (fld x)) (reps_fld w base ok l)
def order_Get.f (a0 a1 : ByteArray) : Option (List S47 × Int) := (order_Kinds.f a0).bind fun t => if t = true then (if (a1.size : Int) > 1024 then some ([], 3) else if (orf.items a0 17 0 a1).all (·.2) = true then some ((orf.items a0 17 0 a1).map fld, 0) else some ([], 5)) else some ([], 2)
theorem order_Get.calls (a0 a1 : ByteArray) (r1 : List S47) (r2 : Int) (w : World) (h : order_Get.f a0 a1 = some (r1, r2)) :
    Calls Tryd.prog 16 #[.string a0, .string a1] w fun e w' => ∃ v0_ : Value, e = .returned (.tuple #[v0_, .int .i64 r2]) ∧ Kd.R k47 47 w' w.heap.size (fun _ => True) v0_ r1 ∧ Below w.heap.size w w' := by
  unfold order_Get.f at h
  obtain ⟨t, ht⟩ : ∃ t, order_Kinds.f a0 = some t := ⟨_, orf.kinds_some a0⟩
  rw [ht, Option.bind_some] at h
  cases t with
  | false =>
    rw [if_neg (by decide)] at h
    injection h with h
    injection h with q1 q2
    subst q1 q2
    exact (orf.get_arg a0 a1 w ht).mono fun e w' ⟨he, hB⟩ => ⟨_, he, Kd.R_nil _ _ _ _ _, hB⟩
  | true =>
    rw [if_pos rfl] at h
    by_cases hl : (a1.size : Int) > 1024
    · rw [if_pos hl] at h
      injection h with h
      injection h with q1 q2
      subst q1 q2
      exact (orf.get_long a0 a1 w ht (by omega)).mono fun e w' ⟨he, hB⟩ => ⟨_, he, Kd.R_nil _ _ _ _ _, hB⟩
    · rw [if_neg hl] at h
      refine (orf.get_yes a0 a1 w ht ((orf.kinds_ok a0).1 ht) (by omega)).mono ?_
      rintro e w' ⟨v, n, rfl, hc, hB⟩
      rcases hc with ⟨ha, rfl, ho⟩ | ⟨ha, rfl, rfl⟩
      · rw [if_pos ha] at h
        injection h with h
        injection h with q1 q2
        subst q1 q2
        refine ⟨v, rfl, ⟨fun _ _ => trivial, _, ?_, reps_fld _ _ _ _⟩, hB⟩
        rw [List.length_map]
        exact ho
      · rw [if_neg (by rw [ha]; decide)] at h
        injection h with h
        injection h with q1 q2
        subst q1 q2
        exact ⟨_, rfl, Kd.R_nil _ _ _ _ _, hB⟩
end Go.Proofs.YtbghkjoejbfnbaaDoor.PH
