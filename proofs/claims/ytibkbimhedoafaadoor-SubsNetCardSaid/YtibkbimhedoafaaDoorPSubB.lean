/- What subs.periods and subs.last answer (walks). The table of the days ahead of months holds its numbers. -/
import Derived.Test.YtibkbimhedoafaaDoorMSubA
import Derived.Test.YtibkbimhedoafaaDoorMP
import Derived.Test.YtibkbimhedoafaaDoorPHx0
import Derived.Test.YtibkbimhedoafaaDoorPSubT
namespace Go.Proofs.YtibkbimhedoafaaDoor.psub
open Go.RowKit Go.Proofs.YtibkbimhedoafaaDoor.base Go.Shelf Go.Proofs.YtibkbimhedoafaaDoor.rl Sb
open Go.Proofs.YtibkbimhedoafaaDoor.civ (Tab)
open Go.Proofs.YtibkbimhedoafaaDoor.lift
open Go.Proofs.YtibkbimhedoafaaDoorW.PrintLast (take_ pure_ one_ skip_ i64_w i32_w)
open Go.Proofs.YtibkbimhedoafaaDoorW.PrintWords (blk_grown blk_alloc blk_new blk_cell blk_frozen blk_far blk_set blk_drew below_drew1)

set_option linter.unusedSimpArgs false
attribute [local go_sem] Oper.semAt_some min2_int min_two

theorem periods_stops (x : Su) (k0 : Int) (n : Nat) (Bs Bk : Nat) (w : World) (hc : okC x = true) (hk0 : 0 ≤ k0) (hn : k0 + n = tp x) (hsk : Bs ≠ Bk) (hkt : Bk ≠ 0) (T : Tab w)
    (cs : SubAt w Bs x) (ck : Boxed w Bk 3 (.int .i64 k0)) :
    SeqStopsL Fence.wide 2 Tryd.prog 48 #[.pointer (some ⟨Bs, 0, none⟩), .pointer (some ⟨Bk, 0, none⟩)] (enc1 x) (Kt Bs Bk)
      (fun ys => ys = ix k0 n) (fun pre => ∃ m, m < n ∧ pre = ix k0 (m + 1)) n [Bk] w := fun l J Jx W hW hJ _ hY h0 =>
  periods_in l Bs Bk x k0 n hc hk0 hn J Jx hY W hJ hsk hkt (fun i hi => (hW.cell (p := ⟨0, i, none⟩) (tab_lt T)).trans (T i hi)) ((hW.block _ cs.lt).trans cs) ((hW.block _ ck.lt).trans ck) h0
theorem periods_any (x : Su) (k : Int) (w : World) : CallsIn Fence.wide 2 Tryd.prog 33 #[.agg (sc x), .int .i64 k] w fun e w' =>
    e = .returned (.func (.func 48) #[] #[.pointer (some ⟨w.heap.size, 0, none⟩), .pointer (some ⟨w.heap.size + 1, 0, none⟩)]) ∧ w'.heap.size = w.heap.size + 2 ∧ Below w.heap.size w w' ∧
      SubAt w' w.heap.size x ∧ Boxed w' (w.heap.size + 1) 3 (.int .i64 k) := by
  refine callsIn_of_wp Tryd.func33 rfl trivial ?_ rfl
  simp only [Tryd.ntmps33, List.size_toArray, List.length_cons, List.length_nil, Nat.reduceAdd, Nat.reduceSub, Array.replicate_succ, Array.replicate_zero, List.push_toArray, List.append_toArray, List.nil_append, List.cons_append]
  unfold sc
  gi_wp2
  go_ret
  refine ⟨rfl, by simp, ((Below.refl _ w).alloc (Nat.le_refl _) _).alloc (by simp) _, ?_, ?_⟩
  · exact (Below.heap_alloc _ _ _ (by simp)).trans (World.alloc_heap_new w _)
  · have := Boxed.new (w.alloc (.cells (sc x) 26)) 3 (.int .i64 k)
    rwa [World.size_alloc] at this
/-- A block that holds cells is none that the law's own book-keeping turns. -/
theorem cells_own {β : Type} (B b : Nat) (f : β → Array Value) (t : TypeId) : OwnFrom B (fun s W => W.heap[b]? = some (.cells (f s) t (0, 0))) := fun _ X _ _ hs hg hrow =>
  (hg.block b (Array.getElem?_eq_some_iff.1 hs).1 (fun e' => by
    obtain ⟨_, o, ho, hc⟩ := hrow b e'.symm
    rw [show X.heap[b]? = _ from hs] at ho; cases ho; cases hc)).trans hs
noncomputable def pc (x : Su) (i : Int) : Array Value := #[.int .i64 i, .int .i64 (fr x i), .int .i64 (nx x i), .int .i64 (ee x i), .int .i64 (wh x i), .int .i64 x.pr]
def zc : Array Value := #[.int .i64 0, .int .i64 0, .int .i64 0, .int .i64 0, .int .i64 0, .int .i64 0]
/-- Is a day in a period's days, and not ahead of the last change? -/
noncomputable def inP (x : Su) (i on : Int) : Bool := decide (fr x i ≤ on) && decide (on < ee x i) && decide (x.si ≤ on)

theorem four (w : World) (o1 o2 o3 o4 : Obj) : ((((w.alloc o1).alloc o2).alloc o3).alloc o4).heap[w.heap.size]? = some o1 ∧ ((((w.alloc o1).alloc o2).alloc o3).alloc o4).heap[w.heap.size + 1]? = some o2 ∧
    ((((w.alloc o1).alloc o2).alloc o3).alloc o4).heap[w.heap.size + 1 + 1]? = some o3 ∧ ((((w.alloc o1).alloc o2).alloc o3).alloc o4).heap[w.heap.size + 1 + 1 + 1]? = some o4 := by
  have h1 := World.alloc_heap_new w o1
  have h2 := World.alloc_heap_new (w.alloc o1) o2
  have h3 := World.alloc_heap_new ((w.alloc o1).alloc o2) o3
  have h4 := World.alloc_heap_new (((w.alloc o1).alloc o2).alloc o3) o4
  simp only [World.size_alloc] at h2 h3 h4
  exact ⟨(Below.heap_alloc _ _ _ (by simp <;> omega)).trans ((Below.heap_alloc _ _ _ (by simp <;> omega)).trans ((Below.heap_alloc _ _ _ (by simp)).trans h1)),
    (Below.heap_alloc _ _ _ (by simp <;> omega)).trans ((Below.heap_alloc _ _ _ (by simp)).trans h2), (Below.heap_alloc _ _ _ (by simp)).trans h3, h4⟩
/-- What the round reads. -/
def S0 (Bp Bs Bo : Nat) (i ff n ee wh pr si on : Int) (w' : World) : Prop :=
  w'.cell? ⟨Bp, 0, none⟩ = some (.int .i64 i) ∧ w'.cell? ⟨Bp, 1, none⟩ = some (.int .i64 ff) ∧ w'.cell? ⟨Bp, 2, none⟩ = some (.int .i64 n) ∧ w'.cell? ⟨Bp, 3, none⟩ = some (.int .i64 ee) ∧ w'.cell? ⟨Bp, 4, none⟩ = some (.int .i64 wh) ∧ w'.cell? ⟨Bp, 5, none⟩ = some (.int .i64 pr) ∧
    w'.cell? ⟨Bs, 8, none⟩ = some (.int .i64 si) ∧ w'.cell? ⟨Bo, 0, none⟩ = some (.int .i64 on)
theorem S0.heap {Bp Bs Bo : Nat} {i ff n ee wh pr si on : Int} {w' V : World} (h : S0 Bp Bs Bo i ff n ee wh pr si on w') (h1 : V.heap[Bp]? = w'.heap[Bp]?) (h2 : V.heap[Bs]? = w'.heap[Bs]?) (h3 : V.heap[Bo]? = w'.heap[Bo]?) : S0 Bp Bs Bo i ff n ee wh pr si on V := by
  unfold S0 World.cell? at *
  simp only [h1, h2, h3]
  exact h
set_option maxRecDepth 100000 in
set_option maxHeartbeats 4000000 in
theorem last_any (x : Su) (on : Int) (w : World) (T : Tab w) (hc : okC x = true) (hb : x.bi ≤ tp x + 1) (hb1 : 0 < x.bi) :
    Calls Tryd.prog 25 #[.agg (sc x), .int .i64 on] w fun e w' =>
      e = .returned (if x.bi ≤ tp x then .tuple #[.agg (pc x (x.bi - 1)), .bool (inP x (x.bi - 1) on)] else .tuple #[.agg zc, .bool false]) ∧ Below w.heap.size w w' := by
  generalize hres : (if x.bi ≤ tp x then Value.tuple #[.agg (pc x (x.bi - 1)), .bool (inP x (x.bi - 1) on)] else Value.tuple #[.agg zc, .bool false]) = res
  have HR := Lib.hid hres
  clear hres
  have hTl := tab_lt T
  have HT := Lib.hid T
  have HC := Lib.hid hc
  have tb := tp_bd hc
  clear T hc
  refine (callsIn_wide (n := 3)).1 ?_
  refine callsIn_of_wp_marks Tryd.func25 rfl trivial ?_ rfl
  simp only [Tryd.ntmps25, List.size_toArray, List.length_cons, List.length_nil, Nat.reduceAdd, Nat.reduceSub, Array.replicate_succ, Array.replicate_zero, List.push_toArray, List.append_toArray, List.nil_append, List.cons_append]
  have hP := fun w => periods_any x (x.bi - 1) w
  unfold sc at hP ⊢
  have HP := Lib.hid hP
  clear hP
  gi_wp2_with fail
  refine ⟨trivial, (HP.out _).mono ?_⟩
  rintro e w2 ⟨rfl, s2, B2, cs, ck⟩
  simp only [World.size_alloc] at s2 B2 cs ck
  obtain ⟨f1, f2, f3, f4⟩ := four w (.cells (sc x) 26 (0, 0)) (.cells #[.int .i64 on] 3 (0, 0)) (.cells zc 68 (0, 0)) (.cells #[.bool false] 4 (0, 0))
  have bs : SubAt w2 w.heap.size x := (B2.block _ (by omega)).trans f1
  have bo : Boxed w2 (w.heap.size + 1) 3 (.int .i64 on) := (B2.block _ (by omega)).trans f2
  have bp : w2.heap[w.heap.size + 1 + 1]? = some (.cells zc 68 (0, 0)) := (B2.block _ (by omega)).trans f3
  have bb : Boxed w2 (w.heap.size + 1 + 1 + 1) 4 (.bool false) := (B2.block _ (by omega)).trans f4
  have b0 : Below w.heap.size w w2 := (((((Below.refl _ w).alloc (Nat.le_refl _) _).alloc (by simp) _).alloc (by simp; omega) _).alloc (by simp; omega) _).trans (B2.mono (by omega))
  have T2 : Tab w2 := fun i hi => (b0.cell (p := ⟨0, i, none⟩) hTl).trans (HT.out i hi)
  obtain ⟨n, hn⟩ : ∃ n : Nat, x.bi - 1 + (n : Int) = tp x := ⟨(tp x - (x.bi - 1)).toNat, by omega⟩
  have HST := Lib.hid (periods_stops x (x.bi - 1) n _ _ w2 HC.out (by omega) hn (by omega) (by omega) T2 cs ck)
  have HN := Lib.hid hn
  have H0 := Lib.hid (And.intro bs (And.intro bo (And.intro bp bb)))
  clear B2 cs ck T2 hn f1 f2 f3 f4 bs bo bp bb
  gi_wp2
  refine wpIn_rangeH (L := [w.heap.size + 1 + 1 + 1 + 1 + 1]) rfl (by omega) (gf := 48) (lb := #[.pointer (some ⟨w.heap.size + 1 + 1 + 1 + 1, 0, none⟩), .pointer (some ⟨w.heap.size + 1 + 1 + 1 + 1 + 1, 0, none⟩)]) (by simp [go_sem]) trivial (enters_of Tryd.func48 (by kernel_rfl) rfl)
    HST.out (by simp; omega) (fun h k => h.trans k) (fun W l o o' hl _ _ => Kt.put W l o' hl (by omega) (by omega) (by omega)) (Below.refl _ _) (fun _ => rfl)
    (fun pre W => pre = [] ∧ (SubAt W w.heap.size x ∧ Boxed W (w.heap.size + 1) 3 (.int .i64 on) ∧ W.heap[w.heap.size + 1 + 1]? = some (.cells zc 68 (0, 0)) ∧ Boxed W (w.heap.size + 1 + 1 + 1) 4 (.bool false)) ∧ Below w.heap.size w2 W)
    (fun c pre W => (c = .ret ∧ ∃ i, pre = [i] ∧ W.heap[w.heap.size + 1 + 1]? = some (.cells (pc x i) 68 (0, 0)) ∧ Boxed W (w.heap.size + 1 + 1 + 1) 4 (.bool (inP x i on))) ∧ Below w.heap.size w2 W)
    ?oI ?oIx ?bI ?bIx ⟨rfl, H0.out, Below.refl _ _⟩
    (fun i a' W => ∃ Bp, w2.heap.size ≤ Bp ∧ W.heap[Bp]? = some (.cells (pc x i) 68 (0, 0)) ∧ a' = { tmps := #[.agg (sc x), .int .i64 on, .pointer (some ⟨w.heap.size, 0, none⟩), .pointer (some ⟨w.heap.size + 1, 0, none⟩), .pointer (some ⟨w.heap.size + 1 + 1, 0, none⟩), .pointer (some ⟨w.heap.size + 1 + 1 + 1, 0, none⟩), .pointer (some ⟨Bp, 0, none⟩), .pointer (some ⟨w.heap.size, 7, none⟩), .int .i64 x.bi, .bool true, .agg (sc x), .pointer (some ⟨w.heap.size, 7, none⟩), .int .i64 x.bi, .int .i64 (x.bi - 1), .func (Fn.func 48) #[] #[.pointer (some ⟨w.heap.size + 1 + 1 + 1 + 1, 0, none⟩), .pointer (some ⟨w.heap.size + 1 + 1 + 1 + 1 + 1, 0, none⟩)], pv x i, undef, undef, undef, undef, undef, undef, undef, undef, undef, undef, undef, undef, undef, undef, undef, undef, undef, undef], defers := [] }) ?hAx ?assign ?body ?done ?stop
  case oI =>
    rintro s A B row ⟨hp, ⟨h1, h2, h3, h4⟩, hB⟩ hg hr
    have k := fun (b : Nat) (c : Array Value) (t : TypeId) (h : A.heap[b]? = some (.cells c t (0, 0))) => cells_own w2.heap.size b (fun _ : Unit => c) t () A B row h hg hr
    exact ⟨hp, ⟨k _ _ _ h1, k _ _ _ h2, k _ _ _ h3, k _ _ _ h4⟩, ownFrom_below (β := Unit) (B := w2.heap.size) (by omega) (by omega) () A B row hB hg hr⟩
  case oIx =>
    rintro c s A B row ⟨⟨hc, i, hp, h3, h4⟩, hB⟩ hg hr
    have k := fun (b : Nat) (c : Array Value) (t : TypeId) (h : A.heap[b]? = some (.cells c t (0, 0))) => cells_own w2.heap.size b (fun _ : Unit => c) t () A B row h hg hr
    exact ⟨⟨hc, i, hp, k _ _ _ h3, k _ _ _ h4⟩, ownFrom_below (β := Unit) (B := w2.heap.size) (by omega) (by omega) () A B row hB hg hr⟩
  case bI =>
    rintro s A B row ⟨hp, ⟨h1, h2, h3, h4⟩, hB⟩ hg hr
    have ne : ∀ b, b ≠ w.heap.size + 1 + 1 + 1 + 1 + 1 → some b ≠ row := fun b hb e => hb (by simpa using hr b e.symm)
    exact ⟨hp, ⟨blk_grown h1 hg (ne _ (by omega)), blk_grown h2 hg (ne _ (by omega)), blk_grown h3 hg (ne _ (by omega)), blk_grown h4 hg (ne _ (by omega))⟩, hB.grown hg (by have := hB.size; omega) (fun k e => by have := hr k e; simp at this; omega)⟩
  case bIx =>
    rintro c s A B row ⟨⟨hc, i, hp, h3, h4⟩, hB⟩ hg hr
    have ne : ∀ b, b ≠ w.heap.size + 1 + 1 + 1 + 1 + 1 → some b ≠ row := fun b hb e => hb (by simpa using hr b e.symm)
    exact ⟨⟨hc, i, hp, blk_grown h3 hg (ne _ (by omega)), blk_grown h4 hg (ne _ (by omega))⟩, hB.grown hg (by have := hB.size; omega) (fun k e => by have := hr k e; simp at this; omega)⟩
  case hAx =>
    rintro i a' s A B row ⟨Bp, h1, h2, h3⟩ hg hr
    exact ⟨Bp, h1, cells_own w2.heap.size Bp (fun _ : Unit => pc x i) _ () A B row h2 hg hr, h3⟩
  case assign =>
    rintro l pre i W K ⟨hp, ⟨h1, h2, h3, h4⟩, hB⟩ hK
    have sz := hB.size
    simp only [enc1, pv]
    have HH := Lib.hid (And.intro h1 (And.intro h2 (And.intro h3 h4)))
    clear h1 h2 h3 h4
    gi_wp2
    exact hK _ _ ((KeepsOthers.alloc _ _).from _) (Kt.below ((Below.refl _ W).alloc (Nat.le_refl _) _) (by omega) (by omega) (by omega))
      ⟨hp, ⟨blk_alloc HH.out.1 _, blk_alloc HH.out.2.1 _, blk_alloc HH.out.2.2.1 _, blk_alloc HH.out.2.2.2 _⟩, hB.trans ((Below.refl _ W).alloc (by omega) _)⟩ ⟨_, hB.size, blk_new W _, rfl⟩
  case body =>
    rintro l pre i a' W ⟨rfl, ⟨hs, ho, hp, hb⟩, hB⟩ ⟨Bp, hBp, hpp, rfl⟩ hlen
    have sz := hB.size
    have p0 := blk_cell hpp 0
    have p1 := blk_cell hpp 1
    have p2 := blk_cell hpp 2
    have p3 := blk_cell hpp 3
    have p4 := blk_cell hpp 4
    have p5 := blk_cell hpp 5
    have s8 := blk_cell (show W.heap[w.heap.size]? = some (.cells (sc x) 26 (0, 0)) from hs) 8
    have o0 := ho.cell
    have r0 := blk_cell hp 0
    have r1 := blk_cell hp 1
    have r2 := blk_cell hp 2
    have r3 := blk_cell hp 3
    have r4 := blk_cell hp 4
    have r5 := blk_cell hp 5
    have q0 := blk_frozen hp 0
    have q1 := blk_frozen hp 1
    have q2 := blk_frozen hp 2
    have q3 := blk_frozen hp 3
    have q4 := blk_frozen hp 4
    have q5 := blk_frozen hp 5
    have b1 := hb.cell
    have b2 := hb.frozen
    simp [pc, sc, zc] at p0 p1 p2 p3 p4 p5 s8 r0 r1 r2 r3 r4 r5
    have HH := Lib.hid (And.intro hp (And.intro hb hB))
    clear hs ho hp hb hB hpp
    generalize hff : fr x i = ff at *
    generalize hee : ee x i = eee at *
    have hmo : Tryd.prog.follows .mixedOrders = true := by kernel_rfl
    have HS := Lib.hid (show S0 Bp w.heap.size (w.heap.size + 1) i ff (nx x i) eee (wh x i) x.pr x.si on W from ⟨p0, p1, p2, p3, p4, p5, s8, o0⟩)
    clear p0 p1 p2 p3 p4 p5 s8 o0
    gi_wp2
    by_cases h1 : ff ≤ on
    · have d1 := decide_eq_true h1
      by_cases h2 : on < eee
      · have d2 := decide_eq_true h2
        by_cases h3 : x.si ≤ on
        · have d3 := decide_eq_true h3
          have hin : inP x i on = true := by simp [inP, hff, hee, h1, h2, h3]
          refine start_in (m := 19) (S := S0 Bp w.heap.size (w.heap.size + 1) i ff (nx x i) eee (wh x i) x.pr x.si on) (ds := []) #[false, false, false, false, false, false, false, false, false, false, false, false, false, false, false, false, false, false, false] hmo (by kernel_rfl) (fun _ _ h => h) rfl rfl HS.out (fun hHeld => ?_)
          refine take_ (i := 0) (N := some 16) (v := ?_) (a' := ?_) #[true, false, false, false, false, false, false, false, false, false, false, false, false, false, false, false, false, false, false] rfl rfl (by kernel_rfl) (fun _ _ _ h => h) (Or.inl ⟨by rfl, ?_⟩) hHeld ?_ ?_
          rotate_left
          · rintro w' ⟨s0, s1, s2, s3, s4, s5, s6, s7⟩
            go_simp
            with_reducible rfl
          rotate_left
          · simp only [Act.put, List.setIfInBounds_toArray, List.set_cons_zero, List.set_cons_succ, i64_w, i32_w]
            rfl
          refine take_ (i := 1) (N := some 17) (v := ?_) (a' := ?_) #[true, true, false, false, false, false, false, false, false, false, false, false, false, false, false, false, false, false, false] rfl rfl (by kernel_rfl) (fun _ _ _ h => h) (Or.inl ⟨by rfl, ?_⟩) hHeld ?_ ?_
          rotate_left
          · rintro w' ⟨s0, s1, s2, s3, s4, s5, s6, s7⟩
            go_simp
            with_reducible rfl
          rotate_left
          · simp only [Act.put, List.setIfInBounds_toArray, List.set_cons_zero, List.set_cons_succ, i64_w, i32_w]
            rfl
          refine pure_ (i := 2) (N := some 18) (v := ?_) (a' := ?_) #[true, true, true, false, false, false, false, false, false, false, false, false, false, false, false, false, false, false, false] rfl rfl (by kernel_rfl) (fun _ _ _ h => h) (Or.inl ⟨by rfl, ?_⟩) ?_ ?_
          rotate_left
          · intro w'
            go_simp
            with_reducible rfl
          rotate_left
          · simp only [Act.put, List.setIfInBounds_toArray, List.set_cons_zero, List.set_cons_succ, i64_w, i32_w]
            rfl
          refine take_ (i := 3) (N := some 19) (v := ?_) (a' := ?_) #[true, true, true, true, false, false, false, false, false, false, false, false, false, false, false, false, false, false, false] rfl rfl (by kernel_rfl) (fun _ _ _ h => h) (Or.inl ⟨by rfl, ?_⟩) hHeld ?_ ?_
          rotate_left
          · rintro w' ⟨s0, s1, s2, s3, s4, s5, s6, s7⟩
            go_simp
            with_reducible rfl
          rotate_left
          · simp only [Act.put, List.setIfInBounds_toArray, List.set_cons_zero, List.set_cons_succ, i64_w, i32_w]
            rfl
          refine pure_ (i := 4) (N := some 20) (v := ?_) (a' := ?_) #[true, true, true, true, true, false, false, false, false, false, false, false, false, false, false, false, false, false, false] rfl rfl (by kernel_rfl) (fun _ _ _ h => h) (Or.inl ⟨by rfl, ?_⟩) ?_ ?_
          rotate_left
          · intro w'
            go_simp
            with_reducible rfl
          rotate_left
          · simp only [Act.put, List.setIfInBounds_toArray, List.set_cons_zero, List.set_cons_succ, i64_w, i32_w]
            rfl
          refine pure_ (i := 5) (N := some 21) (v := ?_) (a' := ?_) #[true, true, true, true, true, true, false, false, false, false, false, false, false, false, false, false, false, false, false] rfl rfl (by kernel_rfl) (fun _ _ _ h => h) (Or.inl ⟨by rfl, ?_⟩) ?_ ?_
          rotate_left
          · intro w'
            go_simp
            with_reducible rfl
          rotate_left
          · simp only [Act.put, List.setIfInBounds_toArray, List.set_cons_zero, List.set_cons_succ, i64_w, i32_w]
            rfl
          refine take_ (i := 6) (N := some 22) (v := ?_) (a' := ?_) #[true, true, true, true, true, true, true, false, false, false, false, false, false, false, false, false, false, false, false] rfl rfl (by kernel_rfl) (fun _ _ _ h => h) (Or.inl ⟨by rfl, ?_⟩) hHeld ?_ ?_
          rotate_left
          · rintro w' ⟨s0, s1, s2, s3, s4, s5, s6, s7⟩
            go_simp
            with_reducible rfl
          rotate_left
          · simp only [Act.put, List.setIfInBounds_toArray, List.set_cons_zero, List.set_cons_succ, i64_w, i32_w]
            rfl
          refine pure_ (i := 7) (N := some 23) (v := ?_) (a' := ?_) #[true, true, true, true, true, true, true, true, false, false, false, false, false, false, false, false, false, false, false] rfl rfl (by kernel_rfl) (fun _ _ _ h => h) (Or.inl ⟨by rfl, ?_⟩) ?_ ?_
          rotate_left
          · intro w'
            go_simp
            with_reducible rfl
          rotate_left
          · simp only [Act.put, List.setIfInBounds_toArray, List.set_cons_zero, List.set_cons_succ, i64_w, i32_w]
            rfl
          refine take_ (i := 8) (N := some 24) (v := ?_) (a' := ?_) #[true, true, true, true, true, true, true, true, true, false, false, false, false, false, false, false, false, false, false] rfl rfl (by kernel_rfl) (fun _ _ _ h => h) (Or.inl ⟨by rfl, ?_⟩) hHeld ?_ ?_
          rotate_left
          · rintro w' ⟨s0, s1, s2, s3, s4, s5, s6, s7⟩
            go_simp
            with_reducible rfl
          rotate_left
          · simp only [Act.put, List.setIfInBounds_toArray, List.set_cons_zero, List.set_cons_succ, i64_w, i32_w]
            rfl
          refine pure_ (i := 9) (N := some 25) (v := ?_) (a' := ?_) #[true, true, true, true, true, true, true, true, true, true, false, false, false, false, false, false, false, false, false] rfl rfl (by kernel_rfl) (fun _ _ _ h => h) (Or.inl ⟨by rfl, ?_⟩) ?_ ?_
          rotate_left
          · intro w'
            go_simp
            with_reducible rfl
          rotate_left
          · simp only [Act.put, List.setIfInBounds_toArray, List.set_cons_zero, List.set_cons_succ, i64_w, i32_w]
            rfl
          refine pure_ (i := 10) (N := some 26) (v := ?_) (a' := ?_) #[true, true, true, true, true, true, true, true, true, true, true, false, false, false, false, false, false, false, false] rfl rfl (by kernel_rfl) (fun _ _ _ h => h) (Or.inl ⟨by rfl, ?_⟩) ?_ ?_
          rotate_left
          · intro w'
            go_simp
            with_reducible rfl
          rotate_left
          · simp only [Act.put, List.setIfInBounds_toArray, List.set_cons_zero, List.set_cons_succ, i64_w, i32_w]
            rfl
          refine pure_ (i := 11) (N := some 27) (v := ?_) (a' := ?_) #[true, true, true, true, true, true, true, true, true, true, true, true, false, false, false, false, false, false, false] rfl rfl (by kernel_rfl) (fun _ _ _ h => h) (Or.inl ⟨by rfl, ?_⟩) ?_ ?_
          rotate_left
          · intro w'
            go_simp
            with_reducible rfl
          rotate_left
          · simp only [Act.put, List.setIfInBounds_toArray, List.set_cons_zero, List.set_cons_succ, i64_w, i32_w]
            rfl
          refine take_ (i := 12) (N := some 28) (v := ?_) (a' := ?_) #[true, true, true, true, true, true, true, true, true, true, true, true, true, false, false, false, false, false, false] rfl rfl (by kernel_rfl) (fun _ _ _ h => h) (Or.inl ⟨by rfl, ?_⟩) hHeld ?_ ?_
          rotate_left
          · rintro w' ⟨s0, s1, s2, s3, s4, s5, s6, s7⟩
            go_simp
            with_reducible rfl
          rotate_left
          · simp only [Act.put, List.setIfInBounds_toArray, List.set_cons_zero, List.set_cons_succ, i64_w, i32_w]
            rfl
          refine pure_ (i := 13) (N := some 29) (v := ?_) (a' := ?_) #[true, true, true, true, true, true, true, true, true, true, true, true, true, true, false, false, false, false, false] rfl rfl (by kernel_rfl) (fun _ _ _ h => h) (Or.inl ⟨by rfl, ?_⟩) ?_ ?_
          rotate_left
          · intro w'
            go_simp
            with_reducible rfl
          rotate_left
          · simp only [Act.put, List.setIfInBounds_toArray, List.set_cons_zero, List.set_cons_succ, i64_w, i32_w]
            rfl
          refine take_ (i := 14) (N := some 30) (v := ?_) (a' := ?_) #[true, true, true, true, true, true, true, true, true, true, true, true, true, true, true, false, false, false, false] rfl rfl (by kernel_rfl) (fun _ _ _ h => h) (Or.inl ⟨by rfl, ?_⟩) hHeld ?_ ?_
          rotate_left
          · rintro w' ⟨s0, s1, s2, s3, s4, s5, s6, s7⟩
            go_simp
            with_reducible rfl
          rotate_left
          · simp only [Act.put, List.setIfInBounds_toArray, List.set_cons_zero, List.set_cons_succ, i64_w, i32_w]
            rfl
          refine pure_ (i := 15) (N := some 31) (v := ?_) (a' := ?_) #[true, true, true, true, true, true, true, true, true, true, true, true, true, true, true, true, false, false, false] rfl rfl (by kernel_rfl) (fun _ _ _ h => h) (Or.inl ⟨by rfl, ?_⟩) ?_ ?_
          rotate_left
          · intro w'
            go_simp
            with_reducible rfl
          rotate_left
          · simp only [Act.put, List.setIfInBounds_toArray, List.set_cons_zero, List.set_cons_succ, i64_w, i32_w]
            rfl
          refine pure_ (i := 16) (N := some 32) (v := ?_) (a' := ?_) #[true, true, true, true, true, true, true, true, true, true, true, true, true, true, true, true, true, false, false] rfl rfl (by kernel_rfl) (fun _ _ _ h => h) (Or.inl ⟨by rfl, ?_⟩) ?_ ?_
          rotate_left
          · intro w'
            go_simp
            with_reducible rfl
          rotate_left
          · simp only [Act.put, List.setIfInBounds_toArray, List.set_cons_zero, List.set_cons_succ, i64_w, i32_w]
            rfl
          refine one_ (i := 17) (N := none) #[true, true, true, true, true, true, true, true, true, true, true, true, true, true, true, true, true, true, false] rfl rfl (by kernel_rfl) (by decide) (fun K hK => ?_)
          refine skip_ (by rfl) rfl (skip_store rfl (store6 _ _ _ _ _ _ _ _ _ _ _ _ _ _ HH.out.1)) ?_
          refine hK.out _ _ (HS.out.heap (put6_heap _ _ _ _ _ _ _ _ _ (by omega)) (put6_heap _ _ _ _ _ _ _ _ _ (by omega)) (put6_heap _ _ _ _ _ _ _ _ _ (by omega))) (fun hHeld => ?_)
          have HV := Lib.hid (And.intro (put6_self W.drew (w.heap.size + 1 + 1) i ff (nx x i) eee (wh x i) x.pr _ _ _ _ _ _ _ HH.out.1) (And.intro ((put6_heap W.drew (w.heap.size + 1 + 1) (w.heap.size + 1 + 1 + 1) i ff (nx x i) eee (wh x i) x.pr (by omega)).trans HH.out.2.1) (And.intro (put6_below (HH.out.2.2.trans (below_drew1 (Below.refl w.heap.size W))) (w.heap.size + 1 + 1) i ff (nx x i) eee (wh x i) x.pr (by omega)) (put6_keeps (B := w2.heap.size) (W := W) (w.heap.size + 1 + 1) i ff (nx x i) eee (wh x i) x.pr (by omega)))))
          generalize put6 W.drew (w.heap.size + 1 + 1) i ff (nx x i) eee (wh x i) x.pr = V at HV hHeld ⊢
          refine one_ (i := 18) (N := none) #[true, true, true, true, true, true, true, true, true, true, true, true, true, true, true, true, true, true, true] rfl rfl (by kernel_rfl) (by decide) (fun K hK => ?_)
          refine skip_ (by rfl) rfl (skip_store rfl (store1 _ _ _ _ HV.out.2.1)) ?_
          refine hK.out _ _ (hHeld.heap (Below.heap_setCell _ _ _ _ (by simp only []; omega)) (Below.heap_setCell _ _ _ _ (by simp only []; omega)) (Below.heap_setCell _ _ _ _ (by simp only []; omega))) (fun hHeld => ?_)
          refine done_in (by kernel_rfl) ?_
          gi_wp2
          refine ⟨(by first | exact keeps_set HV.out.2.2.2 _ (by omega) | (rw [← s2]; exact keeps_set HV.out.2.2.2 _ (by omega))), ⟨rfl, i, rfl, (blk_far HV.out.1 (by simp only []; omega) _).trans (by rw [pc, hff, hee]), ?_⟩, HV.out.2.2.1.setCell (by simp only []; omega) _⟩
          rw [hin]
          exact blk_set HV.out.2.1 0 _
        · have d3 := decide_eq_false h3
          have hin : inP x i on = false := by simp [inP, hff, hee, h1, h2, h3]
          refine start_in (m := 19) (S := S0 Bp w.heap.size (w.heap.size + 1) i ff (nx x i) eee (wh x i) x.pr x.si on) (ds := []) #[false, false, false, false, false, false, false, false, false, false, false, false, false, false, false, false, false, false, false] hmo (by kernel_rfl) (fun _ _ h => h) rfl rfl HS.out (fun hHeld => ?_)
          refine take_ (i := 0) (N := some 16) (v := ?_) (a' := ?_) #[true, false, false, false, false, false, false, false, false, false, false, false, false, false, false, false, false, false, false] rfl rfl (by kernel_rfl) (fun _ _ _ h => h) (Or.inl ⟨by rfl, ?_⟩) hHeld ?_ ?_
          rotate_left
          · rintro w' ⟨s0, s1, s2, s3, s4, s5, s6, s7⟩
            go_simp
            with_reducible rfl
          rotate_left
          · simp only [Act.put, List.setIfInBounds_toArray, List.set_cons_zero, List.set_cons_succ, i64_w, i32_w]
            rfl
          refine take_ (i := 1) (N := some 17) (v := ?_) (a' := ?_) #[true, true, false, false, false, false, false, false, false, false, false, false, false, false, false, false, false, false, false] rfl rfl (by kernel_rfl) (fun _ _ _ h => h) (Or.inl ⟨by rfl, ?_⟩) hHeld ?_ ?_
          rotate_left
          · rintro w' ⟨s0, s1, s2, s3, s4, s5, s6, s7⟩
            go_simp
            with_reducible rfl
          rotate_left
          · simp only [Act.put, List.setIfInBounds_toArray, List.set_cons_zero, List.set_cons_succ, i64_w, i32_w]
            rfl
          refine pure_ (i := 2) (N := some 18) (v := ?_) (a' := ?_) #[true, true, true, false, false, false, false, false, false, false, false, false, false, false, false, false, false, false, false] rfl rfl (by kernel_rfl) (fun _ _ _ h => h) (Or.inl ⟨by rfl, ?_⟩) ?_ ?_
          rotate_left
          · intro w'
            go_simp
            with_reducible rfl
          rotate_left
          · simp only [Act.put, List.setIfInBounds_toArray, List.set_cons_zero, List.set_cons_succ, i64_w, i32_w]
            rfl
          refine take_ (i := 3) (N := some 19) (v := ?_) (a' := ?_) #[true, true, true, true, false, false, false, false, false, false, false, false, false, false, false, false, false, false, false] rfl rfl (by kernel_rfl) (fun _ _ _ h => h) (Or.inl ⟨by rfl, ?_⟩) hHeld ?_ ?_
          rotate_left
          · rintro w' ⟨s0, s1, s2, s3, s4, s5, s6, s7⟩
            go_simp
            with_reducible rfl
          rotate_left
          · simp only [Act.put, List.setIfInBounds_toArray, List.set_cons_zero, List.set_cons_succ, i64_w, i32_w]
            rfl
          refine pure_ (i := 4) (N := some 20) (v := ?_) (a' := ?_) #[true, true, true, true, true, false, false, false, false, false, false, false, false, false, false, false, false, false, false] rfl rfl (by kernel_rfl) (fun _ _ _ h => h) (Or.inl ⟨by rfl, ?_⟩) ?_ ?_
          rotate_left
          · intro w'
            go_simp
            with_reducible rfl
          rotate_left
          · simp only [Act.put, List.setIfInBounds_toArray, List.set_cons_zero, List.set_cons_succ, i64_w, i32_w]
            rfl
          refine pure_ (i := 5) (N := some 21) (v := ?_) (a' := ?_) #[true, true, true, true, true, true, false, false, false, false, false, false, false, false, false, false, false, false, false] rfl rfl (by kernel_rfl) (fun _ _ _ h => h) (Or.inl ⟨by rfl, ?_⟩) ?_ ?_
          rotate_left
          · intro w'
            go_simp
            with_reducible rfl
          rotate_left
          · simp only [Act.put, List.setIfInBounds_toArray, List.set_cons_zero, List.set_cons_succ, i64_w, i32_w]
            rfl
          refine take_ (i := 6) (N := some 22) (v := ?_) (a' := ?_) #[true, true, true, true, true, true, true, false, false, false, false, false, false, false, false, false, false, false, false] rfl rfl (by kernel_rfl) (fun _ _ _ h => h) (Or.inl ⟨by rfl, ?_⟩) hHeld ?_ ?_
          rotate_left
          · rintro w' ⟨s0, s1, s2, s3, s4, s5, s6, s7⟩
            go_simp
            with_reducible rfl
          rotate_left
          · simp only [Act.put, List.setIfInBounds_toArray, List.set_cons_zero, List.set_cons_succ, i64_w, i32_w]
            rfl
          refine pure_ (i := 7) (N := some 23) (v := ?_) (a' := ?_) #[true, true, true, true, true, true, true, true, false, false, false, false, false, false, false, false, false, false, false] rfl rfl (by kernel_rfl) (fun _ _ _ h => h) (Or.inl ⟨by rfl, ?_⟩) ?_ ?_
          rotate_left
          · intro w'
            go_simp
            with_reducible rfl
          rotate_left
          · simp only [Act.put, List.setIfInBounds_toArray, List.set_cons_zero, List.set_cons_succ, i64_w, i32_w]
            rfl
          refine take_ (i := 8) (N := some 24) (v := ?_) (a' := ?_) #[true, true, true, true, true, true, true, true, true, false, false, false, false, false, false, false, false, false, false] rfl rfl (by kernel_rfl) (fun _ _ _ h => h) (Or.inl ⟨by rfl, ?_⟩) hHeld ?_ ?_
          rotate_left
          · rintro w' ⟨s0, s1, s2, s3, s4, s5, s6, s7⟩
            go_simp
            with_reducible rfl
          rotate_left
          · simp only [Act.put, List.setIfInBounds_toArray, List.set_cons_zero, List.set_cons_succ, i64_w, i32_w]
            rfl
          refine pure_ (i := 9) (N := some 25) (v := ?_) (a' := ?_) #[true, true, true, true, true, true, true, true, true, true, false, false, false, false, false, false, false, false, false] rfl rfl (by kernel_rfl) (fun _ _ _ h => h) (Or.inl ⟨by rfl, ?_⟩) ?_ ?_
          rotate_left
          · intro w'
            go_simp
            with_reducible rfl
          rotate_left
          · simp only [Act.put, List.setIfInBounds_toArray, List.set_cons_zero, List.set_cons_succ, i64_w, i32_w]
            rfl
          refine pure_ (i := 10) (N := some 26) (v := ?_) (a' := ?_) #[true, true, true, true, true, true, true, true, true, true, true, false, false, false, false, false, false, false, false] rfl rfl (by kernel_rfl) (fun _ _ _ h => h) (Or.inl ⟨by rfl, ?_⟩) ?_ ?_
          rotate_left
          · intro w'
            go_simp
            with_reducible rfl
          rotate_left
          · simp only [Act.put, List.setIfInBounds_toArray, List.set_cons_zero, List.set_cons_succ, i64_w, i32_w]
            rfl
          refine pure_ (i := 11) (N := some 27) (v := ?_) (a' := ?_) #[true, true, true, true, true, true, true, true, true, true, true, true, false, false, false, false, false, false, false] rfl rfl (by kernel_rfl) (fun _ _ _ h => h) (Or.inl ⟨by rfl, ?_⟩) ?_ ?_
          rotate_left
          · intro w'
            go_simp
            with_reducible rfl
          rotate_left
          · simp only [Act.put, List.setIfInBounds_toArray, List.set_cons_zero, List.set_cons_succ, i64_w, i32_w]
            rfl
          refine take_ (i := 12) (N := some 28) (v := ?_) (a' := ?_) #[true, true, true, true, true, true, true, true, true, true, true, true, true, false, false, false, false, false, false] rfl rfl (by kernel_rfl) (fun _ _ _ h => h) (Or.inl ⟨by rfl, ?_⟩) hHeld ?_ ?_
          rotate_left
          · rintro w' ⟨s0, s1, s2, s3, s4, s5, s6, s7⟩
            go_simp
            with_reducible rfl
          rotate_left
          · simp only [Act.put, List.setIfInBounds_toArray, List.set_cons_zero, List.set_cons_succ, i64_w, i32_w]
            rfl
          refine pure_ (i := 13) (N := some 29) (v := ?_) (a' := ?_) #[true, true, true, true, true, true, true, true, true, true, true, true, true, true, false, false, false, false, false] rfl rfl (by kernel_rfl) (fun _ _ _ h => h) (Or.inl ⟨by rfl, ?_⟩) ?_ ?_
          rotate_left
          · intro w'
            go_simp
            with_reducible rfl
          rotate_left
          · simp only [Act.put, List.setIfInBounds_toArray, List.set_cons_zero, List.set_cons_succ, i64_w, i32_w]
            rfl
          refine take_ (i := 14) (N := some 30) (v := ?_) (a' := ?_) #[true, true, true, true, true, true, true, true, true, true, true, true, true, true, true, false, false, false, false] rfl rfl (by kernel_rfl) (fun _ _ _ h => h) (Or.inl ⟨by rfl, ?_⟩) hHeld ?_ ?_
          rotate_left
          · rintro w' ⟨s0, s1, s2, s3, s4, s5, s6, s7⟩
            go_simp
            with_reducible rfl
          rotate_left
          · simp only [Act.put, List.setIfInBounds_toArray, List.set_cons_zero, List.set_cons_succ, i64_w, i32_w]
            rfl
          refine pure_ (i := 15) (N := some 31) (v := ?_) (a' := ?_) #[true, true, true, true, true, true, true, true, true, true, true, true, true, true, true, true, false, false, false] rfl rfl (by kernel_rfl) (fun _ _ _ h => h) (Or.inl ⟨by rfl, ?_⟩) ?_ ?_
          rotate_left
          · intro w'
            go_simp
            with_reducible rfl
          rotate_left
          · simp only [Act.put, List.setIfInBounds_toArray, List.set_cons_zero, List.set_cons_succ, i64_w, i32_w]
            rfl
          refine pure_ (i := 16) (N := some 32) (v := ?_) (a' := ?_) #[true, true, true, true, true, true, true, true, true, true, true, true, true, true, true, true, true, false, false] rfl rfl (by kernel_rfl) (fun _ _ _ h => h) (Or.inl ⟨by rfl, ?_⟩) ?_ ?_
          rotate_left
          · intro w'
            go_simp
            with_reducible rfl
          rotate_left
          · simp only [Act.put, List.setIfInBounds_toArray, List.set_cons_zero, List.set_cons_succ, i64_w, i32_w]
            rfl
          refine one_ (i := 17) (N := none) #[true, true, true, true, true, true, true, true, true, true, true, true, true, true, true, true, true, true, false] rfl rfl (by kernel_rfl) (by decide) (fun K hK => ?_)
          refine skip_ (by rfl) rfl (skip_store rfl (store6 _ _ _ _ _ _ _ _ _ _ _ _ _ _ HH.out.1)) ?_
          refine hK.out _ _ (HS.out.heap (put6_heap _ _ _ _ _ _ _ _ _ (by omega)) (put6_heap _ _ _ _ _ _ _ _ _ (by omega)) (put6_heap _ _ _ _ _ _ _ _ _ (by omega))) (fun hHeld => ?_)
          have HV := Lib.hid (And.intro (put6_self W.drew (w.heap.size + 1 + 1) i ff (nx x i) eee (wh x i) x.pr _ _ _ _ _ _ _ HH.out.1) (And.intro ((put6_heap W.drew (w.heap.size + 1 + 1) (w.heap.size + 1 + 1 + 1) i ff (nx x i) eee (wh x i) x.pr (by omega)).trans HH.out.2.1) (And.intro (put6_below (HH.out.2.2.trans (below_drew1 (Below.refl w.heap.size W))) (w.heap.size + 1 + 1) i ff (nx x i) eee (wh x i) x.pr (by omega)) (put6_keeps (B := w2.heap.size) (W := W) (w.heap.size + 1 + 1) i ff (nx x i) eee (wh x i) x.pr (by omega)))))
          generalize put6 W.drew (w.heap.size + 1 + 1) i ff (nx x i) eee (wh x i) x.pr = V at HV hHeld ⊢
          refine one_ (i := 18) (N := none) #[true, true, true, true, true, true, true, true, true, true, true, true, true, true, true, true, true, true, true] rfl rfl (by kernel_rfl) (by decide) (fun K hK => ?_)
          refine skip_ (by rfl) rfl (skip_store rfl (store1 _ _ _ _ HV.out.2.1)) ?_
          refine hK.out _ _ (hHeld.heap (Below.heap_setCell _ _ _ _ (by simp only []; omega)) (Below.heap_setCell _ _ _ _ (by simp only []; omega)) (Below.heap_setCell _ _ _ _ (by simp only []; omega))) (fun hHeld => ?_)
          refine done_in (by kernel_rfl) ?_
          gi_wp2
          refine ⟨(by first | exact keeps_set HV.out.2.2.2 _ (by omega) | (rw [← s2]; exact keeps_set HV.out.2.2.2 _ (by omega))), ⟨rfl, i, rfl, (blk_far HV.out.1 (by simp only []; omega) _).trans (by rw [pc, hff, hee]), ?_⟩, HV.out.2.2.1.setCell (by simp only []; omega) _⟩
          rw [hin]
          exact blk_set HV.out.2.1 0 _
      · have d2 := decide_eq_false h2
        have hin : inP x i on = false := by simp [inP, hff, hee, h1, h2]
        refine start_in (m := 19) (S := S0 Bp w.heap.size (w.heap.size + 1) i ff (nx x i) eee (wh x i) x.pr x.si on) (ds := []) #[false, false, false, false, false, false, false, false, false, false, false, false, false, false, false, false, false, false, false] hmo (by kernel_rfl) (fun _ _ h => h) rfl rfl HS.out (fun hHeld => ?_)
        refine take_ (i := 0) (N := some 16) (v := ?_) (a' := ?_) #[true, false, false, false, false, false, false, false, false, false, false, false, false, false, false, false, false, false, false] rfl rfl (by kernel_rfl) (fun _ _ _ h => h) (Or.inl ⟨by rfl, ?_⟩) hHeld ?_ ?_
        rotate_left
        · rintro w' ⟨s0, s1, s2, s3, s4, s5, s6, s7⟩
          go_simp
          with_reducible rfl
        rotate_left
        · simp only [Act.put, List.setIfInBounds_toArray, List.set_cons_zero, List.set_cons_succ, i64_w, i32_w]
          rfl
        refine take_ (i := 1) (N := some 17) (v := ?_) (a' := ?_) #[true, true, false, false, false, false, false, false, false, false, false, false, false, false, false, false, false, false, false] rfl rfl (by kernel_rfl) (fun _ _ _ h => h) (Or.inl ⟨by rfl, ?_⟩) hHeld ?_ ?_
        rotate_left
        · rintro w' ⟨s0, s1, s2, s3, s4, s5, s6, s7⟩
          go_simp
          with_reducible rfl
        rotate_left
        · simp only [Act.put, List.setIfInBounds_toArray, List.set_cons_zero, List.set_cons_succ, i64_w, i32_w]
          rfl
        refine pure_ (i := 2) (N := some 18) (v := ?_) (a' := ?_) #[true, true, true, false, false, false, false, false, false, false, false, false, false, false, false, false, false, false, false] rfl rfl (by kernel_rfl) (fun _ _ _ h => h) (Or.inl ⟨by rfl, ?_⟩) ?_ ?_
        rotate_left
        · intro w'
          go_simp
          with_reducible rfl
        rotate_left
        · simp only [Act.put, List.setIfInBounds_toArray, List.set_cons_zero, List.set_cons_succ, i64_w, i32_w]
          rfl
        refine take_ (i := 3) (N := some 19) (v := ?_) (a' := ?_) #[true, true, true, true, false, false, false, false, false, false, false, false, false, false, false, false, false, false, false] rfl rfl (by kernel_rfl) (fun _ _ _ h => h) (Or.inl ⟨by rfl, ?_⟩) hHeld ?_ ?_
        rotate_left
        · rintro w' ⟨s0, s1, s2, s3, s4, s5, s6, s7⟩
          go_simp
          with_reducible rfl
        rotate_left
        · simp only [Act.put, List.setIfInBounds_toArray, List.set_cons_zero, List.set_cons_succ, i64_w, i32_w]
          rfl
        refine pure_ (i := 4) (N := some 20) (v := ?_) (a' := ?_) #[true, true, true, true, true, false, false, false, false, false, false, false, false, false, false, false, false, false, false] rfl rfl (by kernel_rfl) (fun _ _ _ h => h) (Or.inl ⟨by rfl, ?_⟩) ?_ ?_
        rotate_left
        · intro w'
          go_simp
          with_reducible rfl
        rotate_left
        · simp only [Act.put, List.setIfInBounds_toArray, List.set_cons_zero, List.set_cons_succ, i64_w, i32_w]
          rfl
        refine pure_ (i := 5) (N := some 21) (v := ?_) (a' := ?_) #[true, true, true, true, true, true, false, false, false, false, false, false, false, false, false, false, false, false, false] rfl rfl (by kernel_rfl) (fun _ _ _ h => h) (Or.inl ⟨by rfl, ?_⟩) ?_ ?_
        rotate_left
        · intro w'
          go_simp
          with_reducible rfl
        rotate_left
        · simp only [Act.put, List.setIfInBounds_toArray, List.set_cons_zero, List.set_cons_succ, i64_w, i32_w]
          rfl
        refine take_ (i := 6) (N := some 22) (v := ?_) (a' := ?_) #[true, true, true, true, true, true, true, false, false, false, false, false, false, false, false, false, false, false, false] rfl rfl (by kernel_rfl) (fun _ _ _ h => h) (Or.inl ⟨by rfl, ?_⟩) hHeld ?_ ?_
        rotate_left
        · rintro w' ⟨s0, s1, s2, s3, s4, s5, s6, s7⟩
          go_simp
          with_reducible rfl
        rotate_left
        · simp only [Act.put, List.setIfInBounds_toArray, List.set_cons_zero, List.set_cons_succ, i64_w, i32_w]
          rfl
        refine pure_ (i := 7) (N := some 23) (v := ?_) (a' := ?_) #[true, true, true, true, true, true, true, true, false, false, false, false, false, false, false, false, false, false, false] rfl rfl (by kernel_rfl) (fun _ _ _ h => h) (Or.inl ⟨by rfl, ?_⟩) ?_ ?_
        rotate_left
        · intro w'
          go_simp
          with_reducible rfl
        rotate_left
        · simp only [Act.put, List.setIfInBounds_toArray, List.set_cons_zero, List.set_cons_succ, i64_w, i32_w]
          rfl
        refine take_ (i := 8) (N := some 24) (v := ?_) (a' := ?_) #[true, true, true, true, true, true, true, true, true, false, false, false, false, false, false, false, false, false, false] rfl rfl (by kernel_rfl) (fun _ _ _ h => h) (Or.inl ⟨by rfl, ?_⟩) hHeld ?_ ?_
        rotate_left
        · rintro w' ⟨s0, s1, s2, s3, s4, s5, s6, s7⟩
          go_simp
          with_reducible rfl
        rotate_left
        · simp only [Act.put, List.setIfInBounds_toArray, List.set_cons_zero, List.set_cons_succ, i64_w, i32_w]
          rfl
        refine pure_ (i := 9) (N := some 25) (v := ?_) (a' := ?_) #[true, true, true, true, true, true, true, true, true, true, false, false, false, false, false, false, false, false, false] rfl rfl (by kernel_rfl) (fun _ _ _ h => h) (Or.inl ⟨by rfl, ?_⟩) ?_ ?_
        rotate_left
        · intro w'
          go_simp
          with_reducible rfl
        rotate_left
        · simp only [Act.put, List.setIfInBounds_toArray, List.set_cons_zero, List.set_cons_succ, i64_w, i32_w]
          rfl
        refine pure_ (i := 10) (N := some 26) (v := ?_) (a' := ?_) #[true, true, true, true, true, true, true, true, true, true, true, false, false, false, false, false, false, false, false] rfl rfl (by kernel_rfl) (fun _ _ _ h => h) (Or.inl ⟨by rfl, ?_⟩) ?_ ?_
        rotate_left
        · intro w'
          go_simp
          with_reducible rfl
        rotate_left
        · simp only [Act.put, List.setIfInBounds_toArray, List.set_cons_zero, List.set_cons_succ, i64_w, i32_w]
          rfl
        refine pure_ (i := 11) (N := some 27) (v := ?_) (a' := ?_) #[true, true, true, true, true, true, true, true, true, true, true, true, false, false, false, false, false, false, false] rfl rfl (by kernel_rfl) (fun _ _ _ h => h) (Or.inl ⟨by rfl, ?_⟩) ?_ ?_
        rotate_left
        · intro w'
          go_simp
          with_reducible rfl
        rotate_left
        · simp only [Act.put, List.setIfInBounds_toArray, List.set_cons_zero, List.set_cons_succ, i64_w, i32_w]
          rfl
        refine pure_ (i := 12) (N := some 28) (v := undef) (a' := ?_) #[true, true, true, true, true, true, true, true, true, true, true, true, true, false, false, false, false, false, false] rfl rfl (by kernel_rfl) (fun _ _ _ h => h) (Or.inr ⟨by rfl, rfl⟩) ?_ ?_
        rotate_left
        · simp only [Act.put, List.setIfInBounds_toArray, List.set_cons_zero, List.set_cons_succ, i64_w, i32_w]
          rfl
        refine pure_ (i := 13) (N := some 29) (v := undef) (a' := ?_) #[true, true, true, true, true, true, true, true, true, true, true, true, true, true, false, false, false, false, false] rfl rfl (by kernel_rfl) (fun _ _ _ h => h) (Or.inr ⟨by rfl, rfl⟩) ?_ ?_
        rotate_left
        · simp only [Act.put, List.setIfInBounds_toArray, List.set_cons_zero, List.set_cons_succ, i64_w, i32_w]
          rfl
        refine pure_ (i := 14) (N := some 30) (v := undef) (a' := ?_) #[true, true, true, true, true, true, true, true, true, true, true, true, true, true, true, false, false, false, false] rfl rfl (by kernel_rfl) (fun _ _ _ h => h) (Or.inr ⟨by rfl, rfl⟩) ?_ ?_
        rotate_left
        · simp only [Act.put, List.setIfInBounds_toArray, List.set_cons_zero, List.set_cons_succ, i64_w, i32_w]
          rfl
        refine pure_ (i := 15) (N := some 31) (v := undef) (a' := ?_) #[true, true, true, true, true, true, true, true, true, true, true, true, true, true, true, true, false, false, false] rfl rfl (by kernel_rfl) (fun _ _ _ h => h) (Or.inr ⟨by rfl, rfl⟩) ?_ ?_
        rotate_left
        · simp only [Act.put, List.setIfInBounds_toArray, List.set_cons_zero, List.set_cons_succ, i64_w, i32_w]
          rfl
        refine pure_ (i := 16) (N := some 32) (v := ?_) (a' := ?_) #[true, true, true, true, true, true, true, true, true, true, true, true, true, true, true, true, true, false, false] rfl rfl (by kernel_rfl) (fun _ _ _ h => h) (Or.inl ⟨by rfl, ?_⟩) ?_ ?_
        rotate_left
        · intro w'
          go_simp
          with_reducible rfl
        rotate_left
        · simp only [Act.put, List.setIfInBounds_toArray, List.set_cons_zero, List.set_cons_succ, i64_w, i32_w]
          rfl
        refine one_ (i := 17) (N := none) #[true, true, true, true, true, true, true, true, true, true, true, true, true, true, true, true, true, true, false] rfl rfl (by kernel_rfl) (by decide) (fun K hK => ?_)
        refine skip_ (by rfl) rfl (skip_store rfl (store6 _ _ _ _ _ _ _ _ _ _ _ _ _ _ HH.out.1)) ?_
        refine hK.out _ _ (HS.out.heap (put6_heap _ _ _ _ _ _ _ _ _ (by omega)) (put6_heap _ _ _ _ _ _ _ _ _ (by omega)) (put6_heap _ _ _ _ _ _ _ _ _ (by omega))) (fun hHeld => ?_)
        have HV := Lib.hid (And.intro (put6_self W.drew (w.heap.size + 1 + 1) i ff (nx x i) eee (wh x i) x.pr _ _ _ _ _ _ _ HH.out.1) (And.intro ((put6_heap W.drew (w.heap.size + 1 + 1) (w.heap.size + 1 + 1 + 1) i ff (nx x i) eee (wh x i) x.pr (by omega)).trans HH.out.2.1) (And.intro (put6_below (HH.out.2.2.trans (below_drew1 (Below.refl w.heap.size W))) (w.heap.size + 1 + 1) i ff (nx x i) eee (wh x i) x.pr (by omega)) (put6_keeps (B := w2.heap.size) (W := W) (w.heap.size + 1 + 1) i ff (nx x i) eee (wh x i) x.pr (by omega)))))
        generalize put6 W.drew (w.heap.size + 1 + 1) i ff (nx x i) eee (wh x i) x.pr = V at HV hHeld ⊢
        refine one_ (i := 18) (N := none) #[true, true, true, true, true, true, true, true, true, true, true, true, true, true, true, true, true, true, true] rfl rfl (by kernel_rfl) (by decide) (fun K hK => ?_)
        refine skip_ (by rfl) rfl (skip_store rfl (store1 _ _ _ _ HV.out.2.1)) ?_
        refine hK.out _ _ (hHeld.heap (Below.heap_setCell _ _ _ _ (by simp only []; omega)) (Below.heap_setCell _ _ _ _ (by simp only []; omega)) (Below.heap_setCell _ _ _ _ (by simp only []; omega))) (fun hHeld => ?_)
        refine done_in (by kernel_rfl) ?_
        gi_wp2
        refine ⟨(by first | exact keeps_set HV.out.2.2.2 _ (by omega) | (rw [← s2]; exact keeps_set HV.out.2.2.2 _ (by omega))), ⟨rfl, i, rfl, (blk_far HV.out.1 (by simp only []; omega) _).trans (by rw [pc, hff, hee]), ?_⟩, HV.out.2.2.1.setCell (by simp only []; omega) _⟩
        rw [hin]
        exact blk_set HV.out.2.1 0 _
    · have d1 := decide_eq_false h1
      have hin : inP x i on = false := by simp [inP, hff, hee, h1]
      refine start_in (m := 19) (S := S0 Bp w.heap.size (w.heap.size + 1) i ff (nx x i) eee (wh x i) x.pr x.si on) (ds := []) #[false, false, false, false, false, false, false, false, false, false, false, false, false, false, false, false, false, false, false] hmo (by kernel_rfl) (fun _ _ h => h) rfl rfl HS.out (fun hHeld => ?_)
      refine take_ (i := 0) (N := some 16) (v := ?_) (a' := ?_) #[true, false, false, false, false, false, false, false, false, false, false, false, false, false, false, false, false, false, false] rfl rfl (by kernel_rfl) (fun _ _ _ h => h) (Or.inl ⟨by rfl, ?_⟩) hHeld ?_ ?_
      rotate_left
      · rintro w' ⟨s0, s1, s2, s3, s4, s5, s6, s7⟩
        go_simp
        with_reducible rfl
      rotate_left
      · simp only [Act.put, List.setIfInBounds_toArray, List.set_cons_zero, List.set_cons_succ, i64_w, i32_w]
        rfl
      refine take_ (i := 1) (N := some 17) (v := ?_) (a' := ?_) #[true, true, false, false, false, false, false, false, false, false, false, false, false, false, false, false, false, false, false] rfl rfl (by kernel_rfl) (fun _ _ _ h => h) (Or.inl ⟨by rfl, ?_⟩) hHeld ?_ ?_
      rotate_left
      · rintro w' ⟨s0, s1, s2, s3, s4, s5, s6, s7⟩
        go_simp
        with_reducible rfl
      rotate_left
      · simp only [Act.put, List.setIfInBounds_toArray, List.set_cons_zero, List.set_cons_succ, i64_w, i32_w]
        rfl
      refine pure_ (i := 2) (N := some 18) (v := ?_) (a' := ?_) #[true, true, true, false, false, false, false, false, false, false, false, false, false, false, false, false, false, false, false] rfl rfl (by kernel_rfl) (fun _ _ _ h => h) (Or.inl ⟨by rfl, ?_⟩) ?_ ?_
      rotate_left
      · intro w'
        go_simp
        with_reducible rfl
      rotate_left
      · simp only [Act.put, List.setIfInBounds_toArray, List.set_cons_zero, List.set_cons_succ, i64_w, i32_w]
        rfl
      refine take_ (i := 3) (N := some 19) (v := ?_) (a' := ?_) #[true, true, true, true, false, false, false, false, false, false, false, false, false, false, false, false, false, false, false] rfl rfl (by kernel_rfl) (fun _ _ _ h => h) (Or.inl ⟨by rfl, ?_⟩) hHeld ?_ ?_
      rotate_left
      · rintro w' ⟨s0, s1, s2, s3, s4, s5, s6, s7⟩
        go_simp
        with_reducible rfl
      rotate_left
      · simp only [Act.put, List.setIfInBounds_toArray, List.set_cons_zero, List.set_cons_succ, i64_w, i32_w]
        rfl
      refine pure_ (i := 4) (N := some 20) (v := ?_) (a' := ?_) #[true, true, true, true, true, false, false, false, false, false, false, false, false, false, false, false, false, false, false] rfl rfl (by kernel_rfl) (fun _ _ _ h => h) (Or.inl ⟨by rfl, ?_⟩) ?_ ?_
      rotate_left
      · intro w'
        go_simp
        with_reducible rfl
      rotate_left
      · simp only [Act.put, List.setIfInBounds_toArray, List.set_cons_zero, List.set_cons_succ, i64_w, i32_w]
        rfl
      refine pure_ (i := 5) (N := some 21) (v := ?_) (a' := ?_) #[true, true, true, true, true, true, false, false, false, false, false, false, false, false, false, false, false, false, false] rfl rfl (by kernel_rfl) (fun _ _ _ h => h) (Or.inl ⟨by rfl, ?_⟩) ?_ ?_
      rotate_left
      · intro w'
        go_simp
        with_reducible rfl
      rotate_left
      · simp only [Act.put, List.setIfInBounds_toArray, List.set_cons_zero, List.set_cons_succ, i64_w, i32_w]
        rfl
      refine pure_ (i := 6) (N := some 22) (v := undef) (a' := ?_) #[true, true, true, true, true, true, true, false, false, false, false, false, false, false, false, false, false, false, false] rfl rfl (by kernel_rfl) (fun _ _ _ h => h) (Or.inr ⟨by rfl, rfl⟩) ?_ ?_
      rotate_left
      · simp only [Act.put, List.setIfInBounds_toArray, List.set_cons_zero, List.set_cons_succ, i64_w, i32_w]
        rfl
      refine pure_ (i := 7) (N := some 23) (v := undef) (a' := ?_) #[true, true, true, true, true, true, true, true, false, false, false, false, false, false, false, false, false, false, false] rfl rfl (by kernel_rfl) (fun _ _ _ h => h) (Or.inr ⟨by rfl, rfl⟩) ?_ ?_
      rotate_left
      · simp only [Act.put, List.setIfInBounds_toArray, List.set_cons_zero, List.set_cons_succ, i64_w, i32_w]
        rfl
      refine pure_ (i := 8) (N := some 24) (v := undef) (a' := ?_) #[true, true, true, true, true, true, true, true, true, false, false, false, false, false, false, false, false, false, false] rfl rfl (by kernel_rfl) (fun _ _ _ h => h) (Or.inr ⟨by rfl, rfl⟩) ?_ ?_
      rotate_left
      · simp only [Act.put, List.setIfInBounds_toArray, List.set_cons_zero, List.set_cons_succ, i64_w, i32_w]
        rfl
      refine pure_ (i := 9) (N := some 25) (v := undef) (a' := ?_) #[true, true, true, true, true, true, true, true, true, true, false, false, false, false, false, false, false, false, false] rfl rfl (by kernel_rfl) (fun _ _ _ h => h) (Or.inr ⟨by rfl, rfl⟩) ?_ ?_
      rotate_left
      · simp only [Act.put, List.setIfInBounds_toArray, List.set_cons_zero, List.set_cons_succ, i64_w, i32_w]
        rfl
      refine pure_ (i := 10) (N := some 26) (v := ?_) (a' := ?_) #[true, true, true, true, true, true, true, true, true, true, true, false, false, false, false, false, false, false, false] rfl rfl (by kernel_rfl) (fun _ _ _ h => h) (Or.inl ⟨by rfl, ?_⟩) ?_ ?_
      rotate_left
      · intro w'
        go_simp
        with_reducible rfl
      rotate_left
      · simp only [Act.put, List.setIfInBounds_toArray, List.set_cons_zero, List.set_cons_succ, i64_w, i32_w]
        rfl
      refine pure_ (i := 11) (N := some 27) (v := ?_) (a' := ?_) #[true, true, true, true, true, true, true, true, true, true, true, true, false, false, false, false, false, false, false] rfl rfl (by kernel_rfl) (fun _ _ _ h => h) (Or.inl ⟨by rfl, ?_⟩) ?_ ?_
      rotate_left
      · intro w'
        go_simp
        with_reducible rfl
      rotate_left
      · simp only [Act.put, List.setIfInBounds_toArray, List.set_cons_zero, List.set_cons_succ, i64_w, i32_w]
        rfl
      refine pure_ (i := 12) (N := some 28) (v := undef) (a' := ?_) #[true, true, true, true, true, true, true, true, true, true, true, true, true, false, false, false, false, false, false] rfl rfl (by kernel_rfl) (fun _ _ _ h => h) (Or.inr ⟨by rfl, rfl⟩) ?_ ?_
      rotate_left
      · simp only [Act.put, List.setIfInBounds_toArray, List.set_cons_zero, List.set_cons_succ, i64_w, i32_w]
        rfl
      refine pure_ (i := 13) (N := some 29) (v := undef) (a' := ?_) #[true, true, true, true, true, true, true, true, true, true, true, true, true, true, false, false, false, false, false] rfl rfl (by kernel_rfl) (fun _ _ _ h => h) (Or.inr ⟨by rfl, rfl⟩) ?_ ?_
      rotate_left
      · simp only [Act.put, List.setIfInBounds_toArray, List.set_cons_zero, List.set_cons_succ, i64_w, i32_w]
        rfl
      refine pure_ (i := 14) (N := some 30) (v := undef) (a' := ?_) #[true, true, true, true, true, true, true, true, true, true, true, true, true, true, true, false, false, false, false] rfl rfl (by kernel_rfl) (fun _ _ _ h => h) (Or.inr ⟨by rfl, rfl⟩) ?_ ?_
      rotate_left
      · simp only [Act.put, List.setIfInBounds_toArray, List.set_cons_zero, List.set_cons_succ, i64_w, i32_w]
        rfl
      refine pure_ (i := 15) (N := some 31) (v := undef) (a' := ?_) #[true, true, true, true, true, true, true, true, true, true, true, true, true, true, true, true, false, false, false] rfl rfl (by kernel_rfl) (fun _ _ _ h => h) (Or.inr ⟨by rfl, rfl⟩) ?_ ?_
      rotate_left
      · simp only [Act.put, List.setIfInBounds_toArray, List.set_cons_zero, List.set_cons_succ, i64_w, i32_w]
        rfl
      refine pure_ (i := 16) (N := some 32) (v := ?_) (a' := ?_) #[true, true, true, true, true, true, true, true, true, true, true, true, true, true, true, true, true, false, false] rfl rfl (by kernel_rfl) (fun _ _ _ h => h) (Or.inl ⟨by rfl, ?_⟩) ?_ ?_
      rotate_left
      · intro w'
        go_simp
        with_reducible rfl
      rotate_left
      · simp only [Act.put, List.setIfInBounds_toArray, List.set_cons_zero, List.set_cons_succ, i64_w, i32_w]
        rfl
      refine one_ (i := 17) (N := none) #[true, true, true, true, true, true, true, true, true, true, true, true, true, true, true, true, true, true, false] rfl rfl (by kernel_rfl) (by decide) (fun K hK => ?_)
      refine skip_ (by rfl) rfl (skip_store rfl (store6 _ _ _ _ _ _ _ _ _ _ _ _ _ _ HH.out.1)) ?_
      refine hK.out _ _ (HS.out.heap (put6_heap _ _ _ _ _ _ _ _ _ (by omega)) (put6_heap _ _ _ _ _ _ _ _ _ (by omega)) (put6_heap _ _ _ _ _ _ _ _ _ (by omega))) (fun hHeld => ?_)
      have HV := Lib.hid (And.intro (put6_self W.drew (w.heap.size + 1 + 1) i ff (nx x i) eee (wh x i) x.pr _ _ _ _ _ _ _ HH.out.1) (And.intro ((put6_heap W.drew (w.heap.size + 1 + 1) (w.heap.size + 1 + 1 + 1) i ff (nx x i) eee (wh x i) x.pr (by omega)).trans HH.out.2.1) (And.intro (put6_below (HH.out.2.2.trans (below_drew1 (Below.refl w.heap.size W))) (w.heap.size + 1 + 1) i ff (nx x i) eee (wh x i) x.pr (by omega)) (put6_keeps (B := w2.heap.size) (W := W) (w.heap.size + 1 + 1) i ff (nx x i) eee (wh x i) x.pr (by omega)))))
      generalize put6 W.drew (w.heap.size + 1 + 1) i ff (nx x i) eee (wh x i) x.pr = V at HV hHeld ⊢
      refine one_ (i := 18) (N := none) #[true, true, true, true, true, true, true, true, true, true, true, true, true, true, true, true, true, true, true] rfl rfl (by kernel_rfl) (by decide) (fun K hK => ?_)
      refine skip_ (by rfl) rfl (skip_store rfl (store1 _ _ _ _ HV.out.2.1)) ?_
      refine hK.out _ _ (hHeld.heap (Below.heap_setCell _ _ _ _ (by simp only []; omega)) (Below.heap_setCell _ _ _ _ (by simp only []; omega)) (Below.heap_setCell _ _ _ _ (by simp only []; omega))) (fun hHeld => ?_)
      refine done_in (by kernel_rfl) ?_
      gi_wp2
      refine ⟨(by first | exact keeps_set HV.out.2.2.2 _ (by omega) | (rw [← s2]; exact keeps_set HV.out.2.2.2 _ (by omega))), ⟨rfl, i, rfl, (blk_far HV.out.1 (by simp only []; omega) _).trans (by rw [pc, hff, hee]), ?_⟩, HV.out.2.2.1.setCell (by simp only []; omega) _⟩
      rw [hin]
      exact blk_set HV.out.2.1 0 _
  case done =>
    rintro D ys W hD hys ⟨hp, ⟨hs, ho, hr, hb1⟩, hB⟩ hK
    have hn0 : n = 0 := by
      have := congrArg List.length hys
      rw [hp, ix_len] at this
      exact this.symm
    have r0 := blk_cell hr 0
    have r1 := blk_cell hr 1
    have r2 := blk_cell hr 2
    have r3 := blk_cell hr 3
    have r4 := blk_cell hr 4
    have r5 := blk_cell hr 5
    have q0 := blk_frozen hr 0
    have q1 := blk_frozen hr 1
    have q2 := blk_frozen hr 2
    have q3 := blk_frozen hr 3
    have q4 := blk_frozen hr 4
    have q5 := blk_frozen hr 5
    have b1 := hb1.cell
    have b2 := hb1.frozen
    simp [zc] at r0 r1 r2 r3 r4 r5
    have HK := Lib.hid hK
    have HH := Lib.hid (And.intro hr (And.intro hb1 hB))
    clear hK hs ho hr hb1 hB hys hp
    gi_wp2
    have hp6 := put6_self W (w.heap.size + 1 + 1) 0 0 0 0 0 0 _ _ _ _ _ _ _ HH.out.1
    have hk6 := (put6_heap W (w.heap.size + 1 + 1) D 0 0 0 0 0 0 (by omega)).trans HK.out
    have hb6 := (put6_heap W (w.heap.size + 1 + 1) (w.heap.size + 1 + 1 + 1) 0 0 0 0 0 0 (by omega)).trans HH.out.2.1
    have hB6 := put6_below HH.out.2.2 (w.heap.size + 1 + 1) 0 0 0 0 0 0 (by omega)
    change bodyPostM _ _ _ _ _ _ _ ((put6 W (w.heap.size + 1 + 1) 0 0 0 0 0 0).setCell _ _)
    generalize put6 W (w.heap.size + 1 + 1) 0 0 0 0 0 0 = V at hp6 hk6 hb6 hB6 ⊢
    have hk7 : (V.setCell ⟨w.heap.size + 1 + 1 + 1, 0, none⟩ (.bool false)).heap[D]? = some (.deferred (some [])) := (Below.heap_setCell V ⟨w.heap.size + 1 + 1 + 1, 0, none⟩ (.bool false) D (by simp only []; omega)).trans hk6
    have hp7 := blk_far hp6 (p := ⟨w.heap.size + 1 + 1 + 1, 0, none⟩) (by simp only []; omega) (.bool false)
    have hb7 := blk_set hb6 0 (.bool false)
    have hB7 := hB6.setCell (p := ⟨w.heap.size + 1 + 1 + 1, 0, none⟩) (by simp only []; omega) (.bool false)
    generalize V.setCell ⟨w.heap.size + 1 + 1 + 1, 0, none⟩ (.bool false) = U at hk7 hp7 hb7 hB7 ⊢
    refine ⟨by simp, .inl ⟨_, _, rfl, run_takeDeferred hk7, ?_⟩⟩
    have hp8 := (World.putObj_heap_other (o := .deferred none) (show w.heap.size + 1 + 1 ≠ D by omega)).trans hp7
    have hb8 := (World.putObj_heap_other (o := .deferred none) (show w.heap.size + 1 + 1 + 1 ≠ D by omega)).trans hb7
    refine ⟨.tuple #[.agg zc, .bool false], ?_, ?_, (b0.trans hB7).trans (belowK_b (w := w) (Nat.le_refl _) _ D _ _ (by have := b0.size; omega) hk7 rfl rfl)⟩
    · have t0 := blk_cell hp8 0
      have t1 := blk_cell hp8 1
      have t2 := blk_cell hp8 2
      have t3 := blk_cell hp8 3
      have t4 := blk_cell hp8 4
      have t5 := blk_cell hp8 5
      have t6 := blk_cell hb8 0
      simp at t0 t1 t2 t3 t4 t5 t6
      simp [results, Tryd.results25, go_sem, t0, t1, t2, t3, t4, t5, t6, zc]
    · rw [← HR.out, if_neg (by have := HN.out; omega)]
  case stop =>
    rintro D c pre W hD ⟨m, hm, hpre⟩ ⟨⟨rfl, i, hi, hp, hb1⟩, hB⟩ hK
    have hi' : i = x.bi - 1 := by
      rw [hi, ix_succ] at hpre
      have hl := congrArg List.length hpre
      simp only [List.length_append, ix_len, List.length_cons, List.length_nil] at hl
      obtain rfl : m = 0 := by omega
      rw [ix_zero, List.nil_append] at hpre
      have := List.head_eq_of_cons_eq hpre
      simpa using this
    have HK := Lib.hid hK
    have HH := Lib.hid (And.intro hp (And.intro hb1 hB))
    clear hK hp hb1 hB hpre
    subst hi'
    gi_wp2
    refine ⟨by simp, .inl ⟨_, _, rfl, run_takeDeferred HK.out, ?_⟩⟩
    have hp8 := (World.putObj_heap_other (o := .deferred none) (show w.heap.size + 1 + 1 ≠ D by omega)).trans HH.out.1
    have hb8 := (World.putObj_heap_other (o := .deferred none) (show w.heap.size + 1 + 1 + 1 ≠ D by omega)).trans HH.out.2.1
    refine ⟨.tuple #[.agg (pc x (x.bi - 1)), .bool (inP x (x.bi - 1) on)], ?_, ?_, (b0.trans HH.out.2.2).trans (belowK_b (w := w) (Nat.le_refl _) _ D _ _ (by have := b0.size; omega) HK.out rfl rfl)⟩
    · have t0 := blk_cell hp8 0
      have t1 := blk_cell hp8 1
      have t2 := blk_cell hp8 2
      have t3 := blk_cell hp8 3
      have t4 := blk_cell hp8 4
      have t5 := blk_cell hp8 5
      have t6 := blk_cell hb8 0
      simp [pc] at t0 t1 t2 t3 t4 t5
      simp at t6
      simp [results, Tryd.results25, go_sem, t0, t1, t2, t3, t4, t5, t6, pc]
    · rw [← HR.out, if_pos (by have := HN.out; omega)]
set_option maxRecDepth 100000 in
set_option maxHeartbeats 4000000 in
theorem last_none (x : Su) (on : Int) (w : World) (hb : x.bi ≤ 0) :
    Calls Tryd.prog 25 #[.agg (sc x), .int .i64 on] w fun e w' => e = .returned (.tuple #[.agg zc, .bool false]) ∧ Below w.heap.size w w' := by
  have h0 : ¬ (0 < x.bi) := by omega
  clear hb
  refine (callsIn_wide (n := 3)).1 ?_
  refine callsIn_of_wp Tryd.func25 rfl trivial ?_ rfl
  simp only [Tryd.ntmps25, List.size_toArray, List.length_cons, List.length_nil, Nat.reduceAdd, Nat.reduceSub, Array.replicate_succ, Array.replicate_zero, List.push_toArray, List.append_toArray, List.nil_append, List.cons_append]
  unfold sc
  gi_wp2_with fail
  obtain ⟨f1, f2, f3, f4⟩ := four w (.cells (sc x) 26 (0, 0)) (.cells #[.int .i64 on] 3 (0, 0)) (.cells zc 68 (0, 0)) (.cells #[.bool false] 4 (0, 0))
  refine ⟨rfl, .tuple #[.agg zc, .bool false], ?_, rfl, (((Below.refl _ w).alloc (Nat.le_refl _) _ |>.alloc (by simp) _).alloc (by simp; omega) _).alloc (by simp; omega) _⟩
  have t0 := blk_cell f3 0
  have t1 := blk_cell f3 1
  have t2 := blk_cell f3 2
  have t3 := blk_cell f3 3
  have t4 := blk_cell f3 4
  have t5 := blk_cell f3 5
  have t6 := blk_cell f4 0
  simp [zc, sc] at t0 t1 t2 t3 t4 t5 t6
  simp [results, Tryd.results25, go_sem, t0, t1, t2, t3, t4, t5, t6, zc]
end Go.Proofs.YtibkbimhedoafaaDoor.psub
namespace Go.Proofs.YtibkbimhedoafaaDoor.PH
open Go.RowKit Go.Proofs.YtibkbimhedoafaaDoorW.PrintWords Sb
noncomputable def subs_last.f (a0_0 a0_1 a0_2 a0_3 a0_4 a0_5 a0_6 a0_7 a0_8 a0_9 a1 : Int) : Option (Int × Int × Int × Int × Int × Int × Bool) :=
  let x : Su := ⟨a0_0, a0_1, a0_2, a0_3, a0_4, a0_5, a0_6, a0_7, a0_8, a0_9⟩
  if a0_7 ≤ 0 then some (0, 0, 0, 0, 0, 0, false)
  else if okC x = true ∧ a0_7 ≤ tp x + 1 then
    (if a0_7 ≤ tp x then some (a0_7 - 1, fr x (a0_7 - 1), nx x (a0_7 - 1), ee x (a0_7 - 1), wh x (a0_7 - 1), a0_6, psub.inP x (a0_7 - 1) a1) else some (0, 0, 0, 0, 0, 0, false))
  else none
theorem subs_last.calls (a0_0 a0_1 a0_2 a0_3 a0_4 a0_5 a0_6 a0_7 a0_8 a0_9 a1 : Int) (r1 r2 r3 r4 r5 r6 : Int) (r7 : Bool) (w : World) (HTab : Aside0 (Tab w)) (h : subs_last.f a0_0 a0_1 a0_2 a0_3 a0_4 a0_5 a0_6 a0_7 a0_8 a0_9 a1 = some (r1, r2, r3, r4, r5, r6, r7)) :
    Calls Tryd.prog 25 #[.agg #[.int .u64 a0_0, .int .u64 a0_1, .int .u64 a0_2, .int .i64 a0_3, .int .i64 a0_4, .int .i64 a0_5, .int .i64 a0_6, .int .i64 a0_7, .int .i64 a0_8, .int .i64 a0_9], .int .i64 a1] w fun e w' =>
      e = .returned (.tuple #[.agg #[.int .i64 r1, .int .i64 r2, .int .i64 r3, .int .i64 r4, .int .i64 r5, .int .i64 r6], .bool r7]) ∧ Below w.heap.size w w' := by
  unfold subs_last.f at h
  simp only [] at h
  by_cases h0 : a0_7 ≤ 0
  · rw [if_pos h0] at h
    simp only [Option.some.injEq, Prod.mk.injEq] at h
    obtain ⟨rfl, rfl, rfl, rfl, rfl, rfl, rfl⟩ := h
    exact psub.last_none ⟨a0_0, a0_1, a0_2, a0_3, a0_4, a0_5, a0_6, a0_7, a0_8, a0_9⟩ a1 w h0
  · rw [if_neg h0] at h
    by_cases hc : okC ⟨a0_0, a0_1, a0_2, a0_3, a0_4, a0_5, a0_6, a0_7, a0_8, a0_9⟩ = true ∧ a0_7 ≤ tp ⟨a0_0, a0_1, a0_2, a0_3, a0_4, a0_5, a0_6, a0_7, a0_8, a0_9⟩ + 1
    · rw [if_pos hc] at h
      have := psub.last_any ⟨a0_0, a0_1, a0_2, a0_3, a0_4, a0_5, a0_6, a0_7, a0_8, a0_9⟩ a1 w HTab.out hc.1 hc.2 (by simp only []; omega)
      simp only [] at this
      by_cases ht : a0_7 ≤ tp ⟨a0_0, a0_1, a0_2, a0_3, a0_4, a0_5, a0_6, a0_7, a0_8, a0_9⟩
      · rw [if_pos ht] at h this
        simp only [Option.some.injEq, Prod.mk.injEq] at h
        obtain ⟨rfl, rfl, rfl, rfl, rfl, rfl, rfl⟩ := h
        exact this
      · rw [if_neg ht] at h this
        simp only [Option.some.injEq, Prod.mk.injEq] at h
        obtain ⟨rfl, rfl, rfl, rfl, rfl, rfl, rfl⟩ := h
        exact this
    · rw [if_neg hc] at h
      cases h
end Go.Proofs.YtibkbimhedoafaaDoor.PH
