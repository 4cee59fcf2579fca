/- What subs.Due answers: the loop (a walk). The table of the days ahead of months holds its numbers. -/
-- HYB
import Derived.Test.YtibkbimhedoafaaDoorPSubC
namespace Go.Proofs.YtibkbimhedoafaaDoor.psub
open Go.RowKit Go.Proofs.YtibkbimhedoafaaDoor.base Go.Shelf Go.Proofs.YtibkbimhedoafaaDoor.rl Sb
open Go.Proofs.YtibkbimhedoafaaDoor.PH (subs_Check.f subs_Check.calls subs_day.f subs_day.calls subs_period_on.f subs_period_on.calls subs_period_at.f prorate_On.f k47 S47 k47_mkM)
open Go.Proofs.YtibkbimhedoafaaDoor.lift
open Go.Proofs.YtibkbimhedoafaaDoor.civ (Tab)
open Go.Proofs.YtibkbimhedoafaaDoorW.PrintLast (take_ pure_ one_ skip_ last_ goes_ norm_ value_ i64_w i32_w)
open Go.Proofs.YtibkbimhedoafaaDoorW.PrintWords
set_option linter.unusedSimpArgs false
attribute [local go_sem] Oper.semAt_some min2_int min_two

/-- What falls on a period's days. -/
theorem infoBill : (Tryd.prog.info? 47).map (fun i => (i.zero, i.size, i.bytes)) = some (some (.agg #[.int .i64 0, .int .i64 0, .int .i64 0, .int .i64 0]), 4, 32) := by kernel_rfl
noncomputable def onF (x : Su) (i : Int) : Int := (subs_period_on.f i (fr x i) (nx x i) (ee x i) (wh x i) x.pr (fr x i) (ee x i)).getD 0
theorem onF_some (x : Su) (i : Int) : subs_period_on.f i (fr x i) (nx x i) (ee x i) (wh x i) x.pr (fr x i) (ee x i) = some (onF x i) := by
  unfold onF
  simp [subs_period_on.f, subs_period_at.f, prorate_On.f]
noncomputable def bl (x : Su) (i : Int) : S47 := ⟨i, fr x i, ee x i, onF x i⟩
/-- Does the loop stop at a period, so many being billed? -/
noncomputable def stopB (x : Su) (today most : Int) (i : Int) (m : Nat) : Bool :=
  decide (today < fr x i) || (decide (x.en ≠ 0) && decide (x.en ≤ fr x i)) || decide ((m : Int) = most) || decide (2000 ≤ i)

/-- The boxes. -/
def Fx (ws : Nat) (x : Su) (today most : Int) (W : World) : Prop :=
  W.heap[ws]? = some (.cells (sc x) 26 (0, 0)) ∧ W.heap[ws + 1]? = some (.cells #[.int .i64 today] 3 (0, 0)) ∧ W.heap[ws + 1 + 1]? = some (.cells #[.int .i64 most] 3 (0, 0)) ∧ W.heap[ws + 1 + 1 + 1]? = some (.cells zs 26 (0, 0))
/-- What has been billed. -/
def Out (ws Bo : Nat) (bK bS : Nat) (x : Su) (ys : List Int) (W : World) : Prop :=
  ∃ v, W.heap[Bo]? = some (.cells #[v] 41 (0, 0)) ∧ Kd.R k47 47 W ws (fun k => k ≠ bK ∧ k ≠ bS) v (ys.map (bl x))
def St (ws Bo bK bS : Nat) (x : Su) (today most : Int) (ys : List Int) (W : World) : Prop := Fx ws x today most W ∧ Out ws Bo bK bS x ys W
theorem St.grown {ws Bo bK bS : Nat} {x : Su} {today most : Int} {ys : List Int} {A B : World} {row : Option Nat} (h : St ws Bo bK bS x today most ys A) (hg : A.grownBy B row)
    (hne : ∀ r, row = some r → r ≠ ws ∧ r ≠ ws + 1 ∧ r ≠ ws + 1 + 1 ∧ r ≠ ws + 1 + 1 + 1 ∧ r ≠ Bo) (hr : ∀ r, row = some r → r = bK ∨ ∃ o, A.heap[r]? = some o ∧ o.isCells = false) : St ws Bo bK bS x today most ys B := by
  obtain ⟨⟨h1, h2, h3, h4⟩, v, hv, hR⟩ := h
  refine ⟨⟨blk_grown h1 hg (fun e => (hne _ e.symm).1 rfl), blk_grown h2 hg (fun e => (hne _ e.symm).2.1 rfl), blk_grown h3 hg (fun e => (hne _ e.symm).2.2.1 rfl), blk_grown h4 hg (fun e => (hne _ e.symm).2.2.2.1 rfl)⟩, v, blk_grown hv hg (fun e => (hne _ e.symm).2.2.2.2 rfl), ?_⟩
  refine Kd.R_grown2 hR rfl hg (fun k e e2 => ?_)
  rcases hr k e with rfl | ⟨o, ho, hc⟩
  · exact (hR.1 _ e2.symm).1 rfl
  · obtain ⟨_, _, _, q, _, cells, hcells⟩ := (Kd.R_bound hR).1 k e2.symm
    rw [ho] at hcells
    cases hcells
    cases hc
theorem St.below {ws Bo bK bS : Nat} {x : Su} {today most : Int} {ys : List Int} {A B : World} (h : St ws Bo bK bS x today most ys A) (hb : Below A.heap.size A B) : St ws Bo bK bS x today most ys B :=
  h.grown (grown_of hb) (fun _ e => (by cases e)) (fun _ e => (by cases e))
theorem bl_len (x : Su) (ys : List Int) : (ys.map (bl x)).length = ys.length := by simp
/-- So many periods are billed. -/
def Stops (x : Su) (today most : Int) (n m : Nat) : Prop := m ≤ n ∧ (∀ j : Nat, j < m → stopB x today most (x.bi + j) j = false) ∧ (m = n ∨ stopB x today most (x.bi + m) m = true)
/-- None of these stopped the loop. -/
def NoStop (x : Su) (today most : Int) (ys : List Int) : Prop := ∀ (q : List Int) (i : Int) (r : List Int), ys = q ++ i :: r → stopB x today most i q.length = false
/-- What the last region of a round reads. -/
def S8 (Bp Bo : Nat) (i ff ee : Int) (v : Value) (w' : World) : Prop :=
  w'.cell? ⟨Bp, 0, none⟩ = some (.int .i64 i) ∧ w'.cell? ⟨Bp, 1, none⟩ = some (.int .i64 ff) ∧ w'.cell? ⟨Bp, 3, none⟩ = some (.int .i64 ee) ∧ w'.cell? ⟨Bo, 0, none⟩ = some v
theorem S8.heap {Bp Bo : Nat} {i ff ee : Int} {v : Value} {w' V : World} (h : S8 Bp Bo i ff ee v w') (h1 : V.heap[Bp]? = w'.heap[Bp]?) (h2 : V.heap[Bo]? = w'.heap[Bo]?) : S8 Bp Bo i ff ee v V := by
  unfold S8 World.cell? at *
  simp only [h1, h2]
  exact h
theorem store_sl (W : World) (b : Nat) (A : Option Addr) (n c : Nat) (z : Value) (h : W.heap[b]? = some (.cells #[z] 41 (0, 0))) :
    (Instr.storeAt 41 (.pointer (some ⟨b, 0, none⟩)) (.slice A n c)).run Tryd.prog W = .ok () (W.setCell ⟨b, 0, none⟩ (.slice A n c)) := by
  have r0 := blk_cell h 0
  have q0 := blk_frozen h 0
  simp at r0
  clear h
  go_simp
theorem NoStop.snoc {x : Su} {today most : Int} {pre : List Int} {i : Int} (h : NoStop x today most pre) (hi : stopB x today most i pre.length = false) : NoStop x today most (pre ++ [i]) := by
  intro q j r e
  rcases List.eq_nil_or_concat r with rfl | ⟨r', l, rfl⟩
  · obtain ⟨rfl, h2⟩ := List.append_inj' e rfl
    simp only [List.cons.injEq, and_true] at h2
    subst h2
    exact hi
  · have : pre ++ [i] = (q ++ j :: r') ++ [l] := by rw [e]; simp
    obtain ⟨h1, _⟩ := List.append_inj' this rfl
    exact h q j r' h1
theorem NoStop.all {x : Su} {today most : Int} {m : Nat} (h : NoStop x today most (ix x.bi m)) (j : Nat) (hj : j < m) : stopB x today most (x.bi + j) j = false := by
  obtain ⟨r, hr⟩ : ∃ r, m = j + 1 + r := ⟨m - (j + 1), by omega⟩
  have e : ix x.bi m = ix x.bi j ++ (x.bi + j) :: (ix (x.bi + ((j + 1 : Nat) : Int)) r) := by
    subst hr
    unfold ix
    rw [List.range_add, List.map_append, List.range_succ, List.map_append, List.map_map, List.append_assoc]
    congr 1
    simp only [List.map_cons, List.map_nil, List.cons_append, List.nil_append, List.cons.injEq, true_and]
    apply List.map_congr_left
    intro a _
    simp only [Function.comp]
    omega
  have := h (ix x.bi j) (x.bi + j) _ e
  rwa [ix_len] at this
/-- The world behind the store of a subscription. -/
def put10 (W : World) (b : Nat) (y : Su) : World := ((((((((((W.setCell ⟨b, 0, none⟩ (.int .u64 y.id)).setCell ⟨b, 1, none⟩ (.int .u64 y.cu)).setCell ⟨b, 2, none⟩ (.int .u64 y.pl)).setCell ⟨b, 3, none⟩ (.int .i64 y.st)).setCell ⟨b, 4, none⟩ (.int .i64 y.an)).setCell ⟨b, 5, none⟩ (.int .i64 y.ev)).setCell ⟨b, 6, none⟩ (.int .i64 y.pr)).setCell ⟨b, 7, none⟩ (.int .i64 y.bi)).setCell ⟨b, 8, none⟩ (.int .i64 y.si)).setCell ⟨b, 9, none⟩ (.int .i64 y.en))
theorem put10_self (W : World) (b : Nat) (y : Su) (t : TypeId) (h : W.heap[b]? = some (.cells zs t (0, 0))) : (put10 W b y).heap[b]? = some (.cells (sc y) t (0, 0)) := by
  unfold zs at h
  have := (blk_set (blk_set (blk_set (blk_set (blk_set (blk_set (blk_set (blk_set (blk_set (blk_set h 0 (.int .u64 y.id)) 1 (.int .u64 y.cu)) 2 (.int .u64 y.pl)) 3 (.int .i64 y.st)) 4 (.int .i64 y.an)) 5 (.int .i64 y.ev)) 6 (.int .i64 y.pr)) 7 (.int .i64 y.bi)) 8 (.int .i64 y.si)) 9 (.int .i64 y.en))
  simpa [put10, sc] using this
theorem put10_heap (W : World) (b g : Nat) (y : Su) (h : g ≠ b) : (put10 W b y).heap[g]? = W.heap[g]? := by
  have e := fun (V : World) (j : Nat) (u : Value) => Below.heap_setCell V ⟨b, j, none⟩ u g h
  simp only [put10, e]
theorem put10_below {m : Nat} {w W : World} (h : Below m w W) (b : Nat) (y : Su) (hb : m ≤ b) : Below m w (put10 W b y) := (((((((((h.setCell hb _).setCell hb _).setCell hb _).setCell hb _).setCell hb _).setCell hb _).setCell hb _).setCell hb _).setCell hb _).setCell hb _
theorem store10 (W : World) (b : Nat) (y : Su) (h : W.heap[b]? = some (.cells zs 26 (0, 0))) :
    (Instr.storeAt 26 (.pointer (some ⟨b, 0, none⟩)) (.agg (sc y))).run Tryd.prog W = .ok () (put10 W b y) := by
  have r0 := blk_cell h 0
  have q0 := blk_frozen h 0
  have r1 := blk_cell h 1
  have q1 := blk_frozen h 1
  have r2 := blk_cell h 2
  have q2 := blk_frozen h 2
  have r3 := blk_cell h 3
  have q3 := blk_frozen h 3
  have r4 := blk_cell h 4
  have q4 := blk_frozen h 4
  have r5 := blk_cell h 5
  have q5 := blk_frozen h 5
  have r6 := blk_cell h 6
  have q6 := blk_frozen h 6
  have r7 := blk_cell h 7
  have q7 := blk_frozen h 7
  have r8 := blk_cell h 8
  have q8 := blk_frozen h 8
  have r9 := blk_cell h 9
  have q9 := blk_frozen h 9
  simp [zs] at r0 r1 r2 r3 r4 r5 r6 r7 r8 r9
  clear h
  unfold put10 sc
  go_simp
/-- What the return reads. -/
def S10 (ws Bo : Nat) (y : Su) (v : Value) (w' : World) : Prop :=
  w'.cell? ⟨ws, 0, none⟩ = some (.int .u64 y.id) ∧ w'.cell? ⟨ws, 1, none⟩ = some (.int .u64 y.cu) ∧ w'.cell? ⟨ws, 2, none⟩ = some (.int .u64 y.pl) ∧ w'.cell? ⟨ws, 3, none⟩ = some (.int .i64 y.st) ∧ w'.cell? ⟨ws, 4, none⟩ = some (.int .i64 y.an) ∧ w'.cell? ⟨ws, 5, none⟩ = some (.int .i64 y.ev) ∧
    w'.cell? ⟨ws, 6, none⟩ = some (.int .i64 y.pr) ∧ w'.cell? ⟨ws, 7, none⟩ = some (.int .i64 y.bi) ∧ w'.cell? ⟨ws, 8, none⟩ = some (.int .i64 y.si) ∧ w'.cell? ⟨ws, 9, none⟩ = some (.int .i64 y.en) ∧ w'.cell? ⟨Bo, 0, none⟩ = some v
theorem S10.of {ws Bo : Nat} {y : Su} {v : Value} {W : World} (h : W.heap[ws]? = some (.cells (sc y) 26 (0, 0))) (hv : W.heap[Bo]? = some (.cells #[v] 41 (0, 0))) : S10 ws Bo y v W :=
  ⟨blk_cell h 0, blk_cell h 1, blk_cell h 2, blk_cell h 3, blk_cell h 4, blk_cell h 5, blk_cell h 6, blk_cell h 7, blk_cell h 8, blk_cell h 9, blk_cell hv 0⟩
set_option maxRecDepth 100000 in
set_option maxHeartbeats 4000000 in
theorem due_yes (k : Nat) (x : Su) (today most : Int) (n : Nat) (w : World) (T : Tab w) (hc : ckF k x = some 0) (hd : subs_day.f today = some true) (h2 : 1 ≤ most) (h3 : most ≤ 1000)
    (hok : okC x = true) (hb0 : 0 ≤ x.bi) (hn : x.bi + n = tp x) :
    Calls Tryd.prog 14 #[.agg (sc x), .int .i64 today, .int .i64 most] w fun e w' => ∃ v m,
      Stops x today most n m ∧ e = .returned (.tuple #[v, .agg (sc { x with bi := x.bi + (m : Int) }), .int .i64 0]) ∧ Kd.R k47 47 w' w.heap.size (fun _ => True) v ((ix x.bi m).map (bl x)) ∧ Below w.heap.size w w' := by
  have tb := tp_bd hok
  have hP := fun w (T : Tab w) => subs_Check.calls k x.id x.cu x.pl x.st x.an x.ev x.pr x.bi x.si x.en 0 w (Aside0.mk T) hc
  have hD := fun w => subs_day.calls today true w hd
  have HT := Lib.hid T
  have HP := Lib.hid hP
  have HD := Lib.hid hD
  have hTl := tab_lt T
  clear T hP hD hc hd
  refine (callsIn_wide (n := 3)).1 ?_
  refine callsIn_of_wp_marks Tryd.func14 rfl trivial ?_ rfl
  simp only [Tryd.ntmps14, List.size_toArray, List.length_cons, List.length_nil, Nat.reduceAdd, Nat.reduceSub, Array.replicate_succ, Array.replicate_zero, List.push_toArray, List.append_toArray, List.nil_append, List.cons_append]
  obtain ⟨f1, f2, f3, f4⟩ := four w (.cells (sc x) 26 (0, 0)) (.cells #[.int .i64 today] 3 (0, 0)) (.cells #[.int .i64 most] 3 (0, 0)) (.cells zs 26 (0, 0))
  have b0 : Below w.heap.size w ((((w.alloc (.cells (sc x) 26 (0, 0))).alloc (.cells #[.int .i64 today] 3 (0, 0))).alloc (.cells #[.int .i64 most] 3 (0, 0))).alloc (.cells zs 26 (0, 0))) :=
    (((Below.refl _ w).alloc (Nat.le_refl _) _ |>.alloc (by simp) _).alloc (by simp; omega) _).alloc (by simp; omega) _
  have T1 := Lib.hid (show Tab _ from fun i hi => (b0.cell (p := ⟨0, i, none⟩) hTl).trans (HT.out i hi))
  have F1 := Lib.hid (And.intro f1 (And.intro f2 (And.intro f3 (And.intro f4 b0))))
  clear f1 f2 f3 f4 b0
  unfold sc zs at F1 T1
  unfold sc
  gi_wp2_with fail
  refine ⟨trivial, (callsIn_wide.2 (HP.out _ T1.out)).mono ?_⟩
  rintro e w2 ⟨rfl, B2⟩
  have F2 := Lib.hid (And.intro ((B2.block w.heap.size (by simp only [World.size_alloc]; omega)).trans F1.out.1) (And.intro ((B2.block (w.heap.size + 1) (by simp only [World.size_alloc]; omega)).trans F1.out.2.1) (And.intro ((B2.block (w.heap.size + 1 + 1) (by simp only [World.size_alloc]; omega)).trans F1.out.2.2.1)
    (And.intro ((B2.block (w.heap.size + 1 + 1 + 1) (by simp only [World.size_alloc]; omega)).trans F1.out.2.2.2.1) (F1.out.2.2.2.2.trans (B2.mono (by simp only [World.size_alloc]; omega)))))))
  clear B2 F1 T1
  have d0 := blk_cell F2.out.2.1 0
  have m0 := blk_cell F2.out.2.2.1 0
  simp at d0 m0
  gi_wp2_with fail
  refine ⟨trivial, (callsIn_wide.2 (HD.out _)).mono ?_⟩
  rintro e w3 ⟨rfl, D3⟩
  have F3 := Lib.hid (D3.below)
  obtain ⟨n3, hn3⟩ := D3.out
  have e3 : w3.heap = w2.heap := by rw [hn3]; rfl
  have F3 := Lib.hid (show w3.heap[w.heap.size]? = _ ∧ w3.heap[w.heap.size + 1]? = _ ∧ w3.heap[w.heap.size + 1 + 1]? = _ ∧ w3.heap[w.heap.size + 1 + 1 + 1]? = _ ∧ Below w.heap.size w w3 from by
    rw [e3]; exact ⟨F2.out.1, F2.out.2.1, F2.out.2.2.1, F2.out.2.2.2.1, F2.out.2.2.2.2.trans (D3.below.mono F2.out.2.2.2.2.size)⟩)
  clear F2 d0 m0 hn3 e3
  have TT := Lib.hid (show Tab w3 from fun i hi => (F3.out.2.2.2.2.cell (p := ⟨0, i, none⟩) hTl).trans (HT.out i hi))
  have m0 := blk_cell F3.out.2.2.1 0
  simp at m0
  have g2 : decide (most < 1) = false := decide_eq_false (by omega)
  have g3 : decide (1000 < most) = false := decide_eq_false (by omega)
  have szF := F3.out.2.2.2.2.size
  have szS := blk_lt F3.out.2.2.2.1
  have HPE := Lib.hid (fun w => periods_any x x.bi w)
  unfold sc at HPE
  have A1 := blk_alloc F3.out.1 (.cells #[.slice none 0 0] 41 (0, 0))
  have u0 := blk_cell A1 0
  have u1 := blk_cell A1 1
  have u2 := blk_cell A1 2
  have u3 := blk_cell A1 3
  have u4 := blk_cell A1 4
  have u5 := blk_cell A1 5
  have u6 := blk_cell A1 6
  have u7 := blk_cell A1 7
  have u8 := blk_cell A1 8
  have u9 := blk_cell A1 9
  simp at u0 u1 u2 u3 u4 u5 u6 u7 u8 u9
  gi_wp2_with fail
  refine ⟨trivial, (HPE.out _).mono ?_⟩
  rintro e w4 ⟨rfl, s4, B4, cs, ck⟩
  simp only [World.size_alloc] at s4 B4 cs ck
  have L1 := World.alloc_heap_new w3 (.cells #[.slice none 0 0] 41 (0, 0))
  have BA := (below_alloc (Below.refl w3.heap.size w3) (.cells #[.slice none 0 0] 41 (0, 0))).trans (B4.mono (by omega))
  have LS : St w.heap.size w3.heap.size (w3.heap.size + 1 + 1) (w3.heap.size + 1) x today most [] w4 := by
    refine ⟨⟨blk_below F3.out.1 BA, blk_below F3.out.2.1 BA, blk_below F3.out.2.2.1 BA, blk_below F3.out.2.2.2.1 BA⟩, _, (B4.block w3.heap.size (by omega)).trans L1, Kd.R_nil _ _ _ _ _⟩
  have b4 := F3.out.2.2.2.2.trans (BA.mono szF)
  have T4 := Lib.hid (show Tab w4 from fun i hi => (b4.cell (p := ⟨0, i, none⟩) hTl).trans (HT.out i hi))
  have HST := Lib.hid (periods_stops x x.bi n _ _ w4 hok hb0 hn (by omega) (by omega) T4.out cs ck)
  have HL := Lib.hid LS
  clear A1 u0 u1 u2 u3 u4 u5 u6 u7 u8 u9 m0 LS BA L1 B4 cs ck F3 TT
  gi_wp2_with fail
  refine wpIn_rangeH (L := [w3.heap.size + 1 + 1]) rfl (by omega) (gf := 48) (lb := #[.pointer (some ⟨w3.heap.size + 1, 0, none⟩), .pointer (some ⟨w3.heap.size + 1 + 1, 0, none⟩)]) (by simp [go_sem]) trivial (enters_of Tryd.func48 (by kernel_rfl) rfl)
    HST.out (by simp; omega) (fun h k => h.trans k) (fun W l o o' hl _ _ => Kt.put W l o' hl (by omega) (by omega) (by omega)) (Below.refl _ _) (fun _ => rfl)
    (fun pre W => NoStop x today most pre ∧ St w.heap.size w3.heap.size (w3.heap.size + 1 + 1) (w3.heap.size + 1) x today most pre W ∧ Below w.heap.size w4 W)
    (fun c pre W => (c = .exit 0 ∧ ∃ q i, pre = q ++ [i] ∧ stopB x today most i q.length = true ∧ NoStop x today most q ∧ St w.heap.size w3.heap.size (w3.heap.size + 1 + 1) (w3.heap.size + 1) x today most q W) ∧ Below w.heap.size w4 W)
    ?oI ?oIx ?bI ?bIx ⟨fun q i r e => (by simp at e), HL.out, Below.refl _ _⟩
    (fun i a' W => ∃ Bp, w4.heap.size ≤ Bp ∧ W.heap[Bp]? = some (.cells (pc x i) 68 (0, 0)) ∧ a' = { tmps := #[.agg (sc x), .int .i64 today, .int .i64 most, .pointer (some ⟨w.heap.size, 0, none⟩), .pointer (some ⟨w.heap.size + 1, 0, none⟩), .pointer (some ⟨w.heap.size + 1 + 1, 0, none⟩), .slice none 0 0, .pointer (some ⟨w.heap.size + 1 + 1 + 1, 0, none⟩), .int .i64 0, .pointer (some ⟨w3.heap.size, 0, none⟩), .pointer (some ⟨Bp, 0, none⟩), undef, .agg (sc x), .int .i64 0, .bool false, .bool false, .int .i64 today, .bool true, .bool false, .bool false, .bool false, .int .i64 most, .bool false, .bool false, .bool false, .int .i64 most, .bool false, .bool false, undef, .agg (sc x), .pointer (some ⟨w.heap.size, 7, none⟩), .int .i64 x.bi, .func (Fn.func 48) #[] #[.pointer (some ⟨w3.heap.size + 1, 0, none⟩), .pointer (some ⟨w3.heap.size + 1 + 1, 0, none⟩)], pv x i, undef, undef, undef, undef, undef, undef, undef, undef, undef, undef, undef, undef, undef, undef, undef, undef, undef, undef, undef, undef, undef, undef, undef, undef, undef, undef, undef, undef, undef, undef, undef, undef, undef, undef, undef, undef, undef, undef, undef, undef, undef, undef, undef, undef, undef, undef, undef, undef, undef, undef, undef, undef, undef], defers := [] }) ?hAx ?assign ?body ?done ?stop
  case oI =>
    rintro s A B row ⟨hp, hS, hB⟩ hg hr
    exact ⟨hp, hS.grown hg (fun r e => (by have := (hr r e).1; omega)) (fun r e => .inr (hr r e).2), ownFrom_below (β := Unit) (B := w4.heap.size) (by omega) (by omega) () A B row hB hg hr⟩
  case oIx =>
    rintro c s A B row ⟨⟨hc, q, i, hp, hst, hno, hS⟩, hB⟩ hg hr
    exact ⟨⟨hc, q, i, hp, hst, hno, hS.grown hg (fun r e => (by have := (hr r e).1; omega)) (fun r e => .inr (hr r e).2)⟩, ownFrom_below (β := Unit) (B := w4.heap.size) (by omega) (by omega) () A B row hB hg hr⟩
  case bI =>
    rintro s A B row ⟨hp, hS, hB⟩ hg hr
    have hr' : ∀ r, row = some r → r = w3.heap.size + 1 + 1 := fun r e => by simpa using hr r e
    exact ⟨hp, hS.grown hg (fun r e => (by have := hr' r e; omega)) (fun r e => .inl (hr' r e)), hB.grown hg (by have := hB.size; omega) (fun k e => by have := hr' k e; omega)⟩
  case bIx =>
    rintro c s A B row ⟨⟨hc, q, i, hp, hst, hno, hS⟩, hB⟩ hg hr
    have hr' : ∀ r, row = some r → r = w3.heap.size + 1 + 1 := fun r e => by simpa using hr r e
    exact ⟨⟨hc, q, i, hp, hst, hno, hS.grown hg (fun r e => (by have := hr' r e; omega)) (fun r e => .inl (hr' r e))⟩, hB.grown hg (by have := hB.size; omega) (fun k e => by have := hr' k e; omega)⟩
  case hAx =>
    rintro i a' s A B row ⟨Bp, h1, h2, h3⟩ hg hr
    exact ⟨Bp, h1, cells_own w4.heap.size Bp (fun _ : Unit => pc x i) _ () A B row h2 hg hr, h3⟩
  case assign =>
    rintro l pre i W K ⟨hp, hS, hB⟩ hK
    have sz := hB.size
    simp only [enc1, pv]
    have HH := Lib.hid hS
    clear hS
    gi_wp2
    exact hK _ _ ((KeepsOthers.alloc _ _).from _) (Kt.below ((Below.refl _ W).alloc (Nat.le_refl _) _) (by omega) (by omega) (by omega))
      ⟨hp, HH.out.below ((Below.refl _ W).alloc (Nat.le_refl _) _), hB.trans ((Below.refl _ W).alloc (by omega) _)⟩ ⟨_, hB.size, blk_new W _, rfl⟩
  case body =>
    rintro l pre i a' W ⟨hno, ⟨⟨hs, ht, hm, hz⟩, v, hv, hR⟩, hB⟩ ⟨Bp, hBp, hpp, rfl⟩ hlen
    have sz := hB.size
    obtain ⟨A, cp, rfl⟩ := Kd.R_slice hR
    rw [bl_len] at hv hR
    have p0 := blk_cell hpp 0
    have p1 := blk_cell hpp 1
    have d0 := blk_cell ht 0
    have m0 := blk_cell hm 0
    have s9 := blk_cell hs 9
    have v0 := blk_cell hv 0
    simp [pc, sc] at p0 p1 d0 m0 s9 v0
    have HH := Lib.hid (And.intro hno (And.intro (show St w.heap.size w3.heap.size (w3.heap.size + 1 + 1) (w3.heap.size + 1) x today most pre W from ⟨⟨hs, ht, hm, hz⟩, _, hv, hR⟩) hB))
    have HP6 := Lib.hid (And.intro hpp (And.intro hv hR))
    clear hno hs ht hm hz hv hR hB hpp
    have HON := Lib.hid (onF_some x i)
    generalize hff : fr x i = ff at *
    have hmo : Tryd.prog.follows .mixedOrders = true := by kernel_rfl
    by_cases h1 : today < ff
    · have d1 : decide (today < ff) = true := decide_eq_true h1
      gi_wp2
      exact ⟨KeepsFrom.refl _ _, ⟨rfl, pre, i, rfl, by simp [stopB, hff, h1], HH.out.1, HH.out.2.1⟩, HH.out.2.2⟩
    · have d1 : decide (today < ff) = false := decide_eq_false h1
      by_cases h2 : x.en = 0
      · have d2 : (x.en != 0) = false := by simpa using h2
        by_cases h4 : (pre.length : Int) = most
        · have d4 : ((pre.length : Int) == most) = true := by simpa using h4
          gi_wp2
          exact ⟨KeepsFrom.refl _ _, ⟨rfl, pre, i, rfl, by simp [stopB, hff, h1, h2, h4], HH.out.1, HH.out.2.1⟩, HH.out.2.2⟩
        · have d4 : ((pre.length : Int) == most) = false := by simpa using h4
          by_cases h5 : 2000 ≤ i
          · have d5 : decide (2000 ≤ i) = true := decide_eq_true h5
            gi_wp2
            exact ⟨KeepsFrom.refl _ _, ⟨rfl, pre, i, rfl, by simp [stopB, hff, h1, h2, h4, h5], HH.out.1, HH.out.2.1⟩, HH.out.2.2⟩
          · have d5 : decide (2000 ≤ i) = false := decide_eq_false h5
            have p2 := blk_cell HP6.out.1 2
            have p3 := blk_cell HP6.out.1 3
            have p4 := blk_cell HP6.out.1 4
            have p5 := blk_cell HP6.out.1 5
            simp [pc] at p2 p3 p4 p5
            gi_wp2
            have H8 := Lib.hid (show S8 Bp w3.heap.size i ff (ee x i) (.slice A pre.length cp) W.drew from ⟨p0, p1, p3, v0⟩)
            clear p0 p1 p2 p3 p4 p5 d0 m0 s9 v0
            refine start_wide (m := 17) (S := S8 Bp w3.heap.size i ff (ee x i) (.slice A pre.length cp)) (ds := [16]) #[false, false, false, false, false, false, false, false, false, false, false, false, false, false, false, false, false] hmo (by kernel_rfl) (fun _ _ h => h) rfl rfl H8.out (fun hHeld => ?_)
            refine take_ (i := 0) (N := some 63) (v := ?_) (a' := ?_) #[true, false, false, false, false, false, false, false, false, false, false, false, false, false, false, false, false] rfl rfl (by kernel_rfl) (fun _ _ _ h => h) (Or.inl ⟨by rfl, ?_⟩) hHeld ?_ ?_
            rotate_left
            · rintro w' ⟨s0, s1, s2, s3⟩
              go_simp
              with_reducible rfl
            rotate_left
            · simp only [Act.put, List.setIfInBounds_toArray, List.set_cons_zero, List.set_cons_succ, i64_w, i32_w]
              rfl
            refine pure_ (i := 1) (N := some 64) (v := ?_) (a' := ?_) #[true, true, false, false, false, false, false, false, false, false, false, false, false, false, false, false, false] rfl rfl (by kernel_rfl) (fun _ _ _ h => h) (Or.inl ⟨by rfl, ?_⟩) ?_ ?_
            rotate_left
            · intro w'
              go_simp
              with_reducible rfl
            rotate_left
            · simp only [Act.put, List.setIfInBounds_toArray, List.set_cons_zero, List.set_cons_succ, i64_w, i32_w]
              rfl
            refine take_ (i := 2) (N := some 65) (v := ?_) (a' := ?_) #[true, true, true, false, false, false, false, false, false, false, false, false, false, false, false, false, false] rfl rfl (by kernel_rfl) (fun _ _ _ h => h) (Or.inl ⟨by rfl, ?_⟩) hHeld ?_ ?_
            rotate_left
            · rintro w' ⟨s0, s1, s2, s3⟩
              go_simp
              with_reducible rfl
            rotate_left
            · simp only [Act.put, List.setIfInBounds_toArray, List.set_cons_zero, List.set_cons_succ, i64_w, i32_w]
              rfl
            refine pure_ (i := 3) (N := some 66) (v := ?_) (a' := ?_) #[true, true, true, true, false, false, false, false, false, false, false, false, false, false, false, false, false] rfl rfl (by kernel_rfl) (fun _ _ _ h => h) (Or.inl ⟨by rfl, ?_⟩) ?_ ?_
            rotate_left
            · intro w'
              go_simp
              with_reducible rfl
            rotate_left
            · simp only [Act.put, List.setIfInBounds_toArray, List.set_cons_zero, List.set_cons_succ, i64_w, i32_w]
              rfl
            refine take_ (i := 4) (N := some 67) (v := ?_) (a' := ?_) #[true, true, true, true, true, false, false, false, false, false, false, false, false, false, false, false, false] rfl rfl (by kernel_rfl) (fun _ _ _ h => h) (Or.inl ⟨by rfl, ?_⟩) hHeld ?_ ?_
            rotate_left
            · rintro w' ⟨s0, s1, s2, s3⟩
              go_simp
              with_reducible rfl
            rotate_left
            · simp only [Act.put, List.setIfInBounds_toArray, List.set_cons_zero, List.set_cons_succ, i64_w, i32_w]
              rfl
            refine pure_ (i := 5) (N := some 68) (v := ?_) (a' := ?_) #[true, true, true, true, true, true, false, false, false, false, false, false, false, false, false, false, false] rfl rfl (by kernel_rfl) (fun _ _ _ h => h) (Or.inl ⟨by rfl, ?_⟩) ?_ ?_
            rotate_left
            · intro w'
              go_simp
              with_reducible rfl
            rotate_left
            · simp only [Act.put, List.setIfInBounds_toArray, List.set_cons_zero, List.set_cons_succ, i64_w, i32_w]
              rfl
            refine take_ (i := 6) (N := some 69) (v := ?_) (a' := ?_) #[true, true, true, true, true, true, true, false, false, false, false, false, false, false, false, false, false] rfl rfl (by kernel_rfl) (fun _ _ _ h => h) (Or.inl ⟨by rfl, ?_⟩) hHeld ?_ ?_
            rotate_left
            · rintro w' ⟨s0, s1, s2, s3⟩
              go_simp
              with_reducible rfl
            rotate_left
            · simp only [Act.put, List.setIfInBounds_toArray, List.set_cons_zero, List.set_cons_succ, i64_w, i32_w]
              rfl
            refine pure_ (i := 7) (N := some 70) (v := ?_) (a' := ?_) #[true, true, true, true, true, true, true, true, false, false, false, false, false, false, false, false, false] rfl rfl (by kernel_rfl) (fun _ _ _ h => h) (Or.inl ⟨by rfl, ?_⟩) ?_ ?_
            rotate_left
            · intro w'
              go_simp
              with_reducible rfl
            rotate_left
            · simp only [Act.put, List.setIfInBounds_toArray, List.set_cons_zero, List.set_cons_succ, i64_w, i32_w]
              rfl
            refine pure_ (i := 8) (N := some 71) (v := ?_) (a' := ?_) #[true, true, true, true, true, true, true, true, true, false, false, false, false, false, false, false, false] rfl rfl (by kernel_rfl) (fun _ _ _ h => h) (Or.inl ⟨by rfl, ?_⟩) ?_ ?_
            rotate_left
            · intro w'
              go_simp
              with_reducible rfl
            rotate_left
            · simp only [Act.put, List.setIfInBounds_toArray, List.set_cons_zero, List.set_cons_succ, i64_w, i32_w]
              rfl
            refine take_ (i := 9) (N := some 72) (v := ?_) (a' := ?_) #[true, true, true, true, true, true, true, true, true, true, false, false, false, false, false, false, false] rfl rfl (by kernel_rfl) (fun _ _ _ h => h) (Or.inl ⟨by rfl, ?_⟩) hHeld ?_ ?_
            rotate_left
            · rintro w' ⟨s0, s1, s2, s3⟩
              go_simp
              with_reducible rfl
            rotate_left
            · simp only [Act.put, List.setIfInBounds_toArray, List.set_cons_zero, List.set_cons_succ, i64_w, i32_w]
              rfl
            refine pure_ (i := 10) (N := some 73) (v := ?_) (a' := ?_) #[true, true, true, true, true, true, true, true, true, true, true, false, false, false, false, false, false] rfl rfl (by kernel_rfl) (fun _ _ _ h => h) (Or.inl ⟨by rfl, ?_⟩) ?_ ?_
            rotate_left
            · intro w'
              go_simp
              with_reducible rfl
            rotate_left
            · simp only [Act.put, List.setIfInBounds_toArray, List.set_cons_zero, List.set_cons_succ, i64_w, i32_w]
              rfl
            refine take_ (i := 11) (N := some 74) (v := ?_) (a' := ?_) #[true, true, true, true, true, true, true, true, true, true, true, true, false, false, false, false, false] rfl rfl (by kernel_rfl) (fun _ _ _ h => h) (Or.inl ⟨by rfl, ?_⟩) hHeld ?_ ?_
            rotate_left
            · rintro w' ⟨s0, s1, s2, s3⟩
              go_simp
              with_reducible rfl
            rotate_left
            · simp only [Act.put, List.setIfInBounds_toArray, List.set_cons_zero, List.set_cons_succ, i64_w, i32_w]
              rfl
            refine one_ (i := 12) (N := some 75) #[true, true, true, true, true, true, true, true, true, true, true, true, true, false, false, false, false] rfl rfl (by kernel_rfl) (by decide) (fun K hK => ?_)
            refine goesV_ Tryd.func26 (by kernel_rfl) rfl #[.agg #[.int .i64 i, .int .i64 ff, .int .i64 (nx x i), .int .i64 (ee x i), .int .i64 (wh x i), .int .i64 x.pr], .int .i64 ff, .int .i64 (ee x i)] (by rfl) rfl rfl rfl (by simp only [List.map_toArray, List.map_cons, List.map_nil]; rfl) ?_
            refine (subs_period_on.calls i ff (nx x i) (ee x i) (wh x i) x.pr ff (ee x i) (onF x i) _ HON.out).mono ?_
            rintro e w5 ⟨rfl, B5⟩
            refine ⟨_, rfl, ?_⟩
            have B5 := Lib.hid (show Below W.heap.size W w5 from (below_drew1 (Below.refl _ W)).trans B5)
            have hbp := blk_below HP6.out.1 B5.out
            have hbo := blk_below HP6.out.2.1 B5.out
            have hbr := Kd.R_below HP6.out.2.2 B5.out
            refine hK.out _ _ (hHeld.heap (hbp.trans HP6.out.1.symm) (hbo.trans HP6.out.2.1.symm)) (fun hHeld => ?_)
            clear hK K
            refine norm_ (a' := ?_) ?_ ?_
            rotate_left
            · show Act.put _ (some 75) _ = _
              simp only [Act.put, List.setIfInBounds_toArray, List.set_cons_zero, List.set_cons_succ, i64_w, i32_w]
              rfl
            refine pure_ (i := 13) (N := some 76) (v := ?_) (a' := ?_) #[true, true, true, true, true, true, true, true, true, true, true, true, true, true, false, false, false] rfl rfl (by kernel_rfl) (fun _ _ _ h => h) (Or.inl ⟨by rfl, ?_⟩) ?_ ?_
            rotate_left
            · intro w'
              go_simp
              with_reducible rfl
            rotate_left
            · simp only [Act.put, List.setIfInBounds_toArray, List.set_cons_zero, List.set_cons_succ, i64_w, i32_w]
              rfl
            refine one_ (i := 14) (N := some 77) #[true, true, true, true, true, true, true, true, true, true, true, true, true, true, true, false, false] rfl rfl (by kernel_rfl) (by decide) (fun K hK => ?_)
            refine value_ (w1 := ?_) (v := ?_) (by rfl) rfl ?_ ?_
            rotate_left 2
            · go_simp
              constructor
              · rfl
              · rfl
            refine hK.out _ _ (hHeld.heap ((blk_alloc hbp _).trans hbp.symm) ((blk_alloc hbo _).trans hbo.symm)) (fun hHeld => ?_)
            clear hK K
            refine norm_ (a' := ?_) ?_ ?_
            rotate_left
            · show Act.put _ (some 77) _ = _
              simp only [Act.put, List.setIfInBounds_toArray, List.set_cons_zero, List.set_cons_succ, i64_w, i32_w]
              rfl
            refine one_ (i := 15) (N := some 78) #[true, true, true, true, true, true, true, true, true, true, true, true, true, true, true, true, false] rfl rfl (by kernel_rfl) (by decide) (fun K hK => ?_)
            refine Kd.R_append_step k47 (w0 := w4) w.heap.size (by rfl) (.tmp 63) (.tmp 77) 41 47 (.agg #[(.int .i64 0), (.int .i64 0), (.int .i64 0), (.int .i64 0)]) 32 rfl Tryd.underlying41 infoBill rfl (by decide) (by omega) (.slice A pre.length cp) (pre.map (bl x)) (⟨i, ff, ee x i, onF x i⟩ : S47) [.int .i64 i, .int .i64 ff, .int .i64 (ee x i), .int .i64 (onF x i)] (fun k => k ≠ w3.heap.size + 1 + 1 ∧ k ≠ w3.heap.size + 1) (fun _ => False) rfl rfl ?aP (fun _ hk => hk.elim) ?aF hbr ?aB ?aS ?aL ?_
            (case aP => exact k47_mkM _ _ _ (⟨i, ff, ee x i, onF x i⟩ : S47))
            (case aF => intro k hk; have := B5.out.size; omega)
            (case aB => exact HH.out.2.2.trans (B5.out.mono (by omega)))
            (case aS => have := B5.out.size; omega)
            (case aL => rw [bl_len]; have := tb.2; omega)
            intro v1 w6 ho hb6 hg6 hat
            obtain ⟨A1, c1, rfl⟩ := Kd.R_slice ho
            have vb := blk_grown hbo hg6 (Kd.R_ne hbr hbo (by decide))
            have pb := blk_grown hbp hg6 (Kd.R_ne hbr hbp (by decide))
            have hrn := Kd.R_reads HP6.out.2.2
            have same : ∀ k, k < W.heap.size → some k ≠ (Value.slice A pre.length cp).ownBlock → k ≠ w3.heap.size → (w6.setCell ⟨w3.heap.size, 0, none⟩ (.slice A1 (pre.map (bl x) ++ [(⟨i, ff, ee x i, onF x i⟩ : S47)]).length c1)).heap[k]? = W.heap[k]? := fun k hk hne hb =>
              (Below.heap_setCell w6 _ _ k hb).trans ((hg6.block k (by have := B5.out.size; omega) hne).trans (B5.out.block k hk))
            have hs6 : W.heap.size ≤ w6.heap.size := by
              have h1 := hg6.size
              have h2 := B5.out.size
              omega
            have HV := Lib.hid (And.intro same (And.intro (blk_set vb 0 (.slice A1 (pre.map (bl x) ++ [(⟨i, ff, ee x i, onF x i⟩ : S47)]).length c1)) (And.intro (Kd.R_set ho vb (by decide) 0 (.slice A1 (pre.map (bl x) ++ [(⟨i, ff, ee x i, onF x i⟩ : S47)]).length c1)) (And.intro (hb6.setCell (p := ⟨w3.heap.size, 0, none⟩) (by simp only []; omega) (.slice A1 (pre.map (bl x) ++ [(⟨i, ff, ee x i, onF x i⟩ : S47)]).length c1)) (show W.heap.size ≤ (w6.setCell ⟨w3.heap.size, 0, none⟩ (.slice A1 (pre.map (bl x) ++ [(⟨i, ff, ee x i, onF x i⟩ : S47)]).length c1)).heap.size from by simpa [World.setCell] using hs6)))))
            refine hK.out _ _ (hHeld.heap (pb.trans (blk_alloc hbp _).symm) (vb.trans (blk_alloc hbo _).symm)) (fun hHeld => ?_)
            clear hK K ho hb6 hg6 hat same hs6 pb hbp hbo hbr hrn
            refine norm_ (a' := ?_) ?_ ?_
            rotate_left
            · show Act.put _ (some 78) _ = _
              simp only [Act.put, List.setIfInBounds_toArray, List.set_cons_zero, List.set_cons_succ, i64_w, i32_w]
              rfl
            refine last_ (i := 16) (N := none) #[true, true, true, true, true, true, true, true, true, true, true, true, true, true, true, true, true] rfl rfl (by kernel_rfl) (by decide) (fun K hK => ?_)
            refine skip_ (by rfl) rfl (skip_store rfl (store_sl _ _ _ _ _ _ vb)) ?_
            refine hK.out _ _ ?_
            clear hK K vb
            refine done_in (by kernel_rfl) ?_
            generalize w6.setCell ⟨w3.heap.size, 0, none⟩ (.slice A1 (pre.map (bl x) ++ [(⟨i, ff, ee x i, onF x i⟩ : S47)]).length c1) = V at HV ⊢
            gi_wp2
            have hR := HP6.out.2.2
            obtain ⟨f1, f2, f3, f4⟩ := HH.out.2.1.1
            have e9 : (pre ++ [i]).map (bl x) = pre.map (bl x) ++ [(⟨i, ff, ee x i, onF x i⟩ : S47)] := by simp [bl, hff]
            refine ⟨⟨HV.out.2.2.2.2, fun k o hk ho hc => (HV.out.1 k (Array.getElem?_eq_some_iff.1 ho).1 (fun e => by
                obtain ⟨_, _, _, q, _, cells, hcells⟩ := (Kd.R_bound hR).1 k e.symm
                rw [ho] at hcells
                cases hcells
                cases hc) (by omega)).trans ho⟩, ⟨HV.out.2.2.2.2, HV.out.1 _ (by omega) (fun e => (hR.1 _ e.symm).2 rfl) (by omega), HV.out.1 _ (by omega) (fun e => (hR.1 _ e.symm).1 rfl) (by omega), HV.out.1 _ (by omega) (fun e => by have := Kd.R_base hR _ e.symm; omega) (by omega)⟩, HH.out.1.snoc (by simp [stopB, hff, h1, h2, h4, h5]),
              ⟨⟨(HV.out.1 _ (blk_lt f1) (Kd.R_ne hR f1 (by decide)) (by omega)).trans f1, (HV.out.1 _ (blk_lt f2) (Kd.R_ne hR f2 (by decide)) (by omega)).trans f2, (HV.out.1 _ (blk_lt f3) (Kd.R_ne hR f3 (by decide)) (by omega)).trans f3, (HV.out.1 _ (blk_lt f4) (Kd.R_ne hR f4 (by decide)) (by omega)).trans f4⟩, _, HV.out.2.1, (by rw [e9]; exact HV.out.2.2.1)⟩, HV.out.2.2.2.1⟩
      · have d2 : (x.en != 0) = true := by simpa using h2
        by_cases h3 : x.en ≤ ff
        · have d3 : decide (x.en ≤ ff) = true := decide_eq_true h3
          gi_wp2
          exact ⟨KeepsFrom.refl _ _, ⟨rfl, pre, i, rfl, by simp [stopB, hff, h1, h2, h3], HH.out.1, HH.out.2.1⟩, HH.out.2.2⟩
        · have d3 : decide (x.en ≤ ff) = false := decide_eq_false h3
          by_cases h4 : (pre.length : Int) = most
          · have d4 : ((pre.length : Int) == most) = true := by simpa using h4
            gi_wp2
            exact ⟨KeepsFrom.refl _ _, ⟨rfl, pre, i, rfl, by simp [stopB, hff, h1, h2, h3, h4], HH.out.1, HH.out.2.1⟩, HH.out.2.2⟩
          · have d4 : ((pre.length : Int) == most) = false := by simpa using h4
            by_cases h5 : 2000 ≤ i
            · have d5 : decide (2000 ≤ i) = true := decide_eq_true h5
              gi_wp2
              exact ⟨KeepsFrom.refl _ _, ⟨rfl, pre, i, rfl, by simp [stopB, hff, h1, h2, h3, h4, h5], HH.out.1, HH.out.2.1⟩, HH.out.2.2⟩
            · have d5 : decide (2000 ≤ i) = false := decide_eq_false h5
              have p2 := blk_cell HP6.out.1 2
              have p3 := blk_cell HP6.out.1 3
              have p4 := blk_cell HP6.out.1 4
              have p5 := blk_cell HP6.out.1 5
              simp [pc] at p2 p3 p4 p5
              gi_wp2
              have H8 := Lib.hid (show S8 Bp w3.heap.size i ff (ee x i) (.slice A pre.length cp) W.drew from ⟨p0, p1, p3, v0⟩)
              clear p0 p1 p2 p3 p4 p5 d0 m0 s9 v0
              refine start_wide (m := 17) (S := S8 Bp w3.heap.size i ff (ee x i) (.slice A pre.length cp)) (ds := [16]) #[false, false, false, false, false, false, false, false, false, false, false, false, false, false, false, false, false] hmo (by kernel_rfl) (fun _ _ h => h) rfl rfl H8.out (fun hHeld => ?_)
              refine take_ (i := 0) (N := some 63) (v := ?_) (a' := ?_) #[true, false, false, false, false, false, false, false, false, false, false, false, false, false, false, false, false] rfl rfl (by kernel_rfl) (fun _ _ _ h => h) (Or.inl ⟨by rfl, ?_⟩) hHeld ?_ ?_
              rotate_left
              · rintro w' ⟨s0, s1, s2, s3⟩
                go_simp
                with_reducible rfl
              rotate_left
              · simp only [Act.put, List.setIfInBounds_toArray, List.set_cons_zero, List.set_cons_succ, i64_w, i32_w]
                rfl
              refine pure_ (i := 1) (N := some 64) (v := ?_) (a' := ?_) #[true, true, false, false, false, false, false, false, false, false, false, false, false, false, false, false, false] rfl rfl (by kernel_rfl) (fun _ _ _ h => h) (Or.inl ⟨by rfl, ?_⟩) ?_ ?_
              rotate_left
              · intro w'
                go_simp
                with_reducible rfl
              rotate_left
              · simp only [Act.put, List.setIfInBounds_toArray, List.set_cons_zero, List.set_cons_succ, i64_w, i32_w]
                rfl
              refine take_ (i := 2) (N := some 65) (v := ?_) (a' := ?_) #[true, true, true, false, false, false, false, false, false, false, false, false, false, false, false, false, false] rfl rfl (by kernel_rfl) (fun _ _ _ h => h) (Or.inl ⟨by rfl, ?_⟩) hHeld ?_ ?_
              rotate_left
              · rintro w' ⟨s0, s1, s2, s3⟩
                go_simp
                with_reducible rfl
              rotate_left
              · simp only [Act.put, List.setIfInBounds_toArray, List.set_cons_zero, List.set_cons_succ, i64_w, i32_w]
                rfl
              refine pure_ (i := 3) (N := some 66) (v := ?_) (a' := ?_) #[true, true, true, true, false, false, false, false, false, false, false, false, false, false, false, false, false] rfl rfl (by kernel_rfl) (fun _ _ _ h => h) (Or.inl ⟨by rfl, ?_⟩) ?_ ?_
              rotate_left
              · intro w'
                go_simp
                with_reducible rfl
              rotate_left
              · simp only [Act.put, List.setIfInBounds_toArray, List.set_cons_zero, List.set_cons_succ, i64_w, i32_w]
                rfl
              refine take_ (i := 4) (N := some 67) (v := ?_) (a' := ?_) #[true, true, true, true, true, false, false, false, false, false, false, false, false, false, false, false, false] rfl rfl (by kernel_rfl) (fun _ _ _ h => h) (Or.inl ⟨by rfl, ?_⟩) hHeld ?_ ?_
              rotate_left
              · rintro w' ⟨s0, s1, s2, s3⟩
                go_simp
                with_reducible rfl
              rotate_left
              · simp only [Act.put, List.setIfInBounds_toArray, List.set_cons_zero, List.set_cons_succ, i64_w, i32_w]
                rfl
              refine pure_ (i := 5) (N := some 68) (v := ?_) (a' := ?_) #[true, true, true, true, true, true, false, false, false, false, false, false, false, false, false, false, false] rfl rfl (by kernel_rfl) (fun _ _ _ h => h) (Or.inl ⟨by rfl, ?_⟩) ?_ ?_
              rotate_left
              · intro w'
                go_simp
                with_reducible rfl
              rotate_left
              · simp only [Act.put, List.setIfInBounds_toArray, List.set_cons_zero, List.set_cons_succ, i64_w, i32_w]
                rfl
              refine take_ (i := 6) (N := some 69) (v := ?_) (a' := ?_) #[true, true, true, true, true, true, true, false, false, false, false, false, false, false, false, false, false] rfl rfl (by kernel_rfl) (fun _ _ _ h => h) (Or.inl ⟨by rfl, ?_⟩) hHeld ?_ ?_
              rotate_left
              · rintro w' ⟨s0, s1, s2, s3⟩
                go_simp
                with_reducible rfl
              rotate_left
              · simp only [Act.put, List.setIfInBounds_toArray, List.set_cons_zero, List.set_cons_succ, i64_w, i32_w]
                rfl
              refine pure_ (i := 7) (N := some 70) (v := ?_) (a' := ?_) #[true, true, true, true, true, true, true, true, false, false, false, false, false, false, false, false, false] rfl rfl (by kernel_rfl) (fun _ _ _ h => h) (Or.inl ⟨by rfl, ?_⟩) ?_ ?_
              rotate_left
              · intro w'
                go_simp
                with_reducible rfl
              rotate_left
              · simp only [Act.put, List.setIfInBounds_toArray, List.set_cons_zero, List.set_cons_succ, i64_w, i32_w]
                rfl
              refine pure_ (i := 8) (N := some 71) (v := ?_) (a' := ?_) #[true, true, true, true, true, true, true, true, true, false, false, false, false, false, false, false, false] rfl rfl (by kernel_rfl) (fun _ _ _ h => h) (Or.inl ⟨by rfl, ?_⟩) ?_ ?_
              rotate_left
              · intro w'
                go_simp
                with_reducible rfl
              rotate_left
              · simp only [Act.put, List.setIfInBounds_toArray, List.set_cons_zero, List.set_cons_succ, i64_w, i32_w]
                rfl
              refine take_ (i := 9) (N := some 72) (v := ?_) (a' := ?_) #[true, true, true, true, true, true, true, true, true, true, false, false, false, false, false, false, false] rfl rfl (by kernel_rfl) (fun _ _ _ h => h) (Or.inl ⟨by rfl, ?_⟩) hHeld ?_ ?_
              rotate_left
              · rintro w' ⟨s0, s1, s2, s3⟩
                go_simp
                with_reducible rfl
              rotate_left
              · simp only [Act.put, List.setIfInBounds_toArray, List.set_cons_zero, List.set_cons_succ, i64_w, i32_w]
                rfl
              refine pure_ (i := 10) (N := some 73) (v := ?_) (a' := ?_) #[true, true, true, true, true, true, true, true, true, true, true, false, false, false, false, false, false] rfl rfl (by kernel_rfl) (fun _ _ _ h => h) (Or.inl ⟨by rfl, ?_⟩) ?_ ?_
              rotate_left
              · intro w'
                go_simp
                with_reducible rfl
              rotate_left
              · simp only [Act.put, List.setIfInBounds_toArray, List.set_cons_zero, List.set_cons_succ, i64_w, i32_w]
                rfl
              refine take_ (i := 11) (N := some 74) (v := ?_) (a' := ?_) #[true, true, true, true, true, true, true, true, true, true, true, true, false, false, false, false, false] rfl rfl (by kernel_rfl) (fun _ _ _ h => h) (Or.inl ⟨by rfl, ?_⟩) hHeld ?_ ?_
              rotate_left
              · rintro w' ⟨s0, s1, s2, s3⟩
                go_simp
                with_reducible rfl
              rotate_left
              · simp only [Act.put, List.setIfInBounds_toArray, List.set_cons_zero, List.set_cons_succ, i64_w, i32_w]
                rfl
              refine one_ (i := 12) (N := some 75) #[true, true, true, true, true, true, true, true, true, true, true, true, true, false, false, false, false] rfl rfl (by kernel_rfl) (by decide) (fun K hK => ?_)
              refine goesV_ Tryd.func26 (by kernel_rfl) rfl #[.agg #[.int .i64 i, .int .i64 ff, .int .i64 (nx x i), .int .i64 (ee x i), .int .i64 (wh x i), .int .i64 x.pr], .int .i64 ff, .int .i64 (ee x i)] (by rfl) rfl rfl rfl (by simp only [List.map_toArray, List.map_cons, List.map_nil]; rfl) ?_
              refine (subs_period_on.calls i ff (nx x i) (ee x i) (wh x i) x.pr ff (ee x i) (onF x i) _ HON.out).mono ?_
              rintro e w5 ⟨rfl, B5⟩
              refine ⟨_, rfl, ?_⟩
              have B5 := Lib.hid (show Below W.heap.size W w5 from (below_drew1 (Below.refl _ W)).trans B5)
              have hbp := blk_below HP6.out.1 B5.out
              have hbo := blk_below HP6.out.2.1 B5.out
              have hbr := Kd.R_below HP6.out.2.2 B5.out
              refine hK.out _ _ (hHeld.heap (hbp.trans HP6.out.1.symm) (hbo.trans HP6.out.2.1.symm)) (fun hHeld => ?_)
              clear hK K
              refine norm_ (a' := ?_) ?_ ?_
              rotate_left
              · show Act.put _ (some 75) _ = _
                simp only [Act.put, List.setIfInBounds_toArray, List.set_cons_zero, List.set_cons_succ, i64_w, i32_w]
                rfl
              refine pure_ (i := 13) (N := some 76) (v := ?_) (a' := ?_) #[true, true, true, true, true, true, true, true, true, true, true, true, true, true, false, false, false] rfl rfl (by kernel_rfl) (fun _ _ _ h => h) (Or.inl ⟨by rfl, ?_⟩) ?_ ?_
              rotate_left
              · intro w'
                go_simp
                with_reducible rfl
              rotate_left
              · simp only [Act.put, List.setIfInBounds_toArray, List.set_cons_zero, List.set_cons_succ, i64_w, i32_w]
                rfl
              refine one_ (i := 14) (N := some 77) #[true, true, true, true, true, true, true, true, true, true, true, true, true, true, true, false, false] rfl rfl (by kernel_rfl) (by decide) (fun K hK => ?_)
              refine value_ (w1 := ?_) (v := ?_) (by rfl) rfl ?_ ?_
              rotate_left 2
              · go_simp
                constructor
                · rfl
                · rfl
              refine hK.out _ _ (hHeld.heap ((blk_alloc hbp _).trans hbp.symm) ((blk_alloc hbo _).trans hbo.symm)) (fun hHeld => ?_)
              clear hK K
              refine norm_ (a' := ?_) ?_ ?_
              rotate_left
              · show Act.put _ (some 77) _ = _
                simp only [Act.put, List.setIfInBounds_toArray, List.set_cons_zero, List.set_cons_succ, i64_w, i32_w]
                rfl
              refine one_ (i := 15) (N := some 78) #[true, true, true, true, true, true, true, true, true, true, true, true, true, true, true, true, false] rfl rfl (by kernel_rfl) (by decide) (fun K hK => ?_)
              refine Kd.R_append_step k47 (w0 := w4) w.heap.size (by rfl) (.tmp 63) (.tmp 77) 41 47 (.agg #[(.int .i64 0), (.int .i64 0), (.int .i64 0), (.int .i64 0)]) 32 rfl Tryd.underlying41 infoBill rfl (by decide) (by omega) (.slice A pre.length cp) (pre.map (bl x)) (⟨i, ff, ee x i, onF x i⟩ : S47) [.int .i64 i, .int .i64 ff, .int .i64 (ee x i), .int .i64 (onF x i)] (fun k => k ≠ w3.heap.size + 1 + 1 ∧ k ≠ w3.heap.size + 1) (fun _ => False) rfl rfl ?aP (fun _ hk => hk.elim) ?aF hbr ?aB ?aS ?aL ?_
              (case aP => exact k47_mkM _ _ _ (⟨i, ff, ee x i, onF x i⟩ : S47))
              (case aF => intro k hk; have := B5.out.size; omega)
              (case aB => exact HH.out.2.2.trans (B5.out.mono (by omega)))
              (case aS => have := B5.out.size; omega)
              (case aL => rw [bl_len]; have := tb.2; omega)
              intro v1 w6 ho hb6 hg6 hat
              obtain ⟨A1, c1, rfl⟩ := Kd.R_slice ho
              have vb := blk_grown hbo hg6 (Kd.R_ne hbr hbo (by decide))
              have pb := blk_grown hbp hg6 (Kd.R_ne hbr hbp (by decide))
              have hrn := Kd.R_reads HP6.out.2.2
              have same : ∀ k, k < W.heap.size → some k ≠ (Value.slice A pre.length cp).ownBlock → k ≠ w3.heap.size → (w6.setCell ⟨w3.heap.size, 0, none⟩ (.slice A1 (pre.map (bl x) ++ [(⟨i, ff, ee x i, onF x i⟩ : S47)]).length c1)).heap[k]? = W.heap[k]? := fun k hk hne hb =>
                (Below.heap_setCell w6 _ _ k hb).trans ((hg6.block k (by have := B5.out.size; omega) hne).trans (B5.out.block k hk))
              have hs6 : W.heap.size ≤ w6.heap.size := by
                have h1 := hg6.size
                have h2 := B5.out.size
                omega
              have HV := Lib.hid (And.intro same (And.intro (blk_set vb 0 (.slice A1 (pre.map (bl x) ++ [(⟨i, ff, ee x i, onF x i⟩ : S47)]).length c1)) (And.intro (Kd.R_set ho vb (by decide) 0 (.slice A1 (pre.map (bl x) ++ [(⟨i, ff, ee x i, onF x i⟩ : S47)]).length c1)) (And.intro (hb6.setCell (p := ⟨w3.heap.size, 0, none⟩) (by simp only []; omega) (.slice A1 (pre.map (bl x) ++ [(⟨i, ff, ee x i, onF x i⟩ : S47)]).length c1)) (show W.heap.size ≤ (w6.setCell ⟨w3.heap.size, 0, none⟩ (.slice A1 (pre.map (bl x) ++ [(⟨i, ff, ee x i, onF x i⟩ : S47)]).length c1)).heap.size from by simpa [World.setCell] using hs6)))))
              refine hK.out _ _ (hHeld.heap (pb.trans (blk_alloc hbp _).symm) (vb.trans (blk_alloc hbo _).symm)) (fun hHeld => ?_)
              clear hK K ho hb6 hg6 hat same hs6 pb hbp hbo hbr hrn
              refine norm_ (a' := ?_) ?_ ?_
              rotate_left
              · show Act.put _ (some 78) _ = _
                simp only [Act.put, List.setIfInBounds_toArray, List.set_cons_zero, List.set_cons_succ, i64_w, i32_w]
                rfl
              refine last_ (i := 16) (N := none) #[true, true, true, true, true, true, true, true, true, true, true, true, true, true, true, true, true] rfl rfl (by kernel_rfl) (by decide) (fun K hK => ?_)
              refine skip_ (by rfl) rfl (skip_store rfl (store_sl _ _ _ _ _ _ vb)) ?_
              refine hK.out _ _ ?_
              clear hK K vb
              refine done_in (by kernel_rfl) ?_
              generalize w6.setCell ⟨w3.heap.size, 0, none⟩ (.slice A1 (pre.map (bl x) ++ [(⟨i, ff, ee x i, onF x i⟩ : S47)]).length c1) = V at HV ⊢
              gi_wp2
              have hR := HP6.out.2.2
              obtain ⟨f1, f2, f3, f4⟩ := HH.out.2.1.1
              have e9 : (pre ++ [i]).map (bl x) = pre.map (bl x) ++ [(⟨i, ff, ee x i, onF x i⟩ : S47)] := by simp [bl, hff]
              refine ⟨⟨HV.out.2.2.2.2, fun k o hk ho hc => (HV.out.1 k (Array.getElem?_eq_some_iff.1 ho).1 (fun e => by
                  obtain ⟨_, _, _, q, _, cells, hcells⟩ := (Kd.R_bound hR).1 k e.symm
                  rw [ho] at hcells
                  cases hcells
                  cases hc) (by omega)).trans ho⟩, ⟨HV.out.2.2.2.2, HV.out.1 _ (by omega) (fun e => (hR.1 _ e.symm).2 rfl) (by omega), HV.out.1 _ (by omega) (fun e => (hR.1 _ e.symm).1 rfl) (by omega), HV.out.1 _ (by omega) (fun e => by have := Kd.R_base hR _ e.symm; omega) (by omega)⟩, HH.out.1.snoc (by simp [stopB, hff, h1, h2, h3, h4, h5]),
                ⟨⟨(HV.out.1 _ (blk_lt f1) (Kd.R_ne hR f1 (by decide)) (by omega)).trans f1, (HV.out.1 _ (blk_lt f2) (Kd.R_ne hR f2 (by decide)) (by omega)).trans f2, (HV.out.1 _ (blk_lt f3) (Kd.R_ne hR f3 (by decide)) (by omega)).trans f3, (HV.out.1 _ (blk_lt f4) (Kd.R_ne hR f4 (by decide)) (by omega)).trans f4⟩, _, HV.out.2.1, (by rw [e9]; exact HV.out.2.2.1)⟩, HV.out.2.2.2.1⟩
  case done =>
    rintro D ys W hD rfl ⟨hno, hS, hB⟩ hK
    have HST0 := Lib.hid (show x.bi + (n : Int) ≤ 200000 ∧ 0 ≤ x.bi from by omega)
    have hst : Stops x today most n n := ⟨Nat.le_refl _, hno.all, .inl rfl⟩
    clear hno hn
    obtain ⟨⟨hs, ht, hm, hz⟩, v, hv, hR⟩ := hS
    have sz := hB.size
    obtain ⟨A, cp, rfl⟩ := Kd.R_slice hR
    have hw : IntKind.i64.wrap (x.bi + ((n : Nat) : Int)) = x.bi + (n : Int) := by
      rw [i64_w]
      unfold wrap64
      have := HST0.out
      omega
    rw [bl_len, ix_len] at hv hR
    have u5 := blk_cell hs 7
    have q5 := blk_frozen hs 7
    have v0 := blk_cell hv 0
    simp [sc] at u5 v0
    have HH := Lib.hid (And.intro (And.intro hs (And.intro ht (And.intro hm hz))) (And.intro hv (And.intro hR hB)))
    have HK := Lib.hid hK
    clear hs ht hm hz hv hR hB hK
    gi_wp2
    have hs1 : (W.setCell ⟨w.heap.size, 7, none⟩ (.int .i64 (x.bi + (n : Int)))).heap[w.heap.size]? = some (.cells (sc { x with bi := x.bi + (n : Int) }) 26 (0, 0)) := (blk_set HH.out.1.1 7 _).trans (by simp [sc])
    have hz1 := blk_far HH.out.1.2.2.2 (p := ⟨w.heap.size, 7, none⟩) (by simp only []; omega) (.int .i64 (x.bi + (n : Int)))
    have hv1 := blk_far HH.out.2.1 (p := ⟨w.heap.size, 7, none⟩) (by simp only []; omega) (.int .i64 (x.bi + (n : Int)))
    have hR1 := Kd.R_set HH.out.2.2.1 HH.out.1.1 (by decide) 7 (.int .i64 (x.bi + (n : Int)))
    have hB1 := HH.out.2.2.2.setCell (p := ⟨w.heap.size, 7, none⟩) (by simp only []; omega) (.int .i64 (x.bi + (n : Int)))
    have hK1 := (Below.heap_setCell W ⟨w.heap.size, 7, none⟩ (.int .i64 (x.bi + (n : Int))) D (by simp only []; omega)).trans HK.out
    generalize W.setCell ⟨w.heap.size, 7, none⟩ (.int .i64 (x.bi + (n : Int))) = W1 at hs1 hz1 hv1 hR1 hB1 hK1 ⊢
    have H1 := Lib.hid (And.intro hz1 (And.intro hR1 (And.intro hB1 hK1)))
    have H10 := Lib.hid (S10.of hs1 hv1)
    clear hs1 hz1 hv1 hR1 hB1 hK1 u5 q5 v0
    refine start_in (m := 5) (S := S10 w.heap.size w3.heap.size { x with bi := x.bi + (n : Int) } (.slice A n cp)) (ds := [3]) #[false, false, false, false, false] (by kernel_rfl) (by kernel_rfl) (fun _ _ h => h) rfl rfl H10.out (fun hHeld => ?_)
    refine take_ (i := 0) (N := some 85) (v := ?_) (a' := ?_) #[true, false, false, false, false] rfl rfl (by kernel_rfl) (fun _ _ _ h => h) (Or.inl ⟨by rfl, ?_⟩) hHeld ?_ ?_
    rotate_left
    · rintro w' ⟨s0, s1, s2, s3, s4, s5, s6, s7, s8, s9, s10⟩
      go_simp
      with_reducible rfl
    rotate_left
    · simp only [Act.put, List.setIfInBounds_toArray, List.set_cons_zero, List.set_cons_succ, i64_w, i32_w]
      rfl
    refine take_ (i := 1) (N := some 86) (v := ?_) (a' := ?_) #[true, true, false, false, false] rfl rfl (by kernel_rfl) (fun _ _ _ h => h) (Or.inl ⟨by rfl, ?_⟩) hHeld ?_ ?_
    rotate_left
    · rintro w' ⟨s0, s1, s2, s3, s4, s5, s6, s7, s8, s9, s10⟩
      go_simp
      with_reducible rfl
    rotate_left
    · simp only [Act.put, List.setIfInBounds_toArray, List.set_cons_zero, List.set_cons_succ, i64_w, i32_w]
      rfl
    refine pure_ (i := 2) (N := some 6) (v := ?_) (a' := ?_) #[true, true, true, false, false] rfl rfl (by kernel_rfl) (fun _ _ _ h => h) (Or.inl ⟨by rfl, ?_⟩) ?_ ?_
    rotate_left
    · intro w'
      go_simp
      with_reducible rfl
    rotate_left
    · simp only [Act.put, List.setIfInBounds_toArray, List.set_cons_zero, List.set_cons_succ, i64_w, i32_w]
      rfl
    refine last_ (i := 3) (N := none) #[true, true, true, true, false] rfl rfl (by kernel_rfl) (by decide) (fun K hK => ?_)
    refine skip_ (by rfl) rfl (skip_store rfl (store10 _ _ { x with bi := x.bi + (n : Int) } H1.out.1)) ?_
    refine hK.out _ _ ?_
    clear hK K
    refine pure_ (i := 4) (N := some 8) (v := ?_) (a' := ?_) #[true, true, true, true, true] rfl rfl (by kernel_rfl) (fun _ _ _ h => h) (Or.inl ⟨by rfl, ?_⟩) ?_ ?_
    rotate_left
    · intro w'
      go_simp
      with_reducible rfl
    rotate_left
    · simp only [Act.put, List.setIfInBounds_toArray, List.set_cons_zero, List.set_cons_succ, i64_w, i32_w]
      rfl
    refine done_in (by kernel_rfl) ?_
    have hp := put10_self W1.drew (w.heap.size + 1 + 1 + 1) { x with bi := x.bi + (n : Int) } _ H1.out.1
    have hk := (put10_heap W1.drew (w.heap.size + 1 + 1 + 1) D { x with bi := x.bi + (n : Int) } (by omega)).trans H1.out.2.2.2
    have hb := put10_below (H1.out.2.2.1.trans ((below_drew1 (Below.refl W1.heap.size W1)).mono (by have := H1.out.2.2.1.size; omega))) (w.heap.size + 1 + 1 + 1) { x with bi := x.bi + (n : Int) } (by omega)
    have hr : Kd.R k47 47 (put10 W1.drew (w.heap.size + 1 + 1 + 1) { x with bi := x.bi + (n : Int) }) w.heap.size _ _ _ := Kd.R_step (Kd.R_types (Kd.R_drew H1.out.2.1) H1.out.1 (by decide)) (fun k ho _ => put10_heap W1.drew (w.heap.size + 1 + 1 + 1) k { x with bi := x.bi + (n : Int) } ho.2)
    generalize put10 W1.drew (w.heap.size + 1 + 1 + 1) { x with bi := x.bi + (n : Int) } = V at hp hk hb hr ⊢
    gi_wp2
    refine ⟨by simp, .inl ⟨_, _, rfl, run_takeDeferred hk, ?_⟩⟩
    have hp8 := (World.putObj_heap_other (o := .deferred none) (show w.heap.size + 1 + 1 + 1 ≠ D by omega)).trans hp
    have hr8 := Kd.R_mono (Kd.R_step (w1 := V.putObj D (.deferred none)) (Kd.R_bound hr) (fun j ho _ => World.putObj_heap_other (fun e => by
      obtain ⟨_, _, _, q, _, cells, hcells⟩ := ho
      rw [e, hk] at hcells
      cases hcells))) (ok' := fun _ => True) (fun _ _ => trivial)
    have hb8 := (b4.trans hb).trans (belowK_b (w := w) (Nat.le_refl _) _ D _ (.deferred none) (by omega) hk rfl rfl)
    refine ⟨.tuple #[.slice A n cp, .agg (sc { x with bi := x.bi + (n : Int) }), .int .i64 0], ?_, .slice A n cp, n, hst, rfl, hr8, hb8⟩
    have t0 := blk_cell hp8 0
    have t1 := blk_cell hp8 1
    have t2 := blk_cell hp8 2
    have t3 := blk_cell hp8 3
    have t4 := blk_cell hp8 4
    have t5 := blk_cell hp8 5
    have t6 := blk_cell hp8 6
    have t7 := blk_cell hp8 7
    have t8 := blk_cell hp8 8
    have t9 := blk_cell hp8 9
    simp [sc] at t0 t1 t2 t3 t4 t5 t6 t7 t8 t9
    simp [results, Tryd.results14, go_sem, t0, t1, t2, t3, t4, t5, t6, t7, t8, t9, sc]
  case stop =>
    rintro D c pre W hD ⟨m, hm, hpre⟩ ⟨⟨rfl, q, i, hq, hsb, hno, hS⟩, hB⟩ hK
    have hqi : q = ix x.bi m ∧ i = x.bi + (m : Int) := by
      rw [hpre, ix_succ] at hq
      have := List.append_inj' hq rfl
      exact ⟨this.1.symm, by simpa using this.2.symm⟩
    obtain ⟨rfl, rfl⟩ := hqi
    rw [ix_len] at hsb
    have HST0 := Lib.hid (show x.bi + (m : Int) ≤ 200000 ∧ 0 ≤ x.bi from by omega)
    have hst : Stops x today most n m := ⟨by omega, hno.all, .inr hsb⟩
    clear hno hsb hq hpre hn
    obtain ⟨⟨hs, ht, hm, hz⟩, v, hv, hR⟩ := hS
    have sz := hB.size
    obtain ⟨A, cp, rfl⟩ := Kd.R_slice hR
    have hw : IntKind.i64.wrap (x.bi + ((m : Nat) : Int)) = x.bi + (m : Int) := by
      rw [i64_w]
      unfold wrap64
      have := HST0.out
      omega
    rw [bl_len, ix_len] at hv hR
    have u5 := blk_cell hs 7
    have q5 := blk_frozen hs 7
    have v0 := blk_cell hv 0
    simp [sc] at u5 v0
    have HH := Lib.hid (And.intro (And.intro hs (And.intro ht (And.intro hm hz))) (And.intro hv (And.intro hR hB)))
    have HK := Lib.hid hK
    clear hs ht hm hz hv hR hB hK
    gi_wp2
    have hs1 : (W.setCell ⟨w.heap.size, 7, none⟩ (.int .i64 (x.bi + (m : Int)))).heap[w.heap.size]? = some (.cells (sc { x with bi := x.bi + (m : Int) }) 26 (0, 0)) := (blk_set HH.out.1.1 7 _).trans (by simp [sc])
    have hz1 := blk_far HH.out.1.2.2.2 (p := ⟨w.heap.size, 7, none⟩) (by simp only []; omega) (.int .i64 (x.bi + (m : Int)))
    have hv1 := blk_far HH.out.2.1 (p := ⟨w.heap.size, 7, none⟩) (by simp only []; omega) (.int .i64 (x.bi + (m : Int)))
    have hR1 := Kd.R_set HH.out.2.2.1 HH.out.1.1 (by decide) 7 (.int .i64 (x.bi + (m : Int)))
    have hB1 := HH.out.2.2.2.setCell (p := ⟨w.heap.size, 7, none⟩) (by simp only []; omega) (.int .i64 (x.bi + (m : Int)))
    have hK1 := (Below.heap_setCell W ⟨w.heap.size, 7, none⟩ (.int .i64 (x.bi + (m : Int))) D (by simp only []; omega)).trans HK.out
    generalize W.setCell ⟨w.heap.size, 7, none⟩ (.int .i64 (x.bi + (m : Int))) = W1 at hs1 hz1 hv1 hR1 hB1 hK1 ⊢
    have H1 := Lib.hid (And.intro hz1 (And.intro hR1 (And.intro hB1 hK1)))
    have H10 := Lib.hid (S10.of hs1 hv1)
    clear hs1 hz1 hv1 hR1 hB1 hK1 u5 q5 v0
    refine start_in (m := 5) (S := S10 w.heap.size w3.heap.size { x with bi := x.bi + (m : Int) } (.slice A m cp)) (ds := [3]) #[false, false, false, false, false] (by kernel_rfl) (by kernel_rfl) (fun _ _ h => h) rfl rfl H10.out (fun hHeld => ?_)
    refine take_ (i := 0) (N := some 85) (v := ?_) (a' := ?_) #[true, false, false, false, false] rfl rfl (by kernel_rfl) (fun _ _ _ h => h) (Or.inl ⟨by rfl, ?_⟩) hHeld ?_ ?_
    rotate_left
    · rintro w' ⟨s0, s1, s2, s3, s4, s5, s6, s7, s8, s9, s10⟩
      go_simp
      with_reducible rfl
    rotate_left
    · simp only [Act.put, List.setIfInBounds_toArray, List.set_cons_zero, List.set_cons_succ, i64_w, i32_w]
      rfl
    refine take_ (i := 1) (N := some 86) (v := ?_) (a' := ?_) #[true, true, false, false, false] rfl rfl (by kernel_rfl) (fun _ _ _ h => h) (Or.inl ⟨by rfl, ?_⟩) hHeld ?_ ?_
    rotate_left
    · rintro w' ⟨s0, s1, s2, s3, s4, s5, s6, s7, s8, s9, s10⟩
      go_simp
      with_reducible rfl
    rotate_left
    · simp only [Act.put, List.setIfInBounds_toArray, List.set_cons_zero, List.set_cons_succ, i64_w, i32_w]
      rfl
    refine pure_ (i := 2) (N := some 6) (v := ?_) (a' := ?_) #[true, true, true, false, false] rfl rfl (by kernel_rfl) (fun _ _ _ h => h) (Or.inl ⟨by rfl, ?_⟩) ?_ ?_
    rotate_left
    · intro w'
      go_simp
      with_reducible rfl
    rotate_left
    · simp only [Act.put, List.setIfInBounds_toArray, List.set_cons_zero, List.set_cons_succ, i64_w, i32_w]
      rfl
    refine last_ (i := 3) (N := none) #[true, true, true, true, false] rfl rfl (by kernel_rfl) (by decide) (fun K hK => ?_)
    refine skip_ (by rfl) rfl (skip_store rfl (store10 _ _ { x with bi := x.bi + (m : Int) } H1.out.1)) ?_
    refine hK.out _ _ ?_
    clear hK K
    refine pure_ (i := 4) (N := some 8) (v := ?_) (a' := ?_) #[true, true, true, true, true] rfl rfl (by kernel_rfl) (fun _ _ _ h => h) (Or.inl ⟨by rfl, ?_⟩) ?_ ?_
    rotate_left
    · intro w'
      go_simp
      with_reducible rfl
    rotate_left
    · simp only [Act.put, List.setIfInBounds_toArray, List.set_cons_zero, List.set_cons_succ, i64_w, i32_w]
      rfl
    refine done_in (by kernel_rfl) ?_
    have hp := put10_self W1.drew (w.heap.size + 1 + 1 + 1) { x with bi := x.bi + (m : Int) } _ H1.out.1
    have hk := (put10_heap W1.drew (w.heap.size + 1 + 1 + 1) D { x with bi := x.bi + (m : Int) } (by omega)).trans H1.out.2.2.2
    have hb := put10_below (H1.out.2.2.1.trans ((below_drew1 (Below.refl W1.heap.size W1)).mono (by have := H1.out.2.2.1.size; omega))) (w.heap.size + 1 + 1 + 1) { x with bi := x.bi + (m : Int) } (by omega)
    have hr : Kd.R k47 47 (put10 W1.drew (w.heap.size + 1 + 1 + 1) { x with bi := x.bi + (m : Int) }) w.heap.size _ _ _ := Kd.R_step (Kd.R_types (Kd.R_drew H1.out.2.1) H1.out.1 (by decide)) (fun k ho _ => put10_heap W1.drew (w.heap.size + 1 + 1 + 1) k { x with bi := x.bi + (m : Int) } ho.2)
    generalize put10 W1.drew (w.heap.size + 1 + 1 + 1) { x with bi := x.bi + (m : Int) } = V at hp hk hb hr ⊢
    gi_wp2
    refine ⟨by simp, .inl ⟨_, _, rfl, run_takeDeferred hk, ?_⟩⟩
    have hp8 := (World.putObj_heap_other (o := .deferred none) (show w.heap.size + 1 + 1 + 1 ≠ D by omega)).trans hp
    have hr8 := Kd.R_mono (Kd.R_step (w1 := V.putObj D (.deferred none)) (Kd.R_bound hr) (fun j ho _ => World.putObj_heap_other (fun e => by
      obtain ⟨_, _, _, q, _, cells, hcells⟩ := ho
      rw [e, hk] at hcells
      cases hcells))) (ok' := fun _ => True) (fun _ _ => trivial)
    have hb8 := (b4.trans hb).trans (belowK_b (w := w) (Nat.le_refl _) _ D _ (.deferred none) (by omega) hk rfl rfl)
    refine ⟨.tuple #[.slice A m cp, .agg (sc { x with bi := x.bi + (m : Int) }), .int .i64 0], ?_, .slice A m cp, m, hst, rfl, hr8, hb8⟩
    have t0 := blk_cell hp8 0
    have t1 := blk_cell hp8 1
    have t2 := blk_cell hp8 2
    have t3 := blk_cell hp8 3
    have t4 := blk_cell hp8 4
    have t5 := blk_cell hp8 5
    have t6 := blk_cell hp8 6
    have t7 := blk_cell hp8 7
    have t8 := blk_cell hp8 8
    have t9 := blk_cell hp8 9
    simp [sc] at t0 t1 t2 t3 t4 t5 t6 t7 t8 t9
    simp [results, Tryd.results14, go_sem, t0, t1, t2, t3, t4, t5, t6, t7, t8, t9, sc]
end Go.Proofs.YtibkbimhedoafaaDoor.psub
