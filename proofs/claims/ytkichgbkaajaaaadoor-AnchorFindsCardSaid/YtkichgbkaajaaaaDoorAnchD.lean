/- What anchor.bounds, Bound and Find answer (walks). The table of the days ahead of months holds its numbers. -/
import Derived.Test.YtkichgbkaajaaaaDoorAnchC
import Derived.RangeFuncFrom
namespace Go.Proofs.YtkichgbkaajaaaaDoor.anch
open Go.RowKit Go.Proofs.YtkichgbkaajaaaaDoor.base Go.Shelf
open Go.Proofs.YtkichgbkaajaaaaDoor.civ (Tab)

attribute [local go_sem] Oper.semAt_some

theorem check_t {s a E : Int} (w : World) (h : An.ok s a E = true) : Calls Tryd.prog 10 #[cyc s a E] w fun e w' => e = .returned (.int .i64 0) ∧ Below w.heap.size w w' :=
  (check_any s a E w).mono fun _ _ ⟨p, q⟩ => ⟨p.trans (ret_int (by simp [An.ckE, h])), q⟩
theorem check_f {s a E : Int} (w : World) (h : An.ok s a E = false) : Calls Tryd.prog 10 #[cyc s a E] w fun e w' => e = .returned (.int .i64 2) ∧ Below w.heap.size w w' :=
  (check_any s a E w).mono fun _ _ ⟨p, q⟩ => ⟨p.trans (ret_int (by simp [An.ckE, h])), q⟩
/-- Where a cycle and a day lie. -/
structure Held (s a E d : Int) (Bc Bd : Nat) (w : World) : Prop where
  c0 : w.cell? ⟨Bc, 0, none⟩ = some (.int .i64 s)
  c1 : w.cell? ⟨Bc, 1, none⟩ = some (.int .i64 a)
  c2 : w.cell? ⟨Bc, 2, none⟩ = some (.int .i64 E)
  d0 : w.cell? ⟨Bd, 0, none⟩ = some (.int .i64 d)
  tab : Tab w
theorem Held.below {s a E d : Int} {Bc Bd n₀ : Nat} {w w' : World} (h : Held s a E d Bc Bd w) (hb : Below n₀ w w') (h1 : Bc < n₀) (h2 : Bd < n₀) (h3 : 0 < n₀) : Held s a E d Bc Bd w' :=
  ⟨(hb.cell (p := ⟨Bc, 0, none⟩) h1).trans h.c0, (hb.cell (p := ⟨Bc, 1, none⟩) h1).trans h.c1, (hb.cell (p := ⟨Bc, 2, none⟩) h1).trans h.c2, (hb.cell (p := ⟨Bd, 0, none⟩) h2).trans h.d0,
    fun i hi => (hb.cell (p := ⟨0, i, none⟩) h3).trans (h.tab i hi)⟩
/-- What anchor.bounds answers is an iterator that keeps its word. -/
theorem bounds_stops (s a E d : Int) (Bc Bd : Nat) (w : World) (hok : An.ok s a E = true) (h : Held s a E d Bc Bd w) :
    SeqStopsK Fence.wide 2 Tryd.prog 30 #[.pointer (some ⟨Bc, 0, none⟩), .pointer (some ⟨Bd, 0, none⟩)] enc2 (Kd Bc Bd)
      (fun ys => ys = An.cum s a E d (An.full s a E d)) (fun pre => ∃ k, k ≤ An.full s a E d ∧ pre = An.cum s a E d k) (An.full s a E d + 1) w := fun l J Jx W hW hJ _ hY h0 => by
  have h1 := lt_of_cell h.c0
  have h2 := lt_of_cell h.d0
  have h3 := lt_of_cell (h.tab 0 (by omega))
  simp only at h1 h2 h3
  have g := h.below hW h1 h2 h3
  have sz := hW.size
  exact iter_in l Bc Bd s a E d hok J Jx hY W hJ (by omega) (by omega) (by omega) g.tab g.c0 g.c1 g.c2 g.d0 h0
theorem bounds_any (s a E d : Int) (w : World) : CallsIn Fence.wide 2 Tryd.prog 22 #[cyc s a E, .int .i64 d] w fun e w' =>
    e = .returned (.func (.func 30) #[] #[.pointer (some ⟨w.heap.size, 0, none⟩), .pointer (some ⟨w.heap.size + 1, 0, none⟩)]) ∧ w'.heap.size = w.heap.size + 2 ∧ Below w.heap.size w w' ∧
      (Tab w → Held s a E d w.heap.size (w.heap.size + 1) w') := by
  refine callsIn_of_wp Tryd.func22 rfl trivial ?_ rfl
  simp only [Tryd.ntmps22, List.size_toArray, List.length_cons, List.length_nil, Nat.reduceAdd, Nat.reduceSub, Array.replicate_succ, Array.replicate_zero, List.push_toArray, List.append_toArray, List.nil_append, List.cons_append]
  gi_wp2
  go_ret
  have hb : ∀ o1 o2, Below w.heap.size w ((w.alloc o1).alloc o2) := fun o1 o2 => ((Below.refl _ w).alloc (Nat.le_refl _) _).alloc (by simp) _
  refine ⟨rfl, by simp, hb _ _, fun T => ⟨?_, ?_, ?_, ?_, Tab.after T (hb _ _)⟩⟩
  · simp [go_sem]
  · simp [go_sem]
  · simp [go_sem]
  · simp [go_sem]
/-- A cell of one's own. -/
def At (w : World) (b : Nat) (v : Value) : Prop := w.cell? ⟨b, 0, none⟩ = some v ∧ w.frozen? ⟨b, 0, none⟩ = false
theorem At.below {w w' : World} {b B : Nat} {v : Value} (h : At w b v) (hb : Below B w w') (hB : b < B) : At w' b v :=
  ⟨(hb.cell (p := ⟨b, 0, none⟩) hB).trans h.1, (hb.frozen (p := ⟨b, 0, none⟩) hB).trans h.2⟩
theorem At.kept {A B : World} {row : Option Nat} {b : Nat} {v : Value} (h : At A b v) (hg : A.grownBy B row) (hr : ∀ r, row = some r → ∃ o : Obj, A.heap[r]? = some o ∧ o.isCells = false) : At B b v :=
  ⟨cell_kept h.1 hg hr, (frozen_kept h.1 hg hr).trans h.2⟩
theorem At.set {w : World} {b : Nat} {v : Value} (h : At w b v) (u : Value) : At (w.setCell ⟨b, 0, none⟩ u) b u :=
  ⟨World.cell?_setCell_same' _ _ _ (by rw [h.1]; rfl), by rw [World.frozen?_setCell]; exact h.2⟩
theorem At.other {w : World} {b c : Nat} {v : Value} (h : At w b v) (hne : b ≠ c) (u : Value) : At (w.setCell ⟨c, 0, none⟩ u) b v :=
  ⟨(World.cell?_of_block (Below.heap_setCell w ⟨c, 0, none⟩ _ b hne)).trans h.1, by rw [World.frozen?_setCell]; exact h.2⟩
theorem At.drop {w : World} {b D : Nat} {v : Value} (h : At w b v) (hK : w.heap[D]? = some (.deferred (some []))) : At (w.putObj D (.deferred none)) b v :=
  h.kept (grownBy_putObj' _ D (.deferred none)) (fun r e => by cases e; exact ⟨_, hK, rfl⟩)
set_option maxRecDepth 100000 in
set_option maxHeartbeats 2000000 in
theorem bound_any (s a E k : Int) (w : World) (T : Tab w) : Calls Tryd.prog 13 #[cyc s a E, .int .i64 k] w fun e w' => e = .returned (.tuple #[.int .i64 (An.bV s a E k), .int .i64 (An.bE s a E k)]) ∧ Below w.heap.size w w' := by
  have lt := lt_of_cell (T 0 (by omega))
  simp only at lt
  have HT := Lib.hid T
  clear T
  refine (callsIn_wide (n := 3)).1 ?_
  refine callsIn_of_wp_marks Tryd.func13 rfl trivial ?_ rfl
  simp only [Tryd.ntmps13, List.size_toArray, List.length_cons, List.length_nil, Nat.reduceAdd, Nat.reduceSub, Array.replicate_succ, Array.replicate_zero, List.push_toArray, List.append_toArray, List.nil_append, List.cons_append]
  cases hok : An.ok s a E with
  | false =>
      have HO := Lib.hid hok
      clear hok
      gi_wp2_with fail
      refine ⟨trivial, (callsIn_wide.2 (check_f _ HO.out)).mono ?_⟩
      rintro e w1 ⟨rfl, B1⟩
      simp only [World.size_alloc] at B1
      have s1 := B1.size
      simp only [World.size_alloc] at s1
      have b0 : Below w.heap.size w w1 := ((((((Below.refl _ w).alloc (Nat.le_refl _) _).alloc (by simp) _).alloc (by simp; omega) _).alloc (by simp; omega) _)).trans (B1.mono (by omega))
      have pk : At w1 (w.heap.size + 1) (.int .i64 k) := At.below (B := w.heap.size + 1 + 1 + 1 + 1) ⟨by simp [go_sem], by simp [go_sem]⟩ B1 (by omega)
      have pr : At w1 (w.heap.size + 1 + 1) (.int .i64 0) := At.below (B := w.heap.size + 1 + 1 + 1 + 1) ⟨by simp [go_sem], by simp [go_sem]⟩ B1 (by omega)
      have pe : At w1 (w.heap.size + 1 + 1 + 1) (.int .i64 0) := At.below (B := w.heap.size + 1 + 1 + 1 + 1) ⟨by simp [go_sem], by simp [go_sem]⟩ B1 (by omega)
      have pk1 := pk.1
      have pr1 := pr.1
      have pr2 := pr.2
      have pe1 := pe.1
      have pe2 := pe.2
      clear B1
      gi_wp2
      have r1 := ((pr.set (.int .i64 0)).other (c := w.heap.size + 1 + 1 + 1) (by omega) (.int .i64 2)).1
      have r2 := ((pe.other (c := w.heap.size + 1 + 1) (by omega) (.int .i64 0)).set (.int .i64 2)).1
      refine ⟨.tuple #[.int .i64 0, .int .i64 2], ?_, ?_, (b0.setCell (p := ⟨w.heap.size + 1 + 1, 0, none⟩) (by simp; omega) (.int .i64 0)).setCell (p := ⟨w.heap.size + 1 + 1 + 1, 0, none⟩) (by simp; omega) (.int .i64 2)⟩
      · simp [results, Tryd.results13, go_sem, r1, r2]
      · exact ret_two (by simp [An.bV, An.bOk, HO.out]) (by simp [An.bE, An.bOk, HO.out])
  | true =>
    have HO := Lib.hid hok
    by_cases hk : k < 0
    · gi_wp2_with fail
      refine ⟨trivial, (callsIn_wide.2 (check_t _ HO.out)).mono ?_⟩
      rintro e w1 ⟨rfl, B1⟩
      simp only [World.size_alloc] at B1
      have s1 := B1.size
      simp only [World.size_alloc] at s1
      have b0 : Below w.heap.size w w1 := ((((((Below.refl _ w).alloc (Nat.le_refl _) _).alloc (by simp) _).alloc (by simp; omega) _).alloc (by simp; omega) _)).trans (B1.mono (by omega))
      have pk : At w1 (w.heap.size + 1) (.int .i64 k) := At.below (B := w.heap.size + 1 + 1 + 1 + 1) ⟨by simp [go_sem], by simp [go_sem]⟩ B1 (by omega)
      have pr : At w1 (w.heap.size + 1 + 1) (.int .i64 0) := At.below (B := w.heap.size + 1 + 1 + 1 + 1) ⟨by simp [go_sem], by simp [go_sem]⟩ B1 (by omega)
      have pe : At w1 (w.heap.size + 1 + 1 + 1) (.int .i64 0) := At.below (B := w.heap.size + 1 + 1 + 1 + 1) ⟨by simp [go_sem], by simp [go_sem]⟩ B1 (by omega)
      have pk1 := pk.1
      have pr1 := pr.1
      have pr2 := pr.2
      have pe1 := pe.1
      have pe2 := pe.2
      clear B1
      gi_wp2
      have r1 := ((pr.set (.int .i64 0)).other (c := w.heap.size + 1 + 1 + 1) (by omega) (.int .i64 2)).1
      have r2 := ((pe.other (c := w.heap.size + 1 + 1) (by omega) (.int .i64 0)).set (.int .i64 2)).1
      refine ⟨.tuple #[.int .i64 0, .int .i64 2], ?_, ?_, (b0.setCell (p := ⟨w.heap.size + 1 + 1, 0, none⟩) (by simp; omega) (.int .i64 0)).setCell (p := ⟨w.heap.size + 1 + 1 + 1, 0, none⟩) (by simp; omega) (.int .i64 2)⟩
      · simp [results, Tryd.results13, go_sem, r1, r2]
      · exact ret_two (by simp [An.bV, An.bOk, HO.out]; omega) (by simp [An.bE, An.bOk, HO.out]; omega)
    · gi_wp2_with fail
      refine ⟨trivial, (callsIn_wide.2 (check_t _ HO.out)).mono ?_⟩
      rintro e w1 ⟨rfl, B1⟩
      simp only [World.size_alloc] at B1
      have s1 := B1.size
      simp only [World.size_alloc] at s1
      have b0 : Below w.heap.size w w1 := ((((((Below.refl _ w).alloc (Nat.le_refl _) _).alloc (by simp) _).alloc (by simp; omega) _).alloc (by simp; omega) _)).trans (B1.mono (by omega))
      have p0 := (B1.cell (p := ⟨w.heap.size, 0, none⟩) (by simp; omega)).trans (show _ = some (.int .i64 s) by simp [go_sem])
      have p1 := (B1.cell (p := ⟨w.heap.size, 1, none⟩) (by simp; omega)).trans (show _ = some (.int .i64 a) by simp [go_sem])
      have p2 := (B1.cell (p := ⟨w.heap.size, 2, none⟩) (by simp; omega)).trans (show _ = some (.int .i64 E) by simp [go_sem])
      have pk : At w1 (w.heap.size + 1) (.int .i64 k) := At.below (B := w.heap.size + 1 + 1 + 1 + 1) ⟨by simp [go_sem], by simp [go_sem]⟩ B1 (by omega)
      have pr : At w1 (w.heap.size + 1 + 1) (.int .i64 0) := At.below (B := w.heap.size + 1 + 1 + 1 + 1) ⟨by simp [go_sem], by simp [go_sem]⟩ B1 (by omega)
      have pe : At w1 (w.heap.size + 1 + 1 + 1) (.int .i64 0) := At.below (B := w.heap.size + 1 + 1 + 1 + 1) ⟨by simp [go_sem], by simp [go_sem]⟩ B1 (by omega)
      have pk1 := pk.1
      clear B1
      gi_wp2_with fail
      refine ⟨trivial, (bounds_any s a E s w1).mono ?_⟩
      rintro e w2 ⟨rfl, s2, B2, H2⟩
      gi_wp2
      have T1 := Lib.hid (Tab.after HT.out b0)
      have H3 := H2 T1.out
      have qk := pk.below B2 (by omega)
      have qr := pr.below B2 (by omega)
      have qe := pe.below B2 (by omega)
      have b2 := b0.trans (B2.mono (by omega))
      have sz2 := s2
      clear B2 H2 pk pr pe p0 p1 p2 pk1 b0
      refine wpIn_rangeFunc_ownF rfl (by omega) (gf := 30) (lb := #[.pointer (some ⟨w1.heap.size, 0, none⟩), .pointer (some ⟨w1.heap.size + 1, 0, none⟩)]) rfl trivial (enters_of Tryd.func30 (by kernel_rfl) rfl)
        (bounds_stops s a E s w1.heap.size (w1.heap.size + 1) w2 HO.out H3) (fun h k => h.trans k) (fun W l o o' hl _ _ _ => Kd.put W l o' hl (by omega) (by omega) (by omega)) (Below.refl _ _) (fun _ => rfl)
        (fun pre W => ((∀ y ∈ pre, y.1 ≠ k) ∧ At W (w.heap.size + 1) (.int .i64 k) ∧ At W (w.heap.size + 1 + 1) (.int .i64 0) ∧ At W (w.heap.size + 1 + 1 + 1) (.int .i64 0)) ∧ Below w.heap.size w W)
        (fun c pre W => (c = .ret ∧ ∃ q b, pre = q ++ [(k, b)] ∧ At W (w.heap.size + 1 + 1) (.int .i64 b) ∧ At W (w.heap.size + 1 + 1 + 1) (.int .i64 0)) ∧ Below w.heap.size w W)
        (OwnFrom.and (Own.from (fun s A B row hs hg hr => ⟨hs.1, hs.2.1.kept hg hr, hs.2.2.1.kept hg hr, hs.2.2.2.kept hg hr⟩) _) (ownFrom_below (Nat.le_refl _) (by omega)))
        (fun c => OwnFrom.and (Own.from (fun s A B row hs hg hr => by obtain ⟨h1, q, b, h2, h3, h4⟩ := hs; exact ⟨h1, q, b, h2, h3.kept hg hr, h4.kept hg hr⟩) _) (ownFrom_below (Nat.le_refl _) (by omega)))
        ⟨⟨by simp, qk, qr, qe⟩, b2⟩ ?a1 ?assign ?body ?done ?stop
      case assign =>
        intro l x W K hK
        gi_wp2
        exact hK
      case body =>
        rintro l pre x W ⟨⟨hp, gk, gr, ge⟩, hB⟩ _
        have gk1 := gk.1
        have gr1 := gr.1
        have gr2 := gr.2
        have ge1 := ge.1
        have ge2 := ge.2
        by_cases hx : x.1 = k
        · gi_wp2
          exact ⟨(KeepsOthers.setCell _ _ _).trans (KeepsOthers.setCell _ _ _), ⟨rfl, pre, x.2, by rw [← hx], (gr.set _).other (by omega) _, (ge.other (by omega) _).set _⟩,
            (hB.setCell (p := ⟨w.heap.size + 1 + 1, 0, none⟩) (by simp; omega) _).setCell (p := ⟨w.heap.size + 1 + 1 + 1, 0, none⟩) (by simp; omega) _⟩
        · gi_wp2
          exact ⟨KeepsOthers.refl _, Kd.refl _ _ _, ⟨fun y hy => (List.mem_append.1 hy).elim (hp y) (fun e => by simp at e; subst e; exact hx), gk, gr, ge⟩, hB⟩
      case done =>
        rintro D ys W hD rfl ⟨⟨hne, gk, gr, ge⟩, hB⟩ hK
        have gr1 := gr.1
        have gr2 := gr.2
        have ge1 := ge.1
        have ge2 := ge.2
        have HN := Lib.hid (An.cum_none (by omega) hne)
        have HK := Lib.hid hK
        clear hne hK
        gi_wp2
        have hK' := ((KeepsOthers.setCell W ⟨w.heap.size + 1 + 1, 0, none⟩ (.int .i64 0)).trans (KeepsOthers.setCell _ ⟨w.heap.size + 1 + 1 + 1, 0, none⟩ (.int .i64 7))).same D _ HK.out rfl
        have r1 := (((gr.set (.int .i64 0)).other (c := w.heap.size + 1 + 1 + 1) (by omega) (.int .i64 7)).drop hK').1
        have r2 := (((ge.other (c := w.heap.size + 1 + 1) (by omega) (.int .i64 0)).set (.int .i64 7)).drop hK').1
        have hB' := (hB.setCell (p := ⟨w.heap.size + 1 + 1, 0, none⟩) (by simp; omega) (.int .i64 0)).setCell (p := ⟨w.heap.size + 1 + 1 + 1, 0, none⟩) (by simp; omega) (.int .i64 7)
        refine ⟨by simp, .inl ⟨_, _, rfl, run_takeDeferred hK', ?_⟩⟩
        refine ⟨.tuple #[.int .i64 0, .int .i64 7], ?_, ?_, hB'.trans (belowK_b (w := w) (Nat.le_refl _) _ D _ _ (by have := b2.size; omega) hK' rfl rfl)⟩
        · simp [results, Tryd.results13, go_sem, r1, r2]
        · have := HN.out
          exact ret_two (by simp [An.bV]; omega) (by simp [An.bE, An.bOk, HO.out]; omega)
      case stop =>
        rintro D c pre W hD ⟨n, hn, hcum⟩ ⟨⟨rfl, q, b, hq, gr, ge⟩, hB⟩ hK
        have HK := Lib.hid hK
        have HL := Lib.hid (An.cum_last HO.out hn (hcum.symm.trans hq))
        clear hcum hq hK hn
        gi_wp2
        have hK' := HK.out
        have r1 := (gr.drop hK').1
        have r2 := (ge.drop hK').1
        refine ⟨by simp, .inl ⟨_, _, rfl, run_takeDeferred hK', ?_⟩⟩
        refine ⟨.tuple #[.int .i64 b, .int .i64 0], ?_, ?_, hB.trans (belowK_b (w := w) (Nat.le_refl _) _ D _ _ (by have := b2.size; omega) hK' rfl rfl)⟩
        · simp [results, Tryd.results13, go_sem, r1, r2]
        · obtain ⟨l1, l2, l3, _⟩ := HL.out
          exact ret_two (by simp [An.bV, An.bOk, HO.out, l1, l2, l3]) (by simp [An.bE, An.bOk, HO.out, l1, l2])
end Go.Proofs.YtkichgbkaajaaaaDoor.anch
