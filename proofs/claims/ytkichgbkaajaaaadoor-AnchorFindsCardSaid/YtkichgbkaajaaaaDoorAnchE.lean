/- What anchor.Find answers (a walk). The table of the days ahead of months holds its numbers. -/
import Derived.Test.YtkichgbkaajaaaaDoorAnchD
namespace Go.Proofs.YtkichgbkaajaaaaDoor.anch
open Go.RowKit Go.Proofs.YtkichgbkaajaaaaDoor.base Go.Shelf
open Go.Proofs.YtkichgbkaajaaaaDoor.civ (Tab ret_four)

attribute [local go_sem] Oper.semAt_some

theorem At.drew {w : World} {b : Nat} {v : Value} (h : At w b v) : At w.drew b v := h
theorem Kd.set {Bc Bd c : Nat} (W : World) (h1 : Bc ≠ c) (h2 : Bd ≠ c) (h3 : 0 ≠ c) (v : Value) : Kd Bc Bd W (W.setCell ⟨c, 0, none⟩ v) :=
  ⟨by simp, Below.heap_setCell W ⟨c, 0, none⟩ v Bc h1, Below.heap_setCell W ⟨c, 0, none⟩ v Bd h2, Below.heap_setCell W ⟨c, 0, none⟩ v _ h3⟩
set_option maxRecDepth 100000 in
set_option maxHeartbeats 1000000 in
theorem find_any (s a E d : Int) (w : World) (T : Tab w) : Calls Tryd.prog 15 #[cyc s a E, .int .i64 d] w fun e w' =>
    e = .returned (.tuple #[.int .i64 (An.fV s a E d (An.fk s a E d)), .int .i64 (An.fV s a E d (An.B s a E (An.fk s a E d))), .int .i64 (An.fV s a E d (An.B s a E (An.fk s a E d + 1))), .int .i64 (An.fE s a E d)]) ∧ Below w.heap.size w w' := by
  have lt := lt_of_cell (T 0 (by omega))
  simp only at lt
  have HT := Lib.hid T
  clear T
  refine (callsIn_wide (n := 3)).1 ?_
  refine callsIn_of_wp_marks Tryd.func15 rfl trivial ?_ rfl
  simp only [Tryd.ntmps15, List.size_toArray, List.length_cons, List.length_nil, Nat.reduceAdd, Nat.reduceSub, Array.replicate_succ, Array.replicate_zero, List.push_toArray, List.append_toArray, List.nil_append, List.cons_append]
  cases hok : An.ok s a E with
  | false =>
      have HO := Lib.hid hok
      have HF := Lib.hid (show An.fOk s a E d = false by simp [An.fOk, hok])
      have HI := Lib.hid (show An.fIn s a E d = false by simp [An.fIn, HF.out])
      clear hok
      gi_wp2_with fail
      refine ⟨trivial, (callsIn_wide.2 (check_f _ HO.out)).mono ?_⟩
      rintro e w1 ⟨rfl, B1⟩
      simp only [World.size_alloc] at B1
      have s1 := B1.size
      simp only [World.size_alloc] at s1
      have b0 : Below w.heap.size w w1 := ((((((((Below.refl _ w).alloc (Nat.le_refl _) _).alloc (by simp) _).alloc (by simp; omega) _).alloc (by simp; omega) _).alloc (by simp; omega) _).alloc (by simp; omega) _)).trans (B1.mono (by omega))
      have p0 := (B1.cell (p := ⟨w.heap.size, 0, none⟩) (by simp; omega)).trans (show _ = some (.int .i64 s) by simp [go_sem])
      have p1 := (B1.cell (p := ⟨w.heap.size, 1, none⟩) (by simp; omega)).trans (show _ = some (.int .i64 a) by simp [go_sem])
      have p2 := (B1.cell (p := ⟨w.heap.size, 2, none⟩) (by simp; omega)).trans (show _ = some (.int .i64 E) by simp [go_sem])
      have pd : At w1 (w.heap.size + 1) (.int .i64 d) := At.below (B := w.heap.size + 1 + 1 + 1 + 1 + 1 + 1) ⟨by simp [go_sem], by simp [go_sem]⟩ B1 (by omega)
      have pk : At w1 (w.heap.size + 1 + 1) (.int .i64 0) := At.below (B := w.heap.size + 1 + 1 + 1 + 1 + 1 + 1) ⟨by simp [go_sem], by simp [go_sem]⟩ B1 (by omega)
      have pf : At w1 (w.heap.size + 1 + 1 + 1) (.int .i64 0) := At.below (B := w.heap.size + 1 + 1 + 1 + 1 + 1 + 1) ⟨by simp [go_sem], by simp [go_sem]⟩ B1 (by omega)
      have pn : At w1 (w.heap.size + 1 + 1 + 1 + 1) (.int .i64 0) := At.below (B := w.heap.size + 1 + 1 + 1 + 1 + 1 + 1) ⟨by simp [go_sem], by simp [go_sem]⟩ B1 (by omega)
      have pe : At w1 (w.heap.size + 1 + 1 + 1 + 1 + 1) (.int .i64 0) := At.below (B := w.heap.size + 1 + 1 + 1 + 1 + 1 + 1) ⟨by simp [go_sem], by simp [go_sem]⟩ B1 (by omega)
      have pk1 := pk.1
      have pk2 := pk.2
      have pf1 := pf.1
      have pf2 := pf.2
      have pn1 := pn.1
      have pn2 := pn.2
      have pe1 := pe.1
      have pe2 := pe.2
      clear B1
      gi_wp2
      refine ⟨trivial, ?_⟩
      gi_wp2
      have r1 := ((((pk.set (.int .i64 0)).other (c := w.heap.size + 1 + 1 + 1) (by omega) (.int .i64 0)).other (c := w.heap.size + 1 + 1 + 1 + 1) (by omega) (.int .i64 0)).other (c := w.heap.size + 1 + 1 + 1 + 1 + 1) (by omega) (.int .i64 2)).1
      have r2 := ((((pf.other (c := w.heap.size + 1 + 1) (by omega) (.int .i64 0)).set (.int .i64 0)).other (c := w.heap.size + 1 + 1 + 1 + 1) (by omega) (.int .i64 0)).other (c := w.heap.size + 1 + 1 + 1 + 1 + 1) (by omega) (.int .i64 2)).1
      have r3 := ((((pn.other (c := w.heap.size + 1 + 1) (by omega) (.int .i64 0)).other (c := w.heap.size + 1 + 1 + 1) (by omega) (.int .i64 0)).set (.int .i64 0)).other (c := w.heap.size + 1 + 1 + 1 + 1 + 1) (by omega) (.int .i64 2)).1
      have r4 := ((((pe.other (c := w.heap.size + 1 + 1) (by omega) (.int .i64 0)).other (c := w.heap.size + 1 + 1 + 1) (by omega) (.int .i64 0)).other (c := w.heap.size + 1 + 1 + 1 + 1) (by omega) (.int .i64 0)).set (.int .i64 2)).1
      refine ⟨.tuple #[.int .i64 0, .int .i64 0, .int .i64 0, .int .i64 2], ?_, ?_, ((((b0.setCell (p := ⟨w.heap.size + 1 + 1, 0, none⟩) (by simp; omega) (.int .i64 0)).setCell (p := ⟨w.heap.size + 1 + 1 + 1, 0, none⟩) (by simp; omega) (.int .i64 0)).setCell (p := ⟨w.heap.size + 1 + 1 + 1 + 1, 0, none⟩) (by simp; omega) (.int .i64 0)).setCell (p := ⟨w.heap.size + 1 + 1 + 1 + 1 + 1, 0, none⟩) (by simp; omega) (.int .i64 2))⟩
      · simp [results, Tryd.results15, go_sem, r1, r2, r3, r4]
      · exact ret_four (by simp [An.fV, HI.out]) (by simp [An.fV, HI.out]) (by simp [An.fV, HI.out]) (by simp [An.fE, HF.out])
  | true =>
    have HO := Lib.hid hok
    by_cases hd : 1 ≤ d ∧ d ≤ 3652059
    · have V := Lib.hid (show decide (1 ≤ d ∧ d ≤ 3652059) = true by simpa using hd)
      have HF := Lib.hid (show An.fOk s a E d = true by simp [An.fOk, hok, hd.1, hd.2])
      clear hok
      have hd1 := hd.1
      have hd2 := hd.2
      clear hd
      gi_wp2_with fail
      refine ⟨trivial, (callsIn_wide.2 (check_t _ HO.out)).mono ?_⟩
      rintro e w1 ⟨rfl, B1⟩
      simp only [World.size_alloc] at B1
      have s1 := B1.size
      simp only [World.size_alloc] at s1
      have b0 : Below w.heap.size w w1 := ((((((((Below.refl _ w).alloc (Nat.le_refl _) _).alloc (by simp) _).alloc (by simp; omega) _).alloc (by simp; omega) _).alloc (by simp; omega) _).alloc (by simp; omega) _)).trans (B1.mono (by omega))
      have p0 := (B1.cell (p := ⟨w.heap.size, 0, none⟩) (by simp; omega)).trans (show _ = some (.int .i64 s) by simp [go_sem])
      have p1 := (B1.cell (p := ⟨w.heap.size, 1, none⟩) (by simp; omega)).trans (show _ = some (.int .i64 a) by simp [go_sem])
      have p2 := (B1.cell (p := ⟨w.heap.size, 2, none⟩) (by simp; omega)).trans (show _ = some (.int .i64 E) by simp [go_sem])
      have pd : At w1 (w.heap.size + 1) (.int .i64 d) := At.below (B := w.heap.size + 1 + 1 + 1 + 1 + 1 + 1) ⟨by simp [go_sem], by simp [go_sem]⟩ B1 (by omega)
      have pk : At w1 (w.heap.size + 1 + 1) (.int .i64 0) := At.below (B := w.heap.size + 1 + 1 + 1 + 1 + 1 + 1) ⟨by simp [go_sem], by simp [go_sem]⟩ B1 (by omega)
      have pf : At w1 (w.heap.size + 1 + 1 + 1) (.int .i64 0) := At.below (B := w.heap.size + 1 + 1 + 1 + 1 + 1 + 1) ⟨by simp [go_sem], by simp [go_sem]⟩ B1 (by omega)
      have pn : At w1 (w.heap.size + 1 + 1 + 1 + 1) (.int .i64 0) := At.below (B := w.heap.size + 1 + 1 + 1 + 1 + 1 + 1) ⟨by simp [go_sem], by simp [go_sem]⟩ B1 (by omega)
      have pe : At w1 (w.heap.size + 1 + 1 + 1 + 1 + 1) (.int .i64 0) := At.below (B := w.heap.size + 1 + 1 + 1 + 1 + 1 + 1) ⟨by simp [go_sem], by simp [go_sem]⟩ B1 (by omega)
      have pd1 := pd.1
      clear B1
      gi_wp2_with fail
      refine ⟨trivial, (callsIn_wide.2 (two_is _ _ _ ?_ ?_ V.out)).mono ?_⟩
      · simp [go_sem]
      · simp [go_sem]
      rintro e v1 ⟨rfl, C1⟩
      have C2 : Below w1.heap.size w1 v1 := ((Below.refl _ _).alloc (Nat.le_refl _) _).trans (C1.mono (by simp))
      have t1 := C2.size
      replace b0 := b0.trans (C2.mono (by omega))
      replace p0 := (C2.cell (p := ⟨w.heap.size, 0, none⟩) (by simp; omega)).trans p0
      replace p1 := (C2.cell (p := ⟨w.heap.size, 1, none⟩) (by simp; omega)).trans p1
      replace p2 := (C2.cell (p := ⟨w.heap.size, 2, none⟩) (by simp; omega)).trans p2
      replace pd := pd.below C2 (by omega)
      replace pk := pk.below C2 (by omega)
      replace pf := pf.below C2 (by omega)
      replace pn := pn.below C2 (by omega)
      replace pe := pe.below C2 (by omega)
      replace pd1 := pd.1
      replace s1 : w.heap.size + 1 + 1 + 1 + 1 + 1 + 1 ≤ v1.heap.size := by omega
      clear C1 C2 t1
      by_cases hs : d < s
      · have HI := Lib.hid (show An.fIn s a E d = false by simp [An.fIn, HF.out]; omega)
        have pk1 := pk.1
        have pk2 := pk.2
        have pf1 := pf.1
        have pf2 := pf.2
        have pn1 := pn.1
        have pn2 := pn.2
        have pe1 := pe.1
        have pe2 := pe.2
        gi_wp2
        have r1 := ((((pk.set (.int .i64 0)).other (c := w.heap.size + 1 + 1 + 1) (by omega) (.int .i64 0)).other (c := w.heap.size + 1 + 1 + 1 + 1) (by omega) (.int .i64 0)).other (c := w.heap.size + 1 + 1 + 1 + 1 + 1) (by omega) (.int .i64 7)).1
        have r2 := ((((pf.other (c := w.heap.size + 1 + 1) (by omega) (.int .i64 0)).set (.int .i64 0)).other (c := w.heap.size + 1 + 1 + 1 + 1) (by omega) (.int .i64 0)).other (c := w.heap.size + 1 + 1 + 1 + 1 + 1) (by omega) (.int .i64 7)).1
        have r3 := ((((pn.other (c := w.heap.size + 1 + 1) (by omega) (.int .i64 0)).other (c := w.heap.size + 1 + 1 + 1) (by omega) (.int .i64 0)).set (.int .i64 0)).other (c := w.heap.size + 1 + 1 + 1 + 1 + 1) (by omega) (.int .i64 7)).1
        have r4 := ((((pe.other (c := w.heap.size + 1 + 1) (by omega) (.int .i64 0)).other (c := w.heap.size + 1 + 1 + 1) (by omega) (.int .i64 0)).other (c := w.heap.size + 1 + 1 + 1 + 1) (by omega) (.int .i64 0)).set (.int .i64 7)).1
        refine ⟨.tuple #[.int .i64 0, .int .i64 0, .int .i64 0, .int .i64 7], ?_, ?_, ((((b0.setCell (p := ⟨w.heap.size + 1 + 1, 0, none⟩) (by simp; omega) (.int .i64 0)).setCell (p := ⟨w.heap.size + 1 + 1 + 1, 0, none⟩) (by simp; omega) (.int .i64 0)).setCell (p := ⟨w.heap.size + 1 + 1 + 1 + 1, 0, none⟩) (by simp; omega) (.int .i64 0)).setCell (p := ⟨w.heap.size + 1 + 1 + 1 + 1 + 1, 0, none⟩) (by simp; omega) (.int .i64 7))⟩
        · simp [results, Tryd.results15, go_sem, r1, r2, r3, r4]
        · exact ret_four (by simp [An.fV, HI.out]) (by simp [An.fV, HI.out]) (by simp [An.fV, HI.out]) (by simp [An.fE, HI.out, HF.out])
      · gi_wp2_with fail
        refine ⟨trivial, (bounds_any s a E d v1).mono ?_⟩
        rintro e w2 ⟨rfl, s2, B2, H2⟩
        gi_wp2
        have T1 := Lib.hid (Tab.after HT.out b0)
        have H3 := H2 T1.out
        have qd := pd.below B2 (by omega)
        have qk := pk.below B2 (by omega)
        have qf := pf.below B2 (by omega)
        have qn := pn.below B2 (by omega)
        have qe := pe.below B2 (by omega)
        have b2 := b0.trans (B2.mono (by omega))
        clear B2 H2 pd pk pf pn pe p0 p1 p2 pd1 b0
        refine wpIn_rangeFunc_ownF rfl (by omega) (gf := 30) (lb := #[.pointer (some ⟨v1.heap.size, 0, none⟩), .pointer (some ⟨v1.heap.size + 1, 0, none⟩)]) rfl trivial (enters_of Tryd.func30 (by kernel_rfl) rfl)
          (bounds_stops s a E d v1.heap.size (v1.heap.size + 1) w2 HO.out H3) (fun h k => h.trans k) (fun W l o o' hl _ _ _ => Kd.put W l o' hl (by omega) (by omega) (by omega)) (Below.refl _ _) (fun _ => rfl)
          (fun pre W => ((∀ y ∈ pre, y.2 ≤ d) ∧ At W (w.heap.size + 1) (.int .i64 d) ∧ (∃ i b, ((pre = [] ∧ i = 0 ∧ b = 0) ∨ ∃ q, pre = q ++ [(i, b)]) ∧ At W (w.heap.size + 1 + 1) (.int .i64 i) ∧ At W (w.heap.size + 1 + 1 + 1) (.int .i64 b)) ∧ At W (w.heap.size + 1 + 1 + 1 + 1) (.int .i64 0) ∧ At W (w.heap.size + 1 + 1 + 1 + 1 + 1) (.int .i64 0)) ∧ Below w.heap.size w W)
          (fun c pre W => (c = .ret ∧ ∃ q i b, pre = q ++ [(i, b)] ∧ d < b ∧ (∀ y ∈ q, y.2 ≤ d) ∧ (∃ j v, ((q = [] ∧ j = 0 ∧ v = 0) ∨ ∃ r, q = r ++ [(j, v)]) ∧ At W (w.heap.size + 1 + 1) (.int .i64 j) ∧ At W (w.heap.size + 1 + 1 + 1) (.int .i64 v)) ∧ At W (w.heap.size + 1 + 1 + 1 + 1) (.int .i64 b) ∧ At W (w.heap.size + 1 + 1 + 1 + 1 + 1) (.int .i64 0)) ∧ Below w.heap.size w W)
          (OwnFrom.and (Own.from (fun s A B row hs hg hr => by
            obtain ⟨h1, h2, ⟨i, b, h3, h4, h5⟩, h6, h7⟩ := hs
            exact ⟨h1, h2.kept hg hr, ⟨i, b, h3, h4.kept hg hr, h5.kept hg hr⟩, h6.kept hg hr, h7.kept hg hr⟩) _) (ownFrom_below (Nat.le_refl _) (by omega)))
          (fun c => OwnFrom.and (Own.from (fun s A B row hs hg hr => by
            obtain ⟨h0, q, i, b, h1, h2, h2', ⟨j, v, h3, h4, h5⟩, h6, h7⟩ := hs
            exact ⟨h0, q, i, b, h1, h2, h2', ⟨j, v, h3, h4.kept hg hr, h5.kept hg hr⟩, h6.kept hg hr, h7.kept hg hr⟩) _) (ownFrom_below (Nat.le_refl _) (by omega)))
          ⟨⟨by simp, qd, ⟨0, 0, .inl ⟨rfl, rfl, rfl⟩, qk, qf⟩, qn, qe⟩, b2⟩ ?a1 ?assign ?body ?done ?stop
        case assign =>
          intro l x W K hK
          gi_wp2
          exact hK
        case body =>
          rintro l pre x W ⟨⟨hp, gd, ⟨i, b, hib, gk, gf⟩, gn, ge⟩, hB⟩ _
          have gd1 := gd.1
          have gk1 := gk.1
          have gk2 := gk.2
          have gf1 := gf.1
          have gf2 := gf.2
          have gn1 := gn.1
          have gn2 := gn.2
          have ge1 := ge.1
          have ge2 := ge.2
          by_cases hx : d < x.2
          · gi_wp2
            have hmo : Tryd.prog.follows .mixedOrders = true := by kernel_rfl
            gi_region_elder_o
            all_goals gi_wp2
            all_goals exact ⟨((((KeepsOthers.setCell _ _ _).trans (KeepsOthers.setCell _ _ _)).trans (KeepsOthers.setCell _ _ _)).trans (KeepsOthers.setCell _ _ _)).trans (KeepsOthers.drew _), ⟨rfl, pre, x.1, x.2, rfl, hx, hp, ⟨i, b, hib, At.drew ((((gk.set (.int .i64 i)).other (c := w.heap.size + 1 + 1 + 1) (by omega) (.int .i64 b)).other (c := w.heap.size + 1 + 1 + 1 + 1) (by omega) (.int .i64 x.2)).other (c := w.heap.size + 1 + 1 + 1 + 1 + 1) (by omega) (.int .i64 0)), At.drew ((((gf.other (c := w.heap.size + 1 + 1) (by omega) (.int .i64 i)).set (.int .i64 b)).other (c := w.heap.size + 1 + 1 + 1 + 1) (by omega) (.int .i64 x.2)).other (c := w.heap.size + 1 + 1 + 1 + 1 + 1) (by omega) (.int .i64 0))⟩, At.drew ((((gn.other (c := w.heap.size + 1 + 1) (by omega) (.int .i64 i)).other (c := w.heap.size + 1 + 1 + 1) (by omega) (.int .i64 b)).set (.int .i64 x.2)).other (c := w.heap.size + 1 + 1 + 1 + 1 + 1) (by omega) (.int .i64 0)), At.drew ((((ge.other (c := w.heap.size + 1 + 1) (by omega) (.int .i64 i)).other (c := w.heap.size + 1 + 1 + 1) (by omega) (.int .i64 b)).other (c := w.heap.size + 1 + 1 + 1 + 1) (by omega) (.int .i64 x.2)).set (.int .i64 0))⟩, (((((hB.setCell (p := ⟨w.heap.size + 1 + 1, 0, none⟩) (by simp; omega) (.int .i64 i)).setCell (p := ⟨w.heap.size + 1 + 1 + 1, 0, none⟩) (by simp; omega) (.int .i64 b)).setCell (p := ⟨w.heap.size + 1 + 1 + 1 + 1, 0, none⟩) (by simp; omega) (.int .i64 x.2)).setCell (p := ⟨w.heap.size + 1 + 1 + 1 + 1 + 1, 0, none⟩) (by simp; omega) (.int .i64 0))).drew⟩
          · gi_wp2
            exact ⟨(KeepsOthers.setCell _ _ _).trans (KeepsOthers.setCell _ _ _), (Kd.set _ (by omega) (by omega) (by omega) _).trans (Kd.set _ (by omega) (by omega) (by omega) _), ⟨fun y z hy => (List.mem_append.1 hy).elim (hp (y, z)) (fun e => by have e2 := List.mem_singleton.1 e; have e3 : z = x.2 := (by rw [← e2]); omega), (gd.other (c := w.heap.size + 1 + 1) (by omega) _).other (c := w.heap.size + 1 + 1 + 1) (by omega) _, ⟨x.1, x.2, .inr ⟨pre, rfl⟩, ((gk.set (.int .i64 x.1)).other (c := w.heap.size + 1 + 1 + 1) (by omega) (.int .i64 x.2)), ((gf.other (c := w.heap.size + 1 + 1) (by omega) (.int .i64 x.1)).set (.int .i64 x.2))⟩, ((gn.other (c := w.heap.size + 1 + 1) (by omega) (.int .i64 x.1)).other (c := w.heap.size + 1 + 1 + 1) (by omega) (.int .i64 x.2)), ((ge.other (c := w.heap.size + 1 + 1) (by omega) (.int .i64 x.1)).other (c := w.heap.size + 1 + 1 + 1) (by omega) (.int .i64 x.2))⟩, ((hB.setCell (p := ⟨w.heap.size + 1 + 1, 0, none⟩) (by simp; omega) (.int .i64 x.1)).setCell (p := ⟨w.heap.size + 1 + 1 + 1, 0, none⟩) (by simp; omega) (.int .i64 x.2))⟩
        case done =>
          rintro D ys W hD rfl ⟨⟨hne, gd, ⟨i, b, hib, gk, gf⟩, gn, ge⟩, hB⟩ hK
          have HN := Lib.hid (An.f_out HO.out hd2 (An.cum_all HO.out (by omega) hne)).2
          have HI := HN
          have HK := Lib.hid hK
          have gk1 := gk.1
          have gk2 := gk.2
          have gf1 := gf.1
          have gf2 := gf.2
          have gn1 := gn.1
          have gn2 := gn.2
          have ge1 := ge.1
          have ge2 := ge.2
          clear hne hK hib
          gi_wp2
          have hK' := (((((KeepsOthers.refl W).trans (KeepsOthers.setCell _ ⟨w.heap.size + 1 + 1, 0, none⟩ (.int .i64 0))).trans (KeepsOthers.setCell _ ⟨w.heap.size + 1 + 1 + 1, 0, none⟩ (.int .i64 0))).trans (KeepsOthers.setCell _ ⟨w.heap.size + 1 + 1 + 1 + 1, 0, none⟩ (.int .i64 0))).trans (KeepsOthers.setCell _ ⟨w.heap.size + 1 + 1 + 1 + 1 + 1, 0, none⟩ (.int .i64 7))).same D _ HK.out rfl
          refine ⟨by simp, .inl ⟨_, _, rfl, run_takeDeferred hK', ?_⟩⟩
          have r1 := (((((gk.set (.int .i64 0)).other (c := w.heap.size + 1 + 1 + 1) (by omega) (.int .i64 0)).other (c := w.heap.size + 1 + 1 + 1 + 1) (by omega) (.int .i64 0)).other (c := w.heap.size + 1 + 1 + 1 + 1 + 1) (by omega) (.int .i64 7)).drop hK').1
          have r2 := (((((gf.other (c := w.heap.size + 1 + 1) (by omega) (.int .i64 0)).set (.int .i64 0)).other (c := w.heap.size + 1 + 1 + 1 + 1) (by omega) (.int .i64 0)).other (c := w.heap.size + 1 + 1 + 1 + 1 + 1) (by omega) (.int .i64 7)).drop hK').1
          have r3 := (((((gn.other (c := w.heap.size + 1 + 1) (by omega) (.int .i64 0)).other (c := w.heap.size + 1 + 1 + 1) (by omega) (.int .i64 0)).set (.int .i64 0)).other (c := w.heap.size + 1 + 1 + 1 + 1 + 1) (by omega) (.int .i64 7)).drop hK').1
          have r4 := (((((ge.other (c := w.heap.size + 1 + 1) (by omega) (.int .i64 0)).other (c := w.heap.size + 1 + 1 + 1) (by omega) (.int .i64 0)).other (c := w.heap.size + 1 + 1 + 1 + 1) (by omega) (.int .i64 0)).set (.int .i64 7)).drop hK').1
          refine ⟨.tuple #[.int .i64 0, .int .i64 0, .int .i64 0, .int .i64 7], ?_, ?_, ((((hB.setCell (p := ⟨w.heap.size + 1 + 1, 0, none⟩) (by simp; omega) (.int .i64 0)).setCell (p := ⟨w.heap.size + 1 + 1 + 1, 0, none⟩) (by simp; omega) (.int .i64 0)).setCell (p := ⟨w.heap.size + 1 + 1 + 1 + 1, 0, none⟩) (by simp; omega) (.int .i64 0)).setCell (p := ⟨w.heap.size + 1 + 1 + 1 + 1 + 1, 0, none⟩) (by simp; omega) (.int .i64 7)).trans (belowK_b (w := w) (Nat.le_refl _) _ D _ _ (by have := b2.size; omega) hK' rfl rfl)⟩
          · simp [results, Tryd.results15, go_sem, r1, r2, r3, r4]
          · exact ret_four (by simp [An.fV, HI.out]) (by simp [An.fV, HI.out]) (by simp [An.fV, HI.out]) (by simp [An.fE, HI.out, HF.out])
        case stop =>
          rintro D c pre W hD ⟨n, hn, hcum⟩ ⟨⟨rfl, q, i, b, hq, hb, hle, ⟨j, v, hjv, gk, gf⟩, gn, ge⟩, hB⟩ hK
          have HK := Lib.hid hK
          have HS := Lib.hid (An.cum_stop HO.out (by omega) hd2 hn (hcum.symm.trans hq) hb hle hjv)
          clear hcum hq hK hn hle hjv
          gi_wp2
          have hK' := HK.out
          refine ⟨by simp, .inl ⟨_, _, rfl, run_takeDeferred hK', ?_⟩⟩
          have r1 := (gk.drop hK').1
          have r2 := (gf.drop hK').1
          have r3 := (gn.drop hK').1
          have r4 := (ge.drop hK').1
          refine ⟨.tuple #[.int .i64 j, .int .i64 v, .int .i64 b, .int .i64 0], ?_, ?_, hB.trans (belowK_b (w := w) (Nat.le_refl _) _ D _ _ (by have := b2.size; omega) hK' rfl rfl)⟩
          · simp [results, Tryd.results15, go_sem, r1, r2, r3, r4]
          · obtain ⟨l1, l2, rfl, rfl, l5⟩ := HS.out
            obtain ⟨m1, m2, m3⟩ := An.f_in HO.out l1 l2 l5 hb
            exact ret_four (by simp [An.fV, m2, m3]) (by simp [An.fV, m2, m3]) (by simp [An.fV, m2, m3]) (by simp [An.fE, m1, m2])
    · have V := Lib.hid (show decide (1 ≤ d ∧ d ≤ 3652059) = false by simpa using hd)
      have HF := Lib.hid (show An.fOk s a E d = false by simp [An.fOk, hok]; omega)
      have HI := Lib.hid (show An.fIn s a E d = false by simp [An.fIn, HF.out])
      clear hok hd
      gi_wp2_with fail
      refine ⟨trivial, (callsIn_wide.2 (check_t _ HO.out)).mono ?_⟩
      rintro e w1 ⟨rfl, B1⟩
      simp only [World.size_alloc] at B1
      have s1 := B1.size
      simp only [World.size_alloc] at s1
      have b0 : Below w.heap.size w w1 := ((((((((Below.refl _ w).alloc (Nat.le_refl _) _).alloc (by simp) _).alloc (by simp; omega) _).alloc (by simp; omega) _).alloc (by simp; omega) _).alloc (by simp; omega) _)).trans (B1.mono (by omega))
      have p0 := (B1.cell (p := ⟨w.heap.size, 0, none⟩) (by simp; omega)).trans (show _ = some (.int .i64 s) by simp [go_sem])
      have p1 := (B1.cell (p := ⟨w.heap.size, 1, none⟩) (by simp; omega)).trans (show _ = some (.int .i64 a) by simp [go_sem])
      have p2 := (B1.cell (p := ⟨w.heap.size, 2, none⟩) (by simp; omega)).trans (show _ = some (.int .i64 E) by simp [go_sem])
      have pd : At w1 (w.heap.size + 1) (.int .i64 d) := At.below (B := w.heap.size + 1 + 1 + 1 + 1 + 1 + 1) ⟨by simp [go_sem], by simp [go_sem]⟩ B1 (by omega)
      have pk : At w1 (w.heap.size + 1 + 1) (.int .i64 0) := At.below (B := w.heap.size + 1 + 1 + 1 + 1 + 1 + 1) ⟨by simp [go_sem], by simp [go_sem]⟩ B1 (by omega)
      have pf : At w1 (w.heap.size + 1 + 1 + 1) (.int .i64 0) := At.below (B := w.heap.size + 1 + 1 + 1 + 1 + 1 + 1) ⟨by simp [go_sem], by simp [go_sem]⟩ B1 (by omega)
      have pn : At w1 (w.heap.size + 1 + 1 + 1 + 1) (.int .i64 0) := At.below (B := w.heap.size + 1 + 1 + 1 + 1 + 1 + 1) ⟨by simp [go_sem], by simp [go_sem]⟩ B1 (by omega)
      have pe : At w1 (w.heap.size + 1 + 1 + 1 + 1 + 1) (.int .i64 0) := At.below (B := w.heap.size + 1 + 1 + 1 + 1 + 1 + 1) ⟨by simp [go_sem], by simp [go_sem]⟩ B1 (by omega)
      have pd1 := pd.1
      clear B1
      gi_wp2_with fail
      refine ⟨trivial, (callsIn_wide.2 (two_is _ _ _ ?_ ?_ V.out)).mono ?_⟩
      · simp [go_sem]
      · simp [go_sem]
      rintro e v1 ⟨rfl, C1⟩
      have C2 : Below w1.heap.size w1 v1 := ((Below.refl _ _).alloc (Nat.le_refl _) _).trans (C1.mono (by simp))
      replace b0 := b0.trans (C2.mono (by omega))
      replace pk := pk.below C2 (by omega)
      replace pf := pf.below C2 (by omega)
      replace pn := pn.below C2 (by omega)
      replace pe := pe.below C2 (by omega)
      clear C1 C2
      have pk1 := pk.1
      have pk2 := pk.2
      have pf1 := pf.1
      have pf2 := pf.2
      have pn1 := pn.1
      have pn2 := pn.2
      have pe1 := pe.1
      have pe2 := pe.2
      gi_wp2
      have r1 := ((((pk.set (.int .i64 0)).other (c := w.heap.size + 1 + 1 + 1) (by omega) (.int .i64 0)).other (c := w.heap.size + 1 + 1 + 1 + 1) (by omega) (.int .i64 0)).other (c := w.heap.size + 1 + 1 + 1 + 1 + 1) (by omega) (.int .i64 2)).1
      have r2 := ((((pf.other (c := w.heap.size + 1 + 1) (by omega) (.int .i64 0)).set (.int .i64 0)).other (c := w.heap.size + 1 + 1 + 1 + 1) (by omega) (.int .i64 0)).other (c := w.heap.size + 1 + 1 + 1 + 1 + 1) (by omega) (.int .i64 2)).1
      have r3 := ((((pn.other (c := w.heap.size + 1 + 1) (by omega) (.int .i64 0)).other (c := w.heap.size + 1 + 1 + 1) (by omega) (.int .i64 0)).set (.int .i64 0)).other (c := w.heap.size + 1 + 1 + 1 + 1 + 1) (by omega) (.int .i64 2)).1
      have r4 := ((((pe.other (c := w.heap.size + 1 + 1) (by omega) (.int .i64 0)).other (c := w.heap.size + 1 + 1 + 1) (by omega) (.int .i64 0)).other (c := w.heap.size + 1 + 1 + 1 + 1) (by omega) (.int .i64 0)).set (.int .i64 2)).1
      refine ⟨.tuple #[.int .i64 0, .int .i64 0, .int .i64 0, .int .i64 2], ?_, ?_, ((((b0.setCell (p := ⟨w.heap.size + 1 + 1, 0, none⟩) (by simp; omega) (.int .i64 0)).setCell (p := ⟨w.heap.size + 1 + 1 + 1, 0, none⟩) (by simp; omega) (.int .i64 0)).setCell (p := ⟨w.heap.size + 1 + 1 + 1 + 1, 0, none⟩) (by simp; omega) (.int .i64 0)).setCell (p := ⟨w.heap.size + 1 + 1 + 1 + 1 + 1, 0, none⟩) (by simp; omega) (.int .i64 2))⟩
      · simp [results, Tryd.results15, go_sem, r1, r2, r3, r4]
      · exact ret_four (by simp [An.fV, HI.out]) (by simp [An.fV, HI.out]) (by simp [An.fV, HI.out]) (by simp [An.fE, HF.out])
end Go.Proofs.YtkichgbkaajaaaaDoor.anch
