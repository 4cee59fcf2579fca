/- What the functions of this part answer: their contracts, printed by a program of this session (wip/gen/hybrid.py) out of the translation. No conditions. -/
import Derived.Laws.Cover1
import Derived.Test.YtbghkjoejbfnbaaDoorPHx0
import Derived.Test.YtbghkjoejbfnbaaDoorPHx14
import Derived.Test.YtbghkjoejbfnbaaDoorPHx16
import Derived.Test.YtbghkjoejbfnbaaDoorPHx5
import Derived.Test.YtbghkjoejbfnbaaDoorPOrdA
noncomputable section
namespace Go.Proofs.YtbghkjoejbfnbaaDoor.PH

open Go.RowKit Go.Proofs.YtbghkjoejbfnbaaDoorW.PrintWords Go.Proofs.YtbghkjoejbfnbaaDoorW.PrintLast Go.Proofs.YtbghkjoejbfnbaaDoorW.PrintMore
attribute [local go_sem] max2_int min2_int max_two min_two max_three min_three max_four min_four   -- for this text's walks alone
set_option linter.unusedVariables false
set_option linter.unusedSimpArgs false

-- HYB
/-! ### quittancelaw12_OrderAbove: function 7 -/
mutual
def quittancelaw12_OrderAbove.j0 : Nat → ByteArray → ByteArray → Bool → Option (Bool)
  | 0, _, _, _ => none
  | k + 1, x0, x1, x16 => if x16 = true then ((quittancelaw12_head.f k).bind fun t302 => (some t302)) else ((order_Above.f x0).bind fun bt303 => ((quittanceref12_Above.f k x0).bind fun bt305 => (if bt303.1.toList = bt305.1.toList then (quittancelaw12_OrderAbove.j1 k x0 x1 bt303.1 bt303.2 (bt303.2 != bt305.2)) else (quittancelaw12_OrderAbove.j1 k x0 x1 bt303.1 bt303.2 true))))
def quittancelaw12_OrderAbove.j1 : Nat → ByteArray → ByteArray → ByteArray → Bool → Bool → Option (Bool)
  | 0, _, _, _, _, _ => none
  | k + 1, x0, x1, x5, x6, x35 => if x35 = true then (some false) else ((quittancelaw12_begins.f x1 x0).bind fun t307 => (if ((Op.bytesLess x1.toList x0.toList) = true) then (if (t307 == false) = true then ((quittancelaw12_head.f k).bind fun t308 => (some t308)) else (some false)) else (if x6 = true then (if (t307 == (Op.bytesLess x1.toList x5.toList)) = true then ((quittancelaw12_head.f k).bind fun t309 => (some t309)) else (some false)) else (if (t307 == true) = true then ((quittancelaw12_head.f k).bind fun t310 => (some t310)) else (some false)))))
end
def quittancelaw12_OrderAbove.f (k : Nat) (a0 : ByteArray) (a1 : ByteArray) : Option (Bool) := if (a0.size : Int) > 300 then (quittancelaw12_OrderAbove.j0 k a0 a1 true) else (quittancelaw12_OrderAbove.j0 k a0 a1 (decide ((a1.size : Int) > 300)))
theorem quittancelaw12_OrderAbove.mono_l : ∀ k, (∀ y0 y1 y2, LeO (quittancelaw12_OrderAbove.j0 k y0 y1 y2) (quittancelaw12_OrderAbove.j0 (k + 1) y0 y1 y2)) ∧ (∀ y0 y1 y2 y3 y4, LeO (quittancelaw12_OrderAbove.j1 k y0 y1 y2 y3 y4) (quittancelaw12_OrderAbove.j1 (k + 1) y0 y1 y2 y3 y4))
  | 0 => ⟨fun _ _ _ r h => by simp [quittancelaw12_OrderAbove.j0] at h, fun _ _ _ _ _ r h => by simp [quittancelaw12_OrderAbove.j1] at h⟩
  | k + 1 => by
    obtain ⟨ih0, ih1⟩ := quittancelaw12_OrderAbove.mono_l k
    refine ⟨?_, ?_⟩
    · intro y0 y1 y2
      unfold quittancelaw12_OrderAbove.j0
      repeat' first
      | (with_reducible exact ih0 _ _ _)
      | (with_reducible exact ih1 _ _ _ _ _)
      | (with_reducible exact quittancelaw12_head.mono _)
      | (with_reducible exact quittanceref12_Above.mono _ _)
      | (with_reducible exact LeO.refl _)
      | (with_reducible exact LeO.none _)
      | (with_reducible refine LeO.ite ?_ ?_)
      | (with_reducible refine LeO.bind ?_ (fun _ => ?_))
      | exact ih0 _ _ _
      | exact ih1 _ _ _ _ _
      | exact quittancelaw12_head.mono _
      | exact quittanceref12_Above.mono _ _
      | exact LeO.none _
      | refine LeO.ite ?_ ?_
      | refine LeO.bind ?_ (fun _ => ?_)
    · intro y0 y1 y2 y3 y4
      unfold quittancelaw12_OrderAbove.j1
      repeat' first
      | (with_reducible exact ih0 _ _ _)
      | (with_reducible exact ih1 _ _ _ _ _)
      | (with_reducible exact quittancelaw12_head.mono _)
      | (with_reducible exact quittanceref12_Above.mono _ _)
      | (with_reducible exact LeO.refl _)
      | (with_reducible exact LeO.none _)
      | (with_reducible refine LeO.ite ?_ ?_)
      | (with_reducible refine LeO.bind ?_ (fun _ => ?_))
      | exact ih0 _ _ _
      | exact ih1 _ _ _ _ _
      | exact quittancelaw12_head.mono _
      | exact quittanceref12_Above.mono _ _
      | exact LeO.none _
      | refine LeO.ite ?_ ?_
      | refine LeO.bind ?_ (fun _ => ?_)
theorem quittancelaw12_OrderAbove.mono : ∀ a0 a1 k, LeO (quittancelaw12_OrderAbove.f k a0 a1) (quittancelaw12_OrderAbove.f (k + 1) a0 a1) := by
  intro a0 a1 k
  obtain ⟨ih0, ih1⟩ := quittancelaw12_OrderAbove.mono_l k
  unfold quittancelaw12_OrderAbove.f
  repeat' first
      | (with_reducible exact ih0 _ _ _)
      | (with_reducible exact ih1 _ _ _ _ _)
      | (with_reducible exact quittancelaw12_head.mono _)
      | (with_reducible exact quittanceref12_Above.mono _ _)
      | (with_reducible exact LeO.refl _)
      | (with_reducible exact LeO.none _)
      | (with_reducible refine LeO.ite ?_ ?_)
      | (with_reducible refine LeO.bind ?_ (fun _ => ?_))
      | exact ih0 _ _ _
      | exact ih1 _ _ _ _ _
      | exact quittancelaw12_head.mono _
      | exact quittanceref12_Above.mono _ _
      | exact LeO.none _
      | refine LeO.ite ?_ ?_
      | refine LeO.bind ?_ (fun _ => ?_)
set_option maxHeartbeats 8000000 in
set_option maxRecDepth 100000 in
theorem quittancelaw12_OrderAbove.calls (k : Nat) (a0 : ByteArray) (a1 : ByteArray) (r : Bool) (w : World) (HTab : Aside0 (Tab w)) (h : quittancelaw12_OrderAbove.f k a0 a1 = some r) :
    Calls Tryd.prog 7 #[.string a0, .string a1] w fun e w' => e = .returned (.bool r) ∧ Below w.heap.size w w' := by
  have HB := Aside0.mk (Below.refl w.heap.size w)
  have H : (if (a0.size : Int) > 300 then (quittancelaw12_OrderAbove.j0 k a0 a1 true) else (quittancelaw12_OrderAbove.j0 k a0 a1 (decide ((a1.size : Int) > 300)))) = some r := h
  clear h
  have HC3 := Aside0.mk H
  clear H
  go_enter Tryd.func7, Tryd.ntmps7
  go_upto_region 1 with (fail)
  go_cut [16] (fun v16 wc => ∃ (kq : Nat) (x16_2 : Bool), v16 = .bool x16_2 ∧ Aside0 (quittancelaw12_OrderAbove.j0 kq a0 a1 x16_2 = some r) ∧ Aside0 (kq ≤ k) ∧ Aside0 (Below w.heap.size w wc))
  case first =>
    have H := HC3.out
    clear HC3
    by_cases c4 : (a0.size : Int) > 300
    · rw [if_pos c4] at H
      have c4b0 : decide (300 < (a0.size : Int)) = true := decide_eq_true c4
      have c4b1 : decide (300 < a0.size) = true := decide_eq_true (by omega)
      clear c4
      (first | rw [c4b0] | (simp only [i64_w, i32_w]; rw [c4b0]) | skip)
      have H' := Aside0.mk H
      clear H
      go_wp2
      go_meet
      case rel => exact ⟨_, (true), (by first | rfl | (simp; done) | (simp [*]; done)), H', ⟨by first | omega | exact Nat.le_refl _⟩, ⟨by repeat (first | (with_reducible first | exact HB.out | apply below_alloc | apply pw_below_drewN | apply below_drew1) | exact HB.out)⟩⟩
    · rw [if_neg c4] at H
      have c4b0 : decide (300 < (a0.size : Int)) = false := decide_eq_false c4
      have c4b1 : decide (300 < a0.size) = false := decide_eq_false (by omega)
      clear c4
      (first | rw [c4b0] | (simp only [i64_w, i32_w]; rw [c4b0]) | skip)
      have H' := Aside0.mk H
      clear H
      go_wp2
      go_meet
      case rel => exact ⟨_, (decide ((a1.size : Int) > 300)), (by first | rfl | (simp; done) | (simp [*]; done)), H', ⟨by first | omega | exact Nat.le_refl _⟩, ⟨by repeat (first | (with_reducible first | exact HB.out | apply below_alloc | apply pw_below_drewN | apply below_drew1) | exact HB.out)⟩⟩
  case rest =>
    clear HC3
    try clear p2
    try clear c4
    try clear c4b0
    try clear c4b1
    obtain ⟨kq, x16_2, rfl, HA, HJ2, HB⟩ := hcut
    cases kq with
    | zero => exact absurd HA.out (by simp [quittancelaw12_OrderAbove.j0])
    | succ kj2 =>
      have H := HA.out
      clear HA
      simp only [quittancelaw12_OrderAbove.j0] at H
      by_cases c5 : x16_2 = true
      · subst c5
        have H1 : ((quittancelaw12_head.f kj2).bind fun t302 => (some t302)) = some r := by rw [if_pos rfl] at H; exact H
        clear H
        have H := H1
        clear H1
        replace H := Option.bind_eq_some_iff.mp H
        obtain ⟨t302, A60, H⟩ := H
        replace H : (some t302) = some r := H
        have A6 := Aside0.mk A60
        clear A60
        obtain rfl := Option.some.inj H
        go_wp2_with (first | ((with_reducible refine gate_callee (f := 9) rfl ?_); refine goesL_ (some 17) rfl rfl Tryd.func9 (by kernel_rfl) rfl #[] rfl (by (try simp only [List.map_toArray, List.map_cons, List.map_nil]); first | done | rfl | (simp only [List.length_drop, List.length_take]; rfl)) ?_; (with_reducible refine (quittancelaw12_head.calls kj2  t302 _ (Tab.b HTab (by repeat (first | (with_reducible first | exact HB.out | apply below_alloc | apply pw_below_drewN | apply below_drew1) | exact HB.out))) A6.out).mono ?_); rintro e w7 ⟨rfl, hb⟩; refine ⟨_, rfl, ?_⟩; have n0_ := Aside0.mk (below_step (by repeat (first | (with_reducible first | exact HB.out | apply below_alloc | apply pw_below_drewN | apply below_drew1) | exact HB.out)) hb); clear HB; have HB := n0_; clear n0_; (try clear hb); (try clear hb2); (try clear hk); (try clear hi)))
        go_ret
        exact ⟨by first | rfl | (simp [errW_none, errW_some] <;> rfl) | (simp [*, errW_none, errW_some] <;> rfl), by repeat (first | (with_reducible first | exact HB.out | apply below_alloc | apply pw_below_drewN | apply below_drew1) | exact HB.out)⟩
      · replace c5 := Bool.eq_false_iff.mpr c5
        subst c5
        have H1 : ((order_Above.f a0).bind fun bt303 => ((quittanceref12_Above.f kj2 a0).bind fun bt305 => (if bt303.1.toList = bt305.1.toList then (quittancelaw12_OrderAbove.j1 kj2 a0 a1 bt303.1 bt303.2 (bt303.2 != bt305.2)) else (quittancelaw12_OrderAbove.j1 kj2 a0 a1 bt303.1 bt303.2 true)))) = some r := by rw [if_neg (show ¬ (false = true) by decide)] at H; exact H
        clear H
        have H := H1
        clear H1
        replace H := Option.bind_eq_some_iff.mp H
        obtain ⟨⟨t303, t304⟩, A80, H⟩ := H
        replace H : ((quittanceref12_Above.f kj2 a0).bind fun bt305 => (if t303.toList = bt305.1.toList then (quittancelaw12_OrderAbove.j1 kj2 a0 a1 t303 t304 (t304 != bt305.2)) else (quittancelaw12_OrderAbove.j1 kj2 a0 a1 t303 t304 true))) = some r := H
        have A8 := Aside0.mk A80
        clear A80
        replace H := Option.bind_eq_some_iff.mp H
        obtain ⟨⟨t305, t306⟩, A90, H⟩ := H
        replace H : (if t303.toList = t305.toList then (quittancelaw12_OrderAbove.j1 kj2 a0 a1 t303 t304 (t304 != t306)) else (quittancelaw12_OrderAbove.j1 kj2 a0 a1 t303 t304 true)) = some r := H
        have A9 := Aside0.mk A90
        clear A90
        have HC10 := Aside0.mk H
        clear H
        go_upto_region 5 with (first | ((with_reducible refine gate_callee (f := 22) rfl ?_); refine goesL_ (some 20) rfl rfl Tryd.func22 (by kernel_rfl) rfl #[.string a0] rfl (by (try simp only [List.map_toArray, List.map_cons, List.map_nil]); first | done | rfl | (simp only [List.length_drop, List.length_take]; rfl)) ?_; (with_reducible refine (order_Above.calls a0 t303 t304 _ A8.out).mono ?_); rintro e w11 ⟨rfl, hb⟩; refine ⟨_, rfl, ?_⟩; have n0_ := Aside0.mk (below_step (by repeat (first | (with_reducible first | exact HB.out | apply below_alloc | apply pw_below_drewN | apply below_drew1) | exact HB.out)) hb); clear HB; have HB := n0_; clear n0_; (try clear hb); (try clear hb2); (try clear hk); (try clear hi)) | ((with_reducible refine gate_callee (f := 23) rfl ?_); refine goesL_ (some 25) rfl rfl Tryd.func23 (by kernel_rfl) rfl #[.string a0] rfl (by (try simp only [List.map_toArray, List.map_cons, List.map_nil]); first | done | rfl | (simp only [List.length_drop, List.length_take]; rfl)) ?_; (with_reducible refine (quittanceref12_Above.calls kj2 a0 t305 t306 _ A9.out).mono ?_); rintro e w12 ⟨rfl, hb⟩; refine ⟨_, rfl, ?_⟩; have n0_ := Aside0.mk (below_step (by repeat (first | (with_reducible first | exact HB.out | apply below_alloc | apply pw_below_drewN | apply below_drew1) | exact HB.out)) hb); clear HB; have HB := n0_; clear n0_; (try clear hb); (try clear hb2); (try clear hk); (try clear hi)))
        (try simp only [Act.put, List.setIfInBounds_toArray, List.set_cons_zero, List.set_cons_succ])
        go_cut [35] (fun v35 wc => ∃ (kq : Nat) (x35_9 : Bool), v35 = .bool x35_9 ∧ Aside0 (quittancelaw12_OrderAbove.j1 kq a0 a1 t303 t304 x35_9 = some r) ∧ Aside0 (kq ≤ kj2) ∧ Aside0 (Below w.heap.size w wc))
        case first =>
          have H := HC10.out
          clear HC10
          by_cases c13 : t303.toList = t305.toList
          · rw [if_pos c13] at H
            have c13b0 : (t303.toList == t305.toList) = true := beq_iff_eq.mpr c13
            have c13b1 : (t303.toList != t305.toList) = false := bne_eq_false_iff_eq.mpr c13
            clear c13
            (first | rw [c13b0] | (simp only [i64_w, i32_w]; rw [c13b0]) | skip)
            have H' := Aside0.mk H
            clear H
            go_wp2
            go_meet
            case rel => exact ⟨_, ((t304 != t306)), (by first | rfl | (simp; done) | (simp [*]; done)), H', ⟨by have := HJ2.out; first | omega | exact Nat.le_refl _⟩, ⟨by repeat (first | (with_reducible first | exact HB.out | apply below_alloc | apply pw_below_drewN | apply below_drew1) | exact HB.out)⟩⟩
          · rw [if_neg c13] at H
            have c13b0 : (t303.toList == t305.toList) = false := beq_eq_false_iff_ne.mpr c13
            have c13b1 : (t303.toList != t305.toList) = true := bne_iff_ne.mpr c13
            (first | rw [c13b0] | (simp only [i64_w, i32_w]; rw [c13b0]) | skip)
            have H' := Aside0.mk H
            clear H
            go_wp2
            go_meet
            case rel => exact ⟨_, (true), (by first | rfl | (simp; done) | (simp [*]; done)), H', ⟨by have := HJ2.out; first | omega | exact Nat.le_refl _⟩, ⟨by repeat (first | (with_reducible first | exact HB.out | apply below_alloc | apply pw_below_drewN | apply below_drew1) | exact HB.out)⟩⟩
        case rest =>
          clear HC10
          try clear c1
          try clear c2
          try clear p2
          try clear c4
          try clear c4b0
          try clear c4b1
          try clear c5
          try clear c7
          try clear c9
          try clear c13
          try clear c13b0
          try clear c13b1
          try clear p2
          obtain ⟨kq, x35_9, rfl, HA, HJ9, HB⟩ := hcut
          cases kq with
          | zero => exact absurd HA.out (by simp [quittancelaw12_OrderAbove.j1])
          | succ kj9 =>
            have H := HA.out
            clear HA
            simp only [quittancelaw12_OrderAbove.j1] at H
            by_cases c14 : x35_9 = true
            · subst c14
              have H1 : (some false) = some r := by rw [if_pos rfl] at H; exact H
              clear H
              have H := H1
              clear H1
              obtain rfl := Option.some.inj H
              go_wp2
              go_ret
              exact ⟨by first | rfl | (simp [errW_none, errW_some] <;> rfl) | (simp [*, errW_none, errW_some] <;> rfl), by repeat (first | (with_reducible first | exact HB.out | apply below_alloc | apply pw_below_drewN | apply below_drew1) | exact HB.out)⟩
            · replace c14 := Bool.eq_false_iff.mpr c14
              subst c14
              have H1 : ((quittancelaw12_begins.f a1 a0).bind fun t307 => (if ((Op.bytesLess a1.toList a0.toList) = true) then (if (t307 == false) = true then ((quittancelaw12_head.f kj9).bind fun t308 => (some t308)) else (some false)) else (if t304 = true then (if (t307 == (Op.bytesLess a1.toList t303.toList)) = true then ((quittancelaw12_head.f kj9).bind fun t309 => (some t309)) else (some false)) else (if (t307 == true) = true then ((quittancelaw12_head.f kj9).bind fun t310 => (some t310)) else (some false))))) = some r := by rw [if_neg (show ¬ (false = true) by decide)] at H; exact H
              clear H
              have H := H1
              clear H1
              replace H := Option.bind_eq_some_iff.mp H
              obtain ⟨t307, A150, H⟩ := H
              replace H : (if ((Op.bytesLess a1.toList a0.toList) = true) then (if (t307 == false) = true then ((quittancelaw12_head.f kj9).bind fun t308 => (some t308)) else (some false)) else (if t304 = true then (if (t307 == (Op.bytesLess a1.toList t303.toList)) = true then ((quittancelaw12_head.f kj9).bind fun t309 => (some t309)) else (some false)) else (if (t307 == true) = true then ((quittancelaw12_head.f kj9).bind fun t310 => (some t310)) else (some false)))) = some r := H
              have A15 := Aside0.mk A150
              clear A150
              by_cases c16 : ((Op.bytesLess a1.toList a0.toList) = true)
              · rw [if_pos c16] at H
                have c16b0 : (Op.bytesLess a1.toList a0.toList) = true := c16
                clear c16
                by_cases c17 : (t307 == false) = true
                · rw [if_pos c17] at H
                  have c17b0 : (t307 == false) = true := c17
                  (try (have c17b1 : decide (t307 = false) = true := by simpa using c17))
                  (try (have c17b2 : (t307 == false) = true := by simpa using c17))
                  clear c17
                  replace H := Option.bind_eq_some_iff.mp H
                  obtain ⟨t308, A180, H⟩ := H
                  replace H : (some t308) = some r := H
                  have A18 := Aside0.mk A180
                  clear A180
                  obtain rfl := Option.some.inj H
                  go_wp2_with (first | ((with_reducible refine gate_callee (f := 21) rfl ?_); refine goesL_ (some 38) rfl rfl Tryd.func21 (by kernel_rfl) rfl #[.string a1, .string a0] rfl (by (try simp only [List.map_toArray, List.map_cons, List.map_nil]); first | done | rfl | (simp only [List.length_drop, List.length_take]; rfl)) ?_; (with_reducible refine (quittancelaw12_begins.calls a1 a0 t307 _ A15.out).mono ?_); rintro e w' ⟨rfl, ⟨nd, rfl⟩⟩; refine ⟨_, rfl, ?_⟩) | (go_at_call 9; (with_reducible refine (quittancelaw12_head.calls kj9  t308 _ (Tab.b HTab (by repeat (first | (with_reducible first | exact HB.out | apply below_alloc | apply pw_below_drewN | apply below_drew1) | exact HB.out))) A18.out).mono ?_); rintro e w19 ⟨rfl, hb⟩; have n0_ := Aside0.mk (below_step (by repeat (first | (with_reducible first | exact HB.out | apply below_alloc | apply pw_below_drewN | apply below_drew1) | exact HB.out)) hb); clear HB; have HB := n0_; clear n0_; (try clear hb); (try clear hb2); (try clear hk); (try clear hi)))
                  go_ret
                  exact ⟨by first | rfl | (simp [errW_none, errW_some] <;> rfl) | (simp [*, errW_none, errW_some] <;> rfl), by repeat (first | (with_reducible first | exact HB.out | apply below_alloc | apply pw_below_drewN | apply below_drew1) | exact HB.out)⟩
                · rw [if_neg c17] at H
                  have c17b0 : (t307 == false) = false := by simpa using c17
                  (try (have c17b1 : decide (t307 = false) = false := by simpa using c17))
                  (try (have c17b2 : (t307 == false) = false := by simpa using c17))
                  (try (have c17b3 : ¬ (t307 = false) := by simpa using c17))
                  clear c17
                  obtain rfl := Option.some.inj H
                  go_wp2_with (first | ((with_reducible refine gate_callee (f := 21) rfl ?_); refine goesL_ (some 38) rfl rfl Tryd.func21 (by kernel_rfl) rfl #[.string a1, .string a0] rfl (by (try simp only [List.map_toArray, List.map_cons, List.map_nil]); first | done | rfl | (simp only [List.length_drop, List.length_take]; rfl)) ?_; (with_reducible refine (quittancelaw12_begins.calls a1 a0 t307 _ A15.out).mono ?_); rintro e w' ⟨rfl, ⟨nd, rfl⟩⟩; refine ⟨_, rfl, ?_⟩))
                  go_ret
                  exact ⟨by first | rfl | (simp [errW_none, errW_some] <;> rfl) | (simp [*, errW_none, errW_some] <;> rfl), by repeat (first | (with_reducible first | exact HB.out | apply below_alloc | apply pw_below_drewN | apply below_drew1) | exact HB.out)⟩
              · rw [if_neg c16] at H
                have c16b0 : (Op.bytesLess a1.toList a0.toList) = false := by simpa using c16
                clear c16
                by_cases c20 : t304 = true
                · subst c20
                  have H1 : (if (t307 == (Op.bytesLess a1.toList t303.toList)) = true then ((quittancelaw12_head.f kj9).bind fun t309 => (some t309)) else (some false)) = some r := by rw [if_pos rfl] at H; exact H
                  clear H
                  have H := H1
                  clear H1
                  by_cases c21 : (t307 == (Op.bytesLess a1.toList t303.toList)) = true
                  · rw [if_pos c21] at H
                    have c21b0 : (t307 == (Op.bytesLess a1.toList t303.toList)) = true := c21
                    (try (have c21b1 : decide (t307 = (Op.bytesLess a1.toList t303.toList)) = true := by simpa using c21))
                    (try (have c21b2 : (t307 == (Op.bytesLess a1.toList t303.toList)) = true := by simpa using c21))
                    clear c21
                    replace H := Option.bind_eq_some_iff.mp H
                    obtain ⟨t309, A220, H⟩ := H
                    replace H : (some t309) = some r := H
                    have A22 := Aside0.mk A220
                    clear A220
                    obtain rfl := Option.some.inj H
                    go_wp2_with (first | ((with_reducible refine gate_callee (f := 21) rfl ?_); refine goesL_ (some 38) rfl rfl Tryd.func21 (by kernel_rfl) rfl #[.string a1, .string a0] rfl (by (try simp only [List.map_toArray, List.map_cons, List.map_nil]); first | done | rfl | (simp only [List.length_drop, List.length_take]; rfl)) ?_; (with_reducible refine (quittancelaw12_begins.calls a1 a0 t307 _ A15.out).mono ?_); rintro e w' ⟨rfl, ⟨nd, rfl⟩⟩; refine ⟨_, rfl, ?_⟩) | (go_at_call 9; (with_reducible refine (quittancelaw12_head.calls kj9  t309 _ (Tab.b HTab (by repeat (first | (with_reducible first | exact HB.out | apply below_alloc | apply pw_below_drewN | apply below_drew1) | exact HB.out))) A22.out).mono ?_); rintro e w23 ⟨rfl, hb⟩; have n0_ := Aside0.mk (below_step (by repeat (first | (with_reducible first | exact HB.out | apply below_alloc | apply pw_below_drewN | apply below_drew1) | exact HB.out)) hb); clear HB; have HB := n0_; clear n0_; (try clear hb); (try clear hb2); (try clear hk); (try clear hi)))
                    go_ret
                    exact ⟨by first | rfl | (simp [errW_none, errW_some] <;> rfl) | (simp [*, errW_none, errW_some] <;> rfl), by repeat (first | (with_reducible first | exact HB.out | apply below_alloc | apply pw_below_drewN | apply below_drew1) | exact HB.out)⟩
                  · rw [if_neg c21] at H
                    have c21b0 : (t307 == (Op.bytesLess a1.toList t303.toList)) = false := by simpa using c21
                    (try (have c21b1 : decide (t307 = (Op.bytesLess a1.toList t303.toList)) = false := by simpa using c21))
                    (try (have c21b2 : (t307 == (Op.bytesLess a1.toList t303.toList)) = false := by simpa using c21))
                    (try (have c21b3 : ¬ (t307 = (Op.bytesLess a1.toList t303.toList)) := by simpa using c21))
                    clear c21
                    obtain rfl := Option.some.inj H
                    go_wp2_with (first | ((with_reducible refine gate_callee (f := 21) rfl ?_); refine goesL_ (some 38) rfl rfl Tryd.func21 (by kernel_rfl) rfl #[.string a1, .string a0] rfl (by (try simp only [List.map_toArray, List.map_cons, List.map_nil]); first | done | rfl | (simp only [List.length_drop, List.length_take]; rfl)) ?_; (with_reducible refine (quittancelaw12_begins.calls a1 a0 t307 _ A15.out).mono ?_); rintro e w' ⟨rfl, ⟨nd, rfl⟩⟩; refine ⟨_, rfl, ?_⟩))
                    go_ret
                    exact ⟨by first | rfl | (simp [errW_none, errW_some] <;> rfl) | (simp [*, errW_none, errW_some] <;> rfl), by repeat (first | (with_reducible first | exact HB.out | apply below_alloc | apply pw_below_drewN | apply below_drew1) | exact HB.out)⟩
                · replace c20 := Bool.eq_false_iff.mpr c20
                  subst c20
                  have H1 : (if (t307 == true) = true then ((quittancelaw12_head.f kj9).bind fun t310 => (some t310)) else (some false)) = some r := by rw [if_neg (show ¬ (false = true) by decide)] at H; exact H
                  clear H
                  have H := H1
                  clear H1
                  by_cases c24 : (t307 == true) = true
                  · rw [if_pos c24] at H
                    have c24b0 : (t307 == true) = true := c24
                    (try (have c24b1 : decide (t307 = true) = true := by simpa using c24))
                    (try (have c24b2 : (t307 == true) = true := by simpa using c24))
                    clear c24
                    replace H := Option.bind_eq_some_iff.mp H
                    obtain ⟨t310, A250, H⟩ := H
                    replace H : (some t310) = some r := H
                    have A25 := Aside0.mk A250
                    clear A250
                    obtain rfl := Option.some.inj H
                    go_wp2_with (first | ((with_reducible refine gate_callee (f := 21) rfl ?_); refine goesL_ (some 38) rfl rfl Tryd.func21 (by kernel_rfl) rfl #[.string a1, .string a0] rfl (by (try simp only [List.map_toArray, List.map_cons, List.map_nil]); first | done | rfl | (simp only [List.length_drop, List.length_take]; rfl)) ?_; (with_reducible refine (quittancelaw12_begins.calls a1 a0 t307 _ A15.out).mono ?_); rintro e w' ⟨rfl, ⟨nd, rfl⟩⟩; refine ⟨_, rfl, ?_⟩) | (go_at_call 9; (with_reducible refine (quittancelaw12_head.calls kj9  t310 _ (Tab.b HTab (by repeat (first | (with_reducible first | exact HB.out | apply below_alloc | apply pw_below_drewN | apply below_drew1) | exact HB.out))) A25.out).mono ?_); rintro e w26 ⟨rfl, hb⟩; have n0_ := Aside0.mk (below_step (by repeat (first | (with_reducible first | exact HB.out | apply below_alloc | apply pw_below_drewN | apply below_drew1) | exact HB.out)) hb); clear HB; have HB := n0_; clear n0_; (try clear hb); (try clear hb2); (try clear hk); (try clear hi)))
                    go_ret
                    exact ⟨by first | rfl | (simp [errW_none, errW_some] <;> rfl) | (simp [*, errW_none, errW_some] <;> rfl), by repeat (first | (with_reducible first | exact HB.out | apply below_alloc | apply pw_below_drewN | apply below_drew1) | exact HB.out)⟩
                  · rw [if_neg c24] at H
                    have c24b0 : (t307 == true) = false := by simpa using c24
                    (try (have c24b1 : decide (t307 = true) = false := by simpa using c24))
                    (try (have c24b2 : (t307 == true) = false := by simpa using c24))
                    (try (have c24b3 : ¬ (t307 = true) := by simpa using c24))
                    clear c24
                    obtain rfl := Option.some.inj H
                    go_wp2_with (first | ((with_reducible refine gate_callee (f := 21) rfl ?_); refine goesL_ (some 38) rfl rfl Tryd.func21 (by kernel_rfl) rfl #[.string a1, .string a0] rfl (by (try simp only [List.map_toArray, List.map_cons, List.map_nil]); first | done | rfl | (simp only [List.length_drop, List.length_take]; rfl)) ?_; (with_reducible refine (quittancelaw12_begins.calls a1 a0 t307 _ A15.out).mono ?_); rintro e w' ⟨rfl, ⟨nd, rfl⟩⟩; refine ⟨_, rfl, ?_⟩))
                    go_ret
                    exact ⟨by first | rfl | (simp [errW_none, errW_some] <;> rfl) | (simp [*, errW_none, errW_some] <;> rfl), by repeat (first | (with_reducible first | exact HB.out | apply below_alloc | apply pw_below_drewN | apply below_drew1) | exact HB.out)⟩

end Go.Proofs.YtbghkjoejbfnbaaDoor.PH
