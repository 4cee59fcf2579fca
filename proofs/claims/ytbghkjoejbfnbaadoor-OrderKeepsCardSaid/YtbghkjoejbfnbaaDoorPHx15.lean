/- What the functions of this part answer: their contracts, printed by a program of this session (wip/gen/hybrid.py) out of the translation. No conditions. -/
import Derived.Test.YtbghkjoejbfnbaaDoorPHx0
import Derived.Test.YtbghkjoejbfnbaaDoorPHx14
import Derived.Test.YtbghkjoejbfnbaaDoorPHx2
import Derived.Test.YtbghkjoejbfnbaaDoorPHx4
import Derived.Test.YtbghkjoejbfnbaaDoorPHx5
import Derived.Test.YtbghkjoejbfnbaaDoorPOrdC
noncomputable section
namespace Go.Proofs.YtbghkjoejbfnbaaDoor.PH

open Go.RowKit Go.Proofs.YtbghkjoejbfnbaaDoorW.PrintWords Go.Proofs.YtbghkjoejbfnbaaDoorW.PrintLast Go.Proofs.YtbghkjoejbfnbaaDoorW.PrintMore
attribute [local go_sem] max2_int min2_int max_two min_two max_three min_three max_four min_four   -- for this text's walks alone
set_option linter.unusedVariables false
set_option linter.unusedSimpArgs false

-- HYB
/-! ### quittancelaw12_OrderKeeps: function 6 -/
mutual
def quittancelaw12_OrderKeeps.j0 : Nat → ByteArray → List (S47) → List (S47) → Bool → Option (Bool)
  | 0, _, _, _, _ => none
  | k + 1, x0, x1, x2, x20 => if x20 = true then ((quittancelaw12_head.f k).bind fun t283 => (some t283)) else ((order_Compare.f x1 x2).bind fun t284 => ((quittanceref12_Compare.f k x1 x2).bind fun t285 => (if t284 = t285 then ((order_Put.f k x0 x1).bind fun bt286 => ((order_Put.f k x0 x2).bind fun bt288 => (if bt286.2 = 0 then (quittancelaw12_OrderKeeps.j1 k x1 x2 t284 bt286.1 bt288.1 (bt288.2 != 0)) else (quittancelaw12_OrderKeeps.j1 k x1 x2 t284 bt286.1 bt288.1 true)))) else (some false))))
def quittancelaw12_OrderKeeps.j1 : Nat → List (S47) → List (S47) → Int → ByteArray → ByteArray → Bool → Option (Bool)
  | 0, _, _, _, _, _, _ => none
  | k + 1, x1, x2, x7, x8, x10, x47 => if x47 = true then ((quittancelaw12_head.f k).bind fun t290 => (some t290)) else (if (x1.length : Int) ≥ (x2.length : Int) then (if 0 ≤ (mn (x1.length : Int) (x2.length : Int)) then (if (mn (x1.length : Int) (x2.length : Int)) ≤ (x1.length : Int) then ((quittanceref12_Same.f k (x1.take ((mn (x1.length : Int) (x2.length : Int)) : Int).toNat) x2).bind fun t295 => (if ((Op.bytesLess x8.toList x10.toList) == (decide (x7 < 0))) = true then (if ((x8.toList == x10.toList) == (x7 == 0)) = true then ((quittancelaw12_begins.f x8 x10).bind fun t296 => (if (t296 == t295) = true then ((quittancelaw12_head.f k).bind fun t297 => (some t297)) else (some false))) else (some false)) else (some false))) else (none)) else (none)) else (if ((Op.bytesLess x8.toList x10.toList) == (decide (x7 < 0))) = true then (if ((x8.toList == x10.toList) == (x7 == 0)) = true then ((quittancelaw12_begins.f x8 x10).bind fun t298 => (if (t298 == false) = true then ((quittancelaw12_head.f k).bind fun t299 => (some t299)) else (some false))) else (some false)) else (some false)))
end
def quittancelaw12_OrderKeeps.f (k : Nat) (a0 : ByteArray) (l1 : List (S47)) (l2 : List (S47)) : Option (Bool) := (quittancelaw12_great.f k a0 l1).bind fun t281 => (if t281 = true then (quittancelaw12_OrderKeeps.j0 k a0 l1 l2 true) else ((quittancelaw12_great.f k a0 l2).bind fun t282 => (quittancelaw12_OrderKeeps.j0 k a0 l1 l2 t282)))
theorem quittancelaw12_OrderKeeps.mono_l : ∀ k, (∀ y0 y1 y2 y3, LeO (quittancelaw12_OrderKeeps.j0 k y0 y1 y2 y3) (quittancelaw12_OrderKeeps.j0 (k + 1) y0 y1 y2 y3)) ∧ (∀ y0 y1 y2 y3 y4 y5, LeO (quittancelaw12_OrderKeeps.j1 k y0 y1 y2 y3 y4 y5) (quittancelaw12_OrderKeeps.j1 (k + 1) y0 y1 y2 y3 y4 y5))
  | 0 => ⟨fun _ _ _ _ r h => by simp [quittancelaw12_OrderKeeps.j0] at h, fun _ _ _ _ _ _ r h => by simp [quittancelaw12_OrderKeeps.j1] at h⟩
  | k + 1 => by
    obtain ⟨ih0, ih1⟩ := quittancelaw12_OrderKeeps.mono_l k
    refine ⟨?_, ?_⟩
    · intro y0 y1 y2 y3
      unfold quittancelaw12_OrderKeeps.j0
      repeat' first
      | (with_reducible exact ih0 _ _ _ _)
      | (with_reducible exact ih1 _ _ _ _ _ _)
      | (with_reducible exact order_Put.mono _ _ _)
      | (with_reducible exact quittancelaw12_great.mono _ _ _)
      | (with_reducible exact quittancelaw12_head.mono _)
      | (with_reducible exact quittanceref12_Compare.mono _ _ _)
      | (with_reducible exact quittanceref12_Same.mono _ _ _)
      | (with_reducible exact LeO.refl _)
      | (with_reducible exact LeO.none _)
      | (with_reducible refine LeO.ite ?_ ?_)
      | (with_reducible refine LeO.bind ?_ (fun _ => ?_))
      | exact ih0 _ _ _ _
      | exact ih1 _ _ _ _ _ _
      | exact order_Put.mono _ _ _
      | exact quittancelaw12_great.mono _ _ _
      | exact quittancelaw12_head.mono _
      | exact quittanceref12_Compare.mono _ _ _
      | exact quittanceref12_Same.mono _ _ _
      | exact LeO.none _
      | refine LeO.ite ?_ ?_
      | refine LeO.bind ?_ (fun _ => ?_)
    · intro y0 y1 y2 y3 y4 y5
      unfold quittancelaw12_OrderKeeps.j1
      repeat' first
      | (with_reducible exact ih0 _ _ _ _)
      | (with_reducible exact ih1 _ _ _ _ _ _)
      | (with_reducible exact order_Put.mono _ _ _)
      | (with_reducible exact quittancelaw12_great.mono _ _ _)
      | (with_reducible exact quittancelaw12_head.mono _)
      | (with_reducible exact quittanceref12_Compare.mono _ _ _)
      | (with_reducible exact quittanceref12_Same.mono _ _ _)
      | (with_reducible exact LeO.refl _)
      | (with_reducible exact LeO.none _)
      | (with_reducible refine LeO.ite ?_ ?_)
      | (with_reducible refine LeO.bind ?_ (fun _ => ?_))
      | exact ih0 _ _ _ _
      | exact ih1 _ _ _ _ _ _
      | exact order_Put.mono _ _ _
      | exact quittancelaw12_great.mono _ _ _
      | exact quittancelaw12_head.mono _
      | exact quittanceref12_Compare.mono _ _ _
      | exact quittanceref12_Same.mono _ _ _
      | exact LeO.none _
      | refine LeO.ite ?_ ?_
      | refine LeO.bind ?_ (fun _ => ?_)
theorem quittancelaw12_OrderKeeps.mono : ∀ a0 a1 a2 k, LeO (quittancelaw12_OrderKeeps.f k a0 a1 a2) (quittancelaw12_OrderKeeps.f (k + 1) a0 a1 a2) := by
  intro a0 a1 a2 k
  obtain ⟨ih0, ih1⟩ := quittancelaw12_OrderKeeps.mono_l k
  unfold quittancelaw12_OrderKeeps.f
  repeat' first
      | (with_reducible exact ih0 _ _ _ _)
      | (with_reducible exact ih1 _ _ _ _ _ _)
      | (with_reducible exact order_Put.mono _ _ _)
      | (with_reducible exact quittancelaw12_great.mono _ _ _)
      | (with_reducible exact quittancelaw12_head.mono _)
      | (with_reducible exact quittanceref12_Compare.mono _ _ _)
      | (with_reducible exact quittanceref12_Same.mono _ _ _)
      | (with_reducible exact LeO.refl _)
      | (with_reducible exact LeO.none _)
      | (with_reducible refine LeO.ite ?_ ?_)
      | (with_reducible refine LeO.bind ?_ (fun _ => ?_))
      | exact ih0 _ _ _ _
      | exact ih1 _ _ _ _ _ _
      | exact order_Put.mono _ _ _
      | exact quittancelaw12_great.mono _ _ _
      | exact quittancelaw12_head.mono _
      | exact quittanceref12_Compare.mono _ _ _
      | exact quittanceref12_Same.mono _ _ _
      | exact LeO.none _
      | refine LeO.ite ?_ ?_
      | refine LeO.bind ?_ (fun _ => ?_)
set_option maxHeartbeats 8000000 in
set_option maxRecDepth 100000 in
theorem quittancelaw12_OrderKeeps.calls (k : Nat) (a0 : ByteArray) (A1 : Option Addr) (c1 : Nat) (l1 : List (S47)) (A2 : Option Addr) (c2 : Nat) (l2 : List (S47)) (r : Bool) (w : World) (hr1 : Kd.C k47 w A1 l1.length l1) (hc1 : l1.length ≤ c1) (hr2 : Kd.C k47 w A2 l2.length l2) (hc2 : l2.length ≤ c2) (HTab : Aside0 (Tab w)) (h : quittancelaw12_OrderKeeps.f k a0 l1 l2 = some r) :
    Calls Tryd.prog 6 #[.string a0, .slice A1 l1.length c1, .slice A2 l2.length c2] w fun e w' => e = .returned (.bool r) ∧ Below w.heap.size w w' := by
  have HR1 := Aside0.mk hr1
  have HC1 := Aside0.mk hc1
  clear hr1 hc1
  have HR2 := Aside0.mk hr2
  have HC2 := Aside0.mk hc2
  clear hr2 hc2
  have HB := Aside0.mk (Below.refl w.heap.size w)
  have H : ((quittancelaw12_great.f k a0 l1).bind fun t281 => (if t281 = true then (quittancelaw12_OrderKeeps.j0 k a0 l1 l2 true) else ((quittancelaw12_great.f k a0 l2).bind fun t282 => (quittancelaw12_OrderKeeps.j0 k a0 l1 l2 t282)))) = some r := h
  clear h
  have HC4 := Aside0.mk H
  clear H
  go_enter Tryd.func6, Tryd.ntmps6
  go_upto_region 1 with (fail)
  go_cut [20] (fun v20 wc => ∃ (kq : Nat) (x20_3 : Bool), v20 = .bool x20_3 ∧ Aside0 (quittancelaw12_OrderKeeps.j0 kq a0 l1 l2 x20_3 = some r) ∧ Aside0 (kq ≤ k) ∧ Aside0 (Below w.heap.size w wc))
  case first =>
    have H := HC4.out
    clear HC4
    replace H := Option.bind_eq_some_iff.mp H
    obtain ⟨t281, A50, H⟩ := H
    replace H : (if t281 = true then (quittancelaw12_OrderKeeps.j0 k a0 l1 l2 true) else ((quittancelaw12_great.f k a0 l2).bind fun t282 => (quittancelaw12_OrderKeeps.j0 k a0 l1 l2 t282))) = some r := H
    have A5 := Aside0.mk A50
    clear A50
    by_cases c6 : t281 = true
    · subst c6
      have H1 : (quittancelaw12_OrderKeeps.j0 k a0 l1 l2 true) = some r := by rw [if_pos rfl] at H; exact H
      clear H
      have H := H1
      clear H1
      have H' := Aside0.mk H
      clear H
      go_wp2_with (first | ((with_reducible refine gate_callee (f := 8) rfl ?_); refine goesL_ (some 15) rfl rfl Tryd.func8 (by kernel_rfl) rfl #[.string a0, .slice A1 l1.length c1] rfl (by (try simp only [List.map_toArray, List.map_cons, List.map_nil]); first | done | rfl | (simp only [List.length_drop, List.length_take]; rfl)) ?_; (with_reducible refine (quittancelaw12_great.calls k a0 _ _ l1 true _ ?side1 ?side2 A5.out).mono ?_); (case side1 => repeat (first | exact (Kd.C_below HR1.out HB.out) | (with_reducible refine Kd.C_alloc ?_ _) | (with_reducible refine Kd.C_drewN ?_ _) | (with_reducible refine Kd.C_drew ?_))); (case side2 => exact HC1.out); rintro e w' ⟨rfl, ⟨nd, rfl⟩⟩; refine ⟨_, rfl, ?_⟩))
      go_meet
      case rel => exact ⟨_, (true), (by first | rfl | (simp; done) | (simp [*]; done)), H', ⟨by first | omega | exact Nat.le_refl _⟩, ⟨by repeat (first | (with_reducible first | exact HB.out | apply below_alloc | apply pw_below_drewN | apply below_drew1) | exact HB.out)⟩⟩
    · replace c6 := Bool.eq_false_iff.mpr c6
      subst c6
      have H1 : ((quittancelaw12_great.f k a0 l2).bind fun t282 => (quittancelaw12_OrderKeeps.j0 k a0 l1 l2 t282)) = some r := by rw [if_neg (show ¬ (false = true) by decide)] at H; exact H
      clear H
      have H := H1
      clear H1
      replace H := Option.bind_eq_some_iff.mp H
      obtain ⟨t282, A70, H⟩ := H
      replace H : (quittancelaw12_OrderKeeps.j0 k a0 l1 l2 t282) = some r := H
      have A7 := Aside0.mk A70
      clear A70
      have H' := Aside0.mk H
      clear H
      go_wp2_with (first | ((with_reducible refine gate_callee (f := 8) rfl ?_); refine goesL_ (some 15) rfl rfl Tryd.func8 (by kernel_rfl) rfl #[.string a0, .slice A1 l1.length c1] rfl (by (try simp only [List.map_toArray, List.map_cons, List.map_nil]); first | done | rfl | (simp only [List.length_drop, List.length_take]; rfl)) ?_; (with_reducible refine (quittancelaw12_great.calls k a0 _ _ l1 false _ ?side1 ?side2 A5.out).mono ?_); (case side1 => repeat (first | exact (Kd.C_below HR1.out HB.out) | (with_reducible refine Kd.C_alloc ?_ _) | (with_reducible refine Kd.C_drewN ?_ _) | (with_reducible refine Kd.C_drew ?_))); (case side2 => exact HC1.out); rintro e w' ⟨rfl, ⟨nd, rfl⟩⟩; refine ⟨_, rfl, ?_⟩) | (go_at_call 8; (with_reducible refine (quittancelaw12_great.calls k a0 _ _ l2 t282 _ ?side1 ?side2 A7.out).mono ?_); (case side1 => repeat (first | exact (Kd.C_below HR2.out (by repeat (first | (with_reducible first | exact HB.out | apply below_alloc | apply pw_below_drewN | apply below_drew1) | exact HB.out))) | (with_reducible refine Kd.C_alloc ?_ _) | (with_reducible refine Kd.C_drewN ?_ _) | (with_reducible refine Kd.C_drew ?_))); (case side2 => exact HC2.out); rintro e w' ⟨rfl, ⟨nd, rfl⟩⟩))
      go_meet
      case rel => exact ⟨_, (t282), (by first | rfl | (simp; done) | (simp [*]; done)), H', ⟨by first | omega | exact Nat.le_refl _⟩, ⟨by repeat (first | (with_reducible first | exact HB.out | apply below_alloc | apply pw_below_drewN | apply below_drew1) | exact HB.out)⟩⟩
  case rest =>
    clear HC4
    try clear c1
    try clear c2
    try clear p2
    try clear c6
    obtain ⟨kq, x20_3, rfl, HA, HJ3, HB⟩ := hcut
    cases kq with
    | zero => exact absurd HA.out (by simp [quittancelaw12_OrderKeeps.j0])
    | succ kj3 =>
      have H := HA.out
      clear HA
      simp only [quittancelaw12_OrderKeeps.j0] at H
      by_cases c8 : x20_3 = true
      · subst c8
        have H1 : ((quittancelaw12_head.f kj3).bind fun t283 => (some t283)) = some r := by rw [if_pos rfl] at H; exact H
        clear H
        have H := H1
        clear H1
        replace H := Option.bind_eq_some_iff.mp H
        obtain ⟨t283, A90, H⟩ := H
        replace H : (some t283) = some r := H
        have A9 := Aside0.mk A90
        clear A90
        obtain rfl := Option.some.inj H
        go_wp2_with (first | ((with_reducible refine gate_callee (f := 9) rfl ?_); refine goesL_ (some 21) rfl rfl Tryd.func9 (by kernel_rfl) rfl #[] rfl (by (try simp only [List.map_toArray, List.map_cons, List.map_nil]); first | done | rfl | (simp only [List.length_drop, List.length_take]; rfl)) ?_; (with_reducible refine (quittancelaw12_head.calls kj3  t283 _ (Tab.b HTab (by repeat (first | (with_reducible first | exact HB.out | apply below_alloc | apply pw_below_drewN | apply below_drew1) | exact HB.out))) A9.out).mono ?_); rintro e w10 ⟨rfl, hb⟩; refine ⟨_, rfl, ?_⟩; have n0_ := Aside0.mk (below_step (by repeat (first | (with_reducible first | exact HB.out | apply below_alloc | apply pw_below_drewN | apply below_drew1) | exact HB.out)) hb); clear HB; have HB := n0_; clear n0_; (try clear hb); (try clear hb2); (try clear hk); (try clear hi)))
        go_ret
        exact ⟨by first | rfl | (simp [errW_none, errW_some] <;> rfl) | (simp [*, errW_none, errW_some] <;> rfl), by repeat (first | (with_reducible first | exact HB.out | apply below_alloc | apply pw_below_drewN | apply below_drew1) | exact HB.out)⟩
      · replace c8 := Bool.eq_false_iff.mpr c8
        subst c8
        have H1 : ((order_Compare.f l1 l2).bind fun t284 => ((quittanceref12_Compare.f kj3 l1 l2).bind fun t285 => (if t284 = t285 then ((order_Put.f kj3 a0 l1).bind fun bt286 => ((order_Put.f kj3 a0 l2).bind fun bt288 => (if bt286.2 = 0 then (quittancelaw12_OrderKeeps.j1 kj3 l1 l2 t284 bt286.1 bt288.1 (bt288.2 != 0)) else (quittancelaw12_OrderKeeps.j1 kj3 l1 l2 t284 bt286.1 bt288.1 true)))) else (some false)))) = some r := by rw [if_neg (show ¬ (false = true) by decide)] at H; exact H
        clear H
        have H := H1
        clear H1
        replace H := Option.bind_eq_some_iff.mp H
        obtain ⟨t284, A110, H⟩ := H
        replace H : ((quittanceref12_Compare.f kj3 l1 l2).bind fun t285 => (if t284 = t285 then ((order_Put.f kj3 a0 l1).bind fun bt286 => ((order_Put.f kj3 a0 l2).bind fun bt288 => (if bt286.2 = 0 then (quittancelaw12_OrderKeeps.j1 kj3 l1 l2 t284 bt286.1 bt288.1 (bt288.2 != 0)) else (quittancelaw12_OrderKeeps.j1 kj3 l1 l2 t284 bt286.1 bt288.1 true)))) else (some false))) = some r := H
        have A11 := Aside0.mk A110
        clear A110
        replace H := Option.bind_eq_some_iff.mp H
        obtain ⟨t285, A120, H⟩ := H
        replace H : (if t284 = t285 then ((order_Put.f kj3 a0 l1).bind fun bt286 => ((order_Put.f kj3 a0 l2).bind fun bt288 => (if bt286.2 = 0 then (quittancelaw12_OrderKeeps.j1 kj3 l1 l2 t284 bt286.1 bt288.1 (bt288.2 != 0)) else (quittancelaw12_OrderKeeps.j1 kj3 l1 l2 t284 bt286.1 bt288.1 true)))) else (some false)) = some r := H
        have A12 := Aside0.mk A120
        clear A120
        by_cases c13 : t284 = t285
        · rw [if_pos c13] at H
          have c13b0 : (t284 == t285) = true := beq_iff_eq.mpr c13
          have c13b1 : (t284 != t285) = false := bne_eq_false_iff_eq.mpr c13
          clear c13
          replace H := Option.bind_eq_some_iff.mp H
          obtain ⟨⟨t286, t287⟩, A140, H⟩ := H
          replace H : ((order_Put.f kj3 a0 l2).bind fun bt288 => (if t287 = 0 then (quittancelaw12_OrderKeeps.j1 kj3 l1 l2 t284 t286 bt288.1 (bt288.2 != 0)) else (quittancelaw12_OrderKeeps.j1 kj3 l1 l2 t284 t286 bt288.1 true))) = some r := H
          have A14 := Aside0.mk A140
          clear A140
          replace H := Option.bind_eq_some_iff.mp H
          obtain ⟨⟨t288, t289⟩, A150, H⟩ := H
          replace H : (if t287 = 0 then (quittancelaw12_OrderKeeps.j1 kj3 l1 l2 t284 t286 t288 (t289 != 0)) else (quittancelaw12_OrderKeeps.j1 kj3 l1 l2 t284 t286 t288 true)) = some r := H
          have A15 := Aside0.mk A150
          clear A150
          have HC16 := Aside0.mk H
          clear H
          go_upto_region 8 with (first | ((with_reducible refine gate_callee (f := 19) rfl ?_); refine goesL_ (some 24) rfl rfl Tryd.func19 (by kernel_rfl) rfl #[.slice A1 l1.length c1, .slice A2 l2.length c2] rfl (by (try simp only [List.map_toArray, List.map_cons, List.map_nil]); first | done | rfl | (simp only [List.length_drop, List.length_take]; rfl)) ?_; (with_reducible refine (order_Compare.calls _ _ l1 _ _ l2 t284 _ ?side1 ?side2 ?side3 ?side4 A11.out).mono ?_); (case side1 => repeat (first | exact (Kd.C_below HR1.out HB.out) | (with_reducible refine Kd.C_alloc ?_ _) | (with_reducible refine Kd.C_drewN ?_ _) | (with_reducible refine Kd.C_drew ?_))); (case side2 => exact HC1.out); (case side3 => repeat (first | exact (Kd.C_below HR2.out HB.out) | (with_reducible refine Kd.C_alloc ?_ _) | (with_reducible refine Kd.C_drewN ?_ _) | (with_reducible refine Kd.C_drew ?_))); (case side4 => exact HC2.out); rintro e w17 ⟨rfl, hb⟩; refine ⟨_, rfl, ?_⟩; have n0_ := Aside0.mk (below_step (by repeat (first | (with_reducible first | exact HB.out | apply below_alloc | apply pw_below_drewN | apply below_drew1) | exact HB.out)) hb); clear HB; have HB := n0_; clear n0_; (try clear hb); (try clear hb2); (try clear hk); (try clear hi)) | ((with_reducible refine gate_callee (f := 20) rfl ?_); refine goesL_ (some 28) rfl rfl Tryd.func20 (by kernel_rfl) rfl #[.slice A1 l1.length c1, .slice A2 l2.length c2] rfl (by (try simp only [List.map_toArray, List.map_cons, List.map_nil]); first | done | rfl | (simp only [List.length_drop, List.length_take]; rfl)) ?_; (with_reducible refine (quittanceref12_Compare.calls kj3 _ _ l1 _ _ l2 t285 _ ?side1 ?side2 ?side3 ?side4 A12.out).mono ?_); (case side1 => repeat (first | exact (Kd.C_below HR1.out HB.out) | (with_reducible refine Kd.C_alloc ?_ _) | (with_reducible refine Kd.C_drewN ?_ _) | (with_reducible refine Kd.C_drew ?_))); (case side2 => exact HC1.out); (case side3 => repeat (first | exact (Kd.C_below HR2.out HB.out) | (with_reducible refine Kd.C_alloc ?_ _) | (with_reducible refine Kd.C_drewN ?_ _) | (with_reducible refine Kd.C_drew ?_))); (case side4 => exact HC2.out); rintro e w' ⟨rfl, ⟨nd, rfl⟩⟩; refine ⟨_, rfl, ?_⟩) | ((with_reducible refine gate_callee (f := 10) rfl ?_); refine goesL_ (some 33) rfl rfl Tryd.func10 (by kernel_rfl) rfl #[.string a0, .slice A1 l1.length c1] rfl (by (try simp only [List.map_toArray, List.map_cons, List.map_nil]); first | done | rfl | (simp only [List.length_drop, List.length_take]; rfl)) ?_; (with_reducible refine (order_Put.calls kj3 a0 _ _ l1 t286 t287 _ ?side1 ?side2 (Tab.b HTab (by repeat (first | (with_reducible first | exact HB.out | apply below_alloc | apply pw_below_drewN | apply below_drew1) | exact HB.out))) A14.out).mono ?_); (case side1 => repeat (first | exact (Kd.C_below HR1.out (by repeat (first | (with_reducible first | exact HB.out | apply below_alloc | apply pw_below_drewN | apply below_drew1) | exact HB.out))) | (with_reducible refine Kd.C_alloc ?_ _) | (with_reducible refine Kd.C_drewN ?_ _) | (with_reducible refine Kd.C_drew ?_))); (case side2 => exact HC1.out); rintro e w18 ⟨rfl, hb⟩; refine ⟨_, rfl, ?_⟩; have n0_ := Aside0.mk (below_step (by repeat (first | (with_reducible first | exact HB.out | apply below_alloc | apply pw_below_drewN | apply below_drew1) | exact HB.out)) hb); clear HB; have HB := n0_; clear n0_; (try clear hb); (try clear hb2); (try clear hk); (try clear hi)) | ((with_reducible refine gate_callee (f := 10) rfl ?_); refine goesL_ (some 39) rfl rfl Tryd.func10 (by kernel_rfl) rfl #[.string a0, .slice A2 l2.length c2] rfl (by (try simp only [List.map_toArray, List.map_cons, List.map_nil]); first | done | rfl | (simp only [List.length_drop, List.length_take]; rfl)) ?_; (with_reducible refine (order_Put.calls kj3 a0 _ _ l2 t288 t289 _ ?side1 ?side2 (Tab.b HTab (by repeat (first | (with_reducible first | exact HB.out | apply below_alloc | apply pw_below_drewN | apply below_drew1) | exact HB.out))) A15.out).mono ?_); (case side1 => repeat (first | exact (Kd.C_below HR2.out HB.out) | (with_reducible refine Kd.C_alloc ?_ _) | (with_reducible refine Kd.C_drewN ?_ _) | (with_reducible refine Kd.C_drew ?_))); (case side2 => exact HC2.out); rintro e w19 ⟨rfl, hb⟩; refine ⟨_, rfl, ?_⟩; have n0_ := Aside0.mk (below_step (by repeat (first | (with_reducible first | exact HB.out | apply below_alloc | apply pw_below_drewN | apply below_drew1) | exact HB.out)) hb); clear HB; have HB := n0_; clear n0_; (try clear hb); (try clear hb2); (try clear hk); (try clear hi)))
          (try simp only [Act.put, List.setIfInBounds_toArray, List.set_cons_zero, List.set_cons_succ])
          go_cut [47] (fun v47 wc => ∃ (kq : Nat) (x47_15 : Bool), v47 = .bool x47_15 ∧ Aside0 (quittancelaw12_OrderKeeps.j1 kq l1 l2 t284 t286 t288 x47_15 = some r) ∧ Aside0 (kq ≤ kj3) ∧ Aside0 (Below w.heap.size w wc))
          case first =>
            have H := HC16.out
            clear HC16
            by_cases c20 : t287 = 0
            · rw [if_pos c20] at H
              have c20b0 : (t287 == 0) = true := beq_iff_eq.mpr c20
              have c20b1 : (t287 != 0) = false := bne_eq_false_iff_eq.mpr c20
              clear c20
              (first | rw [c20b0] | (simp only [i64_w, i32_w]; rw [c20b0]) | skip)
              have H' := Aside0.mk H
              clear H
              go_wp2
              go_meet
              case rel => exact ⟨_, ((t289 != 0)), (by first | rfl | (simp; done) | (simp [*]; done)), H', ⟨by have := HJ3.out; first | omega | exact Nat.le_refl _⟩, ⟨by repeat (first | (with_reducible first | exact HB.out | apply below_alloc | apply pw_below_drewN | apply below_drew1) | exact HB.out)⟩⟩
            · rw [if_neg c20] at H
              have c20b0 : (t287 == 0) = false := beq_eq_false_iff_ne.mpr c20
              have c20b1 : (t287 != 0) = true := bne_iff_ne.mpr c20
              (first | rw [c20b0] | (simp only [i64_w, i32_w]; rw [c20b0]) | skip)
              have H' := Aside0.mk H
              clear H
              go_wp2
              go_meet
              case rel => exact ⟨_, (true), (by first | rfl | (simp; done) | (simp [*]; done)), H', ⟨by have := HJ3.out; first | omega | exact Nat.le_refl _⟩, ⟨by repeat (first | (with_reducible first | exact HB.out | apply below_alloc | apply pw_below_drewN | apply below_drew1) | exact HB.out)⟩⟩
          case rest =>
            clear HC16
            try clear c1
            try clear c2
            try clear p2
            try clear c6
            try clear c8
            try clear c9
            try clear c10
            try clear c13
            try clear c13b0
            try clear c13b1
            try clear c19
            try clear c20
            try clear c20b0
            try clear c20b1
            try clear p2
            obtain ⟨kq, x47_15, rfl, HA, HJ15, HB⟩ := hcut
            cases kq with
            | zero => exact absurd HA.out (by simp [quittancelaw12_OrderKeeps.j1])
            | succ kj15 =>
              have H := HA.out
              clear HA
              simp only [quittancelaw12_OrderKeeps.j1] at H
              by_cases c21 : x47_15 = true
              · subst c21
                have H1 : ((quittancelaw12_head.f kj15).bind fun t290 => (some t290)) = some r := by rw [if_pos rfl] at H; exact H
                clear H
                have H := H1
                clear H1
                replace H := Option.bind_eq_some_iff.mp H
                obtain ⟨t290, A220, H⟩ := H
                replace H : (some t290) = some r := H
                have A22 := Aside0.mk A220
                clear A220
                obtain rfl := Option.some.inj H
                go_wp2_with (first | ((with_reducible refine gate_callee (f := 9) rfl ?_); refine goesL_ (some 48) rfl rfl Tryd.func9 (by kernel_rfl) rfl #[] rfl (by (try simp only [List.map_toArray, List.map_cons, List.map_nil]); first | done | rfl | (simp only [List.length_drop, List.length_take]; rfl)) ?_; (with_reducible refine (quittancelaw12_head.calls kj15  t290 _ (Tab.b HTab (by repeat (first | (with_reducible first | exact HB.out | apply below_alloc | apply pw_below_drewN | apply below_drew1) | exact HB.out))) A22.out).mono ?_); rintro e w23 ⟨rfl, hb⟩; refine ⟨_, rfl, ?_⟩; have n0_ := Aside0.mk (below_step (by repeat (first | (with_reducible first | exact HB.out | apply below_alloc | apply pw_below_drewN | apply below_drew1) | exact HB.out)) hb); clear HB; have HB := n0_; clear n0_; (try clear hb); (try clear hb2); (try clear hk); (try clear hi)))
                go_ret
                exact ⟨by first | rfl | (simp [errW_none, errW_some] <;> rfl) | (simp [*, errW_none, errW_some] <;> rfl), by repeat (first | (with_reducible first | exact HB.out | apply below_alloc | apply pw_below_drewN | apply below_drew1) | exact HB.out)⟩
              · replace c21 := Bool.eq_false_iff.mpr c21
                subst c21
                have H1 : (if (l1.length : Int) ≥ (l2.length : Int) then (if 0 ≤ (mn (l1.length : Int) (l2.length : Int)) then (if (mn (l1.length : Int) (l2.length : Int)) ≤ (l1.length : Int) then ((quittanceref12_Same.f kj15 (l1.take ((mn (l1.length : Int) (l2.length : Int)) : Int).toNat) l2).bind fun t295 => (if ((Op.bytesLess t286.toList t288.toList) == (decide (t284 < 0))) = true then (if ((t286.toList == t288.toList) == (t284 == 0)) = true then ((quittancelaw12_begins.f t286 t288).bind fun t296 => (if (t296 == t295) = true then ((quittancelaw12_head.f kj15).bind fun t297 => (some t297)) else (some false))) else (some false)) else (some false))) else (none)) else (none)) else (if ((Op.bytesLess t286.toList t288.toList) == (decide (t284 < 0))) = true then (if ((t286.toList == t288.toList) == (t284 == 0)) = true then ((quittancelaw12_begins.f t286 t288).bind fun t298 => (if (t298 == false) = true then ((quittancelaw12_head.f kj15).bind fun t299 => (some t299)) else (some false))) else (some false)) else (some false))) = some r := by rw [if_neg (show ¬ (false = true) by decide)] at H; exact H
                clear H
                have H := H1
                clear H1
                by_cases c24 : (l1.length : Int) ≥ (l2.length : Int)
                · rw [if_pos c24] at H
                  have c24b0 : decide ((l2.length : Int) ≤ (l1.length : Int)) = true := decide_eq_true c24
                  have c24b1 : decide (l2.length ≤ l1.length) = true := decide_eq_true (Int.ofNat_le.mp c24)
                  clear c24
                  obtain ⟨ji25, hji25⟩ : ∃ j_ : Int, (mn (l1.length : Int) (l2.length : Int)) = j_ := ⟨_, rfl⟩
                  replace H : (if 0 ≤ (ji25) then (if (ji25) ≤ (l1.length : Int) then ((quittanceref12_Same.f kj15 (l1.take ((ji25) : Int).toNat) l2).bind fun t295 => (if ((Op.bytesLess t286.toList t288.toList) == (decide (t284 < 0))) = true then (if ((t286.toList == t288.toList) == (t284 == 0)) = true then ((quittancelaw12_begins.f t286 t288).bind fun t296 => (if (t296 == t295) = true then ((quittancelaw12_head.f kj15).bind fun t297 => (some t297)) else (some false))) else (some false)) else (some false))) else (none)) else (none)) = some r := by first | (rw [hji25] at H; exact H) | (simp only [hji25] at H ⊢; exact H)
                  have hji25_ : (if (l2.length : Int) < (l1.length : Int) then (l2.length : Int) else (l1.length : Int)) = ji25 := hji25
                  have hji25n : (if l2.length < l1.length then (l2.length : Int) else (l1.length : Int)) = ji25 := by rw [← hji25_]; simp only [Int.ofNat_lt]
                  by_cases c26 : 0 ≤ (ji25)
                  · rw [if_pos c26] at H
                    have c26b0 := eq_true c26
                    have c26b1 : decide (0 ≤ (ji25)) = true := decide_eq_true c26
                    clear c26
                    by_cases c27 : (ji25) ≤ (l1.length : Int)
                    · rw [if_pos c27] at H
                      have c27b0 := eq_true c27
                      have c27b1 : decide ((ji25) ≤ (l1.length : Int)) = true := decide_eq_true c27
                      clear c27
                      obtain ⟨y291, hy291⟩ : ∃ y_ : List (S47), y_ = (l1.take ((ji25) : Int).toNat) := ⟨_, rfl⟩
                      replace H : ((quittanceref12_Same.f kj15 y291 l2).bind fun t295 => (if ((Op.bytesLess t286.toList t288.toList) == (decide (t284 < 0))) = true then (if ((t286.toList == t288.toList) == (t284 == 0)) = true then ((quittancelaw12_begins.f t286 t288).bind fun t296 => (if (t296 == t295) = true then ((quittancelaw12_head.f kj15).bind fun t297 => (some t297)) else (some false))) else (some false)) else (some false))) = some r := by first | (rw [hy291]; with_reducible exact H) | (have H2_ := (Option.bind_some _ _).symm.trans H; rw [hy291]; with_reducible exact H2_) | (have H2_ := (Option.bind_some _ _).symm.trans H; with_reducible exact H2_) | with_reducible exact H | (rw [hy291]; exact H) | exact H
                      have Ny291 := Aside0.mk hy291
                      clear hy291
                      replace H := Option.bind_eq_some_iff.mp H
                      obtain ⟨t295, A280, H⟩ := H
                      replace H : (if ((Op.bytesLess t286.toList t288.toList) == (decide (t284 < 0))) = true then (if ((t286.toList == t288.toList) == (t284 == 0)) = true then ((quittancelaw12_begins.f t286 t288).bind fun t296 => (if (t296 == t295) = true then ((quittancelaw12_head.f kj15).bind fun t297 => (some t297)) else (some false))) else (some false)) else (some false)) = some r := H
                      have A28 := Aside0.mk A280
                      clear A280
                      by_cases c29 : ((Op.bytesLess t286.toList t288.toList) == (decide (t284 < 0))) = true
                      · rw [if_pos c29] at H
                        have c29b0 : ((Op.bytesLess t286.toList t288.toList) == (decide (t284 < 0))) = true := c29
                        (try (have c29b1 : decide ((Op.bytesLess t286.toList t288.toList) = (decide (t284 < 0))) = true := by simpa using c29))
                        (try (have c29b2 : ((Op.bytesLess t286.toList t288.toList) == (decide (t284 < 0))) = true := by simpa using c29))
                        clear c29
                        by_cases c30 : ((t286.toList == t288.toList) == (t284 == 0)) = true
                        · rw [if_pos c30] at H
                          have c30b0 : ((t286.toList == t288.toList) == (t284 == 0)) = true := c30
                          (try (have c30b1 : decide ((t286.toList == t288.toList) = (t284 == 0)) = true := by simpa using c30))
                          (try (have c30b2 : ((t286.toList == t288.toList) == (t284 == 0)) = true := by simpa using c30))
                          clear c30
                          replace H := Option.bind_eq_some_iff.mp H
                          obtain ⟨t296, A310, H⟩ := H
                          replace H : (if (t296 == t295) = true then ((quittancelaw12_head.f kj15).bind fun t297 => (some t297)) else (some false)) = some r := H
                          have A31 := Aside0.mk A310
                          clear A310
                          by_cases c32 : (t296 == t295) = true
                          · rw [if_pos c32] at H
                            have c32b0 : (t296 == t295) = true := c32
                            (try (have c32b1 : decide (t296 = t295) = true := by simpa using c32))
                            (try (have c32b2 : (t296 == t295) = true := by simpa using c32))
                            clear c32
                            replace H := Option.bind_eq_some_iff.mp H
                            obtain ⟨t297, A330, H⟩ := H
                            replace H : (some t297) = some r := H
                            have A33 := Aside0.mk A330
                            clear A330
                            obtain rfl := Option.some.inj H
                            have q34 : ((ji25) : Int) ≤ ((l1.length : Int) : Int) := of_decide_eq_true (by first | (with_reducible assumption) | assumption)
                            obtain ⟨i034, hi034, _, hsz34, _⟩ := info_parts info47
                            have hroom34 : l1.length ≤ c1 := HC1.out
                            have hC34 : Kd.C k47 _ A1 l1.length l1 := HR1.out
                            have hcut34 := cut_to (P := Tryd.prog) 22 47 .i64 Tryd.underlying22 hi034 A1 l1.length c1 (ji25) (of_decide_eq_true (by first | (with_reducible assumption) | assumption)) q34 hroom34
                            have hr34 := Kd.C_take (m := ((ji25) : Int).toNat) hC34 (by omega)
                            have hy34 : y291.length = ((ji25) : Int).toNat := (by rw [Ny291.out, List.length_take]; omega)
                            rw [← Ny291.out] at hr34
                            rw [← hy34] at hcut34
                            have HR294 := Aside0.mk hr34
                            have HC294 := Aside0.mk (show y291.length ≤ c1 from by omega)
                            clear hr34 hC34 hroom34 hi034 hsz34
                            have KY34 := Aside0.mk hy34
                            clear hy34
                            replace q34 := eq_true q34
                            go_wp2_with (first | (go_at_call 18; (with_reducible refine (quittanceref12_Same.calls kj15 _ _ y291 _ _ l2 t295 _ ?side1 ?side2 ?side3 ?side4 A28.out).mono ?_); (case side1 => repeat (first | exact (Kd.C_below HR294.out HB.out) | (with_reducible refine Kd.C_alloc ?_ _) | (with_reducible refine Kd.C_drewN ?_ _) | (with_reducible refine Kd.C_drew ?_))); (case side2 => exact HC294.out); (case side3 => repeat (first | exact (Kd.C_below HR2.out HB.out) | (with_reducible refine Kd.C_alloc ?_ _) | (with_reducible refine Kd.C_drewN ?_ _) | (with_reducible refine Kd.C_drew ?_))); (case side4 => exact HC2.out); rintro e w' ⟨rfl, ⟨nd, rfl⟩⟩) | (go_at_call 21; (with_reducible refine (quittancelaw12_begins.calls t286 t288 t296 _ A31.out).mono ?_); rintro e w' ⟨rfl, ⟨nd, rfl⟩⟩) | (go_at_call 9; (with_reducible refine (quittancelaw12_head.calls kj15  t297 _ (Tab.b HTab (by repeat (first | (with_reducible first | exact HB.out | apply below_alloc | apply pw_below_drewN | apply below_drew1) | exact HB.out))) A33.out).mono ?_); rintro e w35 ⟨rfl, hb⟩; have n0_ := Aside0.mk (below_step (by repeat (first | (with_reducible first | exact HB.out | apply below_alloc | apply pw_below_drewN | apply below_drew1) | exact HB.out)) hb); clear HB; have HB := n0_; clear n0_; (try clear hb); (try clear hb2); (try clear hk); (try clear hi)))
                            go_ret
                            exact ⟨by first | rfl | (simp [errW_none, errW_some] <;> rfl) | (simp only [← hji25]; first | rfl | (simp [errW_none, errW_some] <;> rfl)) | (simp [*, errW_none, errW_some] <;> rfl), by repeat (first | (with_reducible first | exact HB.out | apply below_alloc | apply pw_below_drewN | apply below_drew1) | exact HB.out)⟩
                          · rw [if_neg c32] at H
                            have c32b0 : (t296 == t295) = false := by simpa using c32
                            (try (have c32b1 : decide (t296 = t295) = false := by simpa using c32))
                            (try (have c32b2 : (t296 == t295) = false := by simpa using c32))
                            (try (have c32b3 : ¬ (t296 = t295) := by simpa using c32))
                            clear c32
                            obtain rfl := Option.some.inj H
                            have q36 : ((ji25) : Int) ≤ ((l1.length : Int) : Int) := of_decide_eq_true (by first | (with_reducible assumption) | assumption)
                            obtain ⟨i036, hi036, _, hsz36, _⟩ := info_parts info47
                            have hroom36 : l1.length ≤ c1 := HC1.out
                            have hC36 : Kd.C k47 _ A1 l1.length l1 := HR1.out
                            have hcut36 := cut_to (P := Tryd.prog) 22 47 .i64 Tryd.underlying22 hi036 A1 l1.length c1 (ji25) (of_decide_eq_true (by first | (with_reducible assumption) | assumption)) q36 hroom36
                            have hr36 := Kd.C_take (m := ((ji25) : Int).toNat) hC36 (by omega)
                            have hy36 : y291.length = ((ji25) : Int).toNat := (by rw [Ny291.out, List.length_take]; omega)
                            rw [← Ny291.out] at hr36
                            rw [← hy36] at hcut36
                            have HR294 := Aside0.mk hr36
                            have HC294 := Aside0.mk (show y291.length ≤ c1 from by omega)
                            clear hr36 hC36 hroom36 hi036 hsz36
                            have KY36 := Aside0.mk hy36
                            clear hy36
                            replace q36 := eq_true q36
                            go_wp2_with (first | (go_at_call 18; (with_reducible refine (quittanceref12_Same.calls kj15 _ _ y291 _ _ l2 t295 _ ?side1 ?side2 ?side3 ?side4 A28.out).mono ?_); (case side1 => repeat (first | exact (Kd.C_below HR294.out HB.out) | (with_reducible refine Kd.C_alloc ?_ _) | (with_reducible refine Kd.C_drewN ?_ _) | (with_reducible refine Kd.C_drew ?_))); (case side2 => exact HC294.out); (case side3 => repeat (first | exact (Kd.C_below HR2.out HB.out) | (with_reducible refine Kd.C_alloc ?_ _) | (with_reducible refine Kd.C_drewN ?_ _) | (with_reducible refine Kd.C_drew ?_))); (case side4 => exact HC2.out); rintro e w' ⟨rfl, ⟨nd, rfl⟩⟩) | (go_at_call 21; (with_reducible refine (quittancelaw12_begins.calls t286 t288 t296 _ A31.out).mono ?_); rintro e w' ⟨rfl, ⟨nd, rfl⟩⟩))
                            go_ret
                            exact ⟨by first | rfl | (simp [errW_none, errW_some] <;> rfl) | (simp only [← hji25]; first | rfl | (simp [errW_none, errW_some] <;> rfl)) | (simp [*, errW_none, errW_some] <;> rfl), by repeat (first | (with_reducible first | exact HB.out | apply below_alloc | apply pw_below_drewN | apply below_drew1) | exact HB.out)⟩
                        · rw [if_neg c30] at H
                          have c30b0 : ((t286.toList == t288.toList) == (t284 == 0)) = false := by simpa using c30
                          (try (have c30b1 : decide ((t286.toList == t288.toList) = (t284 == 0)) = false := by simpa using c30))
                          (try (have c30b2 : ((t286.toList == t288.toList) == (t284 == 0)) = false := by simpa using c30))
                          (try (have c30b3 : ¬ ((t286.toList == t288.toList) = (t284 == 0)) := by simpa using c30))
                          clear c30
                          obtain rfl := Option.some.inj H
                          have q37 : ((ji25) : Int) ≤ ((l1.length : Int) : Int) := of_decide_eq_true (by first | (with_reducible assumption) | assumption)
                          obtain ⟨i037, hi037, _, hsz37, _⟩ := info_parts info47
                          have hroom37 : l1.length ≤ c1 := HC1.out
                          have hC37 : Kd.C k47 _ A1 l1.length l1 := HR1.out
                          have hcut37 := cut_to (P := Tryd.prog) 22 47 .i64 Tryd.underlying22 hi037 A1 l1.length c1 (ji25) (of_decide_eq_true (by first | (with_reducible assumption) | assumption)) q37 hroom37
                          have hr37 := Kd.C_take (m := ((ji25) : Int).toNat) hC37 (by omega)
                          have hy37 : y291.length = ((ji25) : Int).toNat := (by rw [Ny291.out, List.length_take]; omega)
                          rw [← Ny291.out] at hr37
                          rw [← hy37] at hcut37
                          have HR294 := Aside0.mk hr37
                          have HC294 := Aside0.mk (show y291.length ≤ c1 from by omega)
                          clear hr37 hC37 hroom37 hi037 hsz37
                          have KY37 := Aside0.mk hy37
                          clear hy37
                          replace q37 := eq_true q37
                          go_wp2_with (first | (go_at_call 18; (with_reducible refine (quittanceref12_Same.calls kj15 _ _ y291 _ _ l2 t295 _ ?side1 ?side2 ?side3 ?side4 A28.out).mono ?_); (case side1 => repeat (first | exact (Kd.C_below HR294.out HB.out) | (with_reducible refine Kd.C_alloc ?_ _) | (with_reducible refine Kd.C_drewN ?_ _) | (with_reducible refine Kd.C_drew ?_))); (case side2 => exact HC294.out); (case side3 => repeat (first | exact (Kd.C_below HR2.out HB.out) | (with_reducible refine Kd.C_alloc ?_ _) | (with_reducible refine Kd.C_drewN ?_ _) | (with_reducible refine Kd.C_drew ?_))); (case side4 => exact HC2.out); rintro e w' ⟨rfl, ⟨nd, rfl⟩⟩))
                          go_ret
                          exact ⟨by first | rfl | (simp [errW_none, errW_some] <;> rfl) | (simp only [← hji25]; first | rfl | (simp [errW_none, errW_some] <;> rfl)) | (simp [*, errW_none, errW_some] <;> rfl), by repeat (first | (with_reducible first | exact HB.out | apply below_alloc | apply pw_below_drewN | apply below_drew1) | exact HB.out)⟩
                      · rw [if_neg c29] at H
                        have c29b0 : ((Op.bytesLess t286.toList t288.toList) == (decide (t284 < 0))) = false := by simpa using c29
                        (try (have c29b1 : decide ((Op.bytesLess t286.toList t288.toList) = (decide (t284 < 0))) = false := by simpa using c29))
                        (try (have c29b2 : ((Op.bytesLess t286.toList t288.toList) == (decide (t284 < 0))) = false := by simpa using c29))
                        (try (have c29b3 : ¬ ((Op.bytesLess t286.toList t288.toList) = (decide (t284 < 0))) := by simpa using c29))
                        clear c29
                        obtain rfl := Option.some.inj H
                        have q38 : ((ji25) : Int) ≤ ((l1.length : Int) : Int) := of_decide_eq_true (by first | (with_reducible assumption) | assumption)
                        obtain ⟨i038, hi038, _, hsz38, _⟩ := info_parts info47
                        have hroom38 : l1.length ≤ c1 := HC1.out
                        have hC38 : Kd.C k47 _ A1 l1.length l1 := HR1.out
                        have hcut38 := cut_to (P := Tryd.prog) 22 47 .i64 Tryd.underlying22 hi038 A1 l1.length c1 (ji25) (of_decide_eq_true (by first | (with_reducible assumption) | assumption)) q38 hroom38
                        have hr38 := Kd.C_take (m := ((ji25) : Int).toNat) hC38 (by omega)
                        have hy38 : y291.length = ((ji25) : Int).toNat := (by rw [Ny291.out, List.length_take]; omega)
                        rw [← Ny291.out] at hr38
                        rw [← hy38] at hcut38
                        have HR294 := Aside0.mk hr38
                        have HC294 := Aside0.mk (show y291.length ≤ c1 from by omega)
                        clear hr38 hC38 hroom38 hi038 hsz38
                        have KY38 := Aside0.mk hy38
                        clear hy38
                        replace q38 := eq_true q38
                        go_wp2_with (first | (go_at_call 18; (with_reducible refine (quittanceref12_Same.calls kj15 _ _ y291 _ _ l2 t295 _ ?side1 ?side2 ?side3 ?side4 A28.out).mono ?_); (case side1 => repeat (first | exact (Kd.C_below HR294.out HB.out) | (with_reducible refine Kd.C_alloc ?_ _) | (with_reducible refine Kd.C_drewN ?_ _) | (with_reducible refine Kd.C_drew ?_))); (case side2 => exact HC294.out); (case side3 => repeat (first | exact (Kd.C_below HR2.out HB.out) | (with_reducible refine Kd.C_alloc ?_ _) | (with_reducible refine Kd.C_drewN ?_ _) | (with_reducible refine Kd.C_drew ?_))); (case side4 => exact HC2.out); rintro e w' ⟨rfl, ⟨nd, rfl⟩⟩))
                        go_ret
                        exact ⟨by first | rfl | (simp [errW_none, errW_some] <;> rfl) | (simp only [← hji25]; first | rfl | (simp [errW_none, errW_some] <;> rfl)) | (simp [*, errW_none, errW_some] <;> rfl), by repeat (first | (with_reducible first | exact HB.out | apply below_alloc | apply pw_below_drewN | apply below_drew1) | exact HB.out)⟩
                    · rw [if_neg c27] at H
                      exact absurd H (by simp)
                  · rw [if_neg c26] at H
                    exact absurd H (by simp)
                · rw [if_neg c24] at H
                  have c24b0 : decide ((l2.length : Int) ≤ (l1.length : Int)) = false := decide_eq_false c24
                  have c24b1 : decide (l2.length ≤ l1.length) = false := decide_eq_false (fun h => c24 (Int.ofNat_le.mpr h))
                  clear c24
                  by_cases c39 : ((Op.bytesLess t286.toList t288.toList) == (decide (t284 < 0))) = true
                  · rw [if_pos c39] at H
                    have c39b0 : ((Op.bytesLess t286.toList t288.toList) == (decide (t284 < 0))) = true := c39
                    (try (have c39b1 : decide ((Op.bytesLess t286.toList t288.toList) = (decide (t284 < 0))) = true := by simpa using c39))
                    (try (have c39b2 : ((Op.bytesLess t286.toList t288.toList) == (decide (t284 < 0))) = true := by simpa using c39))
                    clear c39
                    by_cases c40 : ((t286.toList == t288.toList) == (t284 == 0)) = true
                    · rw [if_pos c40] at H
                      have c40b0 : ((t286.toList == t288.toList) == (t284 == 0)) = true := c40
                      (try (have c40b1 : decide ((t286.toList == t288.toList) = (t284 == 0)) = true := by simpa using c40))
                      (try (have c40b2 : ((t286.toList == t288.toList) == (t284 == 0)) = true := by simpa using c40))
                      clear c40
                      replace H := Option.bind_eq_some_iff.mp H
                      obtain ⟨t298, A410, H⟩ := H
                      replace H : (if (t298 == false) = true then ((quittancelaw12_head.f kj15).bind fun t299 => (some t299)) else (some false)) = some r := H
                      have A41 := Aside0.mk A410
                      clear A410
                      by_cases c42 : (t298 == false) = true
                      · rw [if_pos c42] at H
                        have c42b0 : (t298 == false) = true := c42
                        (try (have c42b1 : decide (t298 = false) = true := by simpa using c42))
                        (try (have c42b2 : (t298 == false) = true := by simpa using c42))
                        clear c42
                        replace H := Option.bind_eq_some_iff.mp H
                        obtain ⟨t299, A430, H⟩ := H
                        replace H : (some t299) = some r := H
                        have A43 := Aside0.mk A430
                        clear A430
                        obtain rfl := Option.some.inj H
                        go_wp2_with (first | (go_at_call 21; (with_reducible refine (quittancelaw12_begins.calls t286 t288 t298 _ A41.out).mono ?_); rintro e w' ⟨rfl, ⟨nd, rfl⟩⟩) | (go_at_call 9; (with_reducible refine (quittancelaw12_head.calls kj15  t299 _ (Tab.b HTab (by repeat (first | (with_reducible first | exact HB.out | apply below_alloc | apply pw_below_drewN | apply below_drew1) | exact HB.out))) A43.out).mono ?_); rintro e w44 ⟨rfl, hb⟩; have n0_ := Aside0.mk (below_step (by repeat (first | (with_reducible first | exact HB.out | apply below_alloc | apply pw_below_drewN | apply below_drew1) | exact HB.out)) hb); clear HB; have HB := n0_; clear n0_; (try clear hb); (try clear hb2); (try clear hk); (try clear hi)))
                        go_ret
                        exact ⟨by first | rfl | (simp [errW_none, errW_some] <;> rfl) | (simp [*, errW_none, errW_some] <;> rfl), by repeat (first | (with_reducible first | exact HB.out | apply below_alloc | apply pw_below_drewN | apply below_drew1) | exact HB.out)⟩
                      · rw [if_neg c42] at H
                        have c42b0 : (t298 == false) = false := by simpa using c42
                        (try (have c42b1 : decide (t298 = false) = false := by simpa using c42))
                        (try (have c42b2 : (t298 == false) = false := by simpa using c42))
                        (try (have c42b3 : ¬ (t298 = false) := by simpa using c42))
                        clear c42
                        obtain rfl := Option.some.inj H
                        go_wp2_with (first | (go_at_call 21; (with_reducible refine (quittancelaw12_begins.calls t286 t288 t298 _ A41.out).mono ?_); rintro e w' ⟨rfl, ⟨nd, rfl⟩⟩))
                        go_ret
                        exact ⟨by first | rfl | (simp [errW_none, errW_some] <;> rfl) | (simp [*, errW_none, errW_some] <;> rfl), by repeat (first | (with_reducible first | exact HB.out | apply below_alloc | apply pw_below_drewN | apply below_drew1) | exact HB.out)⟩
                    · rw [if_neg c40] at H
                      have c40b0 : ((t286.toList == t288.toList) == (t284 == 0)) = false := by simpa using c40
                      (try (have c40b1 : decide ((t286.toList == t288.toList) = (t284 == 0)) = false := by simpa using c40))
                      (try (have c40b2 : ((t286.toList == t288.toList) == (t284 == 0)) = false := by simpa using c40))
                      (try (have c40b3 : ¬ ((t286.toList == t288.toList) = (t284 == 0)) := by simpa using c40))
                      clear c40
                      obtain rfl := Option.some.inj H
                      go_wp2
                      go_ret
                      exact ⟨by first | rfl | (simp [errW_none, errW_some] <;> rfl) | (simp [*, errW_none, errW_some] <;> rfl), by repeat (first | (with_reducible first | exact HB.out | apply below_alloc | apply pw_below_drewN | apply below_drew1) | exact HB.out)⟩
                  · rw [if_neg c39] at H
                    have c39b0 : ((Op.bytesLess t286.toList t288.toList) == (decide (t284 < 0))) = false := by simpa using c39
                    (try (have c39b1 : decide ((Op.bytesLess t286.toList t288.toList) = (decide (t284 < 0))) = false := by simpa using c39))
                    (try (have c39b2 : ((Op.bytesLess t286.toList t288.toList) == (decide (t284 < 0))) = false := by simpa using c39))
                    (try (have c39b3 : ¬ ((Op.bytesLess t286.toList t288.toList) = (decide (t284 < 0))) := by simpa using c39))
                    clear c39
                    obtain rfl := Option.some.inj H
                    go_wp2
                    go_ret
                    exact ⟨by first | rfl | (simp [errW_none, errW_some] <;> rfl) | (simp [*, errW_none, errW_some] <;> rfl), by repeat (first | (with_reducible first | exact HB.out | apply below_alloc | apply pw_below_drewN | apply below_drew1) | exact HB.out)⟩
        · rw [if_neg c13] at H
          have c13b0 : (t284 == t285) = false := beq_eq_false_iff_ne.mpr c13
          have c13b1 : (t284 != t285) = true := bne_iff_ne.mpr c13
          obtain rfl := Option.some.inj H
          go_wp2_with (first | ((with_reducible refine gate_callee (f := 19) rfl ?_); refine goesL_ (some 24) rfl rfl Tryd.func19 (by kernel_rfl) rfl #[.slice A1 l1.length c1, .slice A2 l2.length c2] rfl (by (try simp only [List.map_toArray, List.map_cons, List.map_nil]); first | done | rfl | (simp only [List.length_drop, List.length_take]; rfl)) ?_; (with_reducible refine (order_Compare.calls _ _ l1 _ _ l2 t284 _ ?side1 ?side2 ?side3 ?side4 A11.out).mono ?_); (case side1 => repeat (first | exact (Kd.C_below HR1.out HB.out) | (with_reducible refine Kd.C_alloc ?_ _) | (with_reducible refine Kd.C_drewN ?_ _) | (with_reducible refine Kd.C_drew ?_))); (case side2 => exact HC1.out); (case side3 => repeat (first | exact (Kd.C_below HR2.out HB.out) | (with_reducible refine Kd.C_alloc ?_ _) | (with_reducible refine Kd.C_drewN ?_ _) | (with_reducible refine Kd.C_drew ?_))); (case side4 => exact HC2.out); rintro e w45 ⟨rfl, hb⟩; refine ⟨_, rfl, ?_⟩; have n0_ := Aside0.mk (below_step (by repeat (first | (with_reducible first | exact HB.out | apply below_alloc | apply pw_below_drewN | apply below_drew1) | exact HB.out)) hb); clear HB; have HB := n0_; clear n0_; (try clear hb); (try clear hb2); (try clear hk); (try clear hi)) | ((with_reducible refine gate_callee (f := 20) rfl ?_); refine goesL_ (some 28) rfl rfl Tryd.func20 (by kernel_rfl) rfl #[.slice A1 l1.length c1, .slice A2 l2.length c2] rfl (by (try simp only [List.map_toArray, List.map_cons, List.map_nil]); first | done | rfl | (simp only [List.length_drop, List.length_take]; rfl)) ?_; (with_reducible refine (quittanceref12_Compare.calls kj3 _ _ l1 _ _ l2 t285 _ ?side1 ?side2 ?side3 ?side4 A12.out).mono ?_); (case side1 => repeat (first | exact (Kd.C_below HR1.out HB.out) | (with_reducible refine Kd.C_alloc ?_ _) | (with_reducible refine Kd.C_drewN ?_ _) | (with_reducible refine Kd.C_drew ?_))); (case side2 => exact HC1.out); (case side3 => repeat (first | exact (Kd.C_below HR2.out HB.out) | (with_reducible refine Kd.C_alloc ?_ _) | (with_reducible refine Kd.C_drewN ?_ _) | (with_reducible refine Kd.C_drew ?_))); (case side4 => exact HC2.out); rintro e w' ⟨rfl, ⟨nd, rfl⟩⟩; refine ⟨_, rfl, ?_⟩))
          go_ret
          exact ⟨by first | rfl | (simp [errW_none, errW_some] <;> rfl) | (simp [*, errW_none, errW_some] <;> rfl), by repeat (first | (with_reducible first | exact HB.out | apply below_alloc | apply pw_below_drewN | apply below_drew1) | exact HB.out)⟩

end Go.Proofs.YtbghkjoejbfnbaaDoor.PH
