/- order.Compare, in the printed form. No conditions. -/
import Derived.Test.YtbghkjoejbfnbaaDoorPHx21
import Derived.WalkKit
import Derived.ProofKit
import Derived.Lib.Hide
namespace Go.Proofs.YtbghkjoejbfnbaaDoor.ord
open Go.RowKit Go.Proofs.YtbghkjoejbfnbaaDoorW.PrintWords
abbrev Fd := PH.S47
abbrev zf : Fd := PH.z47
abbrev Cf (w : World) (A : Option Addr) (l : List Fd) : Prop := Kd.C PH.k47 w A l.length l
def cmpI (a b : Int) : Int := if a < b then -1 else if a > b then 1 else 0
def cF (x y : Fd) : Int := if cmpI x.f0 y.f0 = 0 then (if cmpI x.f1 y.f1 = 0 then Lib.compareBytes x.f2.data.toList y.f2.data.toList else cmpI x.f1 y.f1) else cmpI x.f0 y.f0
def cL : List Fd → List Fd → Int
  | [], [] => 0
  | [], _ :: _ => -1
  | _ :: _, [] => 1
  | x :: l, y :: m => if cF x y = 0 then cL l m else cF x y
theorem cmp1 (a b : Int) : PH.cmp_Compare_uint64.f a b = some (cmpI a b) := by
  unfold PH.cmp_Compare_uint64.f PH.cmp_isNaN_uint64.f cmpI
  simp only [Option.bind_some, bne_self_eq_false, Bool.false_eq_true, if_false]
  split
  · rfl
  · split <;> rfl
theorem cmp2 (a b : Int) : PH.cmp_Compare_int64.f a b = some (cmpI a b) := by
  unfold PH.cmp_Compare_int64.f PH.cmp_isNaN_int64.f cmpI
  simp only [Option.bind_some, bne_self_eq_false, Bool.false_eq_true, if_false]
  split
  · rfl
  · split <;> rfl
theorem or3 (a b c : Int) : PH.cmp_Or_int.f 5 [a, b, c] = some (if a = 0 then (if b = 0 then c else b) else a) := by
  have e1 : wrap64 (0 + 1) = 1 := by unfold wrap64; omega
  have e2 : wrap64 (1 + 1) = 2 := by unfold wrap64; omega
  have e3 : wrap64 (2 + 1) = 3 := by unfold wrap64; omega
  have r0 : rd [a, b, c] 0 = a := rfl
  have r1 : rd [a, b, c] 1 = b := rfl
  have r2 : rd [a, b, c] 2 = c := rfl
  unfold PH.cmp_Or_int.f
  rw [PH.cmp_Or_int.l0, if_pos (by simp), if_pos (by simp), if_pos (by simp), r0]
  by_cases ha : a = 0
  · rw [if_pos ha, if_pos ha, e1, PH.cmp_Or_int.l0, if_pos (by simp), if_pos (by simp), if_pos (by simp), r1]
    by_cases hb : b = 0
    · rw [if_pos hb, if_pos hb, e2, PH.cmp_Or_int.l0, if_pos (by simp), if_pos (by simp), if_pos (by simp), r2]
      by_cases hc : c = 0
      · rw [if_pos hc, e3, PH.cmp_Or_int.l0, if_neg (by simp), hc]
      · rw [if_neg hc]
    · rw [if_neg hb, if_neg hb]
  · rw [if_neg ha, if_neg ha]
theorem one_is (x y : Fd) : PH.order_Compare_1.f 5 x.f0 x.f1 x.f2 y.f0 y.f1 y.f2 = some (cF x y) := by
  unfold PH.order_Compare_1.f PH.strings_Compare.f
  rw [cmp1, cmp2]
  simp only [Option.bind_some]
  rw [or3]
  rfl
theorem one_any (x y : Fd) (w : World) : Calls Tryd.prog 32 #[.agg #[.int .u64 x.f0, .int .i64 x.f1, .string x.f2], .agg #[.int .u64 y.f0, .int .i64 y.f1, .string y.f2]] w fun e w' => e = .returned (.int .i64 (cF x y)) ∧ Below w.heap.size w w' :=
  PH.order_Compare_1.calls 5 _ _ _ _ _ _ _ w (one_is x y)
theorem dropf (l : List Fd) (i : Nat) (h : i < l.length) : l.drop i = l.getD i zf :: l.drop (i + 1) := by
  rw [List.drop_eq_getElem_cons h, List.getD_eq_getElem?_getD, List.getElem?_eq_getElem h]
  rfl
set_option maxRecDepth 100000 in
set_option maxHeartbeats 1000000 in
theorem compare_is (w : World) (A B : Option Addr) (c d : Nat) (l m : List Fd) (hA : Cf w A l) (hB : Cf w B m) :
    Calls Tryd.prog 19 #[.slice A l.length c, .slice B m.length d] w fun e w' => e = .returned (.int .i64 (cL l m)) ∧ Below w.heap.size w w' := by
  have HA := Lib.hid (And.intro hA hB)
  have HL := Lib.hid (And.intro hA.2.1 hB.2.1)
  clear hA hB
  go_enter Tryd.func19, Tryd.ntmps19
  go_wp2
  go_loopg [13] (l.length + 1) (fun kq v13 wr => ∃ i : Nat, v13 = .int .i64 (i : Int) ∧ Aside0 (i ≤ l.length ∧ i ≤ m.length ∧ l.length + 1 ≤ kq + i ∧ cL (l.drop i) (m.drop i) = cL l m) ∧ Aside0 (Below w.heap.size w wr))
  case atStart => exact ⟨0, rfl, ⟨by simp⟩, ⟨Below.refl _ _⟩⟩
  case round =>
    obtain ⟨i, rfl, HI, HB⟩ := hrel
    replace HI := Lib.hid HI.out
    replace HB := Lib.hid HB.out
    by_cases ci : i < l.length
    · by_cases cj : i < m.length
      · obtain ⟨k1, rfl⟩ : ∃ k1, gk = k1 + 1 := ⟨gk - 1, by have := HI.out; omega⟩
        have hA := Kd.C_below HA.out.1 HB.out
        have hB := Kd.C_below HA.out.2 HB.out
        obtain ⟨ad, eA, a0, a1, a2⟩ := PH.at_T47 hA (i : Int) (by omega) (by omega)
        obtain ⟨bd, eB, b0, b1, b2⟩ := PH.at_T47 hB (i : Int) (by omega) (by omega)
        have HD := Lib.hid (And.intro (dropf l i ci) (dropf m i cj))
        have hx : PH.rd_T47 l (i : Int) = l.getD i zf := rfl
        have hy : PH.rd_T47 m (i : Int) = m.getD i zf := rfl
        rw [hx] at a0 a1 a2
        rw [hy] at b0 b1 b2
        clear hA hB hx hy
        generalize l.getD i zf = x at *
        generalize m.getD i zf = y at *
        subst eA eB
        rw [Int.toNat_natCast] at a0 a1 a2 b0 b1 b2
        have mv : ∀ (o : Obj) (p : Addr) (v : Value), wr.cell? p = some v → (wr.alloc o).cell? p = some v := fun o p v h => (((Below.refl _ _).alloc (Nat.le_refl _) o).cell (World.block_lt_of_cell? _ _ h)).trans h
        have b0' := fun o => mv o _ _ b0
        have b1' := fun o => mv o _ _ b1
        have b2' := fun o => mv o _ _ b2
        clear mv b0 b1 b2
        have d1 : decide ((i : Int) < (l.length : Int)) = true := decide_eq_true (by omega)
        have d2 : decide ((i : Int) ≥ (m.length : Int)) = false := decide_eq_false (by omega)
        have ew : wrap64 ((i : Int) + 1) = ((i + 1 : Nat) : Int) := by have := HL.out; unfold wrap64; omega
        have HE := Lib.hid ew
        have HC := Lib.hid (And.intro ci cj)
        clear ew
        by_cases hz : cF x y = 0
        · have HZ := Lib.hid hz
          have ez : (cF x y == 0) = true := by simpa using hz
          clear hz
          go_wp2_with (go_at_call 32; refine (one_any x y _).mono ?_; rintro e w1 ⟨rfl, hB1⟩)
          have q1 := (Below.refl wr.heap.size wr).alloc (Nat.le_refl _) (.cells #[.int .u64 x.f0, .int .i64 x.f1, .string x.f2] 47)
          have q2 := q1.alloc q1.size (.cells #[.int .u64 y.f0, .int .i64 y.f1, .string y.f2] 47)
          have HB1 := Lib.hid (HB.out.trans ((q2.trans (hB1.mono q2.size)).mono HB.out.size))
          clear q1 q2 hB1
          go_roundg k1
          case measure => omega
          case rel => exact ⟨i + 1, by rw [HE.out], ⟨by have := HI.out; have := HC.out; refine ⟨by omega, by omega, by omega, ?_⟩; rw [← HI.out.2.2.2, HD.out.1, HD.out.2, cL, if_pos HZ.out]⟩, ⟨HB1.out⟩⟩
        · have HZ := Lib.hid hz
          have ez : (cF x y == 0) = false := by simpa using hz
          clear hz
          go_wp2_with (go_at_call 32; refine (one_any x y _).mono ?_; rintro e w1 ⟨rfl, hB1⟩)
          have q1 := (Below.refl wr.heap.size wr).alloc (Nat.le_refl _) (.cells #[.int .u64 x.f0, .int .i64 x.f1, .string x.f2] 47)
          have q2 := q1.alloc q1.size (.cells #[.int .u64 y.f0, .int .i64 y.f1, .string y.f2] 47)
          have HB1 := Lib.hid (HB.out.trans ((q2.trans (hB1.mono q2.size)).mono HB.out.size))
          clear q1 q2 hB1
          go_ret
          have ee : cL l m = cF x y := by rw [← HI.out.2.2.2, HD.out.1, HD.out.2, cL, if_neg HZ.out]
          refine ⟨?_, HB1.out⟩
          change Ending.returned (Value.int .i64 (cF x y)) = Ending.returned (Value.int .i64 (cL l m))
          rw [ee]
      · have hA := Kd.C_below HA.out.1 HB.out
        obtain ⟨ad, eA, a0, a1, a2⟩ := PH.at_T47 hA (i : Int) (by omega) (by omega)
        have hl : cL l m = 1 := by
          rw [← HI.out.2.2.2, dropf l i ci, show m.drop i = [] from List.drop_eq_nil_of_le (by omega)]
          rfl
        rw [Int.toNat_natCast] at a0 a1 a2
        subst eA
        have d1 : decide ((i : Int) < (l.length : Int)) = true := decide_eq_true (by omega)
        have d2 : decide ((i : Int) ≥ (m.length : Int)) = true := decide_eq_true (by omega)
        have HX := Lib.hid hl
        have HN := Lib.hid (Nat.le_of_not_lt cj)
        clear hA hl cj
        go_wp2
        go_ret
        refine ⟨?_, HB.out.alloc HB.out.size _⟩
        change Ending.returned (Value.int .i64 1) = Ending.returned (Value.int .i64 (cL l m))
        rw [HX.out]
    · have d1 : decide (i < l.length) = false := decide_eq_false (by omega)
      have e1 : l.drop i = [] := List.drop_eq_nil_of_le (by omega)
      have e2 := HI.out.2.2.2
      rw [e1] at e2
      by_cases cm : l.length < m.length
      · have d2 : decide (l.length < m.length) = true := decide_eq_true cm
        have e3 : cL l m = -1 := by
          rw [← e2, dropf m i (by have := HI.out; omega)]
          rfl
        have HX := Lib.hid e3
        clear e1 e2 e3 ci cm
        go_wp2
        go_ret
        exact ⟨by rw [HX.out]; rfl, HB.out⟩
      · have d2 : decide (l.length < m.length) = false := decide_eq_false cm
        have e3 : cL l m = 0 := by
          rw [← e2, show m.drop i = [] from List.drop_eq_nil_of_le (by omega)]
          rfl
        have HX := Lib.hid e3
        clear e1 e2 e3 ci cm
        go_wp2
        go_ret
        exact ⟨by rw [HX.out]; rfl, HB.out⟩
end Go.Proofs.YtbghkjoejbfnbaaDoor.ord
namespace Go.Proofs.YtbghkjoejbfnbaaDoor.PH
open Go.RowKit Go.Proofs.YtbghkjoejbfnbaaDoorW.PrintWords
def order_Compare.f (l0 l1 : List S47) : Option Int := some (ord.cL l0 l1)
theorem order_Compare.calls (A0 : Option Addr) (c0 : Nat) (l0 : List S47) (A1 : Option Addr) (c1 : Nat) (l1 : List S47) (r : Int) (w : World) (hr0 : Kd.C k47 w A0 l0.length l0) (_ : l0.length ≤ c0) (hr1 : Kd.C k47 w A1 l1.length l1) (_ : l1.length ≤ c1) (h : order_Compare.f l0 l1 = some r) :
    Calls Tryd.prog 19 #[.slice A0 l0.length c0, .slice A1 l1.length c1] w fun e w' => e = .returned (.int .i64 r) ∧ Below w.heap.size w w' := by
  obtain rfl := Option.some.inj h
  exact ord.compare_is w A0 A1 c0 c1 l0 l1 hr0 hr1
end Go.Proofs.YtbghkjoejbfnbaaDoor.PH
