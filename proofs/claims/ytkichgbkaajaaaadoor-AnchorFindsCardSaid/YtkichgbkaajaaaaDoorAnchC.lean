/- The iterator of anchor.bounds: what comes, for every loop body (a walk). The table of the days ahead of months holds its numbers. -/
import Derived.Test.YtkichgbkaajaaaaDoorAnchB
import Derived.RangeFuncNested
import Derived.RangeFuncBound
import Derived.RangeFuncCalls
import Derived.RangeFuncLeaves
import Derived.Shelf.Abstract
import Derived.Shelf.RegionOpen
import Derived.WalkKit
import Derived.OwnWalkIn
import Derived.TacticsInMore
import Derived.LoopNIn
import Derived.LoopIn
import Derived.Sort.CutIn
namespace Go.Proofs.YtkichgbkaajaaaaDoor.anch
open Go.RowKit Go.Proofs.YtkichgbkaajaaaaDoor.base Go.Shelf
open Go.Proofs.YtkichgbkaajaaaaDoor.civ (Tab)

attribute [local go_sem] Oper.semAt_some

theorem grown_of {w w' : World} (h : Below w.heap.size w w') : w.grownBy w' none := ⟨h.os, h.tape, h.output, h.size, fun k hk _ => h.block k hk⟩
abbrev enc2 (x : Int × Int) : Array Value := #[.int .i64 x.1, .int .i64 x.2]
theorem of_is {d : Int} (w : World) (T : Tab w) (h : Cv.okD d = true) : Calls Tryd.prog 31 #[.int .i64 d] w fun e w' => e = .returned (.tuple #[.int .i64 (Cv.ofD d), .int .i64 0]) ∧ w = w' :=
  civ.of_yes d w T (Cv.okD_t h).1 (Cv.okD_t h).2
theorem at_is {M a : Int} (w : World) (T : Tab w) (h : An.okA M a = true) : Calls Tryd.prog 8 #[.int .i64 M, .int .i64 a] w fun e w' => e = .returned (.tuple #[.int .i64 (An.at_ M a), .int .i64 0]) ∧ Below w.heap.size w w' :=
  (at_any M a w T).mono fun _ _ ⟨p, q⟩ => ⟨p.trans (ret_two (by simp [An.atV, h]) (by simp [An.atE, h])), q⟩

/-- What a round keeps: where the cycle, the day and the table lie. -/
structure Kd (Bc Bd : Nat) (W W' : World) : Prop where
  size : W.heap.size ≤ W'.heap.size
  bc : W'.heap[Bc]? = W.heap[Bc]?
  bd : W'.heap[Bd]? = W.heap[Bd]?
  bt : W'.heap[0]? = W.heap[0]?
theorem Kd.refl (Bc Bd : Nat) (W : World) : Kd Bc Bd W W := ⟨Nat.le_refl _, rfl, rfl, rfl⟩
theorem Kd.trans {Bc Bd : Nat} {A B C : World} (h : Kd Bc Bd A B) (k : Kd Bc Bd B C) : Kd Bc Bd A C := ⟨Nat.le_trans h.size k.size, k.bc.trans h.bc, k.bd.trans h.bd, k.bt.trans h.bt⟩
theorem Kd.of_below {Bc Bd n : Nat} {A B : World} (h : RowKit.Below n A B) (h1 : Bc < n) (h2 : Bd < n) (h3 : 0 < n) : Kd Bc Bd A B := ⟨h.size, h.block _ h1, h.block _ h2, h.block _ h3⟩
theorem Kd.cc {Bc Bd : Nat} {A B : World} (h : Kd Bc Bd A B) (o : Nat) : B.cell? ⟨Bc, o, none⟩ = A.cell? ⟨Bc, o, none⟩ := World.cell?_of_block h.bc
theorem Kd.cd {Bc Bd : Nat} {A B : World} (h : Kd Bc Bd A B) (o : Nat) : B.cell? ⟨Bd, o, none⟩ = A.cell? ⟨Bd, o, none⟩ := World.cell?_of_block h.bd
theorem Kd.ct {Bc Bd : Nat} {A B : World} (h : Kd Bc Bd A B) (T : Tab A) : Tab B := fun i hi => (World.cell?_of_block h.bt).trans (T i hi)
theorem Kd.put {Bc Bd B : Nat} (W : World) (l : Nat) (o : Obj) (hl : B ≤ l) (h1 : Bc < B) (h2 : Bd < B) (h3 : 0 < B) : Kd Bc Bd W (W.putObj l o) :=
  ⟨by simp, World.putObj_heap_other (by omega), World.putObj_heap_other (by omega), World.putObj_heap_other (by omega)⟩


set_option maxRecDepth 100000 in
set_option maxHeartbeats 2000000 in
theorem iter_in (l Bc Bd : Nat) (s a E d : Int) (hok : An.ok s a E = true) (J Jx : List (Int × Int) → World → Prop)
    (hY : ∀ pre x W, J pre W → pre.length < An.full s a E d + 1 → YieldAt Fence.wide 1 Tryd.prog l (enc2 x) W fun e W' =>
      (e = .returned (.bool true) ∧ J (pre ++ [x]) W' ∧ Kd Bc Bd W W') ∨ (e = .returned (.bool false) ∧ Jx (pre ++ [x]) W'))
    (W : World) (hJ : AbidesFrom W.heap.size J) (hBc : Bc < W.heap.size) (hBd : Bd < W.heap.size) (_hT : 0 < W.heap.size) (T : Tab W)
    (c0 : W.cell? ⟨Bc, 0, none⟩ = some (.int .i64 s)) (c1 : W.cell? ⟨Bc, 1, none⟩ = some (.int .i64 a)) (c2 : W.cell? ⟨Bc, 2, none⟩ = some (.int .i64 E)) (cd : W.cell? ⟨Bd, 0, none⟩ = some (.int .i64 d)) (h0 : J [] W) :
    CallsIn Fence.wide 2 Tryd.prog 30 #[.func (.yield l) #[] #[], .pointer (some ⟨Bc, 0, none⟩), .pointer (some ⟨Bd, 0, none⟩)] W fun e W' => (∃ v, e = .returned v) ∧
      ((∃ ys, ys = An.cum s a E d (An.full s a E d) ∧ J ys W') ∨ (∃ pre, (∃ k, k ≤ An.full s a E d ∧ pre = An.cum s a E d k) ∧ Jx pre W')) := by
  refine callsIn_of_wp Tryd.func30 rfl trivial ?_ rfl
  simp only [Tryd.ntmps30, List.size_toArray, List.length_cons, List.length_nil, Nat.reduceAdd, Nat.reduceSub, Array.replicate_succ, Array.replicate_zero, List.push_toArray, List.append_toArray, List.nil_append, List.cons_append]
  have HY := Lib.hid hY
  have HJ := Lib.hid hJ
  have HT := Lib.hid T
  have HO := Lib.hid hok
  clear hJ T hok
  obtain ⟨fn, tmps, assign, body, hy, hR⟩ := hY [] (0, s) W h0 (by simp)
  dsimp only [enc2] at hy
  clear hY
  obtain ⟨g1, g2, g3, g4⟩ := An.ok_t HO.out
  have hs := Cv.ofD_spec g1.1 g1.2
  have hds : Cv.okD s = true := Cv.okD_mk g1.1 g1.2
  have hA : An.okA (Cv.ofD s) a = true := An.okA_mk hs.1 hs.2.1 g2.1 g2.2
  have hk0 : (An.at_ (Cv.ofD s) a ≤ s ∧ An.k0 s a = 0) ∨ (s < An.at_ (Cv.ofD s) a ∧ An.k0 s a = 1) := by
    by_cases h : An.at_ (Cv.ofD s) a ≤ s
    · exact .inl ⟨h, by simp [An.k0, h]⟩
    · exact .inr ⟨by omega, by simp [An.k0, h]⟩
  have hOf := fun (w : World) (T : Tab w) => of_is w T hds
  have hAt := fun (w : World) (T : Tab w) => at_is (a := a) w T hA
  obtain ⟨M0, hM0⟩ : ∃ M0, Cv.ofD s = M0 := ⟨_, rfl⟩
  rw [hM0] at hs hA hk0 hOf hAt
  obtain ⟨A0, hA0⟩ : ∃ A0, An.at_ M0 a = A0 := ⟨_, rfl⟩
  rw [hA0] at hk0 hAt
  have HM0 := Lib.hid hM0
  have HA0 := Lib.hid hA0
  have HOf := Lib.hid hOf
  have HAt := Lib.hid hAt
  obtain ⟨hm1, hm2, _⟩ := hs
  clear hM0 hA0 hOf hAt hds hA
  gi_wp2
  refine hR.mono ?_
  rintro e W1 (⟨rfl, J1, k1⟩ | ⟨rfl, Jx1⟩)
  · have T1 := k1.ct HT.out
    have d0 := (k1.cc 0).trans c0
    have d1 := (k1.cc 1).trans c1
    have d2 := (k1.cc 2).trans c2
    have dd := (k1.cd 0).trans cd
    have s1 := k1.size
    have HT1 := Lib.hid T1
    have HC := Lib.hid (And.intro c0 (And.intro c1 c2))
    clear T1 c0 c1 c2 cd
    gi_wp2_with fail
    refine ⟨trivial, (callsIn_wide.2 (HOf.out _ HT1.out)).mono ?_⟩
    rintro e w' ⟨rfl, rfl⟩
    gi_wp2_with fail
    refine ⟨trivial, (callsIn_wide.2 (HAt.out _ HT1.out)).mono ?_⟩
    rintro e W2 ⟨rfl, B2⟩
    have J2 := HJ.out _ _ _ none J1 (grown_of B2) (fun r e => by cases e)
    have e0 := (B2.cell (p := ⟨Bc, 0, none⟩) (by simp; omega)).trans d0
    have e1 := (B2.cell (p := ⟨Bc, 1, none⟩) (by simp; omega)).trans d1
    have e2 := (B2.cell (p := ⟨Bc, 2, none⟩) (by simp; omega)).trans d2
    have ed := (B2.cell (p := ⟨Bd, 0, none⟩) (by simp; omega)).trans dd
    have HT2 := Lib.hid (Tab.after HT1.out B2)
    have k2 := k1.trans (Kd.of_below B2 (by omega) (by omega) (by omega))
    clear B2 d0 d1 d2 dd k1 s1 HT1 J1
    gi_upto_if 35 with fail
    gi_cut [6] from 36 (fun k w => k = .int .i64 (An.k0 s a) ∧ w = W2)
    case first =>
      rcases hk0 with ⟨hk, hk'⟩ | ⟨hk, hk'⟩
      · gi_wp2
        gi_meet
        case rel => exact ⟨by rw [hk'], rfl⟩
      · gi_wp2
        gi_meet
        case rel => exact ⟨by rw [hk'], rfl⟩
    case rest =>
      obtain ⟨rfl, rfl⟩ := hcut
      have hk1 := An.k0_01 s a
      have KS := An.skp_bd (d := d) HO.out
      have Em := An.mon_skip s a E (An.k0 s a) (An.skp s E d)
      rw [An.mon_k0, HM0.out] at Em
      rw [HM0.out] at KS
      obtain ⟨K0, hK0⟩ : ∃ K0, An.k0 s a = K0 := ⟨_, rfl⟩
      obtain ⟨SK, hSK⟩ : ∃ SK, An.skp s E d = SK := ⟨_, rfl⟩
      have HK0 := Lib.hid hK0
      have HSK := Lib.hid hSK
      rw [hK0] at hk1 KS Em
      rw [hSK] at KS Em
      obtain ⟨P, hP⟩ : ∃ P, SK * E = P := ⟨_, rfl⟩
      rw [hP] at KS Em
      rw [hK0]
      have HEm := Lib.hid Em
      obtain ⟨q1, q2, q3, q4, q5⟩ := KS
      have HQ5 := Lib.hid q5
      clear hK0 hSK Em q5 hk0
      cases hd : Cv.okD d with
      | false =>
        have HOd := Lib.hid (civ.of_no d wc hd)
        have hz : SK = 0 := by rw [← HSK.out]; exact An.skp_no (by simp [hd])
        have hp : P = 0 := by rw [← hP, hz]; simp
        clear hd
        gi_wp2_with fail
        refine ⟨trivial, (callsIn_wide.2 HOd.out).mono ?_⟩
        rintro e w' ⟨rfl, rfl⟩
        gi_wp2
        gi_loopw [4, 6] (fun m k wr => ∃ i : Int, m = .int .i64 (An.mon s a E i) ∧ k = .int .i64 i ∧ K0 + SK ≤ i ∧ i ≤ An.top s a E + 1 ∧ J (An.cum s a E d (i - An.st s a E d).toNat) wr ∧ Kd Bc Bd W wr) (fun m _ _ => (119989 - intOf m).toNat)
        case atStart =>
          refine ⟨K0 + SK, ?_, ?_, by omega, by have := HQ5.out; omega, ?_, k2⟩
          · first
              | (rw [HEm.out]; done)
              | (rw [HEm.out]; congr 1 <;> omega)
          · first
              | rfl
              | (congr 1 <;> omega)
          · have := An.st_bd (d := d) HO.out
            rw [HK0.out, HSK.out] at this
            rw [show (K0 + SK - An.st s a E d).toNat = 0 by omega]
            simpa [An.cum] using J2
        case round =>
          obtain ⟨i, rfl, rfl, hi1, hi2, hJs, hBw⟩ := hrel
          clear e0 e1 e2 ed k2 HT2 J2 HOd
          have f1 := (hBw.cc 1).trans HC.out.2.1
          have f2 := (hBw.cc 2).trans HC.out.2.2
          have Tr := Lib.hid (hBw.ct HT.out)
          have R0 := Lib.hid (An.rnd (d := d) HO.out (i := i) (by rw [HK0.out, HSK.out]; exact hi1) hi2)
          have TB := An.top_bd HO.out
          have TI := An.top_iff (s := s) (a := a) (i := i) g3
          have MS := Lib.hid (An.mon_succ s a E i)
          have ML := R0.out.1
          by_cases hlt : An.mon s a E i ≤ 119988
          · have R1 := Lib.hid (R0.out.2.1 hlt)
            have HAt2 := Lib.hid (at_is (a := a) wr Tr.out R1.out.1)
            have HAV := Lib.hid R1.out.2
            obtain ⟨V, hV⟩ : ∃ V, An.at_ (An.mon s a E i) a = V := ⟨_, rfl⟩
            rw [hV] at HAt2 HAV
            have ti : i ≤ An.top s a E := TI.2 hlt
            have HTI := Lib.hid ti
            have tb : i ≤ 119988 := by omega
            generalize An.mon s a E i = M at *
            clear TI TB hi2 ti R1
            gi_wp2_with fail
            refine ⟨trivial, (callsIn_wide.2 HAt2.out).mono ?_⟩
            rintro e w1 ⟨rfl, B1⟩
            have J1 := HJ.out _ _ _ none hJs (grown_of B1) (fun r e => by cases e)
            have sw := hBw.size
            have f3 := (B1.cell (p := ⟨Bc, 2, none⟩) (by simp; omega)).trans f2
            have hBw1 := hBw.trans (Kd.of_below B1 (by omega) (by omega) (by omega))
            by_cases hi : 0 < i
            · obtain ⟨fn2, tmps2, assign2, body2, hy2, hR2⟩ := HY.out _ (i, V) w1 J1 (by rw [An.cum_len]; have := (HAV.out (by omega)).1; have := HTI.out; unfold An.full; omega)
              dsimp only [enc2] at hy2
              gi_wp2
              refine hR2.mono ?_
              rintro e W3 (⟨rfl, J3, k3⟩ | ⟨rfl, Jx3⟩)
              · have f4 := (k3.cc 2).trans f3
                gi_wp2
                go_roundw
                case rel =>
                  refine ⟨i + 1, by rw [MS.out], rfl, by omega, by have := HTI.out; omega, ?_, hBw1.trans k3⟩
                  rw [(HAV.out (by omega)).2]; exact J3
                case measure => simp [intOf]; omega
              · gi_wp2
                refine bodyPost_ret (results_none rfl _ _ _) rfl ?_
                refine ⟨⟨_, rfl⟩, .inr ⟨_, ⟨(i + 1 - An.st s a E d).toNat, ?_, (HAV.out (by omega)).2.symm⟩, Jx3⟩⟩
                have := HTI.out; unfold An.full; omega
            · obtain ⟨rfl, y2, y3⟩ := R0.out.2.2.2 (by omega)
              gi_wp2
              refine ⟨fun _ h => (by cases h), ?_⟩
              gi_wp2
              go_roundw
              case rel =>
                refine ⟨0 + 1, by rw [MS.out], rfl, by omega, by have := HTI.out; omega, ?_, hBw1⟩
                rw [y3]; rw [y2] at J1; exact J1
              case measure => simp [intOf]; omega
          · have R1 := R0.out.2.2.1 hlt
            rw [R1] at hJs
            gi_wp2
            go_end0
            first
              | exact ⟨⟨_, rfl⟩, .inl hJs⟩
              | exact ⟨⟨_, rfl⟩, .inl ⟨_, rfl, hJs⟩⟩
      | true =>
        have hdd := Cv.ofD_spec (Cv.okD_t hd).1 (Cv.okD_t hd).2
        have HOd := Lib.hid (of_is wc HT2.out hd)
        obtain ⟨N0, hN0⟩ : ∃ N0, Cv.ofD d = N0 := ⟨_, rfl⟩
        rw [hN0] at HOd hdd
        obtain ⟨hn1, hn2, _⟩ := hdd
        have HN0 := Lib.hid hN0
        have HD := Lib.hid hd
        clear hN0 hd
        by_cases hg : M0 < N0
        · have hz := An.skp_yes (E := E) HD.out (by rw [HM0.out, HN0.out]; exact hg)
          rw [HSK.out, HM0.out, HN0.out] at hz
          have t1 : (N0 - M0).tdiv E = (N0 - M0) / E := Int.tdiv_eq_ediv_of_nonneg (by omega)
          have t2 : (N0 - M0) / E ≤ N0 - M0 := Int.ediv_le_self _ (by omega)
          have t3 : 0 ≤ (N0 - M0) / E := Int.ediv_nonneg (by omega) (by omega)
          generalize (N0 - M0) / E = Q at *
          by_cases hq : 1 ≤ Q
          · have hz2 : Q - 1 = SK := by omega
            have hz3 : ¬ SK < 0 := by omega
            clear hz hq
            gi_wp2_with fail
            refine ⟨trivial, (callsIn_wide.2 HOd.out).mono ?_⟩
            rintro e w' ⟨rfl, rfl⟩
            gi_wp2
            gi_loopw [4, 6] (fun m k wr => ∃ i : Int, m = .int .i64 (An.mon s a E i) ∧ k = .int .i64 i ∧ K0 + SK ≤ i ∧ i ≤ An.top s a E + 1 ∧ J (An.cum s a E d (i - An.st s a E d).toNat) wr ∧ Kd Bc Bd W wr) (fun m _ _ => (119989 - intOf m).toNat)
            case atStart =>
              refine ⟨K0 + SK, ?_, ?_, by omega, by have := HQ5.out; omega, ?_, k2⟩
              · first
                  | (rw [HEm.out]; done)
                  | (rw [HEm.out]; congr 1 <;> omega)
              · first
                  | rfl
                  | (congr 1 <;> omega)
              · have := An.st_bd (d := d) HO.out
                rw [HK0.out, HSK.out] at this
                rw [show (K0 + SK - An.st s a E d).toNat = 0 by omega]
                simpa [An.cum] using J2
            case round =>
              obtain ⟨i, rfl, rfl, hi1, hi2, hJs, hBw⟩ := hrel
              clear e0 e1 e2 ed k2 HT2 J2 HOd
              have f1 := (hBw.cc 1).trans HC.out.2.1
              have f2 := (hBw.cc 2).trans HC.out.2.2
              have Tr := Lib.hid (hBw.ct HT.out)
              have R0 := Lib.hid (An.rnd (d := d) HO.out (i := i) (by rw [HK0.out, HSK.out]; exact hi1) hi2)
              have TB := An.top_bd HO.out
              have TI := An.top_iff (s := s) (a := a) (i := i) g3
              have MS := Lib.hid (An.mon_succ s a E i)
              have ML := R0.out.1
              by_cases hlt : An.mon s a E i ≤ 119988
              · have R1 := Lib.hid (R0.out.2.1 hlt)
                have HAt2 := Lib.hid (at_is (a := a) wr Tr.out R1.out.1)
                have HAV := Lib.hid R1.out.2
                obtain ⟨V, hV⟩ : ∃ V, An.at_ (An.mon s a E i) a = V := ⟨_, rfl⟩
                rw [hV] at HAt2 HAV
                have ti : i ≤ An.top s a E := TI.2 hlt
                have HTI := Lib.hid ti
                have tb : i ≤ 119988 := by omega
                generalize An.mon s a E i = M at *
                clear TI TB hi2 ti R1
                gi_wp2_with fail
                refine ⟨trivial, (callsIn_wide.2 HAt2.out).mono ?_⟩
                rintro e w1 ⟨rfl, B1⟩
                have J1 := HJ.out _ _ _ none hJs (grown_of B1) (fun r e => by cases e)
                have sw := hBw.size
                have f3 := (B1.cell (p := ⟨Bc, 2, none⟩) (by simp; omega)).trans f2
                have hBw1 := hBw.trans (Kd.of_below B1 (by omega) (by omega) (by omega))
                by_cases hi : 0 < i
                · obtain ⟨fn2, tmps2, assign2, body2, hy2, hR2⟩ := HY.out _ (i, V) w1 J1 (by rw [An.cum_len]; have := (HAV.out (by omega)).1; have := HTI.out; unfold An.full; omega)
                  dsimp only [enc2] at hy2
                  gi_wp2
                  refine hR2.mono ?_
                  rintro e W3 (⟨rfl, J3, k3⟩ | ⟨rfl, Jx3⟩)
                  · have f4 := (k3.cc 2).trans f3
                    gi_wp2
                    go_roundw
                    case rel =>
                      refine ⟨i + 1, by rw [MS.out], rfl, by omega, by have := HTI.out; omega, ?_, hBw1.trans k3⟩
                      rw [(HAV.out (by omega)).2]; exact J3
                    case measure => simp [intOf]; omega
                  · gi_wp2
                    refine bodyPost_ret (results_none rfl _ _ _) rfl ?_
                    refine ⟨⟨_, rfl⟩, .inr ⟨_, ⟨(i + 1 - An.st s a E d).toNat, ?_, (HAV.out (by omega)).2.symm⟩, Jx3⟩⟩
                    have := HTI.out; unfold An.full; omega
                · obtain ⟨rfl, y2, y3⟩ := R0.out.2.2.2 (by omega)
                  gi_wp2
                  refine ⟨fun _ h => (by cases h), ?_⟩
                  gi_wp2
                  go_roundw
                  case rel =>
                    refine ⟨0 + 1, by rw [MS.out], rfl, by omega, by have := HTI.out; omega, ?_, hBw1⟩
                    rw [y3]; rw [y2] at J1; exact J1
                  case measure => simp [intOf]; omega
              · have R1 := R0.out.2.2.1 hlt
                rw [R1] at hJs
                gi_wp2
                go_end0
                first
                  | exact ⟨⟨_, rfl⟩, .inl hJs⟩
                  | exact ⟨⟨_, rfl⟩, .inl ⟨_, rfl, hJs⟩⟩
          · have hz2 : SK = 0 := by omega
            have hq0 : Q - 1 < 0 := by omega
            clear hz
            have hp : P = 0 := by rw [← hP, hz2]; simp
            gi_wp2_with fail
            refine ⟨trivial, (callsIn_wide.2 HOd.out).mono ?_⟩
            rintro e w' ⟨rfl, rfl⟩
            gi_wp2
            gi_loopw [4, 6] (fun m k wr => ∃ i : Int, m = .int .i64 (An.mon s a E i) ∧ k = .int .i64 i ∧ K0 + SK ≤ i ∧ i ≤ An.top s a E + 1 ∧ J (An.cum s a E d (i - An.st s a E d).toNat) wr ∧ Kd Bc Bd W wr) (fun m _ _ => (119989 - intOf m).toNat)
            case atStart =>
              refine ⟨K0 + SK, ?_, ?_, by omega, by have := HQ5.out; omega, ?_, k2⟩
              · first
                  | (rw [HEm.out]; done)
                  | (rw [HEm.out]; congr 1 <;> omega)
              · first
                  | rfl
                  | (congr 1 <;> omega)
              · have := An.st_bd (d := d) HO.out
                rw [HK0.out, HSK.out] at this
                rw [show (K0 + SK - An.st s a E d).toNat = 0 by omega]
                simpa [An.cum] using J2
            case round =>
              obtain ⟨i, rfl, rfl, hi1, hi2, hJs, hBw⟩ := hrel
              clear e0 e1 e2 ed k2 HT2 J2 HOd
              have f1 := (hBw.cc 1).trans HC.out.2.1
              have f2 := (hBw.cc 2).trans HC.out.2.2
              have Tr := Lib.hid (hBw.ct HT.out)
              have R0 := Lib.hid (An.rnd (d := d) HO.out (i := i) (by rw [HK0.out, HSK.out]; exact hi1) hi2)
              have TB := An.top_bd HO.out
              have TI := An.top_iff (s := s) (a := a) (i := i) g3
              have MS := Lib.hid (An.mon_succ s a E i)
              have ML := R0.out.1
              by_cases hlt : An.mon s a E i ≤ 119988
              · have R1 := Lib.hid (R0.out.2.1 hlt)
                have HAt2 := Lib.hid (at_is (a := a) wr Tr.out R1.out.1)
                have HAV := Lib.hid R1.out.2
                obtain ⟨V, hV⟩ : ∃ V, An.at_ (An.mon s a E i) a = V := ⟨_, rfl⟩
                rw [hV] at HAt2 HAV
                have ti : i ≤ An.top s a E := TI.2 hlt
                have HTI := Lib.hid ti
                have tb : i ≤ 119988 := by omega
                generalize An.mon s a E i = M at *
                clear TI TB hi2 ti R1
                gi_wp2_with fail
                refine ⟨trivial, (callsIn_wide.2 HAt2.out).mono ?_⟩
                rintro e w1 ⟨rfl, B1⟩
                have J1 := HJ.out _ _ _ none hJs (grown_of B1) (fun r e => by cases e)
                have sw := hBw.size
                have f3 := (B1.cell (p := ⟨Bc, 2, none⟩) (by simp; omega)).trans f2
                have hBw1 := hBw.trans (Kd.of_below B1 (by omega) (by omega) (by omega))
                by_cases hi : 0 < i
                · obtain ⟨fn2, tmps2, assign2, body2, hy2, hR2⟩ := HY.out _ (i, V) w1 J1 (by rw [An.cum_len]; have := (HAV.out (by omega)).1; have := HTI.out; unfold An.full; omega)
                  dsimp only [enc2] at hy2
                  gi_wp2
                  refine hR2.mono ?_
                  rintro e W3 (⟨rfl, J3, k3⟩ | ⟨rfl, Jx3⟩)
                  · have f4 := (k3.cc 2).trans f3
                    gi_wp2
                    go_roundw
                    case rel =>
                      refine ⟨i + 1, by rw [MS.out], rfl, by omega, by have := HTI.out; omega, ?_, hBw1.trans k3⟩
                      rw [(HAV.out (by omega)).2]; exact J3
                    case measure => simp [intOf]; omega
                  · gi_wp2
                    refine bodyPost_ret (results_none rfl _ _ _) rfl ?_
                    refine ⟨⟨_, rfl⟩, .inr ⟨_, ⟨(i + 1 - An.st s a E d).toNat, ?_, (HAV.out (by omega)).2.symm⟩, Jx3⟩⟩
                    have := HTI.out; unfold An.full; omega
                · obtain ⟨rfl, y2, y3⟩ := R0.out.2.2.2 (by omega)
                  gi_wp2
                  refine ⟨fun _ h => (by cases h), ?_⟩
                  gi_wp2
                  go_roundw
                  case rel =>
                    refine ⟨0 + 1, by rw [MS.out], rfl, by omega, by have := HTI.out; omega, ?_, hBw1⟩
                    rw [y3]; rw [y2] at J1; exact J1
                  case measure => simp [intOf]; omega
              · have R1 := R0.out.2.2.1 hlt
                rw [R1] at hJs
                gi_wp2
                go_end0
                first
                  | exact ⟨⟨_, rfl⟩, .inl hJs⟩
                  | exact ⟨⟨_, rfl⟩, .inl ⟨_, rfl, hJs⟩⟩
        · have hz : SK = 0 := by rw [← HSK.out]; exact An.skp_no (by rw [HM0.out, HN0.out]; omega)
          have hp : P = 0 := by rw [← hP, hz]; simp
          gi_wp2_with fail
          refine ⟨trivial, (callsIn_wide.2 HOd.out).mono ?_⟩
          rintro e w' ⟨rfl, rfl⟩
          gi_wp2
          gi_loopw [4, 6] (fun m k wr => ∃ i : Int, m = .int .i64 (An.mon s a E i) ∧ k = .int .i64 i ∧ K0 + SK ≤ i ∧ i ≤ An.top s a E + 1 ∧ J (An.cum s a E d (i - An.st s a E d).toNat) wr ∧ Kd Bc Bd W wr) (fun m _ _ => (119989 - intOf m).toNat)
          case atStart =>
            refine ⟨K0 + SK, ?_, ?_, by omega, by have := HQ5.out; omega, ?_, k2⟩
            · first
                | (rw [HEm.out]; done)
                | (rw [HEm.out]; congr 1 <;> omega)
            · first
                | rfl
                | (congr 1 <;> omega)
            · have := An.st_bd (d := d) HO.out
              rw [HK0.out, HSK.out] at this
              rw [show (K0 + SK - An.st s a E d).toNat = 0 by omega]
              simpa [An.cum] using J2
          case round =>
            obtain ⟨i, rfl, rfl, hi1, hi2, hJs, hBw⟩ := hrel
            clear e0 e1 e2 ed k2 HT2 J2 HOd
            have f1 := (hBw.cc 1).trans HC.out.2.1
            have f2 := (hBw.cc 2).trans HC.out.2.2
            have Tr := Lib.hid (hBw.ct HT.out)
            have R0 := Lib.hid (An.rnd (d := d) HO.out (i := i) (by rw [HK0.out, HSK.out]; exact hi1) hi2)
            have TB := An.top_bd HO.out
            have TI := An.top_iff (s := s) (a := a) (i := i) g3
            have MS := Lib.hid (An.mon_succ s a E i)
            have ML := R0.out.1
            by_cases hlt : An.mon s a E i ≤ 119988
            · have R1 := Lib.hid (R0.out.2.1 hlt)
              have HAt2 := Lib.hid (at_is (a := a) wr Tr.out R1.out.1)
              have HAV := Lib.hid R1.out.2
              obtain ⟨V, hV⟩ : ∃ V, An.at_ (An.mon s a E i) a = V := ⟨_, rfl⟩
              rw [hV] at HAt2 HAV
              have ti : i ≤ An.top s a E := TI.2 hlt
              have HTI := Lib.hid ti
              have tb : i ≤ 119988 := by omega
              generalize An.mon s a E i = M at *
              clear TI TB hi2 ti R1
              gi_wp2_with fail
              refine ⟨trivial, (callsIn_wide.2 HAt2.out).mono ?_⟩
              rintro e w1 ⟨rfl, B1⟩
              have J1 := HJ.out _ _ _ none hJs (grown_of B1) (fun r e => by cases e)
              have sw := hBw.size
              have f3 := (B1.cell (p := ⟨Bc, 2, none⟩) (by simp; omega)).trans f2
              have hBw1 := hBw.trans (Kd.of_below B1 (by omega) (by omega) (by omega))
              by_cases hi : 0 < i
              · obtain ⟨fn2, tmps2, assign2, body2, hy2, hR2⟩ := HY.out _ (i, V) w1 J1 (by rw [An.cum_len]; have := (HAV.out (by omega)).1; have := HTI.out; unfold An.full; omega)
                dsimp only [enc2] at hy2
                gi_wp2
                refine hR2.mono ?_
                rintro e W3 (⟨rfl, J3, k3⟩ | ⟨rfl, Jx3⟩)
                · have f4 := (k3.cc 2).trans f3
                  gi_wp2
                  go_roundw
                  case rel =>
                    refine ⟨i + 1, by rw [MS.out], rfl, by omega, by have := HTI.out; omega, ?_, hBw1.trans k3⟩
                    rw [(HAV.out (by omega)).2]; exact J3
                  case measure => simp [intOf]; omega
                · gi_wp2
                  refine bodyPost_ret (results_none rfl _ _ _) rfl ?_
                  refine ⟨⟨_, rfl⟩, .inr ⟨_, ⟨(i + 1 - An.st s a E d).toNat, ?_, (HAV.out (by omega)).2.symm⟩, Jx3⟩⟩
                  have := HTI.out; unfold An.full; omega
              · obtain ⟨rfl, y2, y3⟩ := R0.out.2.2.2 (by omega)
                gi_wp2
                refine ⟨fun _ h => (by cases h), ?_⟩
                gi_wp2
                go_roundw
                case rel =>
                  refine ⟨0 + 1, by rw [MS.out], rfl, by omega, by have := HTI.out; omega, ?_, hBw1⟩
                  rw [y3]; rw [y2] at J1; exact J1
                case measure => simp [intOf]; omega
            · have R1 := R0.out.2.2.1 hlt
              rw [R1] at hJs
              gi_wp2
              go_end0
              first
                | exact ⟨⟨_, rfl⟩, .inl hJs⟩
                | exact ⟨⟨_, rfl⟩, .inl ⟨_, rfl, hJs⟩⟩
  · gi_wp2
    refine bodyPost_ret (results_none rfl _ _ _) rfl ?_
    exact ⟨⟨_, rfl⟩, .inr ⟨_, ⟨0, Nat.zero_le _, by simp [An.cum]⟩, Jx1⟩⟩
end Go.Proofs.YtkichgbkaajaaaaDoor.anch
