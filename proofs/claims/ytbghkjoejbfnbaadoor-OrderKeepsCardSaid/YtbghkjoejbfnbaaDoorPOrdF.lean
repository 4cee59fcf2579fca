/- order.Fit, in the printed form. No conditions. -/
import Derived.Test.YtbghkjoejbfnbaaDoorPHx3
import Derived.Test.YtbghkjoejbfnbaaDoorPOrdC
import Derived.Test.YtbghkjoejbfnbaaDoorPHx1
namespace Go.Proofs.YtbghkjoejbfnbaaDoor.ord
open Go.RowKit Go.Proofs.YtbghkjoejbfnbaaDoorW.PrintWords
attribute [local go_sem high] PH.eqA47
def fit1 (c : Int) (x : Fd) : Bool := if c = 110 then (x.f1 == 0 && x.f2.toList.isEmpty) else if c = 105 then (x.f0 == 0 && x.f2.toList.isEmpty) else (x.f0 == 0 && x.f1 == 0)
def fitL (s : ByteArray) : Nat → List Fd → Bool
  | _, [] => true
  | i, x :: l => fit1 (bt s (i : Int)) x && fitL s (i + 1) l
def fitB (s : ByteArray) (kd : Bool) (l : List Fd) : Bool := kd && decide (l.length ≤ s.size) && fitL s 0 l
set_option maxRecDepth 100000 in
set_option maxHeartbeats 1000000 in
theorem fit_is (w : World) (s : ByteArray) (kd : Bool) (A : Option Addr) (c : Nat) (l : List Fd) (hk : PH.order_Kinds.f s = some kd) (hs : s.size ≤ 140737488351232) (hA : Cf w A l) :
    Calls Tryd.prog 14 #[.string s, .slice A l.length c] w fun e w' => e = .returned (.bool (fitB s kd l)) ∧ Below w.heap.size w w' := by
  have HA := Lib.hid hA
  have HS := Lib.hid (And.intro hs hA.2.1)
  have HK := Lib.hid hk
  clear hA hk hs
  go_enter Tryd.func14, Tryd.ntmps14
  go_wp2_with fail
  refine (PH.order_Kinds.calls s kd w HK.out).mono ?_
  rintro e w1 ⟨rfl, hB⟩
  have HB0 := Lib.hid hB
  clear hB
  cases kd with
  | false =>
    go_wp2
    go_ret
    exact ⟨by simp [fitB], HB0.out⟩
  | true =>
    by_cases hl : l.length ≤ s.size
    · have d0 : decide (s.size < l.length) = false := decide_eq_false (by omega)
      have HL := Lib.hid hl
      clear hl
      go_wp2
      go_loopg [20] (l.length + 1) (fun kq v20 wr => ∃ i : Nat, v20 = .int .i64 (i : Int) ∧ Aside0 (i ≤ l.length ∧ l.length + 1 ≤ kq + i ∧ fitL s i (l.drop i) = fitL s 0 l) ∧ Aside0 (Below w.heap.size w wr))
      case atStart => exact ⟨0, rfl, ⟨by simp⟩, ⟨HB0.out⟩⟩
      case round =>
        obtain ⟨i, rfl, HI, HB⟩ := hrel
        replace HI := Lib.hid HI.out
        replace HB := Lib.hid HB.out
        by_cases ci : i < l.length
        · obtain ⟨k1, rfl⟩ : ∃ k1, gk = k1 + 1 := ⟨gk - 1, by have := HI.out; omega⟩
          have hA := Kd.C_below HA.out HB.out
          obtain ⟨ad, eA, a0, a1, a2⟩ := PH.at_T47 hA (i : Int) (by omega) (by omega)
          have HD := Lib.hid (dropf l i ci)
          have hx : PH.rd_T47 l (i : Int) = l.getD i zf := rfl
          rw [hx] at a0 a1 a2
          clear hA hx
          generalize l.getD i zf = x at *
          subst eA
          rw [Int.toNat_natCast] at a0 a1 a2
          have hix : (i : Int) < (s.size : Int) := by have := HL.out; omega
          have ew : wrap64 ((i : Int) + 1) = ((i + 1 : Nat) : Int) := by have := HS.out; unfold wrap64; omega
          have hbt : ∀ h : i < s.size, ((s[i]'h).toNat : Int) = bt s (i : Int) := fun h => bt_at s (i : Int) h
          have HE := Lib.hid ew
          have HC := Lib.hid ci
          clear ew
          obtain ⟨cc, hcc⟩ : ∃ q, bt s (i : Int) = q := ⟨_, rfl⟩
          rw [hcc] at hbt
          have HCC := Lib.hid hcc
          clear hcc
          have hfit : fitL s 0 l = (fit1 cc x && fitL s (i + 1) (l.drop (i + 1))) := by rw [← HI.out.2.2, HD.out, fitL, HCC.out]
          have q1 := (Below.refl wr.heap.size wr).alloc (Nat.le_refl _) (.cells #[.int .u64 x.f0, .int .i64 x.f1, .string x.f2] 47)
          have HF := Lib.hid (And.intro hfit (fun o => HB.out.trans ((q1.alloc q1.size o).mono HB.out.size)))
          clear hfit q1
          by_cases c1 : cc = 110
          · have g1 : (cc == 110) = true := by simpa using c1
            have C1 := Lib.hid c1
            clear c1
            go_wp2
            · rename_i hq
              have HQ := Lib.hid hq
              clear hq
              go_ret
              refine ⟨?_, HF.out.2 _⟩
              have hz : fit1 cc x = false := by
                have := HQ.out
                unfold fit1
                rw [if_pos C1.out]
                rcases this with h | h <;> simp at h <;> simp [h]
              have hy : fitB s true l = false := by rw [fitB, HF.out.1, hz]; simp
              rw [hy]
              rfl
            · rename_i hq
              have HQ := Lib.hid hq
              clear hq
              go_roundg k1
              case measure => omega
              case rel =>
                have hz : fit1 cc x = true := by
                  have := HQ.out
                  unfold fit1
                  rw [if_pos C1.out]
                  simp at this
                  simp [this]
                refine ⟨i + 1, by rw [HE.out], ⟨by have := HC.out; have := HI.out; refine ⟨by omega, by omega, ?_⟩; rw [HF.out.1, hz]; simp⟩, ⟨HF.out.2 _⟩⟩
          · have g1 : (cc == 110) = false := by simpa using c1
            have C1 := Lib.hid c1
            clear c1
            by_cases c2 : cc = 105
            · have g2 : (cc == 105) = true := by simpa using c2
              have C2 := Lib.hid c2
              clear c2
              go_wp2
              · rename_i hq
                have HQ := Lib.hid hq
                clear hq
                go_ret
                refine ⟨?_, HF.out.2 _⟩
                have hz : fit1 cc x = false := by
                  have := HQ.out
                  unfold fit1
                  rw [if_neg C1.out, if_pos C2.out]
                  rcases this with h | h <;> simp at h <;> simp [h]
                have hy : fitB s true l = false := by rw [fitB, HF.out.1, hz]; simp
                rw [hy]
                rfl
              · rename_i hq
                have HQ := Lib.hid hq
                clear hq
                go_roundg k1
                case measure => omega
                case rel =>
                  have hz : fit1 cc x = true := by
                    have := HQ.out
                    unfold fit1
                    rw [if_neg C1.out, if_pos C2.out]
                    simp at this
                    simp [this]
                  refine ⟨i + 1, by rw [HE.out], ⟨by have := HC.out; have := HI.out; refine ⟨by omega, by omega, ?_⟩; rw [HF.out.1, hz]; simp⟩, ⟨HF.out.2 _⟩⟩
            · have g2 : (cc == 105) = false := by simpa using c2
              have C2 := Lib.hid c2
              clear c2
              go_wp2
              · rename_i hq
                have HQ := Lib.hid hq
                clear hq
                go_ret
                refine ⟨?_, HF.out.2 _⟩
                have hz : fit1 cc x = false := by
                  have := HQ.out
                  unfold fit1
                  rw [if_neg C1.out, if_neg C2.out]
                  rcases this with h | h <;> simp at h <;> simp [h]
                have hy : fitB s true l = false := by rw [fitB, HF.out.1, hz]; simp
                rw [hy]
                rfl
              · rename_i hq
                have HQ := Lib.hid hq
                clear hq
                go_roundg k1
                case measure => omega
                case rel =>
                  have hz : fit1 cc x = true := by
                    have := HQ.out
                    unfold fit1
                    rw [if_neg C1.out, if_neg C2.out]
                    simp at this
                    simp [this]
                  refine ⟨i + 1, by rw [HE.out], ⟨by have := HC.out; have := HI.out; refine ⟨by omega, by omega, ?_⟩; rw [HF.out.1, hz]; simp⟩, ⟨HF.out.2 _⟩⟩
        · have d1 : decide (i < l.length) = false := decide_eq_false (by omega)
          have e1 := HI.out.2.2
          rw [List.drop_eq_nil_of_le (by omega)] at e1
          have hy : fitB s true l = true := by
            rw [fitB, ← e1, decide_eq_true HL.out]
            rfl
          have HY := Lib.hid hy
          clear e1 hy ci
          go_wp2
          go_ret
          exact ⟨by rw [HY.out]; rfl, HB.out⟩
    · have d0 : decide (s.size < l.length) = true := decide_eq_true (by omega)
      have hy : fitB s true l = false := by rw [fitB, decide_eq_false hl]; rfl
      have HY := Lib.hid hy
      clear hy hl
      go_wp2
      go_ret
      exact ⟨by rw [HY.out]; rfl, HB0.out⟩
end Go.Proofs.YtbghkjoejbfnbaaDoor.ord
namespace Go.Proofs.YtbghkjoejbfnbaaDoor.PH
open Go.RowKit Go.Proofs.YtbghkjoejbfnbaaDoorW.PrintWords
def order_Fit.f (a0 : ByteArray) (l1 : List S47) : Option Bool := (order_Kinds.f a0).bind fun kd => if a0.size ≤ 140737488351232 then some (ord.fitB a0 kd l1) else none
theorem order_Fit.calls (a0 : ByteArray) (A1 : Option Addr) (c1 : Nat) (l1 : List S47) (r : Bool) (w : World) (hr1 : Kd.C k47 w A1 l1.length l1) (_ : l1.length ≤ c1) (h : order_Fit.f a0 l1 = some r) :
    Calls Tryd.prog 14 #[.string a0, .slice A1 l1.length c1] w fun e w' => e = .returned (.bool r) ∧ Below w.heap.size w w' := by
  unfold order_Fit.f at h
  obtain ⟨kd, hk, h⟩ := Option.bind_eq_some_iff.1 h
  split at h
  · rename_i hs
    obtain rfl := Option.some.inj h
    exact ord.fit_is w a0 kd A1 c1 l1 hk hs hr1
  · cases h
end Go.Proofs.YtbghkjoejbfnbaaDoor.PH
