/- slices.Min at []int64 and split.sum, walked. No conditions but that numbers are of 64 bits. split.sum, walked. No conditions but that numbers are of 64 bits. split.Split's closure that takes units off what is left, walked. No conditions. split.Split: what lies in memory; where it is refused (a walk). No conditions but that numbers are of 64 bits. Splitting by the greatest rests, in plain Lean: what an answer must be, that it is the only one, that the sorted way gives it. Splitting in plain Lean: unit by unit to the greatest rest; no unit where no rest is; a greater weight has no lesser slice; weights so many times as great. split.Split, walked where it is not refused. No conditions but that numbers are of 64 bits. split.Split and split.Even in the printed form. No conditions but that numbers are of 64 bits. -/
import Derived.Test.YtgceecnlgjmghaaDoorBase
import Derived.Test.YtgceecnlgjmghaaDoorMP
import Derived.WalkKit
import Derived.Deep.QuietTactic
import Derived.Test.YtgceecnlgjmghaaDoorMSo2
import Derived.Test.YtgceecnlgjmghaaDoorMSo1
import Derived.OwnWalk
import Derived.Deep.RegionWith
namespace Go.Proofs.YtgceecnlgjmghaaDoor.spl
open Go.RowKit Go.Proofs.YtgceecnlgjmghaaDoor.base
open Go.Proofs.YtgceecnlgjmghaaDoorW.PrintWords
set_option linter.unusedSimpArgs false
attribute [local go_sem] Oper.semAt_some Go.Proofs.YtgceecnlgjmghaaDoorW.PrintMore.min2_int Go.Proofs.YtgceecnlgjmghaaDoorW.PrintMore.min_two
theorem cell_at {w : World} {A : Option Addr} {xs : List Int} (h : Kd.C (Kd.int .i64) w A xs.length xs) (i : Nat) (hi : i < xs.length) : ∃ ad, A = some ad ∧ w.cell? (ad.add i) = some (.int .i64 (xs.getD i 0)) := by
 obtain ⟨ad, c, e, _, hK, hu⟩ := Kd.C_get h 0 (i : Int) (by omega) (by omega)
 have hK' : c = [.int .i64 (xs.getD i 0)] := hK
 subst hK'
 exact ⟨ad, e, by simpa [Kd.int, Kd.scalar] using hu 0 _ rfl⟩
set_option maxRecDepth 100000 in
theorem min_is (w : World) (A : Option Addr) (c : Nat) (xs : List Int) (hC : Kd.C (Kd.int .i64) w A xs.length xs) (h0 : 0 < xs.length) (hn : xs.length ≤ 5000) :
  Calls Tryd.prog 81 #[.slice A xs.length c] w fun e w' => ∃ m, e = .returned (.int .i64 m) ∧ (m < 0 ↔ ∃ i : Nat, i < xs.length ∧ xs.getD i 0 < 0) ∧ Drawn0 w w' := by
 obtain ⟨ad, rfl, hx0⟩ := cell_at hC 0 h0
 have hx : w.cell? ad = some (.int .i64 (xs.getD 0 0)) := by simpa [Addr.add] using hx0
 have HC := Lib.hid hC
 obtain ⟨n, hnn⟩ : ∃ n, xs.length = n := ⟨_, rfl⟩
 have HL := Lib.hid hnn
 rw [hnn] at h0 hn ⊢
 have HN := Lib.hid (And.intro h0 hn)
 obtain ⟨a0, ha0⟩ : ∃ a, xs.getD 0 0 = a := ⟨_, rfl⟩
 rw [ha0] at hx
 have HA := Lib.hid ha0
 have p1 : ¬ (n : Int) < 1 := by omega
 have p2 : ¬ n = 0 := by omega
 have p3 : (0 : Int) < (n : Int) := by omega
 clear hC hx0 hnn hn ha0
 go_enter Tryd.func81, Tryd.ntmps81
 go_wp2
 go_loopg [3, 4] (n + 1) (fun kq v3 v4 w' => ∃ (m : Int) (i : Nat), v3 = .int .i64 m ∧ v4 = .int .i64 (i : Int) ∧ Aside0 (1 ≤ i ∧ i ≤ n ∧ n + 1 ≤ kq + i) ∧ Aside0 (m < 0 ↔ ∃ j : Nat, j < i ∧ xs.getD j 0 < 0) ∧ Drawn0 w w')
 case atStart =>
  refine ⟨a0, 1, rfl, rfl, ⟨by omega⟩, ⟨⟨fun q => ⟨0, by omega, by rw [HA.out]; exact q⟩, fun ⟨j, q1, q2⟩ => ?_⟩⟩, by repeat (first | exact Drawn0.refl _ | apply Drawn0.step)⟩
  obtain rfl : j = 0 := by omega
  rw [HA.out] at q2
  exact q2
 case round =>
  clear hx
  obtain ⟨m, i, rfl, rfl, HK, HM, ⟨q, rfl⟩⟩ := hrel
  by_cases hi : i < n
  ·obtain ⟨k1, rfl⟩ : ∃ k1, gk = k1 + 1 := ⟨gk - 1, by have := HK.out; omega⟩
   obtain ⟨ad', e, hc⟩ := cell_at HC.out i (by rw [HL.out]; exact hi)
   cases e
   obtain ⟨ai, hai⟩ : ∃ a, xs.getD i 0 = a := ⟨_, rfl⟩
   rw [hai] at hc
   have HAI := Lib.hid hai
   have E3 := Lib.hid (show wrap64 ((i : Int) + 1) = ((i + 1 : Nat) : Int) by unfold wrap64; have := HN.out; omega)
   have t1 : ((i : Int)).toNat = i := by omega
   have p5 : ((0 : Int) ≤ (i : Int)) = True := eq_true (by omega)
   have p6 : ((i : Int) < (n : Int)) = True := eq_true (by omega)
   clear hai
   by_cases hlt : ai < m
   ·go_wp2
    go_roundg k1
    case measure => omega
    case rel =>
     refine ⟨ai, i + 1, rfl, by rw [E3.out], ⟨by have := HK.out; omega⟩, ⟨⟨fun z => ⟨i, by omega, by rw [HAI.out]; exact z⟩, fun ⟨j, z1, z2⟩ => ?_⟩⟩, by repeat (first | exact Drawn0.refl _ | apply Drawn0.step)⟩
     by_cases hj : j = i
     ·subst hj; rw [HAI.out] at z2; exact z2
     ·have := HM.out.2 ⟨j, by omega, z2⟩
      omega
   ·go_wp2
    go_roundg k1
    case measure => omega
    case rel =>
     refine ⟨m, i + 1, rfl, by rw [E3.out], ⟨by have := HK.out; omega⟩, ⟨⟨fun z => ?_, fun ⟨j, z1, z2⟩ => ?_⟩⟩, by repeat (first | exact Drawn0.refl _ | apply Drawn0.step)⟩
     ·obtain ⟨j, z1, z2⟩ := HM.out.1 z
      exact ⟨j, by omega, z2⟩
     ·by_cases hj : j = i
      ·subst hj; rw [HAI.out] at z2; omega
      ·exact HM.out.2 ⟨j, by omega, z2⟩
  ·have hin : i = n := by have := HK.out; omega
   go_wp2
   go_ret
   exact ⟨m, rfl, by have := HM.out; rw [hin] at this; exact this, ⟨⟨_, rfl⟩⟩⟩
end Go.Proofs.YtgceecnlgjmghaaDoor.spl

namespace Sp
/-- May these be weights? -/
def okW (xs : List Int) : Prop := 1 ≤ xs.length ∧ xs.length ≤ 4096 ∧ ∀ x ∈ xs, 0 ≤ x
instance (xs : List Int) : Decidable (okW xs) := by unfold okW; infer_instance
def sumV (xs : List Int) : Int := if okW xs then Ar.fitV xs.sum else 0
def sumB (xs : List Int) : Bool := decide (okW xs) && (Ar.fits xs.sum && decide (0 < Ar.fitV xs.sum) && decide (Ar.fitV xs.sum < 4611686018427387904))
theorem sum_no {xs : List Int} (h : ¬ okW xs) : sumV xs = 0 ∧ sumB xs = false := by simp [sumV, sumB, h]
end Sp
namespace Go.Proofs.YtgceecnlgjmghaaDoor.spl
open Go.RowKit Go.Proofs.YtgceecnlgjmghaaDoor.base
open Go.Proofs.YtgceecnlgjmghaaDoorW.PrintWords
set_option linter.unusedSimpArgs false
attribute [local go_sem] Oper.semAt_some
set_option maxRecDepth 100000 in
set_option maxHeartbeats 1000000 in
theorem sum_is (w : World) (A : Option Addr) (c : Nat) (xs : List Int) (hC : Kd.C (Kd.int .i64) w A xs.length xs) (hc : xs.length ≤ c) (hf : ∀ x ∈ xs, Ar.fits x = true) :
  Calls Tryd.prog 64 #[.slice A xs.length c] w fun e w' => e = .returned (.tuple #[.int .i64 (Sp.sumV xs), .bool (Sp.sumB xs)]) ∧ Below w.heap.size w w' := by
 obtain ⟨n, hnn⟩ : ∃ n, xs.length = n := ⟨_, rfl⟩
 by_cases h0 : 0 < xs.length
 ·by_cases h1 : xs.length ≤ 4096
  ·have HM := Lib.hid (min_is w A c xs hC h0 (by omega))
   by_cases h2 : ∀ x ∈ xs, 0 ≤ x
   ·-- it may be
    have hok : Sp.okW xs := ⟨h0, h1, h2⟩
    have hs : PH.arith_Sum.f xs = some (Ar.fitV xs.sum, Ar.fits xs.sum) := by
     unfold PH.arith_Sum.f
     rw [if_pos ⟨by intro q; subst q; simp at h0, by omega, hf⟩]
    have HS := Lib.hid (fun w' (q : Kd.C (Kd.int .i64) w' A xs.length xs) => PH.arith_Sum.calls A c xs _ _ w' q hc hs)
    have HC := Lib.hid hC
    have hneg : ∀ m : Int, (m < 0 ↔ ∃ i : Nat, i < xs.length ∧ xs.getD i 0 < 0) → ¬ m < 0 := fun m q r => by
     obtain ⟨i, q1, q2⟩ := q.1 r
     rw [List.getD_eq_getElem?_getD, List.getElem?_eq_getElem q1] at q2
     have := h2 _ (List.getElem_mem q1)
     simp only [Option.getD_some] at q2
     omega
    have HNG := Lib.hid hneg
    have ev : Sp.sumV xs = Ar.fitV xs.sum := if_pos hok
    have eb : Sp.sumB xs = (Ar.fits xs.sum && decide (0 < Ar.fitV xs.sum) && decide (Ar.fitV xs.sum < 4611686018427387904)) := by simp [Sp.sumB, hok]
    rw [ev, eb]
    clear hC hc hf h2 hok hs hneg ev eb
    rw [hnn] at h0 h1 HM HS ⊢
    generalize Ar.fitV xs.sum = v at HS ⊢
    generalize Ar.fits xs.sum = b at HS ⊢
    have p1 : ¬ (n : Int) < 1 := by omega
    have p2 : ¬ (n : Int) > 4096 := by omega
    have p3 : ¬ n = 0 := by omega
    go_enter Tryd.func64, Tryd.ntmps64
    go_wp2_with fail
    refine HM.out.mono ?_
    rintro e w1 ⟨m, rfl, hm, ⟨q, rfl⟩⟩
    have hm' := HNG.out m (by rw [hnn]; exact hm)
    clear hm
    go_wp2_with fail
    have hD : Below w.heap.size w (w.drewN q) := pw_below_drewN (Below.refl _ _) q
    refine (HS.out _ (hnn ▸ Kd.C_below HC.out hD)).mono ?_
    rintro e w2 ⟨rfl, B2⟩
    have HD := Lib.hid (hD.trans B2)
    clear hD B2
    cases b with
    | false =>
     go_wp2
     go_ret2
     exact ⟨rfl, HD.out⟩
    | true =>
     by_cases q1 : 0 < v
     ·have g1 : decide (v > 0) = true := decide_eq_true q1
      have g2 : decide (0 < v) = true := decide_eq_true q1
      go_wp2
      go_ret2
      exact ⟨by simp [q1], HD.out⟩
     ·have g1 : decide (v > 0) = false := decide_eq_false q1
      have g2 : decide (0 < v) = false := decide_eq_false q1
      go_wp2
      go_ret2
      exact ⟨by simp; omega, HD.out⟩
   ·-- one is below 0
    have hno : ¬ Sp.okW xs := fun q => h2 q.2.2
    obtain ⟨e1, e2⟩ := Sp.sum_no hno
    rw [e1, e2]
    have hneg : ∀ m : Int, (m < 0 ↔ ∃ i : Nat, i < xs.length ∧ xs.getD i 0 < 0) → m < 0 := fun m q => by
     refine q.2 ?_
     have ⟨x, hx⟩ : ∃ x, x ∈ xs ∧ ¬ 0 ≤ x := Classical.byContradiction fun h => h2 fun x hx => Classical.byContradiction fun h' => h ⟨x, hx, h'⟩
     obtain ⟨i, q1, q2⟩ := List.mem_iff_getElem.1 hx.1
     refine ⟨i, q1, ?_⟩
     rw [List.getD_eq_getElem?_getD, List.getElem?_eq_getElem q1]
     simp only [Option.getD_some, q2]
     omega
    have HNG := Lib.hid hneg
    clear hC hc hf h2 hno e1 e2 hneg
    rw [hnn] at h0 h1 HM ⊢
    have p1 : ¬ (n : Int) < 1 := by omega
    have p2 : ¬ (n : Int) > 4096 := by omega
    have p3 : ¬ n = 0 := by omega
    go_enter Tryd.func64, Tryd.ntmps64
    go_wp2_with fail
    refine HM.out.mono ?_
    rintro e w1 ⟨m, rfl, hm, ⟨q, rfl⟩⟩
    have hm' := HNG.out m (by rw [hnn]; exact hm)
    clear hm
    go_wp2
    go_ret2
    exact ⟨rfl, pw_below_drewN (Below.refl _ _) _⟩
  ·have hno : ¬ Sp.okW xs := fun q => h1 q.2.1
   obtain ⟨e1, e2⟩ := Sp.sum_no hno
   rw [e1, e2, hnn]
   rw [hnn] at h0 h1
   clear hC hc hf hno e1 e2
   have p1 : ¬ (n : Int) < 1 := by omega
   have p2 : (n : Int) > 4096 := by omega
   have p3 : ¬ n = 0 := by omega
   go_enter Tryd.func64, Tryd.ntmps64
   go_wp2
   go_ret2
   exact ⟨rfl, Below.refl _ _⟩
 ·have hno : ¬ Sp.okW xs := fun q => h0 q.1
  obtain ⟨e1, e2⟩ := Sp.sum_no hno
  rw [e1, e2, hnn]
  rw [hnn] at h0
  obtain rfl : n = 0 := by omega
  clear hC hc hf hno e1 e2 h0
  go_enter Tryd.func64, Tryd.ntmps64
  go_wp2
  go_ret2
  exact ⟨rfl, Below.refl _ _⟩
end Go.Proofs.YtgceecnlgjmghaaDoor.spl

namespace Go.Proofs.YtgceecnlgjmghaaDoor.spl
open Go.RowKit Go.Proofs.YtgceecnlgjmghaaDoor.base
open Go.Proofs.YtgceecnlgjmghaaDoorW.PrintWords
set_option linter.unusedSimpArgs false
attribute [local go_sem] Oper.semAt_some
def Lb (g : Nat) (l : Int) (W : World) : Prop := W.heap[g]? = some (.cells #[.int .i64 l] 2 (0, 0))
theorem take_is (w : World) (g : Nat) (n l : Int) (h : Lb g l w) :
  Calls Tryd.prog 65 #[.int .i64 n, .pointer (some ⟨g, 0, none⟩)] w fun e w' => e = .returned (.int .i64 n) ∧ w' = w.setCell ⟨g, 0, none⟩ (.int .i64 (wrap64 (l - n))) := by
 have c0 : w.cell? ⟨g, 0, none⟩ = some (.int .i64 l) := (blk_cell h 0).trans rfl
 have f0 := blk_frozen h 0
 clear h
 go_enter Tryd.func65, Tryd.ntmps65
 go_wp2
 go_ret
 exact ⟨rfl, rfl⟩
end Go.Proofs.YtgceecnlgjmghaaDoor.spl

namespace Go.Proofs.YtgceecnlgjmghaaDoor.spl
open Go.RowKit Go.Proofs.YtgceecnlgjmghaaDoor.base St Go.Proofs.YtgceecnlgjmghaaDoor.srt
open Go.Proofs.YtgceecnlgjmghaaDoorW.PrintWords
set_option linter.unusedSimpArgs false
attribute [local go_sem] Oper.semAt_some
abbrev Ri (W : World) (base : Nat) (v : Value) (l : List Int) : Prop := Kd.R (Kd.int .i64) 2 W base (fun _ => True) v l
theorem Ri.own {W : World} {base : Nat} {v : Value} {l : List Int} (h : Ri W base v l) : W.ownsRow base 2 1 v l.length (encs (Value.int .i64) l) := Kd.own_of_R h
theorem Ri.of {W : World} {base : Nat} {v : Value} {l : List Int} (h : W.ownsRow base 2 1 v l.length (encs (Value.int .i64) l)) : Ri W base v l := Kd.R_of_own h (fun _ _ => trivial)
theorem Ri.move {W V : World} {base : Nat} {v : Value} {l : List Int} (h : Ri W base v l) (hm : ∀ k, v.ownBlock = some k → V.heap[k]? = W.heap[k]?) : Ri V base v l := .of (own_move h.own hm)
/-- What is left, what each has, the shares. -/
structure M1 (w : World) (gl go n cap : Nat) (vl : Value) (left : Int) (out : List Int) (sh : List Sh) (W : World) : Prop where
 lb : Lb gl left W
 ro : Ri W w.heap.size (.slice (some ⟨go, 0, none⟩) n cap) out
 rl : Rs W w.heap.size vl sh
 ne : go ≠ gl
 gg : w.heap.size ≤ gl
 bel : Below w.heap.size w W
variable {w W V : World} {gl go n cap : Nat} {vl v1 : Value} {left : Int} {out : List Int} {sh l : List Sh}
theorem M1.own_go (_h : M1 w gl go n cap vl left out sh W) : (Value.slice (some ⟨go, 0, none⟩) n cap).ownBlock = some go := by simp [Value.ownBlock]
theorem M1.goL (h : M1 w gl go n cap vl left out sh W) : ∃ cells, W.heap[go]? = some (.cells cells 2 (0, 0)) := own_typed h.ro.own go h.own_go
theorem M1.below (h : M1 w gl go n cap vl left out sh W) (hB : Below W.heap.size W V) : M1 w gl go n cap vl left out sh V :=
 ⟨(hB.block gl (Array.getElem?_eq_some_iff.1 h.lb).1).trans h.lb, Kd.R_below h.ro hB, Kd.R_below h.rl hB, h.ne, h.gg, h.bel.trans (hB.mono h.bel.size)⟩
theorem M1.share (h : M1 w gl go n cap vl left out sh W) (hR : Rs V w.heap.size v1 l) (hb : Below w.heap.size w V) (hg : W.grownBy V vl.ownBlock) : M1 w gl go n cap v1 left out l V := by
 obtain ⟨cells, hgo⟩ := h.goL
 refine ⟨blk_grown h.lb hg (Kd.R_ne h.rl h.lb (by decide)), h.ro.move (fun k hk => ?_), hR, h.ne, h.gg, hb⟩
 rw [h.own_go] at hk
 injection hk with hk
 subst hk
 exact (blk_grown hgo hg (Kd.R_ne h.rl hgo (by decide))).trans hgo.symm
theorem M1.take (h : M1 w gl go n cap vl left out sh W) (x : Int) : M1 w gl go n cap vl x out sh (W.setCell ⟨gl, 0, none⟩ (.int .i64 x)) := by
 refine ⟨?_, h.ro.move (fun k hk => ?_), Kd.R_set h.rl h.lb (by decide) 0 _, h.ne, h.gg, h.bel.setCell h.gg _⟩
 ·have := blk_set h.lb 0 (.int .i64 x)
  simpa [Lb] using this
 ·rw [h.own_go] at hk
  injection hk with hk
  subst hk
  exact Below.heap_setCell _ _ _ _ h.ne
theorem M1.put (h : M1 w gl go n cap vl left out sh W) (i : Nat) (x : Int) : M1 w gl go n cap vl left (out.set i x) sh (W.setCell ⟨go, i, none⟩ (.int .i64 x)) := by
 obtain ⟨cells, hgo⟩ := h.goL
 have hbase : w.heap.size ≤ go := own_base h.ro.own go h.own_go
 have hp := (Kd.R_putg h.ro (i : Int) x).1
 exact ⟨(Below.heap_setCell _ _ _ _ (Ne.symm h.ne)).trans h.lb, hp, Kd.R_set h.rl hgo (by decide) i _, h.ne, h.gg, h.bel.setCell hbase _⟩
set_option maxRecDepth 100000 in
set_option maxHeartbeats 1000000 in
theorem split_no (w : World) (T : Int) (A : Option Addr) (c : Nat) (xs : List Int) (hC : Kd.C (Kd.int .i64) w A xs.length xs) (hc : xs.length ≤ c) (hf : ∀ x ∈ xs, Ar.fits x = true) (h : Sp.sumB xs = false ∨ T < 0 ∨ 4611686018427387904 ≤ T) :
  Calls Tryd.prog 44 #[.int .i64 T, .slice A xs.length c] w fun e w' => e = .returned (.tuple #[.slice none 0 0, .int .i64 2]) ∧ Below w.heap.size w w' := by
 have HS := Lib.hid (sum_is w A c xs hC hc hf)
 clear hC hc hf
 generalize xs.length = n at HS ⊢
 generalize Sp.sumV xs = v at HS ⊢
 generalize Sp.sumB xs = b at HS h ⊢
 by_cases hb : b = false
 ·subst hb
  clear h
  go_enter Tryd.func44, Tryd.ntmps44
  go_wp2_with fail
  refine HS.out.mono ?_
  rintro e w1 ⟨rfl, B1⟩
  have HB := Lib.hid B1
  clear B1
  go_wp2
  go_ret2
  exact ⟨rfl, HB.out⟩
 ·obtain rfl : b = true := by simpa using hb
  by_cases h1 : T < 0
  ·have g1 : decide (T < 0) = true := decide_eq_true h1
   clear h
   go_enter Tryd.func44, Tryd.ntmps44
   go_wp2_with fail
   refine HS.out.mono ?_
   rintro e w1 ⟨rfl, B1⟩
   have HB := Lib.hid B1
   clear B1
   go_wp2
   go_ret2
   exact ⟨rfl, HB.out⟩
  ·have h2 : 4611686018427387904 ≤ T := by
    rcases h with h | h | h
    ·cases h
    ·exact absurd h h1
    ·exact h
   have g1 : decide (T < 0) = false := decide_eq_false h1
   have g2 : decide (T ≥ 4611686018427387904) = true := decide_eq_true h2
   have g3 : decide (4611686018427387904 ≤ T) = true := decide_eq_true h2
   clear h
   go_enter Tryd.func44, Tryd.ntmps44
   go_wp2_with fail
   refine HS.out.mono ?_
   rintro e w1 ⟨rfl, B1⟩
   have HB := Lib.hid B1
   clear B1
   go_wp2
   go_ret2
   exact ⟨rfl, HB.out⟩
end Go.Proofs.YtgceecnlgjmghaaDoor.spl

namespace Sp
open St
theorem getD_set (l : List Int) (i : Nat) (x : Int) (k : Nat) (hk : k < l.length) : (l.set i x).getD k 0 = if k = i then x else l.getD k 0 := by
 simp only [List.getD_eq_getElem?_getD, List.getElem?_set]
 by_cases e : k = i
 ·subst e
  simp [hk]
 ·rw [if_neg (Ne.symm e), if_neg e]
theorem sum_set : ∀ (l : List Int) (i : Nat) (x : Int), i < l.length → (l.set i x).sum = l.sum - l.getD i 0 + x
 | [], i, x, h => by simp at h
 | a :: l, 0, x, _ => by simp; omega
 | a :: l, i + 1, x, h => by
  have := sum_set l i x (by simpa using h)
  simp only [List.set_cons_succ, List.sum_cons, List.getD_cons_succ, this]
  omega
theorem sum_le : ∀ (l m : List Int), l.length = m.length → (∀ k, k < l.length → l.getD k 0 ≤ m.getD k 0) → l.sum ≤ m.sum
 | [], [], _, _ => by simp
 | [], b :: m, h, _ => by simp at h
 | a :: l, [], h, _ => by simp at h
 | a :: l, b :: m, h, hk => by
  have h0 := hk 0 (by simp)
  have h1 := sum_le l m (by simpa using h) (fun k q => by simpa using hk (k + 1) (by simpa using q))
  simp only [List.getD_cons_zero, List.sum_cons] at h0 ⊢
  omega
theorem sum_lt (l m : List Int) (h : l.length = m.length) (hk : ∀ k, k < l.length → l.getD k 0 ≤ m.getD k 0) (i : Nat) (hi : i < l.length) (hs : l.getD i 0 < m.getD i 0) : l.sum < m.sum := by
 have h1 := sum_le (l.set i (l.getD i 0 + 1)) m (by simpa using h) (fun k q => by
  have q' : k < l.length := by simpa using q
  rw [getD_set l i _ k q']
  by_cases e : k = i
  ·rw [if_pos e, e]; omega
  ·rw [if_neg e]; exact hk k q')
 rw [sum_set l i _ hi] at h1
 omega
theorem ext_getD (l m : List Int) (h : l.length = m.length) (hk : ∀ k, k < l.length → l.getD k 0 = m.getD k 0) : l = m := by
 refine List.ext_getElem h fun k h1 h2 => ?_
 have := hk k h1
 rw [List.getD_eq_getElem?_getD, List.getD_eq_getElem?_getD, List.getElem?_eq_getElem h1, List.getElem?_eq_getElem h2] at this
 exact this
theorem sum_ge0 : ∀ (l : List Int), (∀ x ∈ l, 0 ≤ x) → 0 ≤ l.sum
 | [], _ => by simp
 | a :: l, h => by
  have h0 := h a (by simp)
  have h1 := sum_ge0 l (fun x q => h x (by simp [q]))
  simp only [List.sum_cons]
  omega
theorem sum_take (l : List Int) (h : ∀ x ∈ l, 0 ≤ x) (i : Nat) : 0 ≤ (l.take i).sum ∧ (l.take i).sum ≤ l.sum := by
 have h1 := sum_ge0 (l.take i) (fun x q => h x (List.mem_of_mem_take q))
 have h2 := sum_ge0 (l.drop i) (fun x q => h x (List.mem_of_mem_drop q))
 have h3 : l.sum = (l.take i).sum + (l.drop i).sum := by rw [← List.sum_append, List.take_append_drop]
 omega
theorem sum_up (c : Int) : ∀ (l : List Int), (∀ x ∈ l, x ≤ c) → l.sum ≤ l.length * c
 | [], _ => by simp
 | a :: l, h => by
  have h0 := h a (by simp)
  have h1 := sum_up c l (fun x q => h x (by simp [q]))
  simp only [List.sum_cons, List.length_cons]
  rw [show ((l.length + 1 : Nat) : Int) = (l.length : Int) + 1 by omega, Int.add_mul, Int.one_mul]
  omega
theorem sum_inc : ∀ (l : List Int), (l.map (· + 1)).sum = l.sum + l.length
 | [] => by simp
 | a :: l => by
  have := sum_inc l
  simp only [List.map_cons, List.sum_cons, List.length_cons, this]
  omega
theorem total (T c : Int) : ∀ l : List Int, c * (l.map (fun x => T * x / c)).sum + (l.map (fun x => T * x % c)).sum = T * l.sum
 | [] => by simp
 | a :: l => by
  have h1 := total T c l
  have h2 := Int.mul_ediv_add_emod (T * a) c
  simp only [List.map_cons, List.sum_cons, Int.mul_add]
  omega
/-- What may be split. -/
structure Ok (T : Int) (xs : List Int) : Prop where
 t0 : 0 ≤ T
 t1 : T < 4611686018427387904
 n0 : 0 < xs.length
 n1 : xs.length ≤ 4096
 w0 : ∀ x ∈ xs, 0 ≤ x
 a0 : 0 < xs.sum
 a1 : xs.sum < 4611686018427387904
def qs (T : Int) (xs : List Int) : List Int := xs.map (fun x => T * x / xs.sum)
def rs (T : Int) (xs : List Int) : List Int := xs.map (fun x => T * x % xs.sum)
def q (T : Int) (xs : List Int) (k : Nat) : Int := T * xs.getD k 0 / xs.sum
def r (T : Int) (xs : List Int) (k : Nat) : Int := T * xs.getD k 0 % xs.sum
variable {T : Int} {xs : List Int}
@[simp] theorem qs_len : (qs T xs).length = xs.length := by simp [qs]
@[simp] theorem rs_len : (rs T xs).length = xs.length := by simp [rs]
theorem qs_get {k : Nat} (hk : k < xs.length) : (qs T xs).getD k 0 = q T xs k := by
 simp [qs, q, List.getD_eq_getElem?_getD, List.getElem?_eq_getElem hk]
theorem rs_get {k : Nat} (hk : k < xs.length) : (rs T xs).getD k 0 = r T xs k := by
 simp [rs, r, List.getD_eq_getElem?_getD, List.getElem?_eq_getElem hk]
theorem Ok.w (h : Ok T xs) (k : Nat) : 0 ≤ xs.getD k 0 := by
 rw [List.getD_eq_getElem?_getD]
 by_cases hk : k < xs.length
 ·rw [List.getElem?_eq_getElem hk]; exact h.w0 _ (List.getElem_mem hk)
 ·rw [List.getElem?_eq_none (by omega)]; simp
theorem Ok.w1 (h : Ok T xs) (k : Nat) : xs.getD k 0 ≤ xs.sum := by
 by_cases hk : k < xs.length
 ·have h1 := sum_take (xs.drop k) (fun x q => h.w0 x (List.mem_of_mem_drop q)) 1
  have h2 := sum_ge0 (xs.take k) (fun x q => h.w0 x (List.mem_of_mem_take q))
  have h3 : xs.sum = (xs.take k).sum + (xs.drop k).sum := by rw [← List.sum_append, List.take_append_drop]
  have h4 : ((xs.drop k).take 1).sum = xs.getD k 0 := by
   rw [List.getD_eq_getElem?_getD, List.getElem?_eq_getElem hk, List.drop_eq_getElem_cons hk, show (xs[k] :: List.drop (k + 1) xs).take 1 = [xs[k]] from rfl]
   simp
  omega
 ·rw [List.getD_eq_getElem?_getD, List.getElem?_eq_none (by omega)]
  have := h.a0
  simp
  omega
theorem Ok.q0 (h : Ok T xs) (k : Nat) : 0 ≤ q T xs k := Int.ediv_nonneg (Int.mul_nonneg h.t0 (h.w k)) (Int.le_of_lt h.a0)
theorem Ok.q1 (h : Ok T xs) (k : Nat) : q T xs k ≤ T := by
 unfold q
 have h1 := Int.mul_le_mul_of_nonneg_left (h.w1 k) h.t0
 have h2 := Int.ediv_le_ediv h.a0 h1
 rwa [Int.mul_ediv_cancel _ (Int.ne_of_gt h.a0)] at h2
theorem Ok.r0 (h : Ok T xs) (k : Nat) : 0 ≤ r T xs k := Int.emod_nonneg _ (Int.ne_of_gt h.a0)
theorem Ok.r1 (h : Ok T xs) (k : Nat) : r T xs k < xs.sum := Int.emod_lt_of_pos _ h.a0
theorem Ok.qs0 (h : Ok T xs) : ∀ x ∈ qs T xs, 0 ≤ x := fun x hx => by
 obtain ⟨y, hy, rfl⟩ := List.mem_map.1 hx
 exact Int.ediv_nonneg (Int.mul_nonneg h.t0 (h.w0 y hy)) (Int.le_of_lt h.a0)
theorem Ok.tot (_h : Ok T xs) : xs.sum * (T - (qs T xs).sum) = (rs T xs).sum := by
 have := total T xs.sum xs
 rw [Int.mul_sub, Int.mul_comm xs.sum T]
 unfold qs rs
 omega
theorem Ok.rs0 (h : Ok T xs) : 0 ≤ (rs T xs).sum := sum_ge0 _ fun x hx => by
 obtain ⟨y, _, rfl⟩ := List.mem_map.1 hx
 exact Int.emod_nonneg _ (Int.ne_of_gt h.a0)
theorem Ok.left0 (h : Ok T xs) : (qs T xs).sum ≤ T := by
 refine Classical.byContradiction fun hn => ?_
 have h1 := h.tot
 have h2 := h.rs0
 have h3 : xs.sum * (T - (qs T xs).sum) < 0 := Int.mul_neg_of_pos_of_neg h.a0 (by omega)
 omega
theorem Ok.left1 (h : Ok T xs) : T < (qs T xs).sum + xs.length := by
 refine Classical.byContradiction fun hn => ?_
 have h1 := h.tot
 have h2 := sum_up (xs.sum - 1) (rs T xs) (fun x hx => by
  obtain ⟨y, _, rfl⟩ := List.mem_map.1 hx
  have := Int.emod_lt_of_pos (T * y) h.a0
  omega)
 rw [rs_len, Int.mul_sub, Int.mul_one] at h2
 have h3 : xs.sum * (xs.length : Int) ≤ xs.sum * (T - (qs T xs).sum) := Int.mul_le_mul_of_nonneg_left (by omega) (Int.le_of_lt h.a0)
 rw [Int.mul_comm (xs.length : Int)] at h2
 have := h.n0
 omega
theorem Ok.lf (h : Ok T xs) (i : Nat) : 0 ≤ T - ((qs T xs).take i).sum ∧ T - ((qs T xs).take i).sum ≤ T := by
 have h1 := sum_take _ h.qs0 i
 have h2 := h.left0
 omega
theorem lf_succ {i : Nat} (hi : i < xs.length) : ((qs T xs).take (i + 1)).sum = ((qs T xs).take i).sum + q T xs i := by
 have hi' : i < (qs T xs).length := by simpa using hi
 rw [List.take_succ_eq_append_getElem hi', List.sum_append]
 have := qs_get (T := T) hi
 rw [List.getD_eq_getElem?_getD, List.getElem?_eq_getElem hi'] at this
 simp only [Option.getD_some] at this
 simp [this]
/-- An answer: the rounded slices, the greatest rests have a unit more, the total together. -/
structure IsSplit (T : Int) (xs out : List Int) : Prop where
 len : out.length = xs.length
 sum : out.sum = T
 one : ∀ k, k < xs.length → out.getD k 0 = q T xs k ∨ out.getD k 0 = q T xs k + 1
 ord : ∀ i k, i < xs.length → k < xs.length → out.getD i 0 = q T xs i + 1 → out.getD k 0 = q T xs k → (r T xs k < r T xs i ∨ (r T xs k = r T xs i ∧ i < k))
theorem IsSplit.unique {a b : List Int} (h : IsSplit T xs a) (g : IsSplit T xs b) : a = b := by
 refine ext_getD a b (h.len.trans g.len.symm) fun k hk => ?_
 refine Classical.byContradiction fun hne => ?_
 have hlen := h.len.trans g.len.symm
 have hkn : k < xs.length := by rw [← h.len]; exact hk
 have ha := h.one k hkn
 have hb := g.one k hkn
 by_cases e : a.getD k 0 = q T xs k
 ·have eb : b.getD k 0 = q T xs k + 1 := by omega
  have hx : ¬ ∃ i, i < xs.length ∧ a.getD i 0 = q T xs i + 1 ∧ b.getD i 0 = q T xs i := fun ⟨i, hi, e1, e2⟩ => by
   have h1 := h.ord i k hi hkn e1 e
   have h2 := g.ord k i hkn hi eb e2
   omega
  have := sum_lt a b hlen (fun i hi => Classical.byContradiction fun hc => hx ⟨i, by rw [← h.len]; exact hi, by
   have hi' : i < xs.length := by rw [← h.len]; exact hi
   have h1 := h.one i hi'
   have h2 := g.one i hi'
   omega⟩) k hk (by omega)
  have h1 := h.sum
  have h2 := g.sum
  omega
 ·have ea : a.getD k 0 = q T xs k + 1 := by omega
  have eb : b.getD k 0 = q T xs k := by omega
  have hx : ¬ ∃ i, i < xs.length ∧ b.getD i 0 = q T xs i + 1 ∧ a.getD i 0 = q T xs i := fun ⟨i, hi, e1, e2⟩ => by
   have h1 := h.ord k i hkn hi ea e2
   have h2 := g.ord i k hi hkn e1 eb
   omega
  have := sum_lt b a hlen.symm (fun i hi => Classical.byContradiction fun hc => hx ⟨i, by rw [← g.len]; exact hi, by
   have hi' : i < xs.length := by rw [← g.len]; exact hi
   have h1 := h.one i hi'
   have h2 := g.one i hi'
   omega⟩) k (by omega) (by omega)
  have h1 := h.sum
  have h2 := g.sum
  omega
/-- The shares. -/
def shk (T : Int) (xs : List Int) (k : Nat) : Sh := ⟨q T xs k, r T xs k, k⟩
def shs (T : Int) (xs : List Int) (i : Nat) : List Sh := (List.range i).map (shk T xs)
theorem shs_succ (i : Nat) : shs T xs (i + 1) = shs T xs i ++ [shk T xs i] := by simp [shs, List.range_succ]
@[simp] theorem shs_len (i : Nat) : (shs T xs i).length = i := by simp [shs]
def pl (d : Array Sh) (m : Nat) : Nat := d[m]!.p.toNat
/-- The shares, the greatest rest ahead. -/
structure Ord (T : Int) (xs : List Int) (d : Array Sh) : Prop where
 size : d.size = xs.length
 is : ∀ m, m < xs.length → pl d m < xs.length ∧ d[m]! = shk T xs (pl d m)
 all : ∀ k, k < xs.length → ∃ m, m < xs.length ∧ pl d m = k
 inj : ∀ m m', m < xs.length → m' < xs.length → pl d m = pl d m' → m = m'
 asc : ∀ m m', m < m' → m' < xs.length → lt d[m']! d[m]! = false
theorem Ord.of {d : Array Sh} (hp : Go.Sort.PermIn 0 xs.length (shs T xs xs.length).toArray d) (hs : Go.Sort.SortedIn lt 0 xs.length d) : Ord T xs d := by
 obtain ⟨hsz, _, hperm⟩ := hp
 have hsize : d.size = xs.length := by simpa using hsz
 have e1 : (d.extract 0 xs.length) = d := by rw [← hsize]; simp
 have e2 : ((shs T xs xs.length).toArray.extract 0 xs.length) = (shs T xs xs.length).toArray := by
  have h0 : ((shs T xs xs.length).toArray).size = xs.length := by simp
  have := Array.extract_size (xs := (shs T xs xs.length).toArray)
  rwa [h0] at this
 rw [e1, e2] at hperm
 have hperm' : d.toList.Perm (shs T xs xs.length) := hperm
 have hmap : (d.toList.map (fun s => s.p.toNat)).Perm (List.range xs.length) := by
  have := hperm'.map (fun s : Sh => s.p.toNat)
  have e : (shs T xs xs.length).map (fun s : Sh => s.p.toNat) = List.range xs.length := by
   rw [shs, List.map_map]
   have : (fun s : Sh => s.p.toNat) ∘ shk T xs = id := by funext k; simp [shk]
   rw [this, List.map_id]
  rwa [e] at this
 have hnd : (d.toList.map (fun s => s.p.toNat)).Nodup := hmap.nodup_iff.2 List.nodup_range
 have hget : ∀ m, (hm : m < xs.length) → d[m]! = d[m]'(by omega) := fun m hm => getElem!_pos d m (by omega)
 refine ⟨hsize, fun m hm => ?_, fun k hk => ?_, fun m m' hm hm' he => ?_, fun m m' h1 h2 => hs m m' (Nat.zero_le _) h1 h2⟩
 ·have : d[m]! ∈ shs T xs xs.length := hperm'.mem_iff.1 (by rw [hget m hm]; simp)
  obtain ⟨k, hk, e⟩ := List.mem_map.1 this
  have hk' : k < xs.length := by simpa using hk
  have ep : pl d m = k := by rw [pl, ← e]; simp [shk]
  rw [ep]
  exact ⟨hk', e.symm⟩
 ·have : k ∈ d.toList.map (fun s => s.p.toNat) := hmap.mem_iff.2 (by simpa using hk)
  obtain ⟨s, hs1, hs2⟩ := List.mem_map.1 this
  obtain ⟨m, hm, hms⟩ := List.mem_iff_getElem.1 hs1
  have hm' : m < d.size := by simpa using hm
  refine ⟨m, by omega, ?_⟩
  rw [pl, hget m (by omega)]
  rw [← hs2, ← hms]
  simp
 ·rw [pl, pl, hget m hm, hget m' hm'] at he
  have hl : m < (d.toList.map (fun s => s.p.toNat)).length := by simp; omega
  have hl' : m' < (d.toList.map (fun s => s.p.toNat)).length := by simp; omega
  have hpw := List.pairwise_iff_getElem.1 hnd
  rcases Nat.lt_trichotomy m m' with h1 | h1 | h1
  ·exact absurd (by simpa using he) (hpw m m' hl hl' h1)
  ·exact h1
  ·exact absurd (by simpa using he.symm) (hpw m' m hl' hl h1)
/-- While the units are given out. -/
structure Inv (T : Int) (xs : List Int) (d : Array Sh) (j : Nat) (left : Int) (out : List Int) : Prop where
 len : out.length = xs.length
 tot : left + out.sum = T
 l0 : 0 ≤ left
 rest : ∀ m, j ≤ m → m < xs.length → out.getD (pl d m) 0 = q T xs (pl d m)
 one : ∀ k, k < xs.length → out.getD k 0 = q T xs k ∨ out.getD k 0 = q T xs k + 1
 done : 0 < left → ∀ m, m < j → m < xs.length → out.getD (pl d m) 0 = q T xs (pl d m) + 1
 ord : ∀ m m', m < xs.length → m' < xs.length → out.getD (pl d m) 0 = q T xs (pl d m) + 1 → out.getD (pl d m') 0 = q T xs (pl d m') → m < m'
variable {d : Array Sh} {left : Int} {out : List Int} {j : Nat}
theorem Inv.start (h : Ok T xs) : Inv T xs d 0 (T - ((qs T xs).take xs.length).sum) (qs T xs) where
 len := qs_len
 tot := by rw [← qs_len (T := T) (xs := xs), List.take_length]; omega
 l0 := (h.lf _).1
 rest m _ _ := by
  by_cases hk : pl d m < xs.length
  ·exact qs_get hk
  ·simp [q, qs, List.getD_eq_getElem?_getD, List.getElem?_eq_none (Nat.le_of_not_lt hk)]
 one k hk := Or.inl (qs_get hk)
 done _ m hm := by omega
 ord m m' hm hm' e1 e2 := by
  exfalso
  by_cases hk : pl d m < xs.length
  ·rw [qs_get hk] at e1; omega
  ·rw [List.getD_eq_getElem?_getD, List.getElem?_eq_none (by simpa using hk)] at e1
   simp [q, List.getD_eq_getElem?_getD, List.getElem?_eq_none (Nat.le_of_not_lt hk)] at e1
theorem Inv.no (h : Inv T xs d j left out) (hl : ¬ 0 < left) : Inv T xs d (j + 1) left out :=
 ⟨h.len, h.tot, h.l0, fun m h1 h2 => h.rest m (by omega) h2, h.one, fun h1 => absurd h1 hl, h.ord⟩
theorem Inv.yes (h : Inv T xs d j left out) (hO : Ord T xs d) (hj : j < xs.length) (hl : 0 < left) : Inv T xs d (j + 1) (left - 1) (out.set (pl d j) (out.getD (pl d j) 0 + 1)) := by
 have hpj := (hO.is j hj).1
 have hrj := h.rest j (Nat.le_refl _) hj
 have hg : ∀ m, m < xs.length → (out.set (pl d j) (out.getD (pl d j) 0 + 1)).getD (pl d m) 0 = if m = j then q T xs (pl d j) + 1 else out.getD (pl d m) 0 := fun m hm => by
  rw [getD_set _ _ _ _ (by rw [h.len]; exact (hO.is m hm).1)]
  by_cases e : m = j
  ·rw [if_pos e, if_pos (by rw [e]), hrj]
  ·rw [if_neg e, if_neg (fun q => e (hO.inj m j hm hj q))]
 refine ⟨by rw [List.length_set]; exact h.len, ?_, by omega, fun m h1 h2 => ?_, fun k hk => ?_, fun _ m h1 h2 => ?_, fun m m' h1 h2 e1 e2 => ?_⟩
 ·rw [sum_set _ _ _ (by rw [h.len]; exact hpj)]
  have := h.tot
  omega
 ·rw [hg m h2, if_neg (by omega)]
  exact h.rest m (by omega) h2
 ·obtain ⟨m, hm, rfl⟩ := hO.all k hk
  rw [hg m hm]
  by_cases e : m = j
  ·subst e
   rw [if_pos rfl]
   exact Or.inr rfl
  ·rw [if_neg e]
   exact h.one _ hk
 ·rw [hg m h2]
  by_cases e : m = j
  ·rw [if_pos e, e]
  ·rw [if_neg e]
   exact h.done hl m (by omega) h2
 ·rw [hg m h1] at e1
  rw [hg m' h2] at e2
  have hm' : ¬ m' = j := fun e => by rw [if_pos e, e] at e2; omega
  rw [if_neg hm'] at e2
  have hgt : j < m' := Classical.byContradiction fun hc => by
   have := h.done hl m' (by omega) h2
   omega
  by_cases e : m = j
  ·omega
  ·rw [if_neg e] at e1
   exact h.ord m m' h1 h2 e1 e2
theorem Inv.fin (h : Inv T xs d xs.length left out) (hk : Ok T xs) (hO : Ord T xs d) : IsSplit T xs out := by
 have hl : left = 0 := Classical.byContradiction fun hc => by
  have h1 : 0 < left := by have := h.l0; omega
  have h2 := sum_le ((qs T xs).map (· + 1)) out (by simp [h.len]) (fun k hk => by
   have hk' : k < xs.length := by simpa using hk
   obtain ⟨m, hm, rfl⟩ := hO.all k hk'
   rw [h.done h1 m hm hm]
   have := qs_get (T := T) hk'
   rw [List.getD_eq_getElem?_getD, List.getElem?_eq_getElem (by simpa using hk')] at this
   simp only [Option.getD_some] at this
   rw [List.getD_eq_getElem?_getD, List.getElem?_eq_getElem hk]
   simp [this])
  rw [sum_inc, qs_len] at h2
  have h3 := hk.left1
  have h4 := h.tot
  omega
 refine ⟨h.len, by have := h.tot; omega, h.one, fun i k hi hk' e1 e2 => ?_⟩
 obtain ⟨m, hm, rfl⟩ := hO.all i hi
 obtain ⟨m', hm', rfl⟩ := hO.all k hk'
 have hlt := h.ord m m' hm hm' e1 e2
 have hs := hO.asc m m' hlt hm'
 rw [lt_no, (hO.is m hm).2, (hO.is m' hm').2] at hs
 simp only [shk] at hs
 have hne : pl d m ≠ pl d m' := fun e => by have := hO.inj m m' hm hm' e; omega
 omega
theorem Inv.bd (h : Inv T xs d j left out) (hk : Ok T xs) (k : Nat) (hkn : k < xs.length) : 0 ≤ out.getD k 0 ∧ out.getD k 0 ≤ T + 1 := by
 have := h.one k hkn
 have := hk.q0 k
 have := hk.q1 k
 omega
theorem Inv.l1 (h : Inv T xs d j left out) (hk : Ok T xs) : left ≤ T := by
 have h1 := h.tot
 have h2 := sum_ge0 out (fun x hx => by
  obtain ⟨k, hk1, rfl⟩ := List.mem_iff_getElem.1 hx
  have := (h.bd hk k (by rw [← h.len]; exact hk1)).1
  rw [List.getD_eq_getElem?_getD, List.getElem?_eq_getElem hk1] at this
  exact this)
 omega
end Sp

namespace Sp
variable {T : Int} {xs : List Int}
/-- While units are given to the greatest rests. -/
structure G (T : Int) (xs out rr : List Int) (left : Int) : Prop where
 len : out.length = xs.length
 lenr : rr.length = xs.length
 tot : out.sum + left = T
 l0 : 0 ≤ left
 st : ∀ k, k < xs.length → (out.getD k 0 = q T xs k ∧ rr.getD k 0 = r T xs k) ∨ (out.getD k 0 = q T xs k + 1 ∧ rr.getD k 0 = -1)
 ord : ∀ i k, i < xs.length → k < xs.length → rr.getD i 0 = -1 → 0 ≤ rr.getD k 0 → (r T xs k < r T xs i ∨ (r T xs k = r T xs i ∧ i < k))
theorem G.start (h : Ok T xs) : G T xs (qs T xs) (rs T xs) (T - (qs T xs).sum) where
 len := qs_len
 lenr := rs_len
 tot := by omega
 l0 := by have := h.left0; omega
 st k hk := .inl ⟨qs_get hk, rs_get hk⟩
 ord i k hi hk e _ := by
  rw [rs_get hi] at e
  have := h.r0 i
  omega
variable {out rr : List Int} {left : Int} {b : Nat}
theorem G.un (h : G T xs out rr left) (hk : Ok T xs) (hl : 0 < left) : ∃ k, k < xs.length ∧ 0 ≤ rr.getD k 0 := by
 refine Classical.byContradiction fun hn => ?_
 have h2 := sum_le ((qs T xs).map (· + 1)) out (by simp [h.len]) (fun k hk' => by
  have hk' : k < xs.length := by simpa using hk'
  have e : ((qs T xs).map (· + 1)).getD k 0 = q T xs k + 1 := by
   have := qs_get (T := T) hk'
   rw [List.getD_eq_getElem?_getD, List.getElem?_eq_getElem (by simpa using hk')] at this
   rw [List.getD_eq_getElem?_getD, List.getElem?_map, List.getElem?_eq_getElem (by simpa using hk')]
   simpa using this
  rw [e]
  rcases h.st k hk' with ⟨_, e2⟩ | ⟨e2, _⟩
  ·exact absurd ⟨k, hk', by rw [e2]; exact hk.r0 k⟩ hn
  ·omega)
 rw [sum_inc, qs_len] at h2
 have := hk.left1
 have := h.tot
 omega
theorem G.step (h : G T xs out rr left) (hk : Ok T xs) (hl : 0 < left) (hb : b < xs.length) (hmax : ∀ i, i < xs.length → rr.getD i 0 ≤ rr.getD b 0) (hfst : ∀ i, i < b → rr.getD i 0 < rr.getD b 0) :
  G T xs (out.set b (out.getD b 0 + 1)) (rr.set b (-1)) (left - 1) := by
 obtain ⟨k0, hk0, hr0⟩ := h.un hk hl
 have hrb : 0 ≤ rr.getD b 0 := Int.le_trans hr0 (hmax k0 hk0)
 have hob : out.getD b 0 = q T xs b ∧ rr.getD b 0 = r T xs b := by
  rcases h.st b hb with h1 | ⟨_, h1⟩
  ·exact h1
  ·omega
 have go : ∀ k, k < xs.length → (out.set b (out.getD b 0 + 1)).getD k 0 = if k = b then out.getD b 0 + 1 else out.getD k 0 := fun k q => getD_set _ _ _ _ (by rw [h.len]; exact q)
 have gr : ∀ k, k < xs.length → (rr.set b (-1)).getD k 0 = if k = b then -1 else rr.getD k 0 := fun k q => getD_set _ _ _ _ (by rw [h.lenr]; exact q)
 refine ⟨by rw [List.length_set]; exact h.len, by rw [List.length_set]; exact h.lenr, ?_, by omega, fun k q => ?_, fun i k hi hk' e1 e2 => ?_⟩
 ·rw [sum_set _ _ _ (by rw [h.len]; exact hb)]
  have := h.tot
  omega
 ·rw [go k q, gr k q]
  by_cases e : k = b
  ·subst e
   rw [if_pos rfl, if_pos rfl]
   exact .inr ⟨by omega, rfl⟩
  ·rw [if_neg e, if_neg e]
   exact h.st k q
 ·rw [gr i hi] at e1
  rw [gr k hk'] at e2
  have hkb : ¬ k = b := fun e => by rw [if_pos e] at e2; omega
  rw [if_neg hkb] at e2
  by_cases e : i = b
  ·subst e
   have h1 : rr.getD k 0 = r T xs k := by
    rcases h.st k hk' with ⟨_, h1⟩ | ⟨_, h1⟩
    ·exact h1
    ·omega
   have h2 := hmax k hk'
   by_cases h3 : k < i
   ·have := hfst k h3
    omega
   ·omega
  ·rw [if_neg e] at e1
   exact h.ord i k hi hk' e1 e2
theorem G.fin (h : G T xs out rr left) (hk : Ok T xs) (hl : ¬ 0 < left) : IsSplit T xs out where
 len := h.len
 sum := by have := h.tot; have := h.l0; omega
 one k hk' := by rcases h.st k hk' with ⟨h1, _⟩ | ⟨h1, _⟩ <;> omega
 ord i k hi hk' e1 e2 := by
  refine h.ord i k hi hk' ?_ ?_
  ·rcases h.st i hi with ⟨h1, _⟩ | ⟨_, h1⟩
   ·omega
   ·exact h1
  ·rcases h.st k hk' with ⟨_, h1⟩ | ⟨h1, _⟩
   ·rw [h1]; exact hk.r0 k
   ·omega
theorem sum_mul (c : Int) : ∀ l : List Int, (l.map (c * ·)).sum = c * l.sum
 | [] => by simp
 | a :: l => by simp [sum_mul c l, Int.mul_add]
theorem map_get (f : Int → Int) (l : List Int) (k : Nat) (hk : k < l.length) : (l.map f).getD k 0 = f (l.getD k 0) := by
 simp [List.getD_eq_getElem?_getD, List.getElem?_eq_getElem hk]
theorem eq_qr (T : Int) (xs : List Int) (k : Nat) : T * xs.getD k 0 = xs.sum * q T xs k + r T xs k := by
 have := Int.mul_ediv_add_emod (T * xs.getD k 0) xs.sum
 unfold q r
 omega
/-- Where no rest is, no unit more is. -/
theorem IsSplit.rest (h : IsSplit T xs out) (hk : Ok T xs) (i : Nat) (hi : i < xs.length) (e : out.getD i 0 = q T xs i + 1) : r T xs i ≠ 0 := fun h0 => by
 have hle : ∀ k, k < xs.length → T * xs.getD k 0 ≤ xs.sum * out.getD k 0 := fun k hk' => by
  rw [eq_qr]
  rcases h.one k hk' with e1 | e1
  ·have h1 := h.ord i k hi hk' e e1
   have h2 := hk.r0 k
   rw [e1]
   omega
  ·have h1 := hk.r1 k
   rw [e1, Int.mul_add]
   omega
 have hlt : T * xs.getD i 0 < xs.sum * out.getD i 0 := by
  rw [eq_qr, e, Int.mul_add, h0]
  have := hk.a0
  omega
 have := sum_lt (xs.map (T * ·)) (out.map (xs.sum * ·)) (by simp [h.len]) (fun k hk' => by
  have hk' : k < xs.length := by simpa using hk'
  rw [map_get _ _ _ hk', map_get _ _ _ (by rw [h.len]; exact hk')]
  exact hle k hk') i (by simpa using hi) (by
  rw [map_get _ _ _ hi, map_get _ _ _ (by rw [h.len]; exact hi)]
  exact hlt)
 rw [sum_mul, sum_mul, h.sum, Int.mul_comm] at this
 omega
theorem IsSplit.nn (h : IsSplit T xs out) (hk : Ok T xs) (i : Nat) (hi : i < xs.length) : 0 ≤ out.getD i 0 := by
 have := h.one i hi
 have := hk.q0 i
 omega
theorem IsSplit.zero (h : IsSplit T xs out) (hk : Ok T xs) (i : Nat) (hi : i < xs.length) (h0 : xs.getD i 0 = 0) : out.getD i 0 = 0 := by
 have e1 : q T xs i = 0 := by rw [q, h0]; simp
 have e2 : r T xs i = 0 := by rw [r, h0]; simp
 rcases h.one i hi with e | e
 ·omega
 ·exact absurd e2 (h.rest hk i hi e)
theorem IsSplit.mono (h : IsSplit T xs out) (hk : Ok T xs) (i k : Nat) (hi : i < xs.length) (hk' : k < xs.length) (hx : xs.getD k 0 < xs.getD i 0 ∨ (xs.getD k 0 = xs.getD i 0 ∧ i < k)) : out.getD k 0 ≤ out.getD i 0 := by
 have hq : q T xs k ≤ q T xs i := Int.ediv_le_ediv hk.a0 (Int.mul_le_mul_of_nonneg_left (by omega) hk.t0)
 have hi1 := h.one i hi
 have hk1 := h.one k hk'
 refine Classical.byContradiction fun hn => ?_
 have hqe : q T xs k = q T xs i := by omega
 have e1 : out.getD k 0 = q T xs k + 1 := by omega
 have e2 : out.getD i 0 = q T xs i := by omega
 have h1 := h.ord k i hk' hi e1 e2
 have a1 := eq_qr T xs i
 have a2 := eq_qr T xs k
 rw [hqe] at a2
 have a3 : T * xs.getD k 0 ≤ T * xs.getD i 0 := Int.mul_le_mul_of_nonneg_left (by omega) hk.t0
 rcases hx with hx | ⟨hx, hlt⟩
 ·have a4 : T * xs.getD k 0 = T * xs.getD i 0 := by omega
  have a5 : T * (xs.getD i 0 - xs.getD k 0) = 0 := by rw [Int.mul_sub]; omega
  have hT : T = 0 := by
   rcases Int.mul_eq_zero.1 a5 with h | h
   ·exact h
   ·omega
  refine h.rest hk k hk' e1 ?_
  rw [r, hT]
  simp
 ·rw [hx] at a2
  omega
end Sp

namespace Go.Proofs.YtgceecnlgjmghaaDoor.spl
open Go.RowKit Go.Proofs.YtgceecnlgjmghaaDoor.base St Go.Proofs.YtgceecnlgjmghaaDoor.srt
open Go.Proofs.YtgceecnlgjmghaaDoorW.PrintWords
set_option linter.unusedSimpArgs false
attribute [local go_sem] Oper.semAt_some
theorem md_at {T : Int} {xs : List Int} (h : Sp.Ok T xs) (hf : ∀ x ∈ xs, Ar.fits x = true) (k : Nat) (hk : k < xs.length) : PH.arith_MulDiv.f T (xs.getD k 0) xs.sum = some (Sp.q T xs k, Sp.r T xs k, true) := by
 have h1 : Ar.fits T = true := by have := h.t0; have := h.t1; simp [Ar.fits]; omega
 have h2 : Ar.fits xs.sum = true := by have := h.a0; have := h.a1; simp [Ar.fits]; omega
 have h3 : Ar.fits (xs.getD k 0) = true := by
  rw [List.getD_eq_getElem?_getD, List.getElem?_eq_getElem hk]
  exact hf _ (List.getElem_mem hk)
 have h4 : Ar.fits (T * xs.getD k 0 / xs.sum) = true := by have := h.q0 k; have := h.q1 k; have := h.t1; unfold Sp.q at *; simp only [Ar.fits, Bool.and_eq_true, decide_eq_true_eq]; omega
 have h5 := h.a0
 unfold PH.arith_MulDiv.f
 rw [if_pos ⟨h1, h3, h2⟩]
 simp only [Ar.mdQ, Ar.mdR, Ar.mdI, Ar.fitV, h4, h5, Sp.q, Sp.r, and_self, if_true, decide_true, Bool.and_self]
theorem infoI : (Tryd.prog.info? 2).map (fun i => (i.zero, i.size, i.bytes)) = some (some (.int .i64 0), 1, 8) := by kernel_rfl
theorem Ri.cell {W : World} {base g n cap : Nat} {out : List Int} (h : Ri W base (.slice (some ⟨g, 0, none⟩) n cap) out) (hl : out.length = n) (i : Nat) (hi : i < n) : W.cell? ⟨g, i, none⟩ = some (.int .i64 (out.getD i 0)) ∧ W.frozen? ⟨g, i, none⟩ = false := by
 have h1 := h.own
 rw [hl] at h1
 have h2 := own_at_of (enc := Value.int .i64) (d := 0) h1 (i : Int) (by omega) (by omega)
 simpa [rdOf, List.getD_eq_getElem?_getD] using h2
/-- While the units are given out: what is left, what each has, the sorted shares. -/
structure M2 (w : World) (gl go n cap g : Nat) (d : Array Sh) (left : Int) (out : List Int) (W : World) : Prop where
 lb : Lb gl left W
 ro : Ri W w.heap.size (.slice (some ⟨go, 0, none⟩) n cap) out
 rw : ∃ c : Array Value, W.heap[g]? = some (.cells c TSh (0, 0)) ∧ ∀ i, i < d.size → c[i * 3]? = some (.int .i64 d[i]!.q) ∧ c[i * 3 + 1]? = some (.int .i64 d[i]!.r) ∧ c[i * 3 + 2]? = some (.int .i64 d[i]!.p)
 ne : go ≠ gl
 n1 : g ≠ gl
 n2 : g ≠ go
 gg : w.heap.size ≤ gl
 bel : Below w.heap.size w W
theorem M2.of {w W V V2 : World} {gl go n cap g : Nat} {vl : Value} {left : Int} {out : List Int} {sh : List Sh} {d : Array Sh} (h : M1 w gl go n cap vl left out sh W) (hB : Below W.heap.size W V) (hS : SR V g d V2) (hg : W.heap.size ≤ g) : M2 w gl go n cap g d left out V2 := by
 have hgl : gl < W.heap.size := (Array.getElem?_eq_some_iff.1 h.lb).1
 obtain ⟨cells, hgo⟩ := h.goL
 have hgo' : go < W.heap.size := (Array.getElem?_eq_some_iff.1 hgo).1
 have hB2 : Below W.heap.size W V2 := ⟨hS.os.trans hB.os, hS.tape.trans hB.tape, hS.output.trans hB.output, Nat.le_trans hB.size hS.size, fun k hk => (hS.block k (Nat.lt_of_lt_of_le hk hB.size) (by omega)).trans (hB.block k hk)⟩
 have h2 := h.below hB2
 obtain ⟨c, hc, _, hx⟩ := hS.row
 exact ⟨h2.lb, h2.ro, ⟨c, hc, hx⟩, h2.ne, by omega, by omega, h2.gg, h2.bel⟩
section
variable {w W V : World} {gl go n cap g : Nat} {left : Int} {out : List Int} {d : Array Sh}
theorem M2.below (h : M2 w gl go n cap g d left out W) (hB : Below W.heap.size W V) : M2 w gl go n cap g d left out V := by
 obtain ⟨c, hc, hx⟩ := h.rw
 exact ⟨(hB.block gl (Array.getElem?_eq_some_iff.1 h.lb).1).trans h.lb, Kd.R_below h.ro hB, ⟨c, (hB.block g (Array.getElem?_eq_some_iff.1 hc).1).trans hc, hx⟩, h.ne, h.n1, h.n2, h.gg, h.bel.trans (hB.mono h.bel.size)⟩
theorem M2.cell (h : M2 w gl go n cap g d left out W) {i : Nat} (hi : i < d.size) : W.cell? ⟨g, i * 3, none⟩ = some (.int .i64 d[i]!.q) ∧ W.cell? ⟨g, i * 3 + 1, none⟩ = some (.int .i64 d[i]!.r) ∧ W.cell? ⟨g, i * 3 + 2, none⟩ = some (.int .i64 d[i]!.p) := by
 obtain ⟨c, hc, hx⟩ := h.rw
 obtain ⟨h0, h1, h2⟩ := hx i hi
 exact ⟨(blk_cell hc _).trans h0, (blk_cell hc _).trans h1, (blk_cell hc _).trans h2⟩
theorem M2.own_go (_h : M2 w gl go n cap g d left out W) : (Value.slice (some ⟨go, 0, none⟩) n cap).ownBlock = some go := by simp [Value.ownBlock]
theorem M2.take (h : M2 w gl go n cap g d left out W) (x : Int) : M2 w gl go n cap g d x out (W.setCell ⟨gl, 0, none⟩ (.int .i64 x)) := by
 obtain ⟨c, hc, hx⟩ := h.rw
 refine ⟨?_, h.ro.move (fun k hk => ?_), ⟨c, (Below.heap_setCell _ _ _ _ h.n1).trans hc, hx⟩, h.ne, h.n1, h.n2, h.gg, h.bel.setCell h.gg _⟩
 ·have := blk_set h.lb 0 (.int .i64 x)
  simpa [Lb] using this
 ·rw [h.own_go] at hk
  injection hk with hk
  subst hk
  exact Below.heap_setCell _ _ _ _ h.ne
theorem M2.put (h : M2 w gl go n cap g d left out W) (i : Nat) (x : Int) : M2 w gl go n cap g d left (out.set i x) (W.setCell ⟨go, i, none⟩ (.int .i64 x)) := by
 obtain ⟨c, hc, hx⟩ := h.rw
 have hbase : w.heap.size ≤ go := own_base h.ro.own go h.own_go
 have hp := (Kd.R_putg h.ro (i : Int) x).1
 exact ⟨(Below.heap_setCell _ _ _ _ (Ne.symm h.ne)).trans h.lb, hp, ⟨c, (Below.heap_setCell _ _ _ _ h.n2).trans hc, hx⟩, h.ne, h.n1, h.n2, h.gg, h.bel.setCell hbase _⟩
end
set_option maxRecDepth 100000 in
set_option maxHeartbeats 4000000 in
theorem split_is (w : World) (T : Int) (A : Option Addr) (c : Nat) (xs : List Int) (hC : Kd.C (Kd.int .i64) w A xs.length xs) (hc : xs.length ≤ c) (hf : ∀ x ∈ xs, Ar.fits x = true) (h : Sp.Ok T xs) :
  Calls Tryd.prog 44 #[.int .i64 T, .slice A xs.length c] w fun e w' => ∃ v out, e = .returned (.tuple #[v, .int .i64 0]) ∧ Ri w' w.heap.size v out ∧ Sp.IsSplit T xs out ∧ Below w.heap.size w w' := by
 have HS := Lib.hid (sum_is w A c xs hC hc hf)
 have hok : Sp.okW xs := ⟨h.n0, h.n1, h.w0⟩
 have hfs : Ar.fits xs.sum = true := by have := h.a0; have := h.a1; simp [Ar.fits]; omega
 have es : Sp.sumV xs = xs.sum := by rw [Sp.sumV, if_pos hok, Ar.fitV, if_pos hfs]
 have eb : Sp.sumB xs = true := by have := h.a0; have := h.a1; simp [Sp.sumB, hok, Ar.fitV, hfs, h.a0, h.a1]
 rw [es, eb] at HS
 have HC := Lib.hid hC
 have HF := Lib.hid hf
 have HK := Lib.hid h
 obtain ⟨n, hnn⟩ : ∃ n, xs.length = n := ⟨_, rfl⟩
 have HL := Lib.hid hnn
 obtain ⟨all, ha⟩ : ∃ a, xs.sum = a := ⟨_, rfl⟩
 have HA := Lib.hid ha
 rw [ha, hnn] at HS
 rw [hnn]
 have g1 : decide (T < 0) = false := decide_eq_false (by have := h.t0; omega)
 have g2 : decide (T ≥ 4611686018427387904) = false := decide_eq_false (by have := h.t1; omega)
 have g3 : decide (4611686018427387904 ≤ T) = false := decide_eq_false (by have := h.t1; omega)
 have HN := Lib.hid (show 0 < n ∧ n ≤ 4096 from by have := h.n0; have := h.n1; omega)
 clear hC hc hf h hok hfs es eb ha hnn
 go_enter Tryd.func44, Tryd.ntmps44
 go_wp2_with fail
 refine HS.out.mono ?_
 rintro e w1 ⟨rfl, B1⟩
 have HB := Lib.hid B1
 clear B1
 go_wp2_with (at_make; refine Kd.R_make (Kd.int .i64) (w0 := w) w.heap.size 2 rfl (N := 38) rfl 48 _ _ rfl (n : Int) rfl rfl Tryd.underlying48 (.int .i64 0) 8 infoI rfl (by decide) (by decide) 0 (ok := fun _ => True) (okp := fun _ => True) rfl (fun _ _ => trivial) trivial (by omega) ?mL ?mB ?mS ?_; (case mL => (have := HN.out; omega)); (case mB => exact below_alloc HB.out _); (case mS => (have := HB.out.size; simp; omega)); intro v1 w2 ho hb hg hat; have HO := Lib.hid (And.intro ho (And.intro hb (And.intro hg hat))); clear ho hb hg hat)
 obtain ⟨go, cap, rfl, hgl, hM⟩ : ∃ go cap, v1 = .slice (some ⟨go, 0, none⟩) n cap ∧ go < w2.heap.size ∧ M1 w w1.heap.size go n cap (.slice none 0 0) T (List.replicate n 0) [] w2 := by
  obtain ⟨ho, hb, hg, b, hat1, hat2⟩ := HO.out
  obtain ⟨_, inner, ho2, _⟩ := id ho
  have hn := HN.out.1
  rcases ho2.2 with ⟨e1, h0⟩ | ⟨g, cap, cur, e1, hg1, hh, _⟩
  ·simp at h0; omega
  ·have e2 : (List.replicate ((n : Int)).toNat (0 : Int)).length = n := by simp
   rw [e2] at e1
   have e3 : v1.ownBlock = some g := by rw [e1]; simp [Value.ownBlock]
   have hge : w1.heap.size + 1 ≤ g := by rw [e3] at hat1; injection hat1 with hat1; subst hat1; simpa using hat2
   refine ⟨g, cap, e1, (Array.getElem?_eq_some_iff.1 hh).1, ⟨?_, ?_, Kd.R_nil _ _ _ _ _, by omega, HB.out.size, hb⟩⟩
   ·exact blk_grown (blk_new w1 _) hg (by simp)
   ·rw [← e1]
    simpa using ho
 have HM := Lib.hid hM
 clear HO hM HB HS
 go_loopg [10, 41] (n + 1) (fun kq v10 v41 w' => ∃ (i : Nat) (out : List Int), v41 = .int .i64 (i : Int) ∧ Aside0 (i ≤ n ∧ n + 1 ≤ kq + i) ∧ Aside0 (M1 w w1.heap.size go n cap v10 (T - ((Sp.qs T xs).take i).sum) out (Sp.shs T xs i) w') ∧ Aside0 (out.length = n ∧ ∀ k, k < i → out.getD k 0 = Sp.q T xs k))
 case atStart =>
  exact ⟨0, List.replicate n 0, rfl, ⟨by omega⟩, ⟨by simpa [Sp.shs] using HM.out⟩, ⟨by simp, fun k hk => absurd hk (Nat.not_lt_zero k)⟩⟩
 case round =>
  clear HM
  obtain ⟨i, out, rfl, HI, HM, HO⟩ := hrel
  by_cases hi : i < n
  ·obtain ⟨k1, rfl⟩ : ∃ k1, gk = k1 + 1 := ⟨gk - 1, by have := HI.out; omega⟩
   obtain ⟨ad, rfl, hc⟩ := cell_at HC.out i (by rw [HL.out]; exact hi)
   have hc2 := (HM.out.bel.cell (World.block_lt_of_cell? w _ hc)).trans hc
   clear hc
   obtain ⟨x, hx⟩ : ∃ x, xs.getD i 0 = x := ⟨_, rfl⟩
   rw [hx] at hc2
   have HX := Lib.hid hx
   have E3 := Lib.hid (show wrap64 ((i : Int) + 1) = ((i + 1 : Nat) : Int) by unfold wrap64; have := HN.out; omega)
   have t1 : ((i : Int)).toNat = i := by omega
   have p5 : ((0 : Int) ≤ (i : Int)) = True := eq_true (by omega)
   have p6 : ((i : Int) < (n : Int)) = True := eq_true (by omega)
   clear hx
   go_wp2_with fail
   have hmd := md_at HK.out HF.out i (by rw [HL.out]; exact hi)
   rw [HX.out, HA.out] at hmd
   have hq0 := HK.out.q0 i
   have hq1 := HK.out.q1 i
   have hqT := HK.out.t1
   obtain ⟨q, hq⟩ : ∃ q, Sp.q T xs i = q := ⟨_, rfl⟩
   obtain ⟨r, hr⟩ : ∃ r, Sp.r T xs i = r := ⟨_, rfl⟩
   rw [hq] at hmd hq0 hq1
   rw [hr] at hmd
   have HQ := Lib.hid (show Sp.shk T xs i = ⟨q, r, i⟩ by rw [Sp.shk, hq, hr])
   have HQ2 := Lib.hid hq
   have HQ3 := Lib.hid (And.intro hq0 (And.intro hq1 hqT))
   clear hq hr hq0 hq1 hqT
   refine (PH.arith_MulDiv.calls T x all q r true _ hmd).mono ?_
   rintro e w2 ⟨rfl, B2⟩
   have HM2 := Lib.hid (HM.out.below B2)
   clear HM B2 hmd hc2
   obtain ⟨l, hl⟩ : ∃ l, Sp.shs T xs i = l := ⟨_, rfl⟩
   rw [hl] at HM2
   have HSL := Lib.hid hl
   have HLL := Lib.hid (show l.length ≤ 4096 by rw [← hl, Sp.shs_len]; have := HN.out; omega)
   clear hl
   go_wp2_with ((with_reducible refine gate_builtin (b := .append) (xs := #[.tmp 54, .tmp 59]) rfl ?_); at_builtin; refine Kd.R_append kSh (w0 := w) w.heap.size rfl (.tmp 54) (.tmp 59) 121 TSh (.agg #[.int .i64 0, .int .i64 0, .int .i64 0]) 24 rfl Tryd.underlying121 infoSh rfl (by decide) (by decide) _ l ⟨q, r, i⟩ [.int .i64 q, .int .i64 r, .int .i64 (i : Int)] (fun _ => True) (fun _ => False) rfl rfl ?aP (fun _ hk => hk.elim) (fun _ _ => trivial) ?aO ?aB ?aS ?aL ?_; (case aP => exact kSh_mkM _ _ _ ⟨q, r, i⟩); (case aO => exact HM2.out.rl); (case aB => exact HM2.out.bel); (case aS => exact HM2.out.bel.size); (case aL => (have := HLL.out; omega)); intro v1 w3 hR hb hg hat; have HM3 := Lib.hid (HM2.out.share hR hb hg); clear hR hb hg hat HM2)
   have EL := Lib.hid (show wrap64 (T - ((Sp.qs T xs).take i).sum - q) = T - ((Sp.qs T xs).take (i + 1)).sum from by
    rw [Sp.lf_succ (by rw [HL.out]; exact hi), HQ2.out]
    have h1 := HK.out.lf (i + 1)
    rw [Sp.lf_succ (by rw [HL.out]; exact hi), HQ2.out] at h1
    have h2 := HQ3.out
    unfold wrap64
    omega)
   refine (take_is w3 w1.heap.size q _ HM3.out.lb).mono ?_
   rintro e w4' ⟨rfl, rfl⟩
   have hM4 := HM3.out.take (wrap64 (T - ((Sp.qs T xs).take i).sum - q))
   rw [EL.out] at hM4 ⊢
   generalize w3.setCell ⟨w1.heap.size, 0, none⟩ (.int .i64 (T - ((Sp.qs T xs).take (i + 1)).sum)) = w4 at hM4 ⊢
   have HM4 := Lib.hid hM4
   obtain ⟨c0, f0⟩ := hM4.ro.cell HO.out.1 i hi
   clear hM4 HM3
   go_wp2
   go_roundg k1
   case measure => omega
   case rel =>
    refine ⟨i + 1, out.set i q, by rw [E3.out], ⟨by have := HI.out; omega⟩, ⟨?_⟩, ⟨by rw [List.length_set]; exact HO.out.1, fun k hk => ?_⟩⟩
    ·have := HM4.out.put i q
     rw [Sp.shs_succ, HSL.out, HQ.out]
     exact this
    ·rw [Sp.getD_set _ _ _ _ (by rw [HO.out.1]; omega)]
     by_cases e : k = i
     ·rw [if_pos e, e, HQ2.out]
     ·rw [if_neg e]
      exact HO.out.2 k (by omega)
  ·have hin : i = n := by have := HI.out; omega
   rw [hin] at HM HO
   have HQO := Lib.hid (show out = Sp.qs T xs from Sp.ext_getD _ _ (by rw [HO.out.1, Sp.qs_len, HL.out]) (fun k hk => by
    have hk' : k < n := by rw [← HO.out.1]; exact hk
    rw [HO.out.2 k hk', Sp.qs_get (by rw [HL.out]; exact hk')]))
   obtain ⟨A2, c2, rfl, _, hC2⟩ := Kd.R_reads HM.out.rl
   have HX := Lib.hid (fun V (hB : Kd.C kSh V A2 (Sp.shs T xs n).length (Sp.shs T xs n)) => ordered_is V A2 c2 (Sp.shs T xs n) hB (by rw [Sp.shs_len]; exact HN.out.1) (by rw [Sp.shs_len]; have := HN.out.2; omega) (fun x hx => by
    obtain ⟨k, hk, rfl⟩ := List.mem_map.1 hx
    have := HN.out.2
    have : k < n := by simpa using hk
    simp only [Sp.shk]
    omega))
   have HC2 := Lib.hid hC2
   clear hC2
   rw [Sp.shs_len] at HX HC2 ⊢
   go_wp2_with fail
   refine (HX.out _ HC2.out).mono ?_
   rintro e w3 ⟨g, cap2, d, w2b, rfl, hg, hS, hB, hP, hS2⟩
   have hOr := Sp.Ord.of (T := T) (xs := xs) (d := d) (by rw [HL.out]; exact hP) (by rw [HL.out]; exact hS2)
   have HOr := Lib.hid hOr
   have hM2 := M2.of HM.out hB hS hg
   rw [HQO.out] at hM2
   have hI := Sp.Inv.start (d := d) HK.out
   rw [HL.out] at hI
   have HI2 := Lib.hid hI
   have HM2 := Lib.hid hM2
   have HD := Lib.hid (show d.size = n from hOr.size.trans HL.out)
   clear HM HO HX HC2 hg hS hB hP hS2 hOr hM2 hI HC
   go_wp2_with fail
   go_loopg [71] (n + 1) (fun kq v71 w' => ∃ (j : Nat) (left : Int) (out : List Int), v71 = .int .i64 (j : Int) ∧ Aside0 (j ≤ n ∧ n + 1 ≤ kq + j) ∧ Aside0 (M2 w w1.heap.size go n cap g d left out w') ∧ Aside0 (Sp.Inv T xs d j left out))
   case atStart =>
    exact ⟨0, _, _, rfl, ⟨by omega⟩, ⟨HM2.out⟩, ⟨HI2.out⟩⟩
   case round =>
    clear HM2 HI2 HI HQO hin hi
    obtain ⟨j, left, out, rfl, HJ, HM, HV⟩ := hrel
    by_cases hj : j < n
    ·obtain ⟨k1, rfl⟩ : ∃ k1, gk = k1 + 1 := ⟨gk - 1, by have := HJ.out; omega⟩
     obtain ⟨c0, c1, c2⟩ := HM.out.cell (i := j) (by rw [HD.out]; exact hj)
     obtain ⟨s, hs⟩ : ∃ s, d[j]! = s := ⟨_, rfl⟩
     rw [hs] at c0 c1 c2
     have HSs := Lib.hid hs
     clear hs
     have E3 := Lib.hid (show wrap64 ((j : Int) + 1) = ((j + 1 : Nat) : Int) by unfold wrap64; have := HN.out; omega)
     have t1 : ((j : Int)).toNat = j := by omega
     have p5 : ((0 : Int) ≤ (j : Int)) = True := eq_true (by omega)
     have p6 : ((j : Int) < (n : Int)) = True := eq_true (by omega)
     have hO := HOr.out
     obtain ⟨P, hPd⟩ : ∃ P, Sp.pl d j = P := ⟨_, rfl⟩
     have hPn : P < n := by rw [← hPd, ← HL.out]; exact (hO.is j (by rw [HL.out]; exact hj)).1
     have hsp : s.p = (P : Int) := by rw [← HSs.out, (hO.is j (by rw [HL.out]; exact hj)).2, Sp.shk, hPd]
     have HP := Lib.hid hPd
     obtain ⟨sq, sr, sp⟩ := s
     simp only at hsp
     subst hsp
     clear hPd hO
     go_upto_region 18 with fail
     have hM3 := HM.out.below (below_alloc (Below.refl _ _) (.cells #[.int .i64 sq, .int .i64 sr, .int .i64 (P : Int)] TSh))
     have hbx := blk_new wr (.cells #[.int .i64 sq, .int .i64 sr, .int .i64 (P : Int)] TSh)
     have hn1 : wr.heap.size ≠ w1.heap.size := by have := (Array.getElem?_eq_some_iff.1 HM.out.lb).1; omega
     have hn2 : wr.heap.size ≠ go := by obtain ⟨cc, hc⟩ := own_typed HM.out.ro.own go (by simp [Value.ownBlock]); have := (Array.getElem?_eq_some_iff.1 hc).1; omega
     clear c0 c1 c2 HM
     generalize wr.alloc (.cells #[.int .i64 sq, .int .i64 sr, .int .i64 (P : Int)] TSh) = V at hM3 hbx ⊢
     generalize wr.heap.size = sa at hbx hn1 hn2 ⊢
     have HM := Lib.hid hM3
     have c0 : V.cell? ⟨w1.heap.size, 0, none⟩ = some (.int .i64 left) := (blk_cell hM3.lb 0).trans rfl
     clear hM3
     by_cases hlt : 0 < left
     ·have g4 : decide (left > 0) = true := decide_eq_true hlt
      have g5 : decide (0 < left) = true := decide_eq_true hlt
      have EL := Lib.hid (show wrap64 (left - 1) = left - 1 by have h1 := HV.out.l1 HK.out; have h2 := HK.out.t1; unfold wrap64; omega)
      have hb := HV.out.bd HK.out P (by rw [HL.out]; exact hPn)
      obtain ⟨o, ho⟩ : ∃ o, out.getD P 0 = o := ⟨_, rfl⟩
      have EO := Lib.hid (show wrap64 (o + 1) = o + 1 by rw [ho] at hb; have h2 := HK.out.t1; unfold wrap64; omega)
      have HOo := Lib.hid ho
      clear hb
      go_upto_region 19 with fail
      have HMd := Lib.hid (HM.out.below (Below.refl _ V).drew)
      have hbd : V.drew.heap[sa]? = some (.cells #[.int .i64 sq, .int .i64 sr, .int .i64 (P : Int)] TSh (0, 0)) := hbx
      have hl0 := HMd.out.lb
      have d0 : V.drew.cell? ⟨sa, 2, none⟩ = some (.int .i64 (P : Int)) := (blk_cell hbd 2).trans rfl
      obtain ⟨d1, d2⟩ := HMd.out.ro.cell (HV.out.len.trans HL.out) P hPn
      rw [ho] at d1
      have q1 : ((P : Int)).toNat = P := by omega
      have q2 : ((0 : Int) ≤ (P : Int)) = True := eq_true (by omega)
      have q3 : ((P : Int) < (n : Int)) = True := eq_true (by omega)
      have HT := Lib.hid (fun V (q : Lb w1.heap.size left V) => take_is V w1.heap.size 1 left q)
      clear c0 ho
      go_region_with (go_at_call 65; refine (HT.out _ ?_).mono ?_; exact hl0; rintro e w5' ⟨rfl, rfl⟩; have K5 := HMd.out.take (wrap64 (left - 1)); have B5 := (Below.heap_setCell V.drew ⟨w1.heap.size, 0, none⟩ (.int .i64 (wrap64 (left - 1))) sa hn1).trans hbd; revert K5 B5; rw [EL.out]; generalize V.drew.setCell ⟨w1.heap.size, 0, none⟩ (.int .i64 (left - 1)) = w5; intro K5 B5; have e0 : w5.cell? ⟨sa, 2, none⟩ = some (.int .i64 (P : Int)) := (blk_cell B5 2).trans rfl; obtain ⟨e1, e2⟩ := K5.ro.cell (HV.out.len.trans HL.out) P hPn; rw [HOo.out] at e1)
      all_goals go_wp2
      all_goals (
       go_roundg k1
       case measure => omega
       case rel =>
        refine ⟨j + 1, left - 1, out.set P (out.getD P 0 + 1), by rw [E3.out], ⟨by have := HJ.out; omega⟩, ⟨?_⟩, ⟨?_⟩⟩
        ·have := K5.put P (o + 1)
         rw [HOo.out, EO.out]
         exact this
        ·have := HV.out.yes HOr.out (by rw [HL.out]; exact hj) (by omega)
         rw [HP.out] at this
         exact this)
     ·have g4 : decide (left > 0) = false := decide_eq_false hlt
      have g5 : decide (0 < left) = false := decide_eq_false hlt
      go_wp2
      go_roundg k1
      case measure => omega
      case rel =>
       exact ⟨j + 1, left, out, by rw [E3.out], ⟨by have := HJ.out; omega⟩, ⟨HM.out⟩, ⟨HV.out.no (by omega)⟩⟩
    ·have hjn : j = n := by have := HJ.out; omega
     rw [hjn] at HV
     go_wp2
     go_ret2
     exact ⟨_, out, rfl, HM.out.ro, (HL.out ▸ HV.out).fin HK.out HOr.out, HM.out.bel⟩
end Go.Proofs.YtgceecnlgjmghaaDoor.spl

namespace Sp
noncomputable def outOf (T : Int) (xs : List Int) : List Int := open Classical in if h : ∃ out, IsSplit T xs out then h.choose else []
theorem outOf_is {T : Int} {xs out : List Int} (h : IsSplit T xs out) : outOf T xs = out := by
 have hx : ∃ out, IsSplit T xs out := ⟨out, h⟩
 unfold outOf
 rw [dif_pos hx]
 exact hx.choose_spec.unique h
/-- May it be split? -/
def okB (T : Int) (xs : List Int) : Bool := sumB xs && decide (0 ≤ T) && decide (T < 4611686018427387904)
theorem okB_iff {T : Int} {xs : List Int} : okB T xs = true ↔ Ok T xs := by
 simp only [okB, sumB, Bool.and_eq_true, decide_eq_true_eq]
 constructor
 ·rintro ⟨⟨⟨h1, ⟨h2, h3⟩, h4⟩, h5⟩, h6⟩
  rw [Ar.fitV, if_pos h2] at h3 h4
  exact ⟨h5, h6, h1.1, h1.2.1, h1.2.2, h3, h4⟩
 ·rintro ⟨h1, h2, h3, h4, h5, h6, h7⟩
  have hf : Ar.fits xs.sum = true := by simp [Ar.fits]; omega
  rw [Ar.fitV, if_pos hf]
  exact ⟨⟨⟨⟨h3, h4, h5⟩, ⟨hf, h6⟩, h7⟩, h1⟩, h2⟩
end Sp
namespace Go.Proofs.YtgceecnlgjmghaaDoor.PH
open Go.RowKit Go.Proofs.YtgceecnlgjmghaaDoorW.PrintWords Go.Proofs.YtgceecnlgjmghaaDoor.spl
noncomputable def split_Split.f (T : Int) (xs : List Int) : Option (List Int × Int) :=
 if ∀ x ∈ xs, Ar.fits x = true then some (if Sp.okB T xs = true then (Sp.outOf T xs, 0) else ([], 2)) else none
theorem split_Split.calls (T : Int) (A1 : Option Addr) (c1 : Nat) (l1 : List Int) (r1 : List Int) (r2 : Int) (w : World) (hr1 : Kd.C (Kd.int .i64) w A1 l1.length l1) (hc1 : l1.length ≤ c1) (h : split_Split.f T l1 = some (r1, r2)) :
  Calls Tryd.prog 44 #[.int .i64 T, .slice A1 l1.length c1] w fun e w' => ∃ v0_, e = .returned (.tuple #[v0_, .int .i64 r2]) ∧ Kd.R (Kd.int .i64) 2 w' w.heap.size (fun _ => True) v0_ r1 ∧ Below w.heap.size w w' := by
 unfold split_Split.f at h
 split at h
 ·rename_i hf
  simp only [Option.some.injEq] at h
  by_cases hk : Sp.okB T l1 = true
  ·rw [if_pos hk] at h
   simp only [Prod.mk.injEq] at h
   obtain ⟨rfl, rfl⟩ := h
   refine (split_is w T A1 c1 l1 hr1 hc1 hf (Sp.okB_iff.1 hk)).mono ?_
   rintro e w' ⟨v, out, rfl, hR, hS, hB⟩
   rw [Sp.outOf_is hS]
   exact ⟨v, rfl, hR, hB⟩
  ·rw [if_neg hk] at h
   simp only [Prod.mk.injEq] at h
   obtain ⟨rfl, rfl⟩ := h
   refine (split_no w T A1 c1 l1 hr1 hc1 hf ?_).mono ?_
   ·simp only [Sp.okB, Bool.and_eq_true, decide_eq_true_eq, not_and] at hk
    by_cases h1 : Sp.sumB l1 = true
    ·by_cases h2 : 0 ≤ T
     ·exact .inr (.inr (by have := hk ⟨h1, h2⟩; omega))
     ·exact .inr (.inl (by omega))
    ·exact .inl (by simpa using h1)
   ·rintro e w' ⟨rfl, hB⟩
    exact ⟨_, rfl, Kd.R_nil _ _ _ _ _, hB⟩
 ·cases h
noncomputable def split_Even.f (T n : Int) : Option (List Int × Int) :=
 if n < 1 ∨ 4096 < n then some ([], 2) else split_Split.f T (List.replicate n.toNat 1)
set_option linter.unusedSimpArgs false
attribute [local go_sem] Oper.semAt_some
end Go.Proofs.YtgceecnlgjmghaaDoor.PH

