/- Chapter 28, as numbers: what the document's Check, Left, Reach, Take, Cut answer is what package sched answers. No conditions but that a schedule has at most 4200 slices. Chapter 28, as numbers: Left, Reach, Take, Cut and Same. No conditions but that a schedule has at most 4200 slices. -/
import Derived.Test.YtgceecnlgjmghaaDoorMSc2
import Derived.Test.YtgceecnlgjmghaaDoorPure28S
import Derived.Test.YtgceecnlgjmghaaDoorPHx3
import Derived.Test.YtgceecnlgjmghaaDoorPHx7
import Derived.Test.YtgceecnlgjmghaaDoorPHx4
import Derived.Test.YtgceecnlgjmghaaDoorPHx6
import Derived.Test.YtgceecnlgjmghaaDoorPHx8
import Derived.Test.YtgceecnlgjmghaaDoorPHx9
namespace Go.Proofs.YtgceecnlgjmghaaDoor.pu28
open Go.RowKit Go.Proofs.YtgceecnlgjmghaaDoorW.PrintWords Go.Proofs.YtgceecnlgjmghaaDoor.sch Go.Proofs.YtgceecnlgjmghaaDoor.PH
theorem rdn (l : List Sl) (i : Nat) : rd_T61 l (i : Int) = l.getD i zs := by simp [rd_T61]
theorem dropat (l : List Sl) (i : Nat) (h : i < l.length) : l.drop i = l.getD i zs :: l.drop (i + 1) := by
 rw [List.drop_eq_getElem_cons h, List.getD_eq_getElem?_getD, List.getElem?_eq_getElem h]
 rfl
theorem takeat (l : List Sl) (i : Nat) (h : i < l.length) : l.take (i + 1) = l.take i ++ [l.getD i zs] := by
 rw [List.take_succ_eq_append_getElem h, List.getD_eq_getElem?_getD, List.getElem?_eq_getElem h]
 rfl
theorem month_ev (x : Int) : quittanceref28_Month.f x = some (mon x) := by
 unfold quittanceref28_Month.f mon
 by_cases h : x ≥ 1
 ·rw [if_pos h, decide_eq_true (show 1 ≤ x from h), Bool.true_and]
 ·rw [if_neg h, decide_eq_false (show ¬ 1 ≤ x from h), Bool.false_and]
theorem may_is (k : Nat) (a b kd : Int) (d : Bool) (hk : kd = 1 ∨ kd = 2) : quittanceref28_may.f (k + 1) a b d kd = some (!bad kd ⟨a, b, d⟩) := by
 unfold quittanceref28_may.f bad
 simp only [quittanceref28_may.j0, month_ev, Option.bind_some]
 by_cases h1 : b < 0
 ·simp [h1]
 ·rw [if_neg h1]
  by_cases h2 : b ≥ 4611686018427387904
  ·simp [h2]
  ·by_cases h3 : a = 0
   ·subst h3
    rcases hk with rfl | rfl <;> cases d <;> simp [h1, h2]
   ·have e2 : ¬ (4611686018427387904 ≤ b) := h2
    simp only [h3, e2, decide_false, Bool.false_eq_true, if_false, h1, mon, Bool.or_false, Bool.false_and]
    congr 1
    by_cases h4 : a < 0
    ·simp [h4, show ¬ 1 ≤ a by omega]
    ·by_cases h5 : 119988 < a
     ·simp [h5, show ¬ a ≤ 119988 by omega]
     ·simp [h4, h5, show 1 ≤ a by omega, show a ≤ 119988 by omega]
/-- The month ahead of a place. -/
def pv (l : List Sl) (i : Nat) : Int := if i = 0 then 0 else (l.getD (i - 1) zs).f0
def Pr (kd : Int) (l : List Sl) (i : Nat) : Prop := (∀ x ∈ l.drop i, bad kd x = false) ∧ (kd = 1 → rise (pv l i) (l.drop i) = true) ∧ all1 l < 4611686018427387904
theorem Pr.step {kd : Int} {l : List Sl} {i : Nat} (h : i < l.length) : Pr kd l i ↔ bad kd (l.getD i zs) = false ∧ (kd = 1 → pv l i < (l.getD i zs).f0) ∧ Pr kd l (i + 1) := by
 unfold Pr
 rw [dropat l i h, show pv l (i + 1) = (l.getD i zs).f0 from by unfold pv; rw [if_neg (by omega)]; rfl]
 generalize l.getD i zs = x
 simp only [List.forall_mem_cons, rise, Bool.and_eq_true, decide_eq_true_eq]
 constructor
 ·rintro ⟨⟨h1, h2⟩, h3, h4⟩
  exact ⟨h1, fun e => (h3 e).1, h2, fun e => (h3 e).2, h4⟩
 ·rintro ⟨h1, h2, h3, h4, h5⟩
  exact ⟨⟨h1, h3⟩, fun e => ⟨h2 e, h4 e⟩, h5⟩
theorem bad_am {kd : Int} {x : Sl} (h : bad kd x = false) : 0 ≤ x.f1 ∧ x.f1 < 4611686018427387904 := by
 simp only [bad, Bool.or_eq_false_iff, decide_eq_false_iff_not] at h
 omega
theorem bad_m1 {x : Sl} (h : bad 1 x = false) : 0 < x.f0 := by
 simp [bad] at h
 omega
theorem sum0 : ∀ l : List Sl, (∀ x ∈ l, 0 ≤ x.f1) → 0 ≤ all1 l
 | [], _ => by simp [all1]
 | x :: l, h => by
  have := sum0 l fun y hy => h y (by simp [hy])
  have := h x (by simp)
  simp only [all1, List.map_cons, List.sum_cons] at *
  omega
theorem all_cut (l : List Sl) (i : Nat) : all1 l = all1 (l.take i) + all1 (l.drop i) := by
 unfold all1
 rw [← List.sum_append, ← List.map_append, List.take_append_drop]
theorem all_take (l : List Sl) (i : Nat) (h : i < l.length) : all1 (l.take (i + 1)) = all1 (l.take i) + (l.getD i zs).f1 := by
 rw [takeat l i h]; simp [all1]
open Classical in
theorem check_l0 (a0 a1 a2 kd : Int) (l : List Sl) (hn : l.length ≤ 4200) (hk : kd = 1 ∨ kd = 2) : ∀ (d i k : Nat), i + d = l.length → d + 3 < k → 0 ≤ all1 (l.take i) → all1 (l.take i) < 4611686018427387904 →
  quittanceref28_Check.l0 k (all1 (l.take i)) i a0 a1 a2 kd l = some (if Pr kd l i then 0 else 2) := by
 intro d
 induction d with
 | zero =>
  intro i k hi hkk h0 h1
  obtain ⟨k, rfl⟩ : ∃ m, k = m + 1 := ⟨k - 1, by omega⟩
  have e : l.take i = l := List.take_of_length_le (by omega)
  have e2 : l.drop i = [] := List.drop_eq_nil_of_le (by omega)
  rw [e] at h1
  rw [quittanceref28_Check.l0, if_neg (by omega), if_pos]
  unfold Pr
  rw [e2]
  exact ⟨by simp, fun _ => rfl, h1⟩
 | succ d ih =>
  intro i k hi hkk h0 h1
  obtain ⟨k, rfl⟩ : ∃ m, k = m + 1 := ⟨k - 1, by omega⟩
  obtain ⟨q, rfl⟩ : ∃ m, k = m + 1 := ⟨k - 1, by omega⟩
  have hil : i < l.length := by omega
  have hst := Pr.step (kd := kd) hil
  have hd := all_cut l (i + 1)
  have ht := all_take l i hil
  have ihh := ih (i + 1) (q + 1) (by omega) (by omega)
  rw [quittanceref28_Check.l0, if_pos (by omega), if_pos (by omega), rdn]
  rw [show quittanceref28_may.f (q + 1) (l.getD i zs).f0 (l.getD i zs).f1 (l.getD i zs).f2 kd = some (!bad kd (l.getD i zs)) from may_is q _ _ _ _ hk, Option.bind_some]
  cases hb : bad kd (l.getD i zs) with
  | true =>
   rw [if_neg (by simp), if_neg (fun z => by have := (hst.1 z).1; rw [hb] at this; exact absurd this (by simp))]
  | false =>
   obtain ⟨m0, m1⟩ := bad_am hb
   rw [if_pos (by simp)]
   have tail : (if wrap64 (all1 (l.take i) + (l.getD i zs).f1) ≥ 4611686018427387904 then some 2 else quittanceref28_Check.l0 (q + 1) (wrap64 (all1 (l.take i) + (l.getD i zs).f1)) (wrap64 ((i : Int) + 1)) a0 a1 a2 kd l) = some (if Pr kd l (i + 1) then 0 else 2) := by
    rw [w28 (by omega) (by omega)]
    by_cases h5 : all1 (l.take i) + (l.getD i zs).f1 ≥ 4611686018427387904
    ·rw [if_pos h5, if_neg]
     rintro ⟨z1, _, z3⟩
     have := sum0 _ fun x hx => (bad_am (z1 x hx)).1
     omega
    ·rw [if_neg h5, nx i (by omega), ← ht]
     exact ihh (by omega) (by omega)
   by_cases h3 : kd = 1
   ·rw [if_pos h3]
    by_cases h4 : i = 0
    ·subst h4
     rw [if_neg (by simp), tail]
     have := bad_m1 (h3 ▸ hb)
     by_cases hp : Pr kd l (0 + 1)
     ·rw [if_pos hp, if_pos (hst.2 ⟨hb, fun _ => by simpa [pv] using this, hp⟩)]
     ·rw [if_neg hp, if_neg (fun z => hp (hst.1 z).2.2)]
    ·have e1 : wrap64 ((i : Int) - 1) = ((i - 1 : Nat) : Int) := by rw [w28] <;> omega
     rw [if_pos (by omega), e1, if_pos (by omega), if_pos (by omega), rdn]
     have ep : pv l i = (l.getD (i - 1) zs).f0 := by unfold pv; rw [if_neg h4]
     by_cases h6 : (l.getD (i - 1) zs).f0 ≥ (l.getD i zs).f0
     ·rw [if_pos h6, if_neg (fun z => by have := (hst.1 z).2.1 h3; omega)]
     ·rw [if_neg h6, tail]
      by_cases hp : Pr kd l (i + 1)
      ·rw [if_pos hp, if_pos (hst.2 ⟨hb, fun _ => by omega, hp⟩)]
      ·rw [if_neg hp, if_neg (fun z => hp (hst.1 z).2.2)]
   ·rw [if_neg h3, tail]
    by_cases hp : Pr kd l (i + 1)
    ·rw [if_pos hp, if_pos (hst.2 ⟨hb, fun e => absurd e h3, hp⟩)]
    ·rw [if_neg hp, if_neg (fun z => hp (hst.1 z).2.2)]
theorem okS_iff {a0 a2 a3 : Int} {l : List Sl} : okS a0 a2 a3 l = true ↔ hd a0 a2 a3 l.length = true ∧ Pr a3 l 0 := by
 simp only [okS, Pr, Bool.and_eq_true, decide_eq_true_eq, List.drop_zero, List.all_eq_true, Bool.not_eq_true', Bool.or_eq_true, ne_eq]
 constructor
 ·rintro ⟨⟨⟨h1, h2⟩, h3⟩, h4⟩
  exact ⟨h1, h2, fun e => by rcases h3 with h3 | h3; exact absurd e h3; exact h3, h4⟩
 ·rintro ⟨h1, h2, h3, h4⟩
  refine ⟨⟨⟨h1, h2⟩, ?_⟩, h4⟩
  by_cases e : a3 = 1
  ·exact .inr (h3 e)
  ·exact .inl e
theorem check_is (a0 a1 a2 a3 : Int) (l : List Sl) (hn : l.length ≤ 4200) (k : Nat) (hk : 4210 ≤ k) : quittanceref28_Check.f k a0 a1 a2 a3 l = some (chk a0 a2 a3 l) := by
 obtain ⟨k, rfl⟩ : ∃ m, k = m + 1 := ⟨k - 1, by omega⟩
 have no : hd a0 a2 a3 l.length = false → quittanceref28_Check.j0 (k + 1) true a0 a1 a2 a3 l = some (chk a0 a2 a3 l) := fun h => by
  rw [quittanceref28_Check.j0, if_pos rfl, chk_no (by rw [okS, h]; simp)]
 have bx : hd a0 a2 a3 l.length = true ↔ a0 ≠ 0 ∧ 1 ≤ a2 ∧ a2 ≤ 1000000 ∧ (a3 = 1 ∨ a3 = 2) ∧ 1 ≤ l.length ∧ l.length ≤ 4096 := by
  simp only [hd, Bool.and_eq_true, Bool.or_eq_true, decide_eq_true_eq]
  constructor
  ·rintro ⟨⟨⟨⟨⟨q1, q2⟩, q3⟩, q4⟩, q5⟩, q6⟩
   exact ⟨q1, q2, q3, q4, q5, q6⟩
  ·rintro ⟨q1, q2, q3, q4, q5, q6⟩
   exact ⟨⟨⟨⟨⟨q1, q2⟩, q3⟩, q4⟩, q5⟩, q6⟩
 have nb : ¬ (a0 ≠ 0 ∧ 1 ≤ a2 ∧ a2 ≤ 1000000 ∧ (a3 = 1 ∨ a3 = 2) ∧ 1 ≤ l.length ∧ l.length ≤ 4096) → hd a0 a2 a3 l.length = false := fun h => by
  cases e : hd a0 a2 a3 l.length with
  | false => rfl
  | true => exact absurd (bx.1 e) h
 unfold quittanceref28_Check.f
 by_cases h1 : a0 = 0
 ·rw [if_pos h1]; exact no (nb (by omega))
 rw [if_neg h1]
 by_cases h2 : a2 < 1
 ·rw [if_pos h2]; exact no (nb (by omega))
 rw [if_neg h2]
 by_cases h3 : a2 > 1000000
 ·rw [if_pos h3]; exact no (nb (by omega))
 rw [if_neg h3]
 by_cases h4 : a3 < 1
 ·rw [if_pos h4]; exact no (nb (by omega))
 rw [if_neg h4]
 by_cases h5 : a3 > 2
 ·rw [if_pos h5]; exact no (nb (by omega))
 rw [if_neg h5]
 by_cases h6 : (l.length : Int) < 1
 ·rw [if_pos h6]; exact no (nb (by omega))
 rw [if_neg h6]
 by_cases h7 : (l.length : Int) > 4096
 ·rw [decide_eq_true h7]; exact no (nb (by omega))
 rw [decide_eq_false h7, quittanceref28_Check.j0, if_neg (by simp)]
 have hh : hd a0 a2 a3 l.length = true := bx.2 (by omega)
 have := check_l0 a0 a1 a2 a3 l hn (by omega) l.length 0 k (by omega) (by omega) (by simp [all1]) (by simp [all1])
 simp only [List.take_zero, show all1 [] = 0 from rfl, Int.natCast_zero] at this
 rw [this]
 unfold chk
 by_cases hp : Pr a3 l 0
 ·rw [if_pos hp, if_pos (okS_iff.2 ⟨hh, hp⟩)]
 ·rw [if_neg hp, if_neg (fun z => hp (okS_iff.1 z).2)]
end Go.Proofs.YtgceecnlgjmghaaDoor.pu28

namespace Go.Proofs.YtgceecnlgjmghaaDoor.pu28
open Go.RowKit Go.Proofs.YtgceecnlgjmghaaDoorW.PrintWords Go.Proofs.YtgceecnlgjmghaaDoor.sch Go.Proofs.YtgceecnlgjmghaaDoor.PH
theorem chk_ok {a0 a2 a3 : Int} {l : List Sl} (h : okS a0 a2 a3 l = true) : chk a0 a2 a3 l = 0 := by unfold chk; rw [if_pos h]
/-- What is open of some slices. -/
def osum (l : List Sl) : Int := ((l.filter opn).map (·.f1)).sum
theorem osum_app (a b : List Sl) : osum (a ++ b) = osum a + osum b := by simp [osum]
theorem osum_le (l : List Sl) (h : ∀ x ∈ l, 0 ≤ x.f1) : 0 ≤ osum l ∧ osum l ≤ all1 l := filter_sum opn l h
theorem osum_one (x : Sl) : osum [x] = if x.f2 = true then 0 else x.f1 := by
 cases h : x.f2 <;> simp [osum, opn, h]
theorem lft_is {a0 a2 a3 : Int} {l : List Sl} (h : okS a0 a2 a3 l = true) : lft a0 a2 a3 l = osum l := by
 obtain ⟨_, h2, h3⟩ := okS_parts h
 have := osum_le l fun x hx => (h2 x hx).1
 have h0 : lft a0 a2 a3 l = Ar.fitV (osum l) := by unfold lft; rw [if_pos h]; rfl
 rw [h0, Ar.fitV, if_pos]
 simp [Ar.fits]
 omega
theorem getD_mem (l : List Sl) (i : Nat) (h : i < l.length) : l.getD i zs ∈ l := by
 rw [List.getD_eq_getElem?_getD, List.getElem?_eq_getElem h]
 exact List.getElem_mem h
theorem take_nn {l : List Sl} (h : ∀ x ∈ l, 0 ≤ x.f1) (i : Nat) : 0 ≤ osum (l.take i) ∧ osum (l.take i) ≤ all1 l := by
 have h1 := osum_le (l.take i) fun x hx => h x (List.mem_of_mem_take hx)
 have h2 := all_cut l i
 have h3 := sum0 (l.drop i) fun x hx => h x (List.mem_of_mem_drop hx)
 omega
theorem left_l0 (a0 a1 a2 a3 : Int) (l : List Sl) (hn : l.length ≤ 4200) (h0 : ∀ x ∈ l, 0 ≤ x.f1) (h1 : all1 l < 4611686018427387904) : ∀ (d i k : Nat), i + d = l.length → d < k →
  quittanceref28_Left.l0 k (osum (l.take i)) i a0 a1 a2 a3 l = some (osum l) := by
 intro d
 induction d with
 | zero =>
  intro i k hi hk
  obtain ⟨k, rfl⟩ : ∃ m, k = m + 1 := ⟨k - 1, by omega⟩
  rw [quittanceref28_Left.l0, if_neg (by omega), List.take_of_length_le (by omega)]
 | succ d ih =>
  intro i k hi hk
  obtain ⟨k, rfl⟩ : ∃ m, k = m + 1 := ⟨k - 1, by omega⟩
  have hil : i < l.length := by omega
  have ihh := ih (i + 1) k (by omega) (by omega)
  have e : osum (l.take (i + 1)) = osum (l.take i) + if (l.getD i zs).f2 = true then 0 else (l.getD i zs).f1 := by rw [takeat l i hil, osum_app, osum_one]
  have b1 := take_nn h0 (i + 1)
  rw [quittanceref28_Left.l0, if_pos (by omega), if_pos (by omega), rdn, nx i (by omega)]
  by_cases hf : (l.getD i zs).f2 = true
  ·rw [if_pos hf] at e ⊢
   rw [Int.add_zero] at e
   rw [← e]
   exact ihh
  ·rw [if_neg hf] at e ⊢
   rw [w28 (by omega) (by omega), ← e]
   exact ihh
theorem left_is (a0 a1 a2 a3 : Int) (l : List Sl) (hn : l.length ≤ 4200) (k : Nat) (hk : 4210 ≤ k) : quittanceref28_Left.f k a0 a1 a2 a3 l = some (lft a0 a2 a3 l) := by
 unfold quittanceref28_Left.f
 rw [check_is a0 a1 a2 a3 l hn k hk, Option.bind_some]
 by_cases ho : okS a0 a2 a3 l = true
 ·obtain ⟨_, h2, h3⟩ := okS_parts ho
  rw [if_pos (chk_ok ho), lft_is ho]
  have := left_l0 a0 a1 a2 a3 l hn (fun x hx => (h2 x hx).1) h3 l.length 0 k (by omega) (by omega)
  simpa [osum] using this
 ·have hn : okS a0 a2 a3 l = false := by simpa using ho
  rw [chk_no hn, if_neg (by decide)]
  unfold lft
  rw [if_neg ho]
theorem reach_is (a0 a1 a2 a3 : Int) (l : List Sl) (at_ m : Int) (hn : l.length ≤ 4200) (k : Nat) (hk : 4210 ≤ k) : quittanceref28_Reach.f k a0 a1 a2 a3 l at_ m = sched_Reach.f a0 a1 a2 a3 l at_ m := by
 unfold quittanceref28_Reach.f sched_Reach.f
 rw [check_is a0 a1 a2 a3 l hn k hk, Option.bind_some]
 obtain ⟨k, rfl⟩ : ∃ q, k = q + 1 := ⟨k - 1, by omega⟩
 have no : rchE a0 a2 a3 l at_ m = 2 → quittanceref28_Reach.j0 (k + 1) at_ m true a0 a1 a2 a3 l = some (if rchE a0 a2 a3 l at_ m = 0 then (a0, a1, a2, a3, rchL l at_ m, 0) else (0, 0, 0, 0, [], rchE a0 a2 a3 l at_ m)) := fun h => by
  rw [quittanceref28_Reach.j0, if_pos rfl, h, if_neg (by decide)]
 by_cases ho : okS a0 a2 a3 l = true
 ·rw [if_pos (chk_ok ho)]
  by_cases h1 : at_ < 0
  ·rw [if_pos h1]; exact no (by unfold rchE; rw [if_neg (by omega)])
  rw [if_neg h1]
  by_cases h2 : at_ ≥ (l.length : Int)
  ·rw [if_pos h2]; exact no (by unfold rchE; rw [if_neg (by omega)])
  rw [if_neg h2, month_ev, Option.bind_some]
  cases hm : mon m with
  | false => exact no (by unfold rchE; rw [if_neg (by simp [hm])])
  | true =>
   obtain ⟨i, rfl⟩ : ∃ i : Nat, at_ = i := ⟨at_.toNat, by omega⟩
   have hil : i < l.length := by omega
   have hE : rchE a0 a2 a3 l i m = if (l.getD i zs).f0 = 0 then 0 else 9 := by
    unfold rchE
    rw [if_pos ⟨ho, by omega, by omega, hm⟩, Int.toNat_natCast]
   have hx := (okS_iff.1 ho).2.1 _ (by rw [List.drop_zero]; exact getD_mem l i hil)
   rw [quittanceref28_Reach.j0, if_neg (by simp), hE]
   by_cases h3 : a3 = 1
   ·subst h3
    have := bad_m1 hx
    rw [if_pos rfl, if_neg (show ¬ (l.getD i zs).f0 = 0 by omega), if_neg (by decide)]
   ·rw [if_neg h3, if_pos (by omega), if_pos (by omega), rdn]
    by_cases h4 : (l.getD i zs).f0 = 0
    ·rw [if_pos h4, if_pos h4, if_pos rfl]
     have hlen : (([] : List Sl).length + l.length) < 5864062014805 := by simp; omega
     simp only [Option.bind_some]
     rw [if_pos hlen]
     simp only [List.nil_append]
     rw [if_pos (by omega), rdn]
     rfl
    ·rw [if_neg h4, if_neg h4, if_neg (by decide)]
 ·have hf : okS a0 a2 a3 l = false := by simpa using ho
  rw [chk_no hf, if_neg (by decide)]
  exact no (by unfold rchE; rw [if_neg (fun z => ho z.1)])
/-- Of some slices those that fall due. -/
def cur (m : Int) (l : List Sl) (i : Nat) : List Sl := (l.take i).map (don (sch.due m)) ++ l.drop i
def nsum (m : Int) (l : List Sl) : Int := ((l.filter (sch.due m)).map (·.f1)).sum
theorem nsum_app (m : Int) (a b : List Sl) : nsum m (a ++ b) = nsum m a + nsum m b := by simp [nsum]
theorem nsum_one (m : Int) (x : Sl) : nsum m [x] = if sch.due m x = true then x.f1 else 0 := by
 cases h : sch.due m x <;> simp [nsum, h]
theorem cur_len (m : Int) (l : List Sl) (i : Nat) : (cur m l i).length = l.length := by
 unfold cur
 rw [List.length_append, List.length_map, List.length_take, List.length_drop]
 omega
theorem cur_at (m : Int) (l : List Sl) (i : Nat) (h : i < l.length) : (cur m l i).getD i zs = l.getD i zs := by
 unfold cur
 rw [getD_app _ _ i (by rw [List.length_map, List.length_take]; omega), dropat l i h]
 rfl
theorem cur_step (m : Int) (l : List Sl) (i : Nat) (h : i < l.length) : cur m l (i + 1) = (cur m l i).set i (don (sch.due m) (l.getD i zs)) := by
 have hl : ((l.take i).map (don (sch.due m))).length = i := by rw [List.length_map, List.length_take]; omega
 unfold cur
 rw [takeat l i h, List.set_append_right _ _ (by omega), hl, Nat.sub_self, dropat l i h]
 simp
theorem set_same (l : List Sl) (i : Nat) (h : i < l.length) : l.set i (l.getD i zs) = l := by
 rw [List.getD_eq_getElem?_getD, List.getElem?_eq_getElem h]
 simp
theorem due_ref (m : Int) (x : Sl) (hm : mon m = true) : sch.due m x = true ↔ ¬ x.f2 = true ∧ mon x.f0 = true ∧ x.f0 ≤ m := by
 simp only [mon, Bool.and_eq_true, decide_eq_true_eq] at hm ⊢
 simp only [sch.due, Bool.and_eq_true, decide_eq_true_eq, Bool.not_eq_true']
 constructor
 ·rintro ⟨⟨h1, h2⟩, h3⟩
  exact ⟨by simp [h1], ⟨h2, by omega⟩, h3⟩
 ·rintro ⟨h1, ⟨h2, _⟩, h3⟩
  exact ⟨⟨by simpa using h1, h2⟩, h3⟩
theorem take_l0 (a0 a1 a2 a3 m : Int) (l : List Sl) (hm : mon m = true) (hn : l.length ≤ 4200) (h0 : ∀ x ∈ l, 0 ≤ x.f1) (h1 : all1 l < 4611686018427387904) : ∀ (d i k : Nat), i + d = l.length → d < k →
  quittanceref28_Take.l0 k m (nsum m (l.take i)) i a0 a1 a2 a3 (cur m l i) = some (a0, a1, a2, a3, tkL m l, tkN m l, 0) := by
 intro d
 induction d with
 | zero =>
  intro i k hi hk
  obtain ⟨k, rfl⟩ : ∃ m, k = m + 1 := ⟨k - 1, by omega⟩
  have e : cur m l i = tkL m l := by
   unfold cur tkL
   rw [List.take_of_length_le (by omega), List.drop_eq_nil_of_le (by omega), List.append_nil]
  rw [quittanceref28_Take.l0, if_neg (by rw [cur_len]; omega), List.take_of_length_le (by omega), e]
  rfl
 | succ d ih =>
  intro i k hi hk
  obtain ⟨k, rfl⟩ : ∃ m, k = m + 1 := ⟨k - 1, by omega⟩
  have hil : i < l.length := by omega
  have ihh := ih (i + 1) k (by omega) (by omega)
  have e : nsum m (l.take (i + 1)) = nsum m (l.take i) + if sch.due m (l.getD i zs) = true then (l.getD i zs).f1 else 0 := by rw [takeat l i hil, nsum_app, nsum_one]
  have b1 : 0 ≤ nsum m (l.take (i + 1)) ∧ nsum m (l.take (i + 1)) ≤ all1 l := by
   have h1 := filter_sum (sch.due m) (l.take (i + 1)) fun x hx => h0 x (List.mem_of_mem_take hx)
   have h2 := all_cut l (i + 1)
   have h3 := sum0 (l.drop (i + 1)) fun x hx => h0 x (List.mem_of_mem_drop hx)
   have h4 : nsum m (l.take (i + 1)) = (((l.take (i + 1)).filter (sch.due m)).map (·.f1)).sum := rfl
   omega
  have ec := cur_step m l i hil
  rw [quittanceref28_Take.l0, if_pos (by rw [cur_len]; omega), if_pos (by omega), rdn, cur_at m l i hil, nx i (by omega)]
  by_cases hdue : sch.due m (l.getD i zs) = true
  ·obtain ⟨q1, q2, q3⟩ := (due_ref m _ hm).1 hdue
   rw [if_pos hdue] at e
   rw [don, if_pos hdue] at ec
   rw [if_neg q1, month_ev, Option.bind_some, if_pos q2, if_pos q3, w28 (by omega) (by omega), ← e, Int.toNat_natCast, ← ec]
   exact ihh
  ·rw [if_neg hdue, Int.add_zero] at e
   rw [don, if_neg hdue, ← cur_at m l i hil, set_same _ _ (by rw [cur_len]; exact hil)] at ec
   rw [← e, ← ec]
   by_cases q1 : (l.getD i zs).f2 = true
   ·rw [if_pos q1]; exact ihh
   ·rw [if_neg q1, month_ev, Option.bind_some]
    by_cases q2 : mon (l.getD i zs).f0 = true
    ·rw [if_pos q2, if_neg (fun q3 => hdue ((due_ref m _ hm).2 ⟨q1, q2, q3⟩))]; exact ihh
    ·rw [if_neg q2]; exact ihh
theorem take_is (a0 a1 a2 a3 m : Int) (l : List Sl) (hn : l.length ≤ 4200) (k : Nat) (hk : 4220 ≤ k) : quittanceref28_Take.f k a0 a1 a2 a3 l m = sched_Take.f a0 a1 a2 a3 l m := by
 unfold quittanceref28_Take.f sched_Take.f
 rw [check_is a0 a1 a2 a3 l hn k (by omega), Option.bind_some]
 obtain ⟨k, rfl⟩ : ∃ q, k = q + 1 := ⟨k - 1, by omega⟩
 by_cases ho : okS a0 a2 a3 l = true
 ·rw [if_pos (chk_ok ho), month_ev, Option.bind_some, quittanceref28_Take.j0]
  cases hm : mon m with
  | false => rw [if_pos (show (!false) = true from rfl), if_neg (by simp)]
  | true =>
   obtain ⟨_, h2, h3⟩ := okS_parts ho
   have := take_l0 a0 a1 a2 a3 m l hm hn (fun x hx => (h2 x hx).1) h3 l.length 0 k (by omega) (by omega)
   rw [if_neg (by decide), Option.bind_some, if_pos (by simp; omega), if_pos ⟨ho, rfl⟩]
   simpa [nsum, cur] using this
 ·have hf : okS a0 a2 a3 l = false := by simpa using ho
  rw [chk_no hf, if_neg (by decide), quittanceref28_Take.j0, if_pos rfl, if_neg (fun z => ho z.1)]
theorem same_is (a0 a1 a2 a3 : Int) (l : List Sl) (hn : l.length ≤ 8000) (k : Nat) (hk : 8001 ≤ k) : quittanceref28_Same.f k a0 a1 a2 a3 l a0 a1 a2 a3 l = some true := by
 unfold quittanceref28_Same.f
 rw [if_pos rfl, if_pos rfl, if_pos rfl, if_pos rfl, slices_is l hn k hk]
 rfl
theorem mn_eq (a b : Int) : mn a b = mnI a b := by unfold mn mnI; split <;> split <;> omega
theorem cut_zero (l : List Sl) (n : Int) (h : ∀ x ∈ l, 0 ≤ x.f1 ∧ x.f1 < 4611686018427387904) : ∀ j k, j + k ≤ l.length → (cutP l n (bk l j)).2 = 0 → cutP l n (bk l (j + k)) = cutP l n (bk l j)
 | _, 0, _, _ => rfl
 | j, k + 1, hk, h0 => by
  have ih := cut_zero l n h j k (by omega) h0
  have ha := cut_ahead l n (j + k) (by omega) (l.length - 1 - (j + k)) (by omega)
  have hl := cutP_len l n (j + k)
  rw [show j + (k + 1) = (j + k) + 1 from rfl, bk_succ, cutP_snoc, ih] at *
  have hx := h _ (getD_mem l (l.length - 1 - (j + k)) (by omega))
  unfold cutS
  split
  ·simp only [h0]
   have hm : mnI 0 (l.getD (l.length - 1 - (j + k)) zs).f1 = 0 := by unfold mnI; split <;> omega
   rw [hm, ha, Int.sub_zero, w28 (by omega) (by omega), show wrap64 (0 - 0) = 0 from by unfold wrap64; omega]
   have : (cutP l n (bk l j)).1.set (l.length - 1 - (j + k)) (l.getD (l.length - 1 - (j + k)) zs) = (cutP l n (bk l j)).1 := by
    rw [← ha]
    exact set_same _ _ (by omega)
   show ((cutP l n (bk l j)).1.set (l.length - 1 - (j + k)) (l.getD (l.length - 1 - (j + k)) zs), (0 : Int)) = cutP l n (bk l j)
   rw [this, ← h0]
  ·rfl
theorem cut_l0 (a0 a1 a2 a3 n : Int) (l : List Sl) (hn : l.length ≤ 4200) (h0 : ∀ x ∈ l, 0 ≤ x.f1 ∧ x.f1 < 4611686018427387904) (h1 : all1 l < 4611686018427387904) : ∀ (d j k : Nat), j + d = l.length → d < k → 0 ≤ (cutP l n (bk l j)).2 → (cutP l n (bk l j)).2 ≤ osum (l.take d) →
  quittanceref28_Cut.l0 k (cutP l n (bk l j)).2 ((d : Int) - 1) a0 a1 a2 a3 (cutP l n (bk l j)).1 = some (a0, a1, a2, a3, (cutP l n (bk l l.length)).1, 0) := by
 have stop : ∀ (d j k : Nat), j + d = l.length → (cutP l n (bk l j)).2 = 0 → quittanceref28_Cut.l0 (k + 1) (cutP l n (bk l j)).2 ((d : Int) - 1) a0 a1 a2 a3 (cutP l n (bk l j)).1 = some (a0, a1, a2, a3, (cutP l n (bk l l.length)).1, 0) := fun d j k hj hz => by
  have e := cut_zero l n h0 j d (by omega) hz
  rw [hj] at e
  rw [quittanceref28_Cut.l0, if_neg (by omega), e]
 intro d
 induction d with
 | zero =>
  intro j k hj hk p0 p1
  obtain ⟨k, rfl⟩ : ∃ m, k = m + 1 := ⟨k - 1, by omega⟩
  have : osum (l.take 0) = 0 := by simp [osum]
  exact stop 0 j k hj (by omega)
 | succ d ih =>
  intro j k hj hk p0 p1
  obtain ⟨k, rfl⟩ : ∃ m, k = m + 1 := ⟨k - 1, by omega⟩
  by_cases hz : (cutP l n (bk l j)).2 = 0
  ·exact stop (d + 1) j k hj hz
  have hil : d < l.length := by omega
  have ihh := ih (j + 1) k (by omega) (by omega)
  have e : osum (l.take (d + 1)) = osum (l.take d) + if (l.getD d zs).f2 = true then 0 else (l.getD d zs).f1 := by rw [takeat l d hil, osum_app, osum_one]
  have b1 := take_nn (fun x hx => (h0 x hx).1) d
  have b2 := take_nn (fun x hx => (h0 x hx).1) (d + 1)
  have ha := cut_ahead l n j (by omega) d (by omega)
  have hl := cutP_len l n j
  have hx := h0 _ (getD_mem l d hil)
  rw [bk_succ, cutP_snoc, show l.length - 1 - j = d by omega] at ihh
  rw [quittanceref28_Cut.l0, if_pos (by omega), if_pos (by omega), if_pos (by omega), show ((d + 1 : Nat) : Int) - 1 = (d : Int) by omega, rdn, ha, w28 (x := (d : Int) - 1) (by omega) (by omega)]
  generalize hst : cutP l n (bk l j) = st at *
  unfold cutS at ihh
  simp only at ihh
  by_cases hf : (l.getD d zs).f2 = true
  ·rw [if_pos hf] at e ⊢
   rw [if_neg (show ¬ opn (l.getD d zs) = true from by rw [opn, hf]; decide)] at ihh
   exact ihh p0 (by omega)
  ·rw [if_neg hf] at e ⊢
   rw [if_pos (by simpa [opn] using hf)] at ihh
   rw [mn_eq, Int.toNat_natCast]
   rw [ha] at ihh
   have hmI : mnI st.2 (l.getD d zs).f1 = st.2 ∧ st.2 < (l.getD d zs).f1 ∨ mnI st.2 (l.getD d zs).f1 = (l.getD d zs).f1 ∧ (l.getD d zs).f1 ≤ st.2 := by unfold mnI; split <;> omega
   have hw : wrap64 (st.2 - mnI st.2 (l.getD d zs).f1) = st.2 - mnI st.2 (l.getD d zs).f1 := w28 (by omega) (by omega)
   exact ihh (by simp only; omega) (by simp only; omega)
theorem cut_is (a0 a1 a2 a3 n : Int) (l : List Sl) (hn : l.length ≤ 4200) (k : Nat) (hk : 4230 ≤ k) : quittanceref28_Cut.f k a0 a1 a2 a3 l n = sched_Cut.f a0 a1 a2 a3 l n := by
 unfold quittanceref28_Cut.f sched_Cut.f
 rw [check_is a0 a1 a2 a3 l hn k (by omega), Option.bind_some]
 obtain ⟨k, rfl⟩ : ∃ q, k = q + 1 := ⟨k - 1, by omega⟩
 by_cases ho : okS a0 a2 a3 l = true
 ·rw [if_pos (chk_ok ho), quittanceref28_Cut.j0]
  by_cases h1 : n < 1
  ·rw [if_pos (decide_eq_true h1), if_neg (fun z => by omega)]
  ·rw [if_neg (by simpa using h1), left_is a0 a1 a2 a3 l hn k (by omega), Option.bind_some, if_pos (c := okS a0 a2 a3 l = true ∧ 1 ≤ n) ⟨ho, by omega⟩]
   obtain ⟨k, rfl⟩ : ∃ q, k = q + 1 := ⟨k - 1, by omega⟩
   obtain ⟨⟨l1, l2⟩, h2, h3⟩ := okS_parts ho
   have hv : 1 ≤ a2 ∧ a2 ≤ 1000000 := by
    have := (okS_iff.1 ho).1
    simp only [hd, Bool.and_eq_true, decide_eq_true_eq] at this
    omega
   by_cases h4 : n > lft a0 a2 a3 l
   ·rw [if_pos h4, quittanceref28_Cut.j1, if_pos rfl, if_pos (.inl h4)]
   ·rw [if_neg h4, quittanceref28_Cut.j1]
    by_cases h5 : a2 ≥ 1000000
    ·rw [if_pos (decide_eq_true h5), if_pos (.inr (by omega))]
    ·rw [if_neg (by simpa using h5), if_neg (by omega), Option.bind_some, if_pos (by simp; omega), Option.bind_some]
     simp only [List.nil_append]
     rw [w28 (x := a2 + 1) (by omega) (by omega), w28 (x := (l.length : Int) - 1) (by omega) (by omega)]
     have := cut_l0 a0 a1 (a2 + 1) a3 n l hn h2 h3 l.length 0 k (by omega) (by omega)
     have e0 : cutP l n (bk l 0) = (l, n) := rfl
     rw [e0] at this
     have hl := lft_is ho
     exact this (by simp only; omega) (by rw [List.take_length]; simp only; omega)
 ·have hf : okS a0 a2 a3 l = false := by simpa using ho
  rw [chk_no hf, if_neg (by decide), quittanceref28_Cut.j0, if_pos rfl, if_neg (fun z => ho z.1)]
end Go.Proofs.YtgceecnlgjmghaaDoor.pu28

