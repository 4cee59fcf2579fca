/- Chapter 28, as numbers: what is kept where a milestone is reached, what is due is taken, an amount is cut. No conditions. SchedWhole, walked. The table of the days ahead of months holds its numbers. The statement SchedWhole, joined. The table of the days ahead of months holds its numbers. -/
import Derived.Test.YtgceecnlgjmghaaDoorMSc2
import Derived.Test.YtgceecnlgjmghaaDoorMHd
import Derived.Test.YtgceecnlgjmghaaDoorSchRow
import Derived.BigQuiet
import Derived.Deep.RegionHeld3
namespace Go.Proofs.YtgceecnlgjmghaaDoor.pw28
open Go.RowKit Go.Proofs.YtgceecnlgjmghaaDoorW.PrintWords Go.Proofs.YtgceecnlgjmghaaDoor.sch Go.Proofs.YtgceecnlgjmghaaDoor.PH
theorem w28 {x : Int} (h1 : -9223372036854775808 ≤ x) (h2 : x ≤ 9223372036854775807) : wrap64 x = x := by unfold wrap64; omega
theorem dropat (l : List Sl) (i : Nat) (h : i < l.length) : l.drop i = l.getD i zs :: l.drop (i + 1) := by
 rw [List.drop_eq_getElem_cons h, List.getD_eq_getElem?_getD, List.getElem?_eq_getElem h]
 rfl
theorem takeat (l : List Sl) (i : Nat) (h : i < l.length) : l.take (i + 1) = l.take i ++ [l.getD i zs] := by
 rw [List.take_succ_eq_append_getElem h, List.getD_eq_getElem?_getD, List.getElem?_eq_getElem h]
 rfl
theorem bad_am {kd : Int} {x : Sl} (h : bad kd x = false) : 0 ≤ x.f1 ∧ x.f1 < 4611686018427387904 := by
 simp only [bad, Bool.or_eq_false_iff, decide_eq_false_iff_not] at h
 omega
theorem bad_m1 {x : Sl} (h : bad 1 x = false) : 0 < x.f0 := by
 simp [bad] at h
 omega
theorem sum0 : ∀ l : List Sl, (∀ x ∈ l, 0 ≤ x.f1) → 0 ≤ all1 l
 | [], _ => by simp [all1]
 | x :: l, h => by
  have := sum0 l fun y hy => h y (by simp [hy])
  have := h x (by simp)
  simp only [all1, List.map_cons, List.sum_cons] at *
  omega
theorem all_cut (l : List Sl) (i : Nat) : all1 l = all1 (l.take i) + all1 (l.drop i) := by
 unfold all1
 rw [← List.sum_append, ← List.map_append, List.take_append_drop]
theorem all_take (l : List Sl) (i : Nat) (h : i < l.length) : all1 (l.take (i + 1)) = all1 (l.take i) + (l.getD i zs).f1 := by
 rw [takeat l i h]; simp [all1]
/-- What is open of some slices. -/
def osum (l : List Sl) : Int := ((l.filter opn).map (·.f1)).sum
theorem osum_app (a b : List Sl) : osum (a ++ b) = osum a + osum b := by simp [osum]
theorem osum_le (l : List Sl) (h : ∀ x ∈ l, 0 ≤ x.f1) : 0 ≤ osum l ∧ osum l ≤ all1 l := filter_sum opn l h
theorem osum_one (x : Sl) : osum [x] = if x.f2 = true then 0 else x.f1 := by
 cases h : x.f2 <;> simp [osum, opn, h]
theorem lft_is {a0 a2 a3 : Int} {l : List Sl} (h : okS a0 a2 a3 l = true) : lft a0 a2 a3 l = osum l := by
 obtain ⟨_, h2, h3⟩ := okS_parts h
 have := osum_le l fun x hx => (h2 x hx).1
 have h0 : lft a0 a2 a3 l = Ar.fitV (osum l) := by unfold lft; rw [if_pos h]; rfl
 rw [h0, Ar.fitV, if_pos]
 simp [Ar.fits]
 omega
theorem getD_mem (l : List Sl) (i : Nat) (h : i < l.length) : l.getD i zs ∈ l := by
 rw [List.getD_eq_getElem?_getD, List.getElem?_eq_getElem h]
 exact List.getElem_mem h
theorem take_nn {l : List Sl} (h : ∀ x ∈ l, 0 ≤ x.f1) (i : Nat) : 0 ≤ osum (l.take i) ∧ osum (l.take i) ≤ all1 l := by
 have h1 := osum_le (l.take i) fun x hx => h x (List.mem_of_mem_take hx)
 have h2 := all_cut l i
 have h3 := sum0 (l.drop i) fun x hx => h x (List.mem_of_mem_drop hx)
 omega
theorem set_same (l : List Sl) (i : Nat) (h : i < l.length) : l.set i (l.getD i zs) = l := by
 rw [List.getD_eq_getElem?_getD, List.getElem?_eq_getElem h]
 simp
theorem cut_zero (l : List Sl) (n : Int) (h : ∀ x ∈ l, 0 ≤ x.f1 ∧ x.f1 < 4611686018427387904) : ∀ j k, j + k ≤ l.length → (cutP l n (bk l j)).2 = 0 → cutP l n (bk l (j + k)) = cutP l n (bk l j)
 | _, 0, _, _ => rfl
 | j, k + 1, hk, h0 => by
  have ih := cut_zero l n h j k (by omega) h0
  have ha := cut_ahead l n (j + k) (by omega) (l.length - 1 - (j + k)) (by omega)
  have hl := cutP_len l n (j + k)
  rw [show j + (k + 1) = (j + k) + 1 from rfl, bk_succ, cutP_snoc, ih] at *
  have hx := h _ (getD_mem l (l.length - 1 - (j + k)) (by omega))
  unfold cutS
  split
  ·simp only [h0]
   have hm : mnI 0 (l.getD (l.length - 1 - (j + k)) zs).f1 = 0 := by unfold mnI; split <;> omega
   rw [hm, ha, Int.sub_zero, w28 (by omega) (by omega), show wrap64 (0 - 0) = 0 from by unfold wrap64; omega]
   have : (cutP l n (bk l j)).1.set (l.length - 1 - (j + k)) (l.getD (l.length - 1 - (j + k)) zs) = (cutP l n (bk l j)).1 := by
    rw [← ha]
    exact set_same _ _ (by omega)
   show ((cutP l n (bk l j)).1.set (l.length - 1 - (j + k)) (l.getD (l.length - 1 - (j + k)) zs), (0 : Int)) = cutP l n (bk l j)
   rw [this, ← h0]
  ·rfl
theorem okS_open {a0 a2 a3 : Int} {l : List Sl} (h : okS a0 a2 a3 l = true) : hd a0 a2 a3 l.length = true ∧ (∀ x ∈ l, bad a3 x = false) ∧ (a3 = 1 → rise 0 l = true) ∧ all1 l < 4611686018427387904 := by
 simp only [okS, Bool.and_eq_true, decide_eq_true_eq, List.all_eq_true, Bool.not_eq_true', Bool.or_eq_true, ne_eq] at h
 obtain ⟨⟨⟨h1, h2⟩, h3⟩, h4⟩ := h
 exact ⟨h1, h2, fun e => by rcases h3 with h3 | h3; exact absurd e h3; exact h3, h4⟩
theorem okS_mk {a0 a2 a3 : Int} {l : List Sl} (h1 : hd a0 a2 a3 l.length = true) (h2 : ∀ x ∈ l, bad a3 x = false) (h3 : a3 = 1 → rise 0 l = true) (h4 : all1 l < 4611686018427387904) : okS a0 a2 a3 l = true := by
 simp only [okS, Bool.and_eq_true, decide_eq_true_eq, List.all_eq_true, Bool.not_eq_true', Bool.or_eq_true, ne_eq]
 refine ⟨⟨⟨h1, h2⟩, ?_⟩, h4⟩
 by_cases e : a3 = 1
 ·exact .inr (h3 e)
 ·exact .inl e
theorem hd_a3 {a0 a2 a3 : Int} {n : Nat} (h : hd a0 a2 a3 n = true) : (a3 = 1 ∨ a3 = 2) ∧ 1 ≤ a2 ∧ a2 ≤ 1000000 := by
 simp only [hd, Bool.and_eq_true, Bool.or_eq_true, decide_eq_true_eq] at h
 omega
/-- What was done stays as it is. -/
def Kp (l l' : List Sl) : Prop := l'.length = l.length ∧ ∀ k, k < l.length → (l.getD k zs).f2 = true → l'.getD k zs = l.getD k zs
theorem getD_set (l : List Sl) (i k : Nat) (y : Sl) (hk : k < l.length) : (l.set i y).getD k zs = if i = k then y else l.getD k zs := by
 simp only [List.getD_eq_getElem?_getD, List.getElem?_set]
 by_cases h : i = k
 ·subst h; rw [if_pos rfl, if_pos rfl, if_pos hk]; rfl
 ·rw [if_neg h, if_neg h]
theorem all_set : ∀ (l : List Sl) (i : Nat) (y : Sl), i < l.length → all1 (l.set i y) = all1 l - (l.getD i zs).f1 + y.f1
 | [], i, y, h => absurd h (by simp)
 | x :: l, 0, y, _ => by simp [all1]; omega
 | x :: l, i + 1, y, h => by
  have ih := all_set l i y (by simpa using h)
  have e1 : all1 ((x :: l).set (i + 1) y) = x.f1 + all1 (l.set i y) := by simp [all1]
  have e2 : all1 (x :: l) = x.f1 + all1 l := by simp [all1]
  have e3 : (x :: l).getD (i + 1) zs = l.getD i zs := rfl
  rw [e1, e2, e3, ih]; omega
/-- What of a slice is open. -/
def ow (x : Sl) : Int := if x.f2 = true then 0 else x.f1
theorem osum_cons (x : Sl) (l : List Sl) : osum (x :: l) = ow x + osum l := by
 have := osum_app [x] l
 rw [osum_one] at this
 exact this
theorem osum_set : ∀ (l : List Sl) (i : Nat) (y : Sl), i < l.length → osum (l.set i y) = osum l - ow (l.getD i zs) + ow y
 | [], i, y, h => absurd h (by simp)
 | x :: l, 0, y, _ => by rw [List.set_cons_zero, osum_cons, osum_cons]; show _ = _ - ow x + _; omega
 | x :: l, i + 1, y, h => by
  have ih := osum_set l i y (by simpa using h)
  rw [List.set_cons_succ, osum_cons, osum_cons, ih, show (x :: l).getD (i + 1) zs = l.getD i zs from rfl]; omega
theorem mem_set {l : List Sl} {i : Nat} {y x : Sl} (h : x ∈ l.set i y) : x ∈ l ∨ x = y := by
 rcases List.mem_or_eq_of_mem_set h with h | h
 ·exact .inl h
 ·exact .inr h
theorem reach_step {a0 a2 a3 : Int} {l : List Sl} {at_ m : Int} (ho : okS a0 a2 a3 l = true) (h : rchE a0 a2 a3 l at_ m = 0) :
  okS a0 a2 a3 (rchL l at_ m) = true ∧ lft a0 a2 a3 (rchL l at_ m) = lft a0 a2 a3 l ∧ Kp l (rchL l at_ m) := by
 obtain ⟨h1, h2, h3, h4⟩ := okS_open ho
 have hg : okS a0 a2 a3 l = true ∧ 0 ≤ at_ ∧ at_ < (l.length : Int) ∧ mon m = true := by
  by_cases q : okS a0 a2 a3 l = true ∧ 0 ≤ at_ ∧ at_ < (l.length : Int) ∧ mon m = true
  ·exact q
  ·unfold rchE at h; rw [if_neg q] at h; cases h
 unfold rchE at h
 rw [if_pos hg] at h
 obtain ⟨_, g0, g1, gm⟩ := hg
 have hz : (l.getD at_.toNat zs).f0 = 0 := by
  by_cases q : (l.getD at_.toNat zs).f0 = 0
  ·exact q
  ·rw [if_neg q] at h; cases h
 have hil : at_.toNat < l.length := by omega
 unfold rchL
 generalize at_.toNat = i at hz hil ⊢
 have hx := h2 _ (getD_mem l i hil)
 have ha := bad_am hx
 simp only [mon, Bool.and_eq_true, decide_eq_true_eq] at gm
 have k3 : a3 ≠ 1 := fun e => by subst e; have := bad_m1 hx; omega
 have hd2 := (hd_a3 h1).1
 have hf2 : (l.getD i zs).f2 = false := by
  have := hx
  simp only [bad, hz, decide_true, Bool.true_and, Bool.or_eq_false_iff] at this
  exact this.2.2
 have e3 : a3 = 2 := by omega
 subst e3
 have ok' : okS a0 a2 2 (l.set i ⟨m, (l.getD i zs).f1, (l.getD i zs).f2⟩) = true := by
  refine okS_mk (by rw [List.length_set]; exact h1) (fun x hx' => ?_) (fun e => by cases e) ?_
  ·rcases mem_set hx' with q | rfl
   ·exact h2 x q
   ·have : ¬ m < 0 ∧ ¬ 119988 < m ∧ ¬ (l.getD i zs).f1 < 0 ∧ ¬ 4611686018427387904 ≤ (l.getD i zs).f1 ∧ ¬ m = 0 := by omega
    simp only [bad, this.1, this.2.1, this.2.2.1, this.2.2.2.1, this.2.2.2.2, decide_false, Bool.false_and, Bool.or_false]
  ·rw [all_set l i _ hil]; simp only; omega
 refine ⟨ok', ?_, by rw [List.length_set], fun k hk hd => ?_⟩
 ·rw [lft_is ok', lft_is ho, osum_set l i _ hil]
  show osum l - ow (l.getD i zs) + ow (l.getD i zs) = osum l
  omega
 ·rw [getD_set l i k _ hk]
  by_cases e : i = k
  ·subst e; rw [hf2] at hd; cases hd
  ·rw [if_neg e]
theorem don_f (p : Sl → Bool) (x : Sl) : (don p x).f0 = x.f0 ∧ (don p x).f1 = x.f1 ∧ (x.f2 = true → (don p x).f2 = true) := by
 unfold don
 split
 ·exact ⟨rfl, rfl, fun _ => rfl⟩
 ·exact ⟨rfl, rfl, fun h => h⟩
theorem rise_map (p : Sl → Bool) : ∀ (l : List Sl) (m : Int), rise m (l.map (don p)) = rise m l
 | [], _ => rfl
 | x :: l, m => by
  simp only [List.map_cons, rise]
  rw [rise_map p l, (don_f p x).1]
theorem due_parts {m : Int} {x : Sl} (h : sch.due m x = true) : x.f2 = false ∧ 1 ≤ x.f0 ∧ x.f0 ≤ m := by
 simp only [sch.due, Bool.and_eq_true, decide_eq_true_eq, Bool.not_eq_true'] at h
 exact ⟨h.1.1, h.1.2, h.2⟩
theorem take_osum (m : Int) : ∀ l : List Sl, osum (tkL m l) + tkN m l = osum l
 | [] => by simp [osum, tkL, tkN]
 | x :: l => by
  have ih := take_osum m l
  have e1 : tkL m (x :: l) = don (sch.due m) x :: tkL m l := rfl
  rw [e1, osum_cons, osum_cons]
  cases h : sch.due m x with
  | true =>
   have e2 : tkN m (x :: l) = x.f1 + tkN m l := by simp [tkN, h]
   have hp := due_parts h
   have e3 : ow (don (sch.due m) x) = 0 := by unfold don; rw [if_pos h]; rfl
   have e4 : ow x = x.f1 := by unfold ow; rw [hp.1]; rfl
   rw [e2, e3, e4]; omega
  | false =>
   have e2 : tkN m (x :: l) = tkN m l := by simp [tkN, h]
   have e3 : don (sch.due m) x = x := by unfold don; rw [h]; rfl
   rw [e2, e3]; omega
theorem take_again (m : Int) (l : List Sl) : tkN m (tkL m l) = 0 := by
 have : (tkL m l).filter (sch.due m) = [] := by
  rw [List.filter_eq_nil_iff]
  intro y hy
  simp only [tkL, List.mem_map] at hy
  obtain ⟨x, _, rfl⟩ := hy
  intro hd
  have hp := due_parts hd
  cases h : sch.due m x with
  | true => unfold don at hp; rw [if_pos h] at hp; cases hp.1
  | false =>
   have e3 : don (sch.due m) x = x := by unfold don; rw [h]; rfl
   rw [e3, h] at hd
   cases hd
 unfold tkN
 rw [this]
 rfl
theorem take_step {a0 a2 a3 : Int} {l : List Sl} (m : Int) (ho : okS a0 a2 a3 l = true) :
  okS a0 a2 a3 (tkL m l) = true ∧ lft a0 a2 a3 (tkL m l) + tkN m l = lft a0 a2 a3 l ∧ 0 ≤ tkN m l ∧ 0 ≤ lft a0 a2 a3 (tkL m l) ∧ lft a0 a2 a3 l < 4611686018427387904 ∧ Kp l (tkL m l) := by
 obtain ⟨h1, h2, h3, h4⟩ := okS_open ho
 have e1 : all1 (tkL m l) = all1 l := by
  unfold all1 tkL
  rw [List.map_map]
  congr 1
  exact List.map_congr_left fun x _ => (don_f _ x).2.1
 have ok' : okS a0 a2 a3 (tkL m l) = true := by
  refine okS_mk (by unfold tkL; rw [List.length_map]; exact h1) (fun y hy => ?_) (fun e => by unfold tkL; rw [rise_map]; exact h3 e) (by rw [e1]; exact h4)
  simp only [tkL, List.mem_map] at hy
  obtain ⟨x, hx, rfl⟩ := hy
  have hb := h2 x hx
  cases h : sch.due m x with
  | false =>
   have e3 : don (sch.due m) x = x := by unfold don; rw [h]; rfl
   rw [e3]; exact hb
  | true =>
   have hp := due_parts h
   have hne : ¬ x.f0 = 0 := by omega
   unfold don
   rw [if_pos h]
   simp only [bad, hne, decide_false, Bool.false_and, Bool.or_false] at hb ⊢
   exact hb
 have nn : ∀ x ∈ l, 0 ≤ x.f1 := fun x hx => (bad_am (h2 x hx)).1
 have ht := take_osum m l
 have h6 := filter_sum (sch.due m) l nn
 have h7 := osum_le l nn
 have h8 := osum_le (tkL m l) fun y hy => by
  simp only [tkL, List.mem_map] at hy
  obtain ⟨x, hx, rfl⟩ := hy
  rw [(don_f _ x).2.1]
  exact nn x hx
 refine ⟨ok', by rw [lft_is ok', lft_is ho]; exact ht, h6.1, by rw [lft_is ok']; exact h8.1, by rw [lft_is ho]; omega, by simp [tkL], fun k hk hd => ?_⟩
 have e : (tkL m l).getD k zs = don (sch.due m) (l.getD k zs) := by
  unfold tkL
  rw [List.getD_eq_getElem?_getD, List.getElem?_map, List.getD_eq_getElem?_getD, List.getElem?_eq_getElem hk]
  rfl
 rw [e]
 have hnd : sch.due m (l.getD k zs) = false := by
  cases h : sch.due m (l.getD k zs) with
  | false => rfl
  | true => have := (due_parts h).1; rw [hd] at this; cases this
 unfold don
 rw [hnd]
 rfl
/-- Slices of which less is left. -/
def R1 (x y : Sl) : Prop := y.f0 = x.f0 ∧ y.f2 = x.f2 ∧ 0 ≤ y.f1 ∧ y.f1 ≤ x.f1 ∧ (x.f2 = true → y.f1 = x.f1)
def Rl : List Sl → List Sl → Prop
 | [], [] => True
 | x :: l, y :: l' => R1 x y ∧ Rl l l'
 | _, _ => False
theorem Rl.refl : ∀ l : List Sl, (∀ x ∈ l, 0 ≤ x.f1) → Rl l l
 | [], _ => trivial
 | x :: l, h => ⟨⟨rfl, rfl, h x (by simp), Int.le_refl _, fun _ => rfl⟩, Rl.refl l fun y hy => h y (by simp [hy])⟩
theorem Rl.len : ∀ {l l' : List Sl}, Rl l l' → l'.length = l.length
 | [], [], _ => rfl
 | [], _ :: _, h => h.elim
 | _ :: _, [], h => h.elim
 | x :: l, y :: l', h => by simp [Rl.len h.2]
theorem Rl.get : ∀ {l l' : List Sl}, Rl l l' → ∀ k, k < l.length → R1 (l.getD k zs) (l'.getD k zs)
 | [], _, _, k, hk => absurd hk (by simp)
 | _ :: _, [], h, _, _ => h.elim
 | x :: l, y :: l', h, 0, _ => h.1
 | x :: l, y :: l', h, k + 1, hk => Rl.get h.2 k (by simpa using hk)
theorem Rl.set : ∀ {l l' : List Sl}, Rl l l' → ∀ (k : Nat) (y : Sl), k < l.length → R1 (l.getD k zs) y → Rl l (l'.set k y)
 | [], _, _, k, _, hk, _ => absurd hk (by simp)
 | _ :: _, [], h, _, _, _, _ => h.elim
 | x :: l, z :: l', h, 0, _, _, hr => ⟨hr, h.2⟩
 | x :: l, z :: l', h, k + 1, y, hk, hr => ⟨h.1, Rl.set h.2 k y (by simpa using hk) hr⟩
theorem Rl.rise : ∀ {l l' : List Sl}, Rl l l' → ∀ m, rise m l' = rise m l
 | [], [], _, _ => rfl
 | [], _ :: _, h, _ => h.elim
 | _ :: _, [], h, _ => h.elim
 | x :: l, y :: l', h, m => by
  simp only [sch.rise]
  rw [h.1.1, Rl.rise h.2]
theorem Rl.all : ∀ {l l' : List Sl}, Rl l l' → all1 l' ≤ all1 l
 | [], [], _ => Int.le_refl _
 | [], _ :: _, h => h.elim
 | _ :: _, [], h => h.elim
 | x :: l, y :: l', h => by
  have := Rl.all h.2
  have := h.1.2.2.2.1
  simp only [all1, List.map_cons, List.sum_cons] at *
  omega
theorem Rl.bad {kd : Int} {l l' : List Sl} (h : Rl l l') (hb : ∀ x ∈ l, bad kd x = false) : ∀ y ∈ l', bad kd y = false := by
 intro y hy
 obtain ⟨k, hk, rfl⟩ := List.getElem_of_mem hy
 have hl := h.len
 have hr := h.get k (by omega)
 have e : l'.getD k zs = l'[k] := by rw [List.getD_eq_getElem?_getD, List.getElem?_eq_getElem hk]; rfl
 rw [e] at hr
 have hx := hb _ (getD_mem l k (by omega))
 have ha := bad_am hx
 obtain ⟨r0, r2, r3, r4, _⟩ := hr
 have n1 : ¬ l'[k].f1 < 0 := by omega
 have n2 : ¬ 4611686018427387904 ≤ l'[k].f1 := by omega
 have m1 : ¬ (l.getD k zs).f1 < 0 := by omega
 have m2 : ¬ 4611686018427387904 ≤ (l.getD k zs).f1 := by omega
 simp only [sch.bad, r0, r2, n1, n2, m1, m2, decide_false, Bool.or_false] at hx ⊢
 exact hx
theorem cut_inv {l : List Sl} {n : Int} (hx : ∀ x ∈ l, 0 ≤ x.f1 ∧ x.f1 < 4611686018427387904) (hs : all1 l < 4611686018427387904) (h0 : 0 ≤ n) (h1 : n ≤ osum l) : ∀ j, j ≤ l.length →
  Rl l (cutP l n (bk l j)).1 ∧ 0 ≤ (cutP l n (bk l j)).2 ∧ (cutP l n (bk l j)).2 ≤ osum (l.take (l.length - j)) ∧ osum (cutP l n (bk l j)).1 = osum l - (n - (cutP l n (bk l j)).2)
 | 0, _ => ⟨Rl.refl l fun x h => (hx x h).1, h0, by rw [Nat.sub_zero, List.take_length]; exact h1, by show osum l = osum l - (n - n); omega⟩
 | j + 1, hj => by
  obtain ⟨i1, i2, i3, i4⟩ := cut_inv hx hs h0 h1 j (by omega)
  have ha := cut_ahead l n j (by omega) (l.length - 1 - j) (by omega)
  have hl := cutP_len l n j
  have hd : l.length - 1 - j < l.length := by omega
  have hxx := hx _ (getD_mem l _ hd)
  have et : osum (l.take (l.length - j)) = osum (l.take (l.length - (j + 1))) + ow (l.getD (l.length - 1 - j) zs) := by
   have := takeat l (l.length - 1 - j) hd
   rw [show l.length - 1 - j + 1 = l.length - j by omega, show l.length - 1 - j = l.length - (j + 1) by omega] at this
   rw [this, osum_app, osum_one, show l.length - (j + 1) = l.length - 1 - j by omega]
   rfl
  have b1 := take_nn (fun x h => (hx x h).1) (l.length - (j + 1))
  have b2 := take_nn (fun x h => (hx x h).1) (l.length - j)
  rw [bk_succ, cutP_snoc]
  generalize cutP l n (bk l j) = st at *
  unfold cutS
  simp only
  rw [ha]
  generalize hd' : l.length - 1 - j = d at *
  by_cases hf : (l.getD d zs).f2 = true
  ·rw [if_neg (show ¬ opn (l.getD d zs) = true from by rw [opn, hf]; decide)]
   have : ow (l.getD d zs) = 0 := by unfold ow; rw [if_pos hf]
   exact ⟨i1, i2, by omega, i4⟩
  ·have hfo : opn (l.getD d zs) = true := by simpa [opn] using hf
   have how : ow (l.getD d zs) = (l.getD d zs).f1 := by unfold ow; rw [if_neg hf]
   rw [if_pos hfo]
   have hm : mnI st.2 (l.getD d zs).f1 = st.2 ∧ st.2 < (l.getD d zs).f1 ∨ mnI st.2 (l.getD d zs).f1 = (l.getD d zs).f1 ∧ (l.getD d zs).f1 ≤ st.2 := by unfold mnI; split <;> omega
   rw [w28 (x := (l.getD d zs).f1 - mnI st.2 (l.getD d zs).f1) (by omega) (by omega), w28 (x := st.2 - mnI st.2 (l.getD d zs).f1) (by omega) (by omega)]
   refine ⟨i1.set d _ hd ⟨rfl, rfl, by simp only; omega, by simp only; omega, fun e => absurd e hf⟩, by simp only; omega, by simp only; omega, ?_⟩
   rw [osum_set _ _ _ (by omega), ha, how]
   have : ow (⟨(l.getD d zs).f0, (l.getD d zs).f1 - mnI st.2 (l.getD d zs).f1, (l.getD d zs).f2⟩ : Sl) = (l.getD d zs).f1 - mnI st.2 (l.getD d zs).f1 := by unfold ow; rw [if_neg hf]
   rw [this]
   simp only
   omega
theorem cut_step {a0 a2 a3 n : Int} {l : List Sl} (ho : okS a0 a2 a3 l = true) (h1 : 1 ≤ n) (h2 : n ≤ lft a0 a2 a3 l) (h3 : a2 ≠ 1000000) :
  okS a0 (a2 + 1) a3 (cutP l n (bk l l.length)).1 = true ∧ lft a0 (a2 + 1) a3 (cutP l n (bk l l.length)).1 = lft a0 a2 a3 l - n ∧ Kp l (cutP l n (bk l l.length)).1 := by
 obtain ⟨g1, g2, g3, g4⟩ := okS_open ho
 have hx : ∀ x ∈ l, 0 ≤ x.f1 ∧ x.f1 < 4611686018427387904 := fun x h => bad_am (g2 x h)
 have hv := hd_a3 g1
 rw [lft_is ho] at h2
 obtain ⟨i1, i2, i3, i4⟩ := cut_inv hx g4 (by omega) h2 l.length (Nat.le_refl _)
 have hz : osum (l.take (l.length - l.length)) = 0 := by rw [Nat.sub_self]; rfl
 have hlen := i1.len
 have ok' : okS a0 (a2 + 1) a3 (cutP l n (bk l l.length)).1 = true := by
  refine okS_mk ?_ (i1.bad g2) (fun e => by rw [i1.rise]; exact g3 e) (by have := i1.all; omega)
  rw [hlen]
  have q1 := g1
  simp only [hd, Bool.and_eq_true, Bool.or_eq_true, decide_eq_true_eq] at q1 ⊢
  obtain ⟨⟨⟨⟨⟨q1, q2⟩, q3⟩, q4⟩, q5⟩, q6⟩ := q1
  exact ⟨⟨⟨⟨⟨q1, by omega⟩, by omega⟩, q4⟩, q5⟩, q6⟩
 refine ⟨ok', by rw [lft_is ok', lft_is ho]; omega, hlen, fun k hk hd => ?_⟩
 obtain ⟨r0, r2, _, _, r5⟩ := i1.get k hk
 have := r5 hd
 generalize (cutP l n (bk l l.length)).1.getD k zs = y at *
 generalize l.getD k zs = x at *
 obtain ⟨x0, x1, x2⟩ := x
 obtain ⟨y0, y1, y2⟩ := y
 simp only at r0 r2 this
 subst r0 r2 this
 rfl
end Go.Proofs.YtgceecnlgjmghaaDoor.pw28

namespace Go.Proofs.YtgceecnlgjmghaaDoor.h28
open Go.RowKit Go.Proofs.YtgceecnlgjmghaaDoor.base Go.Proofs.YtgceecnlgjmghaaDoorW.PrintWords Go.Proofs.YtgceecnlgjmghaaDoor.sch Go.Proofs.YtgceecnlgjmghaaDoor.pw28
open Go.Proofs.YtgceecnlgjmghaaDoor.civ (Tab)
theorem rchE_cases {a0 a2 a3 : Int} {l : List Sl} {at_ m : Int} (h : ¬ rchE a0 a2 a3 l at_ m = 0) : rchE a0 a2 a3 l at_ m = 2 ∨ rchE a0 a2 a3 l at_ m = 9 := by
 unfold rchE at h ⊢
 split
 ·rename_i q
  rw [if_pos q] at h
  split
  ·rename_i q2
   rw [if_pos q2] at h
   exact absurd rfl h
  ·exact .inr rfl
 ·exact .inl rfl
theorem lft_bd {a0 a2 a3 : Int} {l : List Sl} (ho : okS a0 a2 a3 l = true) : 0 ≤ lft a0 a2 a3 l ∧ lft a0 a2 a3 l < 4611686018427387904 := by
 obtain ⟨_, h2, _, h4⟩ := okS_open ho
 have := osum_le l fun x hx => (bad_am (h2 x hx)).1
 rw [lft_is ho]
 omega
abbrev K (wr V : World) : Prop := Below wr.heap.size wr V
theorem K.all {wr V X : World} (h : K wr V) (hB : Below V.heap.size V X) : K wr X := h.trans (hB.mono h.size)
theorem K.dr {wr V : World} (h : K wr V) : K wr V.drew := Below.drew h
abbrev Bw3 (V : World) (g : Nat) (x y z : Int) : Prop := V.heap[g]? = some (.cells #[.int .i64 x, .int .i64 y, .int .i64 z] 27 (0, 0))
abbrev Acts (W : World) (A : Option Addr) (L : List (Int × Int × Int × Int)) : Prop := ReadsRow (fun x cs => cs = [.int .u8 x.1, .int .i64 x.2.1, .int .i64 x.2.2.1, .int .i64 x.2.2.2] ∧ 0 ≤ x.1) 4 W A L.length L
theorem Acts.below {W V : World} {A : Option Addr} {L : List (Int × Int × Int × Int)} (h : Acts W A L) (hB : Below W.heap.size W V) : Acts V A L := ReadsRow.imp_ h hB (fun _ _ hp => hp)
def za : Int × Int × Int × Int := (0, 0, 0, 0)
theorem Acts.at {W : World} {A : Option Addr} {L : List (Int × Int × Int × Int)} (h : Acts W A L) (i : Int) (h0 : 0 ≤ i) (h1 : i < L.length) : ∃ ad x, A = some ad ∧ x = L.getD i.toNat za ∧ 0 ≤ x.1 ∧ W.cell? (ad.add (i.toNat * 4)) = some (.int .u8 x.1) ∧
  W.cell? ⟨(ad.add (i.toNat * 4)).block, (ad.add (i.toNat * 4)).off + 1, none⟩ = some (.int .i64 x.2.1) ∧ W.cell? ⟨(ad.add (i.toNat * 4)).block, (ad.add (i.toNat * 4)).off + 2, none⟩ = some (.int .i64 x.2.2.1) ∧ W.cell? ⟨(ad.add (i.toNat * 4)).block, (ad.add (i.toNat * 4)).off + 3, none⟩ = some (.int .i64 x.2.2.2) := by
 obtain ⟨ad, c, e, _, ⟨hc, hx⟩, hcell⟩ := ReadsRow.get_ h za i h0 h1
 subst hc
 have q0 := hcell 0 _ rfl
 have q1 := hcell 1 _ rfl
 have q2 := hcell 2 _ rfl
 have q3 := hcell 3 _ rfl
 have pl : ∀ j, 0 < j → ad.add (i.toNat * 4 + j) = ⟨(ad.add (i.toNat * 4)).block, (ad.add (i.toNat * 4)).off + j, none⟩ := fun j hj => by
  unfold Addr.add
  rw [if_neg (by omega)]
  split
  ·simp
  ·simp [Nat.add_assoc]
 rw [pl 1 (by decide)] at q1
 rw [pl 2 (by decide)] at q2
 rw [pl 3 (by decide)] at q3
 exact ⟨ad, _, e, rfl, hx, by simpa using q0, q1, q2, q3⟩
set_option maxRecDepth 100000 in
set_option maxHeartbeats 2000000 in
theorem whole_a (w : World) (T : Tab w) (a0 a1 a2 a3 : Int) (A : Option Addr) (c : Nat) (l : List Sl) (A1 : Option Addr) (c1 : Nat) (L : List (Int × Int × Int × Int)) (hc : l.length ≤ c) (hC : Csl w A l) (ho : okS a0 a2 a3 l = false) :
  Calls Tryd.prog 5 #[.agg #[.int .u64 a0, .int .u64 a1, .int .i64 a2, .int .u8 a3, .slice A l.length c], .slice A1 L.length c1] w fun e w' => e = .returned (.bool true) ∧ Below w.heap.size w w' := by
 have HT := Lib.hid T
 have HO := Lib.hid ho
 have q1 : Var (w.alloc (.cells #[.int .u64 a0, .int .u64 a1, .int .i64 a2, .int .u8 a3, .slice A l.length c] 25)) w.heap.size a0 a1 a2 a3 l A c := Var.new hc hC
 have q4 := below_al (Below.refl w.heap.size w) (.cells #[.int .u64 a0, .int .u64 a1, .int .i64 a2, .int .u8 a3, .slice A l.length c] 25)
 clear T hc hC
 go_enter Tryd.func5, Tryd.ntmps5
 go_upto_region 1 with fail
 generalize w.alloc (.cells #[.int .u64 a0, .int .u64 a1, .int .i64 a2, .int .u8 a3, .slice A l.length c] 25) = w2 at q1 q4 ⊢
 generalize hg2 : w.heap.size = g2 at q1 ⊢
 have HV := Lib.hid q1
 have HW := Lib.hid q4
 clear q1 q4
 obtain ⟨c0, c1, c2, c3, c4⟩ := HV.out.cells
 go_wp2_with fail
 refine (PH.sched_Check.calls a0 a1 a2 a3 A c l _ _ HV.out.row HV.out.le rfl).mono ?_
 rintro e w3 ⟨rfl, hB⟩
 clear c0 c1 c2 c3 c4
 replace HV := Lib.hid (HV.out.all hB)
 replace HW := Lib.hid (below_all HW.out HW.out.size hB)
 clear hB
 obtain ⟨c0, c1, c2, c3, c4⟩ := HV.out.cells
 rw [chk_no HO.out]
 have HL := Lib.hid (show PH.sched_Left.f a0 a1 a2 a3 l = some 0 from by unfold PH.sched_Left.f lft; rw [HO.out, if_neg (by decide)])
 clear ho
 by_cases h6 : 60 < (l.length : Int)
 ·have g1 : decide ((l.length : Int) > 60) = true := decide_eq_true h6
  have H6 := Lib.hid h6
  go_wp2_with fail
  refine (head_any _ (PH.tab_below HT.out (hg2 ▸ HW.out) (PH.tab_lt HT.out))).mono ?_
  rintro e w9 ⟨rfl, hB⟩
  replace HW := Lib.hid (below_all HW.out HW.out.size hB)
  clear hB
  go_wp2
  go_ret
  exact ⟨rfl, hg2 ▸ HW.out⟩
 ·have g1 : decide ((l.length : Int) > 60) = false := decide_eq_false h6
  go_wp2_with fail
  refine (PH.sched_Left.calls a0 a1 a2 a3 A c l _ _ HV.out.row HV.out.le HL.out).mono ?_
  rintro e w4 ⟨rfl, hB⟩
  replace HW := Lib.hid (below_all HW.out HW.out.size hB)
  clear hB c0 c1 c2 c3 c4
  go_wp2_with fail
  refine (head_any _ (PH.tab_below HT.out (hg2 ▸ HW.out) (PH.tab_lt HT.out))).mono ?_
  rintro e w9 ⟨rfl, hB⟩
  replace HW := Lib.hid (below_all HW.out HW.out.size hB)
  clear hB
  go_wp2
  go_ret
  exact ⟨rfl, hg2 ▸ HW.out⟩
set_option maxRecDepth 100000 in
set_option maxHeartbeats 2000000 in
theorem whole_b (w : World) (T : Tab w) (a0 a1 a2 a3 : Int) (A : Option Addr) (c : Nat) (l : List Sl) (A1 : Option Addr) (c1 : Nat) (L : List (Int × Int × Int × Int)) (hc : l.length ≤ c) (hC : Csl w A l) (ho : okS a0 a2 a3 l = true) (h6 : 60 < (l.length : Int)) :
  Calls Tryd.prog 5 #[.agg #[.int .u64 a0, .int .u64 a1, .int .i64 a2, .int .u8 a3, .slice A l.length c], .slice A1 L.length c1] w fun e w' => e = .returned (.bool true) ∧ Below w.heap.size w w' := by
 have HT := Lib.hid T
 have HO := Lib.hid ho
 have q1 : Var (w.alloc (.cells #[.int .u64 a0, .int .u64 a1, .int .i64 a2, .int .u8 a3, .slice A l.length c] 25)) w.heap.size a0 a1 a2 a3 l A c := Var.new hc hC
 have q4 := below_al (Below.refl w.heap.size w) (.cells #[.int .u64 a0, .int .u64 a1, .int .i64 a2, .int .u8 a3, .slice A l.length c] 25)
 clear T hc hC
 go_enter Tryd.func5, Tryd.ntmps5
 go_upto_region 1 with fail
 generalize w.alloc (.cells #[.int .u64 a0, .int .u64 a1, .int .i64 a2, .int .u8 a3, .slice A l.length c] 25) = w2 at q1 q4 ⊢
 generalize hg2 : w.heap.size = g2 at q1 ⊢
 have HV := Lib.hid q1
 have HW := Lib.hid q4
 clear q1 q4
 obtain ⟨c0, c1, c2, c3, c4⟩ := HV.out.cells
 go_wp2_with fail
 refine (PH.sched_Check.calls a0 a1 a2 a3 A c l _ _ HV.out.row HV.out.le rfl).mono ?_
 rintro e w3 ⟨rfl, hB⟩
 clear c0 c1 c2 c3 c4
 replace HV := Lib.hid (HV.out.all hB)
 replace HW := Lib.hid (below_all HW.out HW.out.size hB)
 clear hB
 obtain ⟨c0, c1, c2, c3, c4⟩ := HV.out.cells
 rw [show chk a0 a2 a3 l = 0 from by unfold chk; rw [if_pos HO.out]]
 clear ho
 have g1 : decide ((l.length : Int) > 60) = true := decide_eq_true h6
 go_wp2_with fail
 refine (head_any _ (PH.tab_below HT.out (hg2 ▸ HW.out) (PH.tab_lt HT.out))).mono ?_
 rintro e w9 ⟨rfl, hB⟩
 replace HW := Lib.hid (below_all HW.out HW.out.size hB)
 clear hB
 go_wp2
 go_ret
 exact ⟨rfl, hg2 ▸ HW.out⟩
set_option maxRecDepth 100000 in
set_option maxHeartbeats 2000000 in
theorem whole_c (w : World) (T : Tab w) (a0 a1 a2 a3 : Int) (A : Option Addr) (c : Nat) (l : List Sl) (A1 : Option Addr) (c1 : Nat) (L : List (Int × Int × Int × Int)) (hc : l.length ≤ c) (hC : Csl w A l) (ho : okS a0 a2 a3 l = true) (h6 : ¬ (l.length : Int) > 60) (hA : Acts w A1 L) :
  Calls Tryd.prog 5 #[.agg #[.int .u64 a0, .int .u64 a1, .int .i64 a2, .int .u8 a3, .slice A l.length c], .slice A1 L.length c1] w fun e w' => e = .returned (.bool true) ∧ Below w.heap.size w w' := by
 have HT := Lib.hid T
 have HO := Lib.hid ho
 have HL6 := Lib.hid (show l.length ≤ 60 by omega)
 have HA := Lib.hid hA
 have q1 : Var (w.alloc (.cells #[.int .u64 a0, .int .u64 a1, .int .i64 a2, .int .u8 a3, .slice A l.length c] 25)) w.heap.size a0 a1 a2 a3 l A c := Var.new hc hC
 have q4 := below_al (Below.refl w.heap.size w) (.cells #[.int .u64 a0, .int .u64 a1, .int .i64 a2, .int .u8 a3, .slice A l.length c] 25)
 clear T hc hC
 go_enter Tryd.func5, Tryd.ntmps5
 go_upto_region 1 with fail
 generalize w.alloc (.cells #[.int .u64 a0, .int .u64 a1, .int .i64 a2, .int .u8 a3, .slice A l.length c] 25) = w2 at q1 q4 ⊢
 generalize hg2 : w.heap.size = g2 at q1 ⊢
 have HV := Lib.hid q1
 have HW := Lib.hid q4
 clear q1 q4
 obtain ⟨c0, c1, c2, c3, c4⟩ := HV.out.cells
 go_wp2_with fail
 refine (PH.sched_Check.calls a0 a1 a2 a3 A c l _ _ HV.out.row HV.out.le rfl).mono ?_
 rintro e w3 ⟨rfl, hB⟩
 clear c0 c1 c2 c3 c4
 replace HV := Lib.hid (HV.out.all hB)
 replace HW := Lib.hid (below_all HW.out HW.out.size hB)
 clear hB
 obtain ⟨c0, c1, c2, c3, c4⟩ := HV.out.cells
 rw [show chk a0 a2 a3 l = 0 from by unfold chk; rw [if_pos HO.out]]
 clear ho hA
 have g1 : decide ((l.length : Int) > 60) = false := decide_eq_false (by have := HL6.out; omega)
 clear h6
 go_wp2_with fail
 clear g1 c0 c1 c2 c3 c4
 rw [hg2] at HW
 have HG := Lib.hid hg2
 clear hg2
 go_loopg [5] 31 (fun kq v5 wr => ∃ (i b0 b1 b2 b3 : Int) (B : Option Addr) (bc : Nat) (m : List Sl), v5 = .int .i64 i ∧ Aside0 (0 ≤ i ∧ i ≤ 30 ∧ i ≤ L.length ∧ 31 ≤ kq + i) ∧ Aside0 (okS b0 b2 b3 m = true ∧ m.length = l.length) ∧ Aside0 (Var wr g2 b0 b1 b2 b3 m B bc) ∧ Aside0 (Below g2 w wr))
 case atStart => exact ⟨0, a0, a1, a2, a3, A, c, l, rfl, ⟨by omega⟩, ⟨HO.out, rfl⟩, ⟨HV.out⟩, ⟨HW.out⟩⟩
 case round =>
  clear HV HW HO
  obtain ⟨i, b0, b1, b2, b3, B, bc, m, rfl, ⟨HI⟩, ⟨HM⟩, ⟨HV⟩, ⟨HW⟩⟩ := hrel
  replace HI := Lib.hid HI
  replace HM := Lib.hid HM
  replace HV := Lib.hid HV
  replace HW := Lib.hid HW
  by_cases ci : i < (L.length : Int)
  ·by_cases c30 : i < 30
   ·obtain ⟨k1, rfl⟩ : ∃ k1, gk = k1 + 1 := ⟨gk - 1, by have := HI.out; omega⟩
    have d1 : decide (i < (L.length : Int)) = true := decide_eq_true ci
    have d2 : decide (i < 30) = true := decide_eq_true c30
    have hA2 := HA.out.below (HG.out ▸ HW.out)
    obtain ⟨ad, x, rfl, hx, hx0, e0, e1, e2, e3⟩ := hA2.at i HI.out.1 ci
    have p0 := eq_true HI.out.1
    have p1 := eq_true ci
    have HI2 := Lib.hid (And.intro ci c30)
    have HX := Lib.hid (And.intro hx hx0)
    clear ci c30 hA2 hx hx0
    obtain ⟨c0, c1, c2, c3, c4⟩ := HV.out.cells
    go_upto_region 7 with fail
    have HE := Lib.hid e0
    clear e0 e1 e2 e3
    have hB := (Below.refl wr.heap.size wr).alloc (Nat.le_refl _) (.cells #[.int .i64 x.2.1, .int .i64 x.2.2.1, .int .i64 x.2.2.2] 27)
    have hb : Bw3 (wr.alloc (.cells #[.int .i64 x.2.1, .int .i64 x.2.2.1, .int .i64 x.2.2.2] 27)) wr.heap.size x.2.1 x.2.2.1 x.2.2.2 := World.alloc_heap_new wr _
    clear c0 c1 c2 c3 c4
    replace HW := Lib.hid (below_all HW.out (Nat.le_of_lt (blk_lt HV.out.s5)) hB)
    replace HE := Lib.hid ((hB.cell (World.block_lt_of_cell? _ _ HE.out)).trans HE.out)
    replace HV := Lib.hid (HV.out.all hB)
    have HB := Lib.hid hb
    clear hb hB
    generalize wr.alloc (.cells #[.int .i64 x.2.1, .int .i64 x.2.2.1, .int .i64 x.2.2.2] 27) = w6 at HV HW HE HB ⊢
    generalize wr.heap.size = gx at HB ⊢
    obtain ⟨c0, c1, c2, c3, c4⟩ := HV.out.cells
    go_wp2_with fail
    refine (PH.sched_Left.calls b0 b1 b2 b3 B bc m _ _ HV.out.row HV.out.le rfl).mono ?_
    rintro e w7 ⟨rfl, hB⟩
    clear c0 c1 c2 c3 c4
    replace HW := Lib.hid (below_all HW.out (Nat.le_of_lt (blk_lt HV.out.s5)) hB)
    replace HE := Lib.hid ((hB.cell (World.block_lt_of_cell? _ _ HE.out)).trans HE.out)
    replace HB := Lib.hid ((hB.block _ (blk_lt HB.out)).trans HB.out)
    replace HV := Lib.hid (HV.out.all hB)
    clear hB
    obtain ⟨c0, c1, c2, c3, c4⟩ := HV.out.cells
    go_upto_region 9 with fail
    have hB := (Below.refl w7.heap.size w7).alloc (Nat.le_refl _) (.cells #[.int .u64 b0, .int .u64 b1, .int .i64 b2, .int .u8 b3, .slice B m.length bc] 25)
    have hn : S5 (w7.alloc (.cells #[.int .u64 b0, .int .u64 b1, .int .i64 b2, .int .u8 b3, .slice B m.length bc] 25)) w7.heap.size (.int .u64 b0) (.int .u64 b1) (.int .i64 b2) (.int .u8 b3) (.slice B m.length bc) := World.alloc_heap_new w7 _
    clear c0 c1 c2 c3 c4
    have HQ := Lib.hid hB
    have HN := Lib.hid hn
    have e0 := (HQ.out.cell (World.block_lt_of_cell? _ _ HE.out)).trans HE.out
    clear hn hB HE
    generalize w7.alloc (.cells #[.int .u64 b0, .int .u64 b1, .int .i64 b2, .int .u8 b3, .slice B m.length bc] 25) = w8 at HQ HN e0 ⊢
    go_upto_region 10 with fail
    clear e0
    have hr3 : x.1.tmod 3 = 0 ∨ x.1.tmod 3 = 1 ∨ x.1.tmod 3 = 2 := by
     have h0 := HX.out.2
     have := Int.tmod_nonneg 3 h0
     have := Int.tmod_lt_of_pos x.1 (show (0 : Int) < 3 by decide)
     omega
    generalize x.1.tmod 3 = r3 at hr3 ⊢
    obtain ⟨at_, hat⟩ : ∃ q, x.2.1 = q := ⟨_, rfl⟩
    obtain ⟨mo, hmo⟩ : ∃ q, x.2.2.1 = q := ⟨_, rfl⟩
    obtain ⟨nn, hnn⟩ : ∃ q, x.2.2.2 = q := ⟨_, rfl⟩
    rw [hat, hmo, hnn] at HB
    clear hat hmo hnn HX
    rcases hr3 with rfl | rfl | rfl
    ·skip
     by_cases he : rchE b0 b2 b3 m at_ mo = 0
     ·have HE := Lib.hid he
      clear he
      obtain ⟨ln, hln⟩ : ∃ q, rchL m at_ mo = q := ⟨_, rfl⟩
      have hst := reach_step HM.out.1 HE.out
      rw [hln] at hst
      have PF := Lib.hid (And.intro hst.1 hst.2.2)
      have PL := Lib.hid hst.2.1
      have HLN := Lib.hid hln
      clear hst hln
      obtain ⟨c0, c1, c2, c3, c4⟩ := (HV.out.all HQ.out).cells
      have hbb := (HQ.out.block gx (blk_lt HB.out)).trans HB.out
      have x0 := (blk_cell hbb 0).trans rfl
      have x1 := (blk_cell hbb 1).trans rfl
      have x2 := (blk_cell hbb 2).trans rfl
      simp only [List.getElem?_toArray, List.getElem?_cons_zero, List.getElem?_cons_succ] at x0 x1 x2
      clear hbb
      obtain ⟨n0, n1, n2, n3, n4⟩ := S5.cells HN.out
      obtain ⟨z0, z1, z2, z3, z4⟩ := S5.fz HN.out
      go_wp2_with fail
      refine (PH.sched_Reach.calls b0 b1 b2 b3 B bc m at_ mo b0 b1 b2 b3 ln 0 _ (HV.out.all HQ.out).row HV.out.le (by unfold PH.sched_Reach.f; rw [if_pos HE.out, HLN.out])).mono ?_
      rintro e w9 ⟨v, rfl, hR, hB⟩
      obtain ⟨A9, k9, rfl, hc9, hC9⟩ := Kd.R_reads hR
      rw [PF.out.2.1] at hR ⊢
      have HR := Lib.hid hR
      clear c0 c1 c2 c3 c4 x0 x1 x2 n0 n1 n2 n3 n4 z0 z1 z2 z3 z4 hC9 hR hc9
      replace HQ := Lib.hid (below_all HQ.out HQ.out.size hB)
      replace HN := Lib.hid ((hB.block _ (blk_lt HN.out)).trans HN.out)
      clear hB
      obtain ⟨n0, n1, n2, n3, n4⟩ := S5.cells HN.out
      obtain ⟨z0, z1, z2, z3, z4⟩ := S5.fz HN.out
      go_upto_region 12 with fail
      clear n0 n1 n2 n3 n4 z0 z1 z2 z3 z4
      have hq : Below w7.heap.size w7 (((((w9.setCell ⟨w7.heap.size, 0, none⟩ (.int .u64 b0)).setCell ⟨w7.heap.size, 1, none⟩ (.int .u64 b1)).setCell ⟨w7.heap.size, 2, none⟩ (.int .i64 b2)).setCell ⟨w7.heap.size, 3, none⟩ (.int .u8 b3)).setCell ⟨w7.heap.size, 4, none⟩ (.slice A9 m.length k9)) := below5 HQ.out (Nat.le_refl _) (.int .u64 b0) (.int .u64 b1) (.int .i64 b2) (.int .u8 b3) (.slice A9 m.length k9)
      have hn : S5 (((((w9.setCell ⟨w7.heap.size, 0, none⟩ (.int .u64 b0)).setCell ⟨w7.heap.size, 1, none⟩ (.int .u64 b1)).setCell ⟨w7.heap.size, 2, none⟩ (.int .i64 b2)).setCell ⟨w7.heap.size, 3, none⟩ (.int .u8 b3)).setCell ⟨w7.heap.size, 4, none⟩ (.slice A9 m.length k9)) w7.heap.size (.int .u64 b0) (.int .u64 b1) (.int .i64 b2) (.int .u8 b3) (.slice A9 m.length k9) := S5.put HN.out (.int .u64 b0) (.int .u64 b1) (.int .i64 b2) (.int .u8 b3) (.slice A9 m.length k9)
      have hr : Rsl (((((w9.setCell ⟨w7.heap.size, 0, none⟩ (.int .u64 b0)).setCell ⟨w7.heap.size, 1, none⟩ (.int .u64 b1)).setCell ⟨w7.heap.size, 2, none⟩ (.int .i64 b2)).setCell ⟨w7.heap.size, 3, none⟩ (.int .u8 b3)).setCell ⟨w7.heap.size, 4, none⟩ (.slice A9 m.length k9)) _ (.slice A9 m.length k9) ln := S5.row HN.out HR.out (.int .u64 b0) (.int .u64 b1) (.int .i64 b2) (.int .u8 b3) (.slice A9 m.length k9)
      clear HN HR HQ
      have HQ := Lib.hid hq
      have HN := Lib.hid hn
      have HR := Lib.hid hr
      clear hq hn hr
      generalize (((((w9.setCell ⟨w7.heap.size, 0, none⟩ (.int .u64 b0)).setCell ⟨w7.heap.size, 1, none⟩ (.int .u64 b1)).setCell ⟨w7.heap.size, 2, none⟩ (.int .i64 b2)).setCell ⟨w7.heap.size, 3, none⟩ (.int .u8 b3)).setCell ⟨w7.heap.size, 4, none⟩ (.slice A9 m.length k9)) = w10 at HQ HN HR ⊢
      obtain ⟨n0, n1, n2, n3, n4⟩ := S5.cells HN.out
      go_wp2_with fail
      have hh := PH.sched_Left.calls b0 b1 b2 b3 A9 k9 ln _ w10 (Kd.R_reads' HR.out).2.2 ((Kd.R_reads' HR.out).1 ▸ (Kd.R_reads' HR.out).2.1) rfl
      rw [← (Kd.R_reads' HR.out).1] at hh
      refine hh.mono ?_
      clear hh
      rintro e w11 ⟨rfl, hB⟩
      rw [PL.out]
      clear n0 n1 n2 n3 n4
      replace HQ := Lib.hid (below_all HQ.out HQ.out.size hB)
      replace HN := Lib.hid ((hB.block _ (blk_lt HN.out)).trans HN.out)
      replace HR := Lib.hid (Kd.R_below HR.out hB)
      clear hB
      obtain ⟨c0, c1, c2, c3, c4⟩ := (HV.out.all HQ.out).cells
      obtain ⟨n0, n1, n2, n3, n4⟩ := S5.cells HN.out
      go_wp2_with fail
      have hh := PH.sched_Check.calls b0 b1 b2 b3 A9 k9 ln _ w11 (Kd.R_reads' HR.out).2.2 ((Kd.R_reads' HR.out).1 ▸ (Kd.R_reads' HR.out).2.1) rfl
      rw [← (Kd.R_reads' HR.out).1] at hh
      refine hh.mono ?_
      clear hh
      rintro e w12 ⟨rfl, hB⟩
      rw [show chk b0 b2 b3 ln = 0 from by unfold chk; rw [if_pos PF.out.1]]
      clear c0 c1 c2 c3 c4 n0 n1 n2 n3 n4
      replace HQ := Lib.hid (below_all HQ.out HQ.out.size hB)
      replace HN := Lib.hid ((hB.block _ (blk_lt HN.out)).trans HN.out)
      replace HR := Lib.hid (Kd.R_below HR.out hB)
      clear hB
      obtain ⟨c0, c1, c2, c3, c4⟩ := (HV.out.all HQ.out).cells
      obtain ⟨n0, n1, n2, n3, n4⟩ := S5.cells HN.out
      go_wp2_with fail
      go_loopg [14] (m.length + 1) (fun kq v14 wq => ∃ (j : Int), v14 = .int .i64 j ∧ Aside0 (0 ≤ j ∧ j ≤ m.length ∧ m.length + 1 ≤ kq + j) ∧ Drawn0 w12 wq)
      case atStart => exact ⟨0, rfl, ⟨by omega⟩, by repeat (first | exact Drawn0.refl _ | apply Drawn0.step)⟩
      case round =>
       obtain ⟨j, rfl, ⟨HJ⟩, ⟨m1, rfl⟩⟩ := hrel
       replace HJ := Lib.hid HJ
       by_cases cj : j < (m.length : Int)
       ·obtain ⟨k2, rfl⟩ : ∃ k2, gk = k2 + 1 := ⟨gk - 1, by have := HJ.out; omega⟩
        have hCS := (HV.out.all HQ.out).row
        have hCN := (Kd.R_reads' HR.out).2.2
        obtain ⟨adS, eS, s0, s1, s2⟩ := PH.at_T61 hCS j HJ.out.1 cj
        obtain ⟨adN, eN, t0, t1, t2⟩ := PH.at_T61 hCN j HJ.out.1 (by have := PF.out.2.1; omega)
        rw [eS] at c4
        rw [eN] at n4
        have j1 : decide (j < (m.length : Int)) = true := decide_eq_true cj
        have p0 := eq_true HJ.out.1
        have p1 := eq_true cj
        have HJ2 := Lib.hid cj
        have ejw : wrap64 (j + 1) = j + 1 := by unfold wrap64; have := HJ.out; have := HL6.out; have := HM.out.2; omega
        have hkp := PF.out.2.2 j.toNat (by have := HJ.out; omega)
        have EJ := Lib.hid ejw
        clear cj hCS hCN eS eN ejw
        cases hd : (PH.rd_T61 m j).f2 with
        | true =>
         have hl : PH.rd_T61 ln j = PH.rd_T61 m j := hkp hd
         rw [hl, hd] at t2
         rw [hl] at t0 t1
         rw [hd] at s2
         clear hkp hl hd
         go_wp2
         repeat (go_quiet (fail); try go_wp2)
         go_roundg k2
         case measure => have := HJ.out; omega
         case rel => exact ⟨wrap64 (j + 1), rfl, ⟨by rw [EJ.out]; have := HJ.out; have := HJ2.out; omega⟩, by repeat (first | exact Drawn0.refl _ | apply Drawn0.step)⟩
        | false =>
         rw [hd] at s2
         clear hkp hd t0 t1 t2
         go_wp2
         repeat (go_quiet (fail); try go_wp2)
         go_roundg k2
         case measure => have := HJ.out; omega
         case rel => exact ⟨wrap64 (j + 1), rfl, ⟨by rw [EJ.out]; have := HJ.out; have := HJ2.out; omega⟩, by repeat (first | exact Drawn0.refl _ | apply Drawn0.step)⟩
       ·have j1 : decide (j < (m.length : Int)) = false := decide_eq_false cj
        obtain ⟨z0, z1, z2, z3, z4⟩ := S5.fz (HV.out.all HQ.out).s5
        clear cj HJ
        go_wp2
        go_roundg k1
        case measure => have := HI.out; omega
        case rel =>
         have hD := Drawn0.below (show Drawn0 w12 (w12.drewN m1) from ⟨m1, rfl⟩)
         have hS := ((HV.out.all HQ.out).all hD).s5
         have hR3 := S5.row hS (Kd.R_below HR.out hD) (.int .u64 b0) (.int .u64 b1) (.int .i64 b2) (.int .u8 b3) (.slice A9 m.length k9)
         have hS3 := S5.put hS (.int .u64 b0) (.int .u64 b1) (.int .i64 b2) (.int .u8 b3) (.slice A9 m.length k9)
         have hw := below5 (below_all (below_all HW.out (Nat.le_of_lt (blk_lt HV.out.s5)) HQ.out) (Nat.le_of_lt (blk_lt (HV.out.all HQ.out).s5)) hD) (Nat.le_refl g2) (.int .u64 b0) (.int .u64 b1) (.int .i64 b2) (.int .u8 b3) (.slice A9 m.length k9)
         obtain ⟨e1, e2, e3⟩ := Kd.R_reads' hR3
         exact ⟨wrap64 (i + 1), b0, b1, b2, b3, A9, k9, ln, rfl, ⟨by unfold wrap64; have := HI.out; have := HI2.out; omega⟩, ⟨PF.out.1, PF.out.2.1.trans HM.out.2⟩, ⟨⟨by rw [← e1]; exact e2, by rw [← e1]; exact hS3, e3⟩⟩, ⟨hw⟩⟩
     ·rcases rchE_cases he with h2 | h9
      ·have HE := Lib.hid h2
       clear h2 he
       obtain ⟨c0, c1, c2, c3, c4⟩ := (HV.out.all HQ.out).cells
       have hbb := (HQ.out.block gx (blk_lt HB.out)).trans HB.out
       have x0 := (blk_cell hbb 0).trans rfl
       have x1 := (blk_cell hbb 1).trans rfl
       have x2 := (blk_cell hbb 2).trans rfl
       simp only [List.getElem?_toArray, List.getElem?_cons_zero, List.getElem?_cons_succ] at x0 x1 x2
       clear hbb
       obtain ⟨n0, n1, n2, n3, n4⟩ := S5.cells HN.out
       obtain ⟨z0, z1, z2, z3, z4⟩ := S5.fz HN.out
       go_wp2_with fail
       refine (PH.sched_Reach.calls b0 b1 b2 b3 B bc m at_ mo 0 0 0 0 [] 2 _ (HV.out.all HQ.out).row HV.out.le (by unfold PH.sched_Reach.f; rw [HE.out, if_neg (by decide)])).mono ?_
       rintro e w9 ⟨v, rfl, hR, hB⟩
       obtain ⟨A9, k9, rfl, hc9, hC9⟩ := Kd.R_reads hR
       rw [show (([] : List Sl)).length = 0 from rfl] at hR ⊢
       have HR := Lib.hid hR
       clear c0 c1 c2 c3 c4 x0 x1 x2 n0 n1 n2 n3 n4 z0 z1 z2 z3 z4 hC9 hR hc9
       replace HQ := Lib.hid (below_all HQ.out HQ.out.size hB)
       replace HN := Lib.hid ((hB.block _ (blk_lt HN.out)).trans HN.out)
       clear hB
       obtain ⟨n0, n1, n2, n3, n4⟩ := S5.cells HN.out
       obtain ⟨z0, z1, z2, z3, z4⟩ := S5.fz HN.out
       go_upto_region 12 with fail
       clear n0 n1 n2 n3 n4 z0 z1 z2 z3 z4
       have hq : Below w7.heap.size w7 (((((w9.setCell ⟨w7.heap.size, 0, none⟩ (.int .u64 0)).setCell ⟨w7.heap.size, 1, none⟩ (.int .u64 0)).setCell ⟨w7.heap.size, 2, none⟩ (.int .i64 0)).setCell ⟨w7.heap.size, 3, none⟩ (.int .u8 0)).setCell ⟨w7.heap.size, 4, none⟩ (.slice A9 0 k9)) := below5 HQ.out (Nat.le_refl _) (.int .u64 0) (.int .u64 0) (.int .i64 0) (.int .u8 0) (.slice A9 0 k9)
       have hn : S5 (((((w9.setCell ⟨w7.heap.size, 0, none⟩ (.int .u64 0)).setCell ⟨w7.heap.size, 1, none⟩ (.int .u64 0)).setCell ⟨w7.heap.size, 2, none⟩ (.int .i64 0)).setCell ⟨w7.heap.size, 3, none⟩ (.int .u8 0)).setCell ⟨w7.heap.size, 4, none⟩ (.slice A9 0 k9)) w7.heap.size (.int .u64 0) (.int .u64 0) (.int .i64 0) (.int .u8 0) (.slice A9 0 k9) := S5.put HN.out (.int .u64 0) (.int .u64 0) (.int .i64 0) (.int .u8 0) (.slice A9 0 k9)
       have hr : Rsl (((((w9.setCell ⟨w7.heap.size, 0, none⟩ (.int .u64 0)).setCell ⟨w7.heap.size, 1, none⟩ (.int .u64 0)).setCell ⟨w7.heap.size, 2, none⟩ (.int .i64 0)).setCell ⟨w7.heap.size, 3, none⟩ (.int .u8 0)).setCell ⟨w7.heap.size, 4, none⟩ (.slice A9 0 k9)) _ (.slice A9 0 k9) ([] : List Sl) := S5.row HN.out HR.out (.int .u64 0) (.int .u64 0) (.int .i64 0) (.int .u8 0) (.slice A9 0 k9)
       clear HN HR HQ
       have HQ := Lib.hid hq
       have HN := Lib.hid hn
       have HR := Lib.hid hr
       clear hq hn hr
       generalize (((((w9.setCell ⟨w7.heap.size, 0, none⟩ (.int .u64 0)).setCell ⟨w7.heap.size, 1, none⟩ (.int .u64 0)).setCell ⟨w7.heap.size, 2, none⟩ (.int .i64 0)).setCell ⟨w7.heap.size, 3, none⟩ (.int .u8 0)).setCell ⟨w7.heap.size, 4, none⟩ (.slice A9 0 k9)) = w10 at HQ HN HR ⊢
       obtain ⟨n0, n1, n2, n3, n4⟩ := S5.cells HN.out
       go_wp2
       go_roundg k1
       case measure => have := HI.out; omega
       case rel => exact ⟨wrap64 (i + 1), b0, b1, b2, b3, B, bc, m, rfl, ⟨by unfold wrap64; have := HI.out; have := HI2.out; omega⟩, ⟨HM.out⟩, ⟨HV.out.all HQ.out⟩, ⟨below_all HW.out (Nat.le_of_lt (blk_lt HV.out.s5)) HQ.out⟩⟩
      ·have HE := Lib.hid h9
       clear h9 he
       obtain ⟨c0, c1, c2, c3, c4⟩ := (HV.out.all HQ.out).cells
       have hbb := (HQ.out.block gx (blk_lt HB.out)).trans HB.out
       have x0 := (blk_cell hbb 0).trans rfl
       have x1 := (blk_cell hbb 1).trans rfl
       have x2 := (blk_cell hbb 2).trans rfl
       simp only [List.getElem?_toArray, List.getElem?_cons_zero, List.getElem?_cons_succ] at x0 x1 x2
       clear hbb
       obtain ⟨n0, n1, n2, n3, n4⟩ := S5.cells HN.out
       obtain ⟨z0, z1, z2, z3, z4⟩ := S5.fz HN.out
       go_wp2_with fail
       refine (PH.sched_Reach.calls b0 b1 b2 b3 B bc m at_ mo 0 0 0 0 [] 9 _ (HV.out.all HQ.out).row HV.out.le (by unfold PH.sched_Reach.f; rw [HE.out, if_neg (by decide)])).mono ?_
       rintro e w9 ⟨v, rfl, hR, hB⟩
       obtain ⟨A9, k9, rfl, hc9, hC9⟩ := Kd.R_reads hR
       rw [show (([] : List Sl)).length = 0 from rfl] at hR ⊢
       have HR := Lib.hid hR
       clear c0 c1 c2 c3 c4 x0 x1 x2 n0 n1 n2 n3 n4 z0 z1 z2 z3 z4 hC9 hR hc9
       replace HQ := Lib.hid (below_all HQ.out HQ.out.size hB)
       replace HN := Lib.hid ((hB.block _ (blk_lt HN.out)).trans HN.out)
       clear hB
       obtain ⟨n0, n1, n2, n3, n4⟩ := S5.cells HN.out
       obtain ⟨z0, z1, z2, z3, z4⟩ := S5.fz HN.out
       go_upto_region 12 with fail
       clear n0 n1 n2 n3 n4 z0 z1 z2 z3 z4
       have hq : Below w7.heap.size w7 (((((w9.setCell ⟨w7.heap.size, 0, none⟩ (.int .u64 0)).setCell ⟨w7.heap.size, 1, none⟩ (.int .u64 0)).setCell ⟨w7.heap.size, 2, none⟩ (.int .i64 0)).setCell ⟨w7.heap.size, 3, none⟩ (.int .u8 0)).setCell ⟨w7.heap.size, 4, none⟩ (.slice A9 0 k9)) := below5 HQ.out (Nat.le_refl _) (.int .u64 0) (.int .u64 0) (.int .i64 0) (.int .u8 0) (.slice A9 0 k9)
       have hn : S5 (((((w9.setCell ⟨w7.heap.size, 0, none⟩ (.int .u64 0)).setCell ⟨w7.heap.size, 1, none⟩ (.int .u64 0)).setCell ⟨w7.heap.size, 2, none⟩ (.int .i64 0)).setCell ⟨w7.heap.size, 3, none⟩ (.int .u8 0)).setCell ⟨w7.heap.size, 4, none⟩ (.slice A9 0 k9)) w7.heap.size (.int .u64 0) (.int .u64 0) (.int .i64 0) (.int .u8 0) (.slice A9 0 k9) := S5.put HN.out (.int .u64 0) (.int .u64 0) (.int .i64 0) (.int .u8 0) (.slice A9 0 k9)
       have hr : Rsl (((((w9.setCell ⟨w7.heap.size, 0, none⟩ (.int .u64 0)).setCell ⟨w7.heap.size, 1, none⟩ (.int .u64 0)).setCell ⟨w7.heap.size, 2, none⟩ (.int .i64 0)).setCell ⟨w7.heap.size, 3, none⟩ (.int .u8 0)).setCell ⟨w7.heap.size, 4, none⟩ (.slice A9 0 k9)) _ (.slice A9 0 k9) ([] : List Sl) := S5.row HN.out HR.out (.int .u64 0) (.int .u64 0) (.int .i64 0) (.int .u8 0) (.slice A9 0 k9)
       clear HN HR HQ
       have HQ := Lib.hid hq
       have HN := Lib.hid hn
       have HR := Lib.hid hr
       clear hq hn hr
       generalize (((((w9.setCell ⟨w7.heap.size, 0, none⟩ (.int .u64 0)).setCell ⟨w7.heap.size, 1, none⟩ (.int .u64 0)).setCell ⟨w7.heap.size, 2, none⟩ (.int .i64 0)).setCell ⟨w7.heap.size, 3, none⟩ (.int .u8 0)).setCell ⟨w7.heap.size, 4, none⟩ (.slice A9 0 k9)) = w10 at HQ HN HR ⊢
       obtain ⟨n0, n1, n2, n3, n4⟩ := S5.cells HN.out
       go_wp2
       go_roundg k1
       case measure => have := HI.out; omega
       case rel => exact ⟨wrap64 (i + 1), b0, b1, b2, b3, B, bc, m, rfl, ⟨by unfold wrap64; have := HI.out; have := HI2.out; omega⟩, ⟨HM.out⟩, ⟨HV.out.all HQ.out⟩, ⟨below_all HW.out (Nat.le_of_lt (blk_lt HV.out.s5)) HQ.out⟩⟩
    ·skip
     by_cases he : mon mo = true
     ·have HE := Lib.hid he
      clear he
      obtain ⟨ln, hln⟩ : ∃ q, tkL mo m = q := ⟨_, rfl⟩
      have hst := take_step mo HM.out.1
      have hag := take_again mo m
      obtain ⟨tn, htn⟩ : ∃ q, tkN mo m = q := ⟨_, rfl⟩
      rw [hln, htn] at hst
      rw [hln] at hag
      have PF := Lib.hid (And.intro hst.1 hst.2.2.2.2.2)
      have PL := Lib.hid (show wrap64 (lft b0 b2 b3 ln + tn) = lft b0 b2 b3 m by have := hst.2.1; have := hst.2.2; rw [w28] <;> omega)
      have PN := Lib.hid (show decide (tn < 0) = false from decide_eq_false (by have := hst.2.2.1; omega))
      have PA := Lib.hid hag
      have HLN := Lib.hid (And.intro hln htn)
      clear hst hln htn hag
      obtain ⟨c0, c1, c2, c3, c4⟩ := (HV.out.all HQ.out).cells
      have hbb := (HQ.out.block gx (blk_lt HB.out)).trans HB.out
      have x0 := (blk_cell hbb 0).trans rfl
      have x1 := (blk_cell hbb 1).trans rfl
      have x2 := (blk_cell hbb 2).trans rfl
      simp only [List.getElem?_toArray, List.getElem?_cons_zero, List.getElem?_cons_succ] at x0 x1 x2
      clear hbb
      obtain ⟨n0, n1, n2, n3, n4⟩ := S5.cells HN.out
      obtain ⟨z0, z1, z2, z3, z4⟩ := S5.fz HN.out
      go_wp2_with fail
      refine (PH.sched_Take.calls b0 b1 b2 b3 B bc m mo b0 b1 b2 b3 ln tn 0 _ (HV.out.all HQ.out).row HV.out.le (by unfold PH.sched_Take.f; rw [if_pos ⟨HM.out.1, HE.out⟩, HLN.out.1, HLN.out.2])).mono ?_
      rintro e w9 ⟨v, rfl, hR, hB⟩
      obtain ⟨A9, k9, rfl, hc9, hC9⟩ := Kd.R_reads hR
      rw [PF.out.2.1] at hR ⊢
      have HR := Lib.hid hR
      clear c0 c1 c2 c3 c4 x0 x1 x2 n0 n1 n2 n3 n4 z0 z1 z2 z3 z4 hC9 hR hc9
      replace HQ := Lib.hid (below_all HQ.out HQ.out.size hB)
      replace HN := Lib.hid ((hB.block _ (blk_lt HN.out)).trans HN.out)
      clear hB
      obtain ⟨n0, n1, n2, n3, n4⟩ := S5.cells HN.out
      obtain ⟨z0, z1, z2, z3, z4⟩ := S5.fz HN.out
      go_upto_region 17 with fail
      clear n0 n1 n2 n3 n4 z0 z1 z2 z3 z4
      have hq : Below w7.heap.size w7 (((((w9.setCell ⟨w7.heap.size, 0, none⟩ (.int .u64 b0)).setCell ⟨w7.heap.size, 1, none⟩ (.int .u64 b1)).setCell ⟨w7.heap.size, 2, none⟩ (.int .i64 b2)).setCell ⟨w7.heap.size, 3, none⟩ (.int .u8 b3)).setCell ⟨w7.heap.size, 4, none⟩ (.slice A9 m.length k9)) := below5 HQ.out (Nat.le_refl _) (.int .u64 b0) (.int .u64 b1) (.int .i64 b2) (.int .u8 b3) (.slice A9 m.length k9)
      have hn : S5 (((((w9.setCell ⟨w7.heap.size, 0, none⟩ (.int .u64 b0)).setCell ⟨w7.heap.size, 1, none⟩ (.int .u64 b1)).setCell ⟨w7.heap.size, 2, none⟩ (.int .i64 b2)).setCell ⟨w7.heap.size, 3, none⟩ (.int .u8 b3)).setCell ⟨w7.heap.size, 4, none⟩ (.slice A9 m.length k9)) w7.heap.size (.int .u64 b0) (.int .u64 b1) (.int .i64 b2) (.int .u8 b3) (.slice A9 m.length k9) := S5.put HN.out (.int .u64 b0) (.int .u64 b1) (.int .i64 b2) (.int .u8 b3) (.slice A9 m.length k9)
      have hr : Rsl (((((w9.setCell ⟨w7.heap.size, 0, none⟩ (.int .u64 b0)).setCell ⟨w7.heap.size, 1, none⟩ (.int .u64 b1)).setCell ⟨w7.heap.size, 2, none⟩ (.int .i64 b2)).setCell ⟨w7.heap.size, 3, none⟩ (.int .u8 b3)).setCell ⟨w7.heap.size, 4, none⟩ (.slice A9 m.length k9)) _ (.slice A9 m.length k9) ln := S5.row HN.out HR.out (.int .u64 b0) (.int .u64 b1) (.int .i64 b2) (.int .u8 b3) (.slice A9 m.length k9)
      clear HN HR HQ
      have HQ := Lib.hid hq
      have HN := Lib.hid hn
      have HR := Lib.hid hr
      clear hq hn hr
      generalize (((((w9.setCell ⟨w7.heap.size, 0, none⟩ (.int .u64 b0)).setCell ⟨w7.heap.size, 1, none⟩ (.int .u64 b1)).setCell ⟨w7.heap.size, 2, none⟩ (.int .i64 b2)).setCell ⟨w7.heap.size, 3, none⟩ (.int .u8 b3)).setCell ⟨w7.heap.size, 4, none⟩ (.slice A9 m.length k9)) = w10 at HQ HN HR ⊢
      obtain ⟨n0, n1, n2, n3, n4⟩ := S5.cells HN.out
      have hbb := (HQ.out.block gx (blk_lt HB.out)).trans HB.out
      have x0 := (blk_cell hbb 0).trans rfl
      have x1 := (blk_cell hbb 1).trans rfl
      have x2 := (blk_cell hbb 2).trans rfl
      simp only [List.getElem?_toArray, List.getElem?_cons_zero, List.getElem?_cons_succ] at x0 x1 x2
      clear hbb
      obtain ⟨l2, hl2⟩ : ∃ q, tkL mo ln = q := ⟨_, rfl⟩
      have HL2 := Lib.hid hl2
      clear hl2
      go_wp2_with fail
      have hh := PH.sched_Take.calls b0 b1 b2 b3 A9 k9 ln mo b0 b1 b2 b3 l2 0 0 w10 (Kd.R_reads' HR.out).2.2 ((Kd.R_reads' HR.out).1 ▸ (Kd.R_reads' HR.out).2.1) (by unfold PH.sched_Take.f; rw [if_pos ⟨PF.out.1, HE.out⟩, HL2.out, PA.out])
      rw [← (Kd.R_reads' HR.out).1] at hh
      refine hh.mono ?_
      clear hh
      rintro e w11 ⟨v, rfl, hR, hB⟩
      obtain ⟨A7, k7, rfl, hc9, hC9⟩ := Kd.R_reads hR
      clear n0 n1 n2 n3 n4 x0 x1 x2 hC9 hR hc9
      replace HQ := Lib.hid (below_all HQ.out HQ.out.size hB)
      replace HN := Lib.hid ((hB.block _ (blk_lt HN.out)).trans HN.out)
      replace HR := Lib.hid (Kd.R_below HR.out hB)
      clear hB
      go_upto_region 19 with fail
      have hB := (Below.refl w11.heap.size w11).alloc (Nat.le_refl _) (.cells #[.int .u64 b0, .int .u64 b1, .int .i64 b2, .int .u8 b3, .slice A7 l2.length k7] 25)
      replace HQ := Lib.hid (below_all HQ.out HQ.out.size hB)
      replace HN := Lib.hid ((hB.block _ (blk_lt HN.out)).trans HN.out)
      replace HR := Lib.hid (Kd.R_below HR.out hB)
      clear hB
      generalize w11.alloc (.cells #[.int .u64 b0, .int .u64 b1, .int .i64 b2, .int .u8 b3, .slice A7 l2.length k7] 25) = w13 at HQ HN HR ⊢
      have g1 := PN.out
      obtain ⟨n0, n1, n2, n3, n4⟩ := S5.cells HN.out
      go_wp2_with fail
      have hh := PH.sched_Left.calls b0 b1 b2 b3 A9 k9 ln _ w13 (Kd.R_reads' HR.out).2.2 ((Kd.R_reads' HR.out).1 ▸ (Kd.R_reads' HR.out).2.1) rfl
      rw [← (Kd.R_reads' HR.out).1] at hh
      refine hh.mono ?_
      clear hh
      rintro e w14 ⟨rfl, hB⟩
      have PL2 := PL.out
      clear n0 n1 n2 n3 n4
      replace HQ := Lib.hid (below_all HQ.out HQ.out.size hB)
      replace HN := Lib.hid ((hB.block _ (blk_lt HN.out)).trans HN.out)
      replace HR := Lib.hid (Kd.R_below HR.out hB)
      clear hB
      go_upto_region 25 with fail
      clear PL2 g1
      obtain ⟨c0, c1, c2, c3, c4⟩ := (HV.out.all HQ.out).cells
      obtain ⟨n0, n1, n2, n3, n4⟩ := S5.cells HN.out
      go_wp2_with fail
      have hh := PH.sched_Check.calls b0 b1 b2 b3 A9 k9 ln _ w14 (Kd.R_reads' HR.out).2.2 ((Kd.R_reads' HR.out).1 ▸ (Kd.R_reads' HR.out).2.1) rfl
      rw [← (Kd.R_reads' HR.out).1] at hh
      refine hh.mono ?_
      clear hh
      rintro e w12 ⟨rfl, hB⟩
      rw [show chk b0 b2 b3 ln = 0 from by unfold chk; rw [if_pos PF.out.1]]
      clear c0 c1 c2 c3 c4 n0 n1 n2 n3 n4
      replace HQ := Lib.hid (below_all HQ.out HQ.out.size hB)
      replace HN := Lib.hid ((hB.block _ (blk_lt HN.out)).trans HN.out)
      replace HR := Lib.hid (Kd.R_below HR.out hB)
      clear hB
      obtain ⟨c0, c1, c2, c3, c4⟩ := (HV.out.all HQ.out).cells
      obtain ⟨n0, n1, n2, n3, n4⟩ := S5.cells HN.out
      go_wp2_with fail
      go_loopg [14] (m.length + 1) (fun kq v14 wq => ∃ (j : Int), v14 = .int .i64 j ∧ Aside0 (0 ≤ j ∧ j ≤ m.length ∧ m.length + 1 ≤ kq + j) ∧ Drawn0 w12 wq)
      case atStart => exact ⟨0, rfl, ⟨by omega⟩, by repeat (first | exact Drawn0.refl _ | apply Drawn0.step)⟩
      case round =>
       obtain ⟨j, rfl, ⟨HJ⟩, ⟨m1, rfl⟩⟩ := hrel
       replace HJ := Lib.hid HJ
       by_cases cj : j < (m.length : Int)
       ·obtain ⟨k2, rfl⟩ : ∃ k2, gk = k2 + 1 := ⟨gk - 1, by have := HJ.out; omega⟩
        have hCS := (HV.out.all HQ.out).row
        have hCN := (Kd.R_reads' HR.out).2.2
        obtain ⟨adS, eS, s0, s1, s2⟩ := PH.at_T61 hCS j HJ.out.1 cj
        obtain ⟨adN, eN, t0, t1, t2⟩ := PH.at_T61 hCN j HJ.out.1 (by have := PF.out.2.1; omega)
        rw [eS] at c4
        rw [eN] at n4
        have j1 : decide (j < (m.length : Int)) = true := decide_eq_true cj
        have p0 := eq_true HJ.out.1
        have p1 := eq_true cj
        have HJ2 := Lib.hid cj
        have ejw : wrap64 (j + 1) = j + 1 := by unfold wrap64; have := HJ.out; have := HL6.out; have := HM.out.2; omega
        have hkp := PF.out.2.2 j.toNat (by have := HJ.out; omega)
        have EJ := Lib.hid ejw
        clear cj hCS hCN eS eN ejw
        cases hd : (PH.rd_T61 m j).f2 with
        | true =>
         have hl : PH.rd_T61 ln j = PH.rd_T61 m j := hkp hd
         rw [hl, hd] at t2
         rw [hl] at t0 t1
         rw [hd] at s2
         clear hkp hl hd
         go_wp2
         repeat (go_quiet (fail); try go_wp2)
         go_roundg k2
         case measure => have := HJ.out; omega
         case rel => exact ⟨wrap64 (j + 1), rfl, ⟨by rw [EJ.out]; have := HJ.out; have := HJ2.out; omega⟩, by repeat (first | exact Drawn0.refl _ | apply Drawn0.step)⟩
        | false =>
         rw [hd] at s2
         clear hkp hd t0 t1 t2
         go_wp2
         repeat (go_quiet (fail); try go_wp2)
         go_roundg k2
         case measure => have := HJ.out; omega
         case rel => exact ⟨wrap64 (j + 1), rfl, ⟨by rw [EJ.out]; have := HJ.out; have := HJ2.out; omega⟩, by repeat (first | exact Drawn0.refl _ | apply Drawn0.step)⟩
       ·have j1 : decide (j < (m.length : Int)) = false := decide_eq_false cj
        obtain ⟨z0, z1, z2, z3, z4⟩ := S5.fz (HV.out.all HQ.out).s5
        clear cj HJ
        go_wp2
        go_roundg k1
        case measure => have := HI.out; omega
        case rel =>
         have hD := Drawn0.below (show Drawn0 w12 (w12.drewN m1) from ⟨m1, rfl⟩)
         have hS := ((HV.out.all HQ.out).all hD).s5
         have hR3 := S5.row hS (Kd.R_below HR.out hD) (.int .u64 b0) (.int .u64 b1) (.int .i64 b2) (.int .u8 b3) (.slice A9 m.length k9)
         have hS3 := S5.put hS (.int .u64 b0) (.int .u64 b1) (.int .i64 b2) (.int .u8 b3) (.slice A9 m.length k9)
         have hw := below5 (below_all (below_all HW.out (Nat.le_of_lt (blk_lt HV.out.s5)) HQ.out) (Nat.le_of_lt (blk_lt (HV.out.all HQ.out).s5)) hD) (Nat.le_refl g2) (.int .u64 b0) (.int .u64 b1) (.int .i64 b2) (.int .u8 b3) (.slice A9 m.length k9)
         obtain ⟨e1, e2, e3⟩ := Kd.R_reads' hR3
         exact ⟨wrap64 (i + 1), b0, b1, b2, b3, A9, k9, ln, rfl, ⟨by unfold wrap64; have := HI.out; have := HI2.out; omega⟩, ⟨PF.out.1, PF.out.2.1.trans HM.out.2⟩, ⟨⟨by rw [← e1]; exact e2, by rw [← e1]; exact hS3, e3⟩⟩, ⟨hw⟩⟩
     ·have HE := Lib.hid he
      clear he
      obtain ⟨c0, c1, c2, c3, c4⟩ := (HV.out.all HQ.out).cells
      have hbb := (HQ.out.block gx (blk_lt HB.out)).trans HB.out
      have x0 := (blk_cell hbb 0).trans rfl
      have x1 := (blk_cell hbb 1).trans rfl
      have x2 := (blk_cell hbb 2).trans rfl
      simp only [List.getElem?_toArray, List.getElem?_cons_zero, List.getElem?_cons_succ] at x0 x1 x2
      clear hbb
      obtain ⟨n0, n1, n2, n3, n4⟩ := S5.cells HN.out
      obtain ⟨z0, z1, z2, z3, z4⟩ := S5.fz HN.out
      go_wp2_with fail
      refine (PH.sched_Take.calls b0 b1 b2 b3 B bc m mo 0 0 0 0 [] 0 2 _ (HV.out.all HQ.out).row HV.out.le (by unfold PH.sched_Take.f; rw [if_neg (fun z => HE.out z.2)])).mono ?_
      rintro e w9 ⟨v, rfl, hR, hB⟩
      obtain ⟨A9, k9, rfl, hc9, hC9⟩ := Kd.R_reads hR
      rw [show (([] : List Sl)).length = 0 from rfl] at hR ⊢
      have HR := Lib.hid hR
      clear c0 c1 c2 c3 c4 x0 x1 x2 n0 n1 n2 n3 n4 z0 z1 z2 z3 z4 hC9 hR hc9
      replace HQ := Lib.hid (below_all HQ.out HQ.out.size hB)
      replace HN := Lib.hid ((hB.block _ (blk_lt HN.out)).trans HN.out)
      clear hB
      obtain ⟨n0, n1, n2, n3, n4⟩ := S5.cells HN.out
      obtain ⟨z0, z1, z2, z3, z4⟩ := S5.fz HN.out
      go_upto_region 17 with fail
      clear n0 n1 n2 n3 n4 z0 z1 z2 z3 z4
      have hq : Below w7.heap.size w7 (((((w9.setCell ⟨w7.heap.size, 0, none⟩ (.int .u64 0)).setCell ⟨w7.heap.size, 1, none⟩ (.int .u64 0)).setCell ⟨w7.heap.size, 2, none⟩ (.int .i64 0)).setCell ⟨w7.heap.size, 3, none⟩ (.int .u8 0)).setCell ⟨w7.heap.size, 4, none⟩ (.slice A9 0 k9)) := below5 HQ.out (Nat.le_refl _) (.int .u64 0) (.int .u64 0) (.int .i64 0) (.int .u8 0) (.slice A9 0 k9)
      have hn : S5 (((((w9.setCell ⟨w7.heap.size, 0, none⟩ (.int .u64 0)).setCell ⟨w7.heap.size, 1, none⟩ (.int .u64 0)).setCell ⟨w7.heap.size, 2, none⟩ (.int .i64 0)).setCell ⟨w7.heap.size, 3, none⟩ (.int .u8 0)).setCell ⟨w7.heap.size, 4, none⟩ (.slice A9 0 k9)) w7.heap.size (.int .u64 0) (.int .u64 0) (.int .i64 0) (.int .u8 0) (.slice A9 0 k9) := S5.put HN.out (.int .u64 0) (.int .u64 0) (.int .i64 0) (.int .u8 0) (.slice A9 0 k9)
      have hr : Rsl (((((w9.setCell ⟨w7.heap.size, 0, none⟩ (.int .u64 0)).setCell ⟨w7.heap.size, 1, none⟩ (.int .u64 0)).setCell ⟨w7.heap.size, 2, none⟩ (.int .i64 0)).setCell ⟨w7.heap.size, 3, none⟩ (.int .u8 0)).setCell ⟨w7.heap.size, 4, none⟩ (.slice A9 0 k9)) _ (.slice A9 0 k9) ([] : List Sl) := S5.row HN.out HR.out (.int .u64 0) (.int .u64 0) (.int .i64 0) (.int .u8 0) (.slice A9 0 k9)
      clear HN HR HQ
      have HQ := Lib.hid hq
      have HN := Lib.hid hn
      have HR := Lib.hid hr
      clear hq hn hr
      generalize (((((w9.setCell ⟨w7.heap.size, 0, none⟩ (.int .u64 0)).setCell ⟨w7.heap.size, 1, none⟩ (.int .u64 0)).setCell ⟨w7.heap.size, 2, none⟩ (.int .i64 0)).setCell ⟨w7.heap.size, 3, none⟩ (.int .u8 0)).setCell ⟨w7.heap.size, 4, none⟩ (.slice A9 0 k9)) = w10 at HQ HN HR ⊢
      obtain ⟨n0, n1, n2, n3, n4⟩ := S5.cells HN.out
      go_wp2
      go_roundg k1
      case measure => have := HI.out; omega
      case rel => exact ⟨wrap64 (i + 1), b0, b1, b2, b3, B, bc, m, rfl, ⟨by unfold wrap64; have := HI.out; have := HI2.out; omega⟩, ⟨HM.out⟩, ⟨HV.out.all HQ.out⟩, ⟨below_all HW.out (Nat.le_of_lt (blk_lt HV.out.s5)) HQ.out⟩⟩
    ·skip
     by_cases h1 : 1 ≤ nn
     ·skip
      by_cases h2 : lft b0 b2 b3 m < nn ∨ b2 = 1000000
      ·have HE := Lib.hid (And.intro h1 h2)
       clear h1 h2
       obtain ⟨c0, c1, c2, c3, c4⟩ := (HV.out.all HQ.out).cells
       have hbb := (HQ.out.block gx (blk_lt HB.out)).trans HB.out
       have x0 := (blk_cell hbb 0).trans rfl
       have x1 := (blk_cell hbb 1).trans rfl
       have x2 := (blk_cell hbb 2).trans rfl
       simp only [List.getElem?_toArray, List.getElem?_cons_zero, List.getElem?_cons_succ] at x0 x1 x2
       clear hbb
       obtain ⟨n0, n1, n2, n3, n4⟩ := S5.cells HN.out
       obtain ⟨z0, z1, z2, z3, z4⟩ := S5.fz HN.out
       go_wp2_with fail
       refine (PH.sched_Cut.calls b0 b1 b2 b3 B bc m nn 0 0 0 0 [] 9 _ (HV.out.all HQ.out).row HV.out.le (by unfold PH.sched_Cut.f; rw [if_pos ⟨HM.out.1, HE.out.1⟩, if_pos HE.out.2])).mono ?_
       rintro e w9 ⟨v, rfl, hR, hB⟩
       obtain ⟨A9, k9, rfl, hc9, hC9⟩ := Kd.R_reads hR
       rw [show (([] : List Sl)).length = 0 from rfl] at hR ⊢
       have HR := Lib.hid hR
       clear c0 c1 c2 c3 c4 x0 x1 x2 n0 n1 n2 n3 n4 z0 z1 z2 z3 z4 hC9 hR hc9
       replace HQ := Lib.hid (below_all HQ.out HQ.out.size hB)
       replace HN := Lib.hid ((hB.block _ (blk_lt HN.out)).trans HN.out)
       clear hB
       obtain ⟨n0, n1, n2, n3, n4⟩ := S5.cells HN.out
       obtain ⟨z0, z1, z2, z3, z4⟩ := S5.fz HN.out
       go_upto_region 23 with fail
       clear n0 n1 n2 n3 n4 z0 z1 z2 z3 z4
       have hq : Below w7.heap.size w7 (((((w9.setCell ⟨w7.heap.size, 0, none⟩ (.int .u64 0)).setCell ⟨w7.heap.size, 1, none⟩ (.int .u64 0)).setCell ⟨w7.heap.size, 2, none⟩ (.int .i64 0)).setCell ⟨w7.heap.size, 3, none⟩ (.int .u8 0)).setCell ⟨w7.heap.size, 4, none⟩ (.slice A9 0 k9)) := below5 HQ.out (Nat.le_refl _) (.int .u64 0) (.int .u64 0) (.int .i64 0) (.int .u8 0) (.slice A9 0 k9)
       have hn : S5 (((((w9.setCell ⟨w7.heap.size, 0, none⟩ (.int .u64 0)).setCell ⟨w7.heap.size, 1, none⟩ (.int .u64 0)).setCell ⟨w7.heap.size, 2, none⟩ (.int .i64 0)).setCell ⟨w7.heap.size, 3, none⟩ (.int .u8 0)).setCell ⟨w7.heap.size, 4, none⟩ (.slice A9 0 k9)) w7.heap.size (.int .u64 0) (.int .u64 0) (.int .i64 0) (.int .u8 0) (.slice A9 0 k9) := S5.put HN.out (.int .u64 0) (.int .u64 0) (.int .i64 0) (.int .u8 0) (.slice A9 0 k9)
       have hr : Rsl (((((w9.setCell ⟨w7.heap.size, 0, none⟩ (.int .u64 0)).setCell ⟨w7.heap.size, 1, none⟩ (.int .u64 0)).setCell ⟨w7.heap.size, 2, none⟩ (.int .i64 0)).setCell ⟨w7.heap.size, 3, none⟩ (.int .u8 0)).setCell ⟨w7.heap.size, 4, none⟩ (.slice A9 0 k9)) _ (.slice A9 0 k9) ([] : List Sl) := S5.row HN.out HR.out (.int .u64 0) (.int .u64 0) (.int .i64 0) (.int .u8 0) (.slice A9 0 k9)
       clear HN HR HQ
       have HQ := Lib.hid hq
       have HN := Lib.hid hn
       have HR := Lib.hid hr
       clear hq hn hr
       generalize (((((w9.setCell ⟨w7.heap.size, 0, none⟩ (.int .u64 0)).setCell ⟨w7.heap.size, 1, none⟩ (.int .u64 0)).setCell ⟨w7.heap.size, 2, none⟩ (.int .i64 0)).setCell ⟨w7.heap.size, 3, none⟩ (.int .u8 0)).setCell ⟨w7.heap.size, 4, none⟩ (.slice A9 0 k9)) = w10 at HQ HN HR ⊢
       obtain ⟨n0, n1, n2, n3, n4⟩ := S5.cells HN.out
       go_wp2
       repeat (go_quiet (fail); try go_wp2)
       go_roundg k1
       case measure => have := HI.out; omega
       case rel =>
        refine ⟨wrap64 (i + 1), b0, b1, b2, b3, B, bc, m, rfl, ⟨by unfold wrap64; have := HI.out; have := HI2.out; omega⟩, ⟨HM.out⟩, ⟨(HV.out.all HQ.out).all ?_⟩, ⟨below_all (below_all HW.out (Nat.le_of_lt (blk_lt HV.out.s5)) HQ.out) (Nat.le_of_lt (blk_lt (HV.out.all HQ.out).s5)) ?_⟩⟩
        all_goals repeat (first | exact Below.refl _ _ | exact pw_below_drewN (Below.refl _ _) _ | apply Below.drew)
      ·have HE := Lib.hid (And.intro h1 h2)
       clear h1 h2
       obtain ⟨ln, hln⟩ : ∃ q, (cutP m nn (bk m m.length)).1 = q := ⟨_, rfl⟩
       have hv := (hd_a3 (okS_open HM.out.1).1).2
       have hst := cut_step HM.out.1 HE.out.1 (show nn ≤ lft b0 b2 b3 m by have := HE.out.2; omega) (show b2 ≠ 1000000 from fun z => HE.out.2 (.inr z))
       have hlb := lft_bd HM.out.1
       obtain ⟨b4, hb4⟩ : ∃ q, b2 + 1 = q := ⟨_, rfl⟩
       rw [hln, hb4] at hst
       have PF := Lib.hid (And.intro hst.1 hst.2.2)
       have PL := Lib.hid (show IntKind.i64.wrap (lft b0 b2 b3 m - nn) = lft b0 b4 b3 ln from (Go.Proofs.YtgceecnlgjmghaaDoorW.PrintLast.i64_w _).trans (by have := hst.2.1; have := HE.out; rw [w28] <;> omega))
       have PV := Lib.hid (show IntKind.i64.wrap (b2 + 1) = b4 from (Go.Proofs.YtgceecnlgjmghaaDoorW.PrintLast.i64_w _).trans (by rw [w28] <;> omega))
       have HLN := Lib.hid (And.intro hln hb4)
       clear hst hln hb4 hv hlb
       obtain ⟨c0, c1, c2, c3, c4⟩ := (HV.out.all HQ.out).cells
       have hbb := (HQ.out.block gx (blk_lt HB.out)).trans HB.out
       have x0 := (blk_cell hbb 0).trans rfl
       have x1 := (blk_cell hbb 1).trans rfl
       have x2 := (blk_cell hbb 2).trans rfl
       simp only [List.getElem?_toArray, List.getElem?_cons_zero, List.getElem?_cons_succ] at x0 x1 x2
       clear hbb
       obtain ⟨n0, n1, n2, n3, n4⟩ := S5.cells HN.out
       obtain ⟨z0, z1, z2, z3, z4⟩ := S5.fz HN.out
       go_wp2_with fail
       refine (PH.sched_Cut.calls b0 b1 b2 b3 B bc m nn b0 b1 b4 b3 ln 0 _ (HV.out.all HQ.out).row HV.out.le (by unfold PH.sched_Cut.f; rw [if_pos ⟨HM.out.1, HE.out.1⟩, if_neg HE.out.2, HLN.out.1, HLN.out.2])).mono ?_
       rintro e w9 ⟨v, rfl, hR, hB⟩
       obtain ⟨A9, k9, rfl, hc9, hC9⟩ := Kd.R_reads hR
       rw [PF.out.2.1] at hR ⊢
       have HR := Lib.hid hR
       clear c0 c1 c2 c3 c4 x0 x1 x2 n0 n1 n2 n3 n4 z0 z1 z2 z3 z4 hC9 hR hc9
       replace HQ := Lib.hid (below_all HQ.out HQ.out.size hB)
       replace HN := Lib.hid ((hB.block _ (blk_lt HN.out)).trans HN.out)
       clear hB
       obtain ⟨n0, n1, n2, n3, n4⟩ := S5.cells HN.out
       obtain ⟨z0, z1, z2, z3, z4⟩ := S5.fz HN.out
       go_upto_region 23 with fail
       clear n0 n1 n2 n3 n4 z0 z1 z2 z3 z4
       have hq : Below w7.heap.size w7 (((((w9.setCell ⟨w7.heap.size, 0, none⟩ (.int .u64 b0)).setCell ⟨w7.heap.size, 1, none⟩ (.int .u64 b1)).setCell ⟨w7.heap.size, 2, none⟩ (.int .i64 b4)).setCell ⟨w7.heap.size, 3, none⟩ (.int .u8 b3)).setCell ⟨w7.heap.size, 4, none⟩ (.slice A9 m.length k9)) := below5 HQ.out (Nat.le_refl _) (.int .u64 b0) (.int .u64 b1) (.int .i64 b4) (.int .u8 b3) (.slice A9 m.length k9)
       have hn : S5 (((((w9.setCell ⟨w7.heap.size, 0, none⟩ (.int .u64 b0)).setCell ⟨w7.heap.size, 1, none⟩ (.int .u64 b1)).setCell ⟨w7.heap.size, 2, none⟩ (.int .i64 b4)).setCell ⟨w7.heap.size, 3, none⟩ (.int .u8 b3)).setCell ⟨w7.heap.size, 4, none⟩ (.slice A9 m.length k9)) w7.heap.size (.int .u64 b0) (.int .u64 b1) (.int .i64 b4) (.int .u8 b3) (.slice A9 m.length k9) := S5.put HN.out (.int .u64 b0) (.int .u64 b1) (.int .i64 b4) (.int .u8 b3) (.slice A9 m.length k9)
       have hr : Rsl (((((w9.setCell ⟨w7.heap.size, 0, none⟩ (.int .u64 b0)).setCell ⟨w7.heap.size, 1, none⟩ (.int .u64 b1)).setCell ⟨w7.heap.size, 2, none⟩ (.int .i64 b4)).setCell ⟨w7.heap.size, 3, none⟩ (.int .u8 b3)).setCell ⟨w7.heap.size, 4, none⟩ (.slice A9 m.length k9)) _ (.slice A9 m.length k9) ln := S5.row HN.out HR.out (.int .u64 b0) (.int .u64 b1) (.int .i64 b4) (.int .u8 b3) (.slice A9 m.length k9)
       clear HN HR HQ
       have HQ := Lib.hid hq
       have HN := Lib.hid hn
       have HR := Lib.hid hr
       clear hq hn hr
       generalize (((((w9.setCell ⟨w7.heap.size, 0, none⟩ (.int .u64 b0)).setCell ⟨w7.heap.size, 1, none⟩ (.int .u64 b1)).setCell ⟨w7.heap.size, 2, none⟩ (.int .i64 b4)).setCell ⟨w7.heap.size, 3, none⟩ (.int .u8 b3)).setCell ⟨w7.heap.size, 4, none⟩ (.slice A9 m.length k9)) = w10 at HQ HN HR ⊢
       obtain ⟨c0, c1, c2, c3, c4⟩ := (HV.out.all HQ.out).cells
       have hbb := (HQ.out.block gx (blk_lt HB.out)).trans HB.out
       have x0 := (blk_cell hbb 0).trans rfl
       have x1 := (blk_cell hbb 1).trans rfl
       have x2 := (blk_cell hbb 2).trans rfl
       simp only [List.getElem?_toArray, List.getElem?_cons_zero, List.getElem?_cons_succ] at x0 x1 x2
       clear hbb
       obtain ⟨n0, n1, n2, n3, n4⟩ := S5.cells HN.out
       have KK := Lib.hid (show K w10 w10.drew from K.dr (Below.refl _ _))
       rw [← PV.out] at n2
       have kc0 : ∀ V : World, K w10 V → V.cell? ⟨g2, 0, none⟩ = _ := fun V h => (h.cell (p := ⟨g2, 0, none⟩) (World.block_lt_of_cell? _ _ c0)).trans c0
       have kc1 : ∀ V : World, K w10 V → V.cell? ⟨g2, 1, none⟩ = _ := fun V h => (h.cell (p := ⟨g2, 1, none⟩) (World.block_lt_of_cell? _ _ c1)).trans c1
       have kc2 : ∀ V : World, K w10 V → V.cell? ⟨g2, 2, none⟩ = _ := fun V h => (h.cell (p := ⟨g2, 2, none⟩) (World.block_lt_of_cell? _ _ c2)).trans c2
       have kc3 : ∀ V : World, K w10 V → V.cell? ⟨g2, 3, none⟩ = _ := fun V h => (h.cell (p := ⟨g2, 3, none⟩) (World.block_lt_of_cell? _ _ c3)).trans c3
       have kc4 : ∀ V : World, K w10 V → V.cell? ⟨g2, 4, none⟩ = _ := fun V h => (h.cell (p := ⟨g2, 4, none⟩) (World.block_lt_of_cell? _ _ c4)).trans c4
       have kn0 : ∀ V : World, K w10 V → V.cell? ⟨w7.heap.size, 0, none⟩ = _ := fun V h => (h.cell (p := ⟨w7.heap.size, 0, none⟩) (World.block_lt_of_cell? _ _ n0)).trans n0
       have kn1 : ∀ V : World, K w10 V → V.cell? ⟨w7.heap.size, 1, none⟩ = _ := fun V h => (h.cell (p := ⟨w7.heap.size, 1, none⟩) (World.block_lt_of_cell? _ _ n1)).trans n1
       have kn2 : ∀ V : World, K w10 V → V.cell? ⟨w7.heap.size, 2, none⟩ = _ := fun V h => (h.cell (p := ⟨w7.heap.size, 2, none⟩) (World.block_lt_of_cell? _ _ n2)).trans n2
       have kn3 : ∀ V : World, K w10 V → V.cell? ⟨w7.heap.size, 3, none⟩ = _ := fun V h => (h.cell (p := ⟨w7.heap.size, 3, none⟩) (World.block_lt_of_cell? _ _ n3)).trans n3
       have kn4 : ∀ V : World, K w10 V → V.cell? ⟨w7.heap.size, 4, none⟩ = _ := fun V h => (h.cell (p := ⟨w7.heap.size, 4, none⟩) (World.block_lt_of_cell? _ _ n4)).trans n4
       have kx0 : ∀ V : World, K w10 V → V.cell? ⟨gx, 0, none⟩ = _ := fun V h => (h.cell (p := ⟨gx, 0, none⟩) (World.block_lt_of_cell? _ _ x0)).trans x0
       have kx1 : ∀ V : World, K w10 V → V.cell? ⟨gx, 1, none⟩ = _ := fun V h => (h.cell (p := ⟨gx, 1, none⟩) (World.block_lt_of_cell? _ _ x1)).trans x1
       have kx2 : ∀ V : World, K w10 V → V.cell? ⟨gx, 2, none⟩ = _ := fun V h => (h.cell (p := ⟨gx, 2, none⟩) (World.block_lt_of_cell? _ _ x2)).trans x2
       have CL := Lib.hid (show ∀ V : World, K w10 V → Calls Tryd.prog 17 #[.agg #[.int .u64 b0, .int .u64 b1, .int .i64 (IntKind.i64.wrap (b2 + 1)), .int .u8 b3, .slice A9 m.length k9]] V fun e w' => e = .returned (.int .i64 (IntKind.i64.wrap (lft b0 b2 b3 m - nn))) ∧ Below V.heap.size V w' from fun V h => by
        rw [PL.out, PV.out]
        have hh := PH.sched_Left.calls b0 b1 b4 b3 A9 k9 ln _ V (Kd.C_below (Kd.R_reads' HR.out).2.2 h) ((Kd.R_reads' HR.out).1 ▸ (Kd.R_reads' HR.out).2.1) rfl
        rwa [← (Kd.R_reads' HR.out).1] at hh)
       go_region_held3 (fun w' => K w10 w')
        (first
         | with_reducible exact KK.out
         | with_reducible exact K5
         | (go_split_ands; with_reducible (repeat (first | assumption | exact K5))))
        (first
         | (go_at_call 17; go_split_ands; with_reducible refine (CL.out _ (by assumption)).mono ?_; rintro e w5 ⟨rfl, B5⟩; have K5 := K.all (by assumption) B5))
       have hB : Below w10.heap.size w10 w5 := by assumption
       clear kc0 kc1 kc2 kc3 kc4 kn0 kn1 kn2 kn3 kn4 kx0 kx1 kx2 KK CL c0 c1 c2 c3 c4 n0 n1 n2 n3 n4 x0 x1 x2 B5
       replace HQ := Lib.hid (below_all HQ.out HQ.out.size hB)
       replace HN := Lib.hid ((hB.block _ (blk_lt HN.out)).trans HN.out)
       replace HR := Lib.hid (Kd.R_below HR.out hB)
       clear hB
       obtain ⟨c0, c1, c2, c3, c4⟩ := (HV.out.all HQ.out).cells
       obtain ⟨n0, n1, n2, n3, n4⟩ := S5.cells HN.out
       go_wp2_with fail
       have hh := PH.sched_Check.calls b0 b1 b4 b3 A9 k9 ln _ w5 (Kd.R_reads' HR.out).2.2 ((Kd.R_reads' HR.out).1 ▸ (Kd.R_reads' HR.out).2.1) rfl
       rw [← (Kd.R_reads' HR.out).1] at hh
       refine hh.mono ?_
       clear hh
       rintro e w12 ⟨rfl, hB⟩
       rw [show chk b0 b4 b3 ln = 0 from by unfold chk; rw [if_pos PF.out.1]]
       clear c0 c1 c2 c3 c4 n0 n1 n2 n3 n4
       replace HQ := Lib.hid (below_all HQ.out HQ.out.size hB)
       replace HN := Lib.hid ((hB.block _ (blk_lt HN.out)).trans HN.out)
       replace HR := Lib.hid (Kd.R_below HR.out hB)
       clear hB
       obtain ⟨c0, c1, c2, c3, c4⟩ := (HV.out.all HQ.out).cells
       obtain ⟨n0, n1, n2, n3, n4⟩ := S5.cells HN.out
       go_wp2_with fail
       go_loopg [14] (m.length + 1) (fun kq v14 wq => ∃ (j : Int), v14 = .int .i64 j ∧ Aside0 (0 ≤ j ∧ j ≤ m.length ∧ m.length + 1 ≤ kq + j) ∧ Drawn0 w12 wq)
       case atStart => exact ⟨0, rfl, ⟨by omega⟩, by repeat (first | exact Drawn0.refl _ | apply Drawn0.step)⟩
       case round =>
        obtain ⟨j, rfl, ⟨HJ⟩, ⟨m1, rfl⟩⟩ := hrel
        replace HJ := Lib.hid HJ
        by_cases cj : j < (m.length : Int)
        ·obtain ⟨k2, rfl⟩ : ∃ k2, gk = k2 + 1 := ⟨gk - 1, by have := HJ.out; omega⟩
         have hCS := (HV.out.all HQ.out).row
         have hCN := (Kd.R_reads' HR.out).2.2
         obtain ⟨adS, eS, s0, s1, s2⟩ := PH.at_T61 hCS j HJ.out.1 cj
         obtain ⟨adN, eN, t0, t1, t2⟩ := PH.at_T61 hCN j HJ.out.1 (by have := PF.out.2.1; omega)
         rw [eS] at c4
         rw [eN] at n4
         have j1 : decide (j < (m.length : Int)) = true := decide_eq_true cj
         have p0 := eq_true HJ.out.1
         have p1 := eq_true cj
         have HJ2 := Lib.hid cj
         have ejw : wrap64 (j + 1) = j + 1 := by unfold wrap64; have := HJ.out; have := HL6.out; have := HM.out.2; omega
         have hkp := PF.out.2.2 j.toNat (by have := HJ.out; omega)
         have EJ := Lib.hid ejw
         clear cj hCS hCN eS eN ejw
         cases hd : (PH.rd_T61 m j).f2 with
         | true =>
          have hl : PH.rd_T61 ln j = PH.rd_T61 m j := hkp hd
          rw [hl, hd] at t2
          rw [hl] at t0 t1
          rw [hd] at s2
          clear hkp hl hd
          go_wp2
          repeat (go_quiet (fail); try go_wp2)
          go_roundg k2
          case measure => have := HJ.out; omega
          case rel => exact ⟨wrap64 (j + 1), rfl, ⟨by rw [EJ.out]; have := HJ.out; have := HJ2.out; omega⟩, by repeat (first | exact Drawn0.refl _ | apply Drawn0.step)⟩
         | false =>
          rw [hd] at s2
          clear hkp hd t0 t1 t2
          go_wp2
          repeat (go_quiet (fail); try go_wp2)
          go_roundg k2
          case measure => have := HJ.out; omega
          case rel => exact ⟨wrap64 (j + 1), rfl, ⟨by rw [EJ.out]; have := HJ.out; have := HJ2.out; omega⟩, by repeat (first | exact Drawn0.refl _ | apply Drawn0.step)⟩
        ·have j1 : decide (j < (m.length : Int)) = false := decide_eq_false cj
         obtain ⟨z0, z1, z2, z3, z4⟩ := S5.fz (HV.out.all HQ.out).s5
         clear cj HJ
         go_wp2
         go_roundg k1
         case measure => have := HI.out; omega
         case rel =>
          have hD := Drawn0.below (show Drawn0 w12 (w12.drewN m1) from ⟨m1, rfl⟩)
          have hS := ((HV.out.all HQ.out).all hD).s5
          have hR3 := S5.row hS (Kd.R_below HR.out hD) (.int .u64 b0) (.int .u64 b1) (.int .i64 b4) (.int .u8 b3) (.slice A9 m.length k9)
          have hS3 := S5.put hS (.int .u64 b0) (.int .u64 b1) (.int .i64 b4) (.int .u8 b3) (.slice A9 m.length k9)
          have hw := below5 (below_all (below_all HW.out (Nat.le_of_lt (blk_lt HV.out.s5)) HQ.out) (Nat.le_of_lt (blk_lt (HV.out.all HQ.out).s5)) hD) (Nat.le_refl g2) (.int .u64 b0) (.int .u64 b1) (.int .i64 b4) (.int .u8 b3) (.slice A9 m.length k9)
          obtain ⟨e1, e2, e3⟩ := Kd.R_reads' hR3
          exact ⟨wrap64 (i + 1), b0, b1, b4, b3, A9, k9, ln, rfl, ⟨by unfold wrap64; have := HI.out; have := HI2.out; omega⟩, ⟨PF.out.1, PF.out.2.1.trans HM.out.2⟩, ⟨⟨by rw [← e1]; exact e2, by rw [← e1]; exact hS3, e3⟩⟩, ⟨hw⟩⟩
     ·have HE := Lib.hid h1
      clear h1
      obtain ⟨c0, c1, c2, c3, c4⟩ := (HV.out.all HQ.out).cells
      have hbb := (HQ.out.block gx (blk_lt HB.out)).trans HB.out
      have x0 := (blk_cell hbb 0).trans rfl
      have x1 := (blk_cell hbb 1).trans rfl
      have x2 := (blk_cell hbb 2).trans rfl
      simp only [List.getElem?_toArray, List.getElem?_cons_zero, List.getElem?_cons_succ] at x0 x1 x2
      clear hbb
      obtain ⟨n0, n1, n2, n3, n4⟩ := S5.cells HN.out
      obtain ⟨z0, z1, z2, z3, z4⟩ := S5.fz HN.out
      go_wp2_with fail
      refine (PH.sched_Cut.calls b0 b1 b2 b3 B bc m nn 0 0 0 0 [] 2 _ (HV.out.all HQ.out).row HV.out.le (by unfold PH.sched_Cut.f; rw [if_neg (fun z => by have := HE.out; have := z.2; omega)])).mono ?_
      rintro e w9 ⟨v, rfl, hR, hB⟩
      obtain ⟨A9, k9, rfl, hc9, hC9⟩ := Kd.R_reads hR
      rw [show (([] : List Sl)).length = 0 from rfl] at hR ⊢
      have HR := Lib.hid hR
      clear c0 c1 c2 c3 c4 x0 x1 x2 n0 n1 n2 n3 n4 z0 z1 z2 z3 z4 hC9 hR hc9
      replace HQ := Lib.hid (below_all HQ.out HQ.out.size hB)
      replace HN := Lib.hid ((hB.block _ (blk_lt HN.out)).trans HN.out)
      clear hB
      obtain ⟨n0, n1, n2, n3, n4⟩ := S5.cells HN.out
      obtain ⟨z0, z1, z2, z3, z4⟩ := S5.fz HN.out
      go_upto_region 23 with fail
      clear n0 n1 n2 n3 n4 z0 z1 z2 z3 z4
      have hq : Below w7.heap.size w7 (((((w9.setCell ⟨w7.heap.size, 0, none⟩ (.int .u64 0)).setCell ⟨w7.heap.size, 1, none⟩ (.int .u64 0)).setCell ⟨w7.heap.size, 2, none⟩ (.int .i64 0)).setCell ⟨w7.heap.size, 3, none⟩ (.int .u8 0)).setCell ⟨w7.heap.size, 4, none⟩ (.slice A9 0 k9)) := below5 HQ.out (Nat.le_refl _) (.int .u64 0) (.int .u64 0) (.int .i64 0) (.int .u8 0) (.slice A9 0 k9)
      have hn : S5 (((((w9.setCell ⟨w7.heap.size, 0, none⟩ (.int .u64 0)).setCell ⟨w7.heap.size, 1, none⟩ (.int .u64 0)).setCell ⟨w7.heap.size, 2, none⟩ (.int .i64 0)).setCell ⟨w7.heap.size, 3, none⟩ (.int .u8 0)).setCell ⟨w7.heap.size, 4, none⟩ (.slice A9 0 k9)) w7.heap.size (.int .u64 0) (.int .u64 0) (.int .i64 0) (.int .u8 0) (.slice A9 0 k9) := S5.put HN.out (.int .u64 0) (.int .u64 0) (.int .i64 0) (.int .u8 0) (.slice A9 0 k9)
      have hr : Rsl (((((w9.setCell ⟨w7.heap.size, 0, none⟩ (.int .u64 0)).setCell ⟨w7.heap.size, 1, none⟩ (.int .u64 0)).setCell ⟨w7.heap.size, 2, none⟩ (.int .i64 0)).setCell ⟨w7.heap.size, 3, none⟩ (.int .u8 0)).setCell ⟨w7.heap.size, 4, none⟩ (.slice A9 0 k9)) _ (.slice A9 0 k9) ([] : List Sl) := S5.row HN.out HR.out (.int .u64 0) (.int .u64 0) (.int .i64 0) (.int .u8 0) (.slice A9 0 k9)
      clear HN HR HQ
      have HQ := Lib.hid hq
      have HN := Lib.hid hn
      have HR := Lib.hid hr
      clear hq hn hr
      generalize (((((w9.setCell ⟨w7.heap.size, 0, none⟩ (.int .u64 0)).setCell ⟨w7.heap.size, 1, none⟩ (.int .u64 0)).setCell ⟨w7.heap.size, 2, none⟩ (.int .i64 0)).setCell ⟨w7.heap.size, 3, none⟩ (.int .u8 0)).setCell ⟨w7.heap.size, 4, none⟩ (.slice A9 0 k9)) = w10 at HQ HN HR ⊢
      obtain ⟨n0, n1, n2, n3, n4⟩ := S5.cells HN.out
      go_wp2
      repeat (go_quiet (fail); try go_wp2)
      go_roundg k1
      case measure => have := HI.out; omega
      case rel =>
       refine ⟨wrap64 (i + 1), b0, b1, b2, b3, B, bc, m, rfl, ⟨by unfold wrap64; have := HI.out; have := HI2.out; omega⟩, ⟨HM.out⟩, ⟨(HV.out.all HQ.out).all ?_⟩, ⟨below_all (below_all HW.out (Nat.le_of_lt (blk_lt HV.out.s5)) HQ.out) (Nat.le_of_lt (blk_lt (HV.out.all HQ.out).s5)) ?_⟩⟩
       all_goals repeat (first | exact Below.refl _ _ | exact pw_below_drewN (Below.refl _ _) _ | apply Below.drew)
   ·skip
    have d1 : decide (i < (L.length : Int)) = true := decide_eq_true ci
    have d2 : decide (i < 30) = false := decide_eq_false c30
    clear ci c30
    go_wp2_with fail
    refine (head_any _ (PH.tab_below HT.out (HG.out ▸ HW.out) (PH.tab_lt HT.out))).mono ?_
    rintro e w9 ⟨rfl, hB⟩
    go_wp2
    go_ret
    exact ⟨rfl, HG.out ▸ below_all HW.out (Nat.le_of_lt (blk_lt HV.out.s5)) hB⟩
  ·skip
   have d1 : decide (i < (L.length : Int)) = false := decide_eq_false ci
   clear ci
   go_wp2_with fail
   refine (head_any _ (PH.tab_below HT.out (HG.out ▸ HW.out) (PH.tab_lt HT.out))).mono ?_
   rintro e w9 ⟨rfl, hB⟩
   go_wp2
   go_ret
   exact ⟨rfl, HG.out ▸ below_all HW.out (Nat.le_of_lt (blk_lt HV.out.s5)) hB⟩
end Go.Proofs.YtgceecnlgjmghaaDoor.h28

namespace Go.Proofs.YtgceecnlgjmghaaDoor.h28
open Go.RowKit Go.Proofs.YtgceecnlgjmghaaDoor.base Go.Proofs.YtgceecnlgjmghaaDoorW.PrintWords Go.Proofs.YtgceecnlgjmghaaDoor.sch Go.Proofs.YtgceecnlgjmghaaDoor.pw28
open Go.Proofs.YtgceecnlgjmghaaDoor.civ (Tab)
theorem schedWhole (a0 a1 a2 a3 : Int) (A : Option Addr) (c : Nat) (l : List Sl) (A1 : Option Addr) (c1 : Nat) (L : List (Int × Int × Int × Int)) (w : World) (T : Tab w) (hc : l.length ≤ c) (hC : Csl w A l) (_ : L.length ≤ c1) (hA : Acts w A1 L) :
  Calls Tryd.prog 5 #[.agg #[.int .u64 a0, .int .u64 a1, .int .i64 a2, .int .u8 a3, .slice A l.length c], .slice A1 L.length c1] w fun e w' => e = .returned (.bool true) ∧ Below w.heap.size w w' := by
 cases ho : okS a0 a2 a3 l with
 | false => exact whole_a w T a0 a1 a2 a3 A c l A1 c1 L hc hC ho
 | true =>
  by_cases h6 : 60 < (l.length : Int)
  ·exact whole_b w T a0 a1 a2 a3 A c l A1 c1 L hc hC ho h6
  ·exact whole_c w T a0 a1 a2 a3 A c l A1 c1 L hc hC ho h6 hA
end Go.Proofs.YtgceecnlgjmghaaDoor.h28

