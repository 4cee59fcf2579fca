/- Keys stand as their fields do; OrderKeeps holds. Plain law. No conditions. -/
import Derived.Test.YtbghkjoejbfnbaaDoorMLb
import Derived.Test.YtbghkjoejbfnbaaDoorLaw12E
import Derived.Test.YtbghkjoejbfnbaaDoorPHx15
noncomputable section
namespace Go.Proofs.YtbghkjoejbfnbaaDoor.law12
open Go.RowKit Go.Proofs.YtbghkjoejbfnbaaDoorW.PrintWords Go.Proofs.YtbghkjoejbfnbaaDoorW.PrintMore Go.Proofs.YtbghkjoejbfnbaaDoor Go.Proofs.YtbghkjoejbfnbaaDoor.PH
theorem toList_inj' {a b : ByteArray} : a.toList = b.toList ↔ a = b := by
  rw [Lib.toList_data, Lib.toList_data]
  exact ⟨b_inj', fun h => by rw [h]⟩
/-- Which bytes go ahead. -/
def lessI : List Int → List Int → Bool
  | [], [] => false
  | [], _ :: _ => true
  | _ :: _, [] => false
  | a :: l, b :: m => decide (a < b) || (a == b && lessI l m)
theorem less_bytes : ∀ l m : List UInt8, Op.bytesLess l m = lessI (l.map (fun b => (b.toNat : Int))) (m.map (fun b => (b.toNat : Int)))
  | [], [] => rfl
  | [], _ :: _ => rfl
  | _ :: _, [] => rfl
  | a :: l, b :: m => by
    rw [less_cons, List.map_cons, List.map_cons, lessI, less_bytes l m]
    have h1 : decide (a < b) = decide ((a.toNat : Int) < (b.toNat : Int)) := by
      rw [decide_eq_decide, u8_lt]; omega
    have h2 : (a == b) = ((a.toNat : Int) == (b.toNat : Int)) := by
      rw [Bool.eq_iff_iff, beq_iff_eq, beq_iff_eq]
      exact ⟨fun h => by rw [h], fun h => UInt8.toNat_inj.1 (by omega)⟩
    rw [h1, h2]
theorem lessI_irr : ∀ l : List Int, lessI l l = false
  | [] => rfl
  | a :: l => by rw [lessI, lessI_irr l]; simp
theorem lessI_pre : ∀ (p l m : List Int), lessI (p ++ l) (p ++ m) = lessI l m
  | [], _, _ => rfl
  | a :: p, l, m => by rw [List.cons_append, List.cons_append, lessI, lessI_pre p l m]; simp
theorem lessI_nil (l : List Int) : lessI l [] = false := by cases l <;> rfl
/-- Two rows of bytes part at a place that both have, the first one the less (lt) or not. -/
def Part (lt : Bool) (u v : List Int) : Prop := ∃ p x y s t, u = p ++ x :: s ∧ v = p ++ y :: t ∧ x ≠ y ∧ (lt = true ↔ x < y)
theorem Part.less {lt : Bool} {u v : List Int} (h : Part lt u v) (a b : List Int) : lessI (u ++ a) (v ++ b) = lt := by
  obtain ⟨p, x, y, s, t, rfl, rfl, hne, hlt⟩ := h
  rw [List.append_assoc, List.append_assoc, lessI_pre, List.cons_append, List.cons_append, lessI]
  have h2 : (x == y) = false := beq_eq_false_iff_ne.2 hne
  rw [h2, Bool.false_and, Bool.or_false, Bool.eq_iff_iff, decide_eq_true_eq]
  exact hlt.symm
theorem Part.nopre {lt : Bool} {u v : List Int} (h : Part lt u v) (a b : List Int) : ¬ (v ++ b) <+: (u ++ a) := by
  obtain ⟨p, x, y, s, t, rfl, rfl, hne, hlt⟩ := h
  rw [List.append_assoc, List.append_assoc, List.prefix_append_right_inj, List.cons_append, List.cons_append, List.cons_prefix_cons]
  exact fun q => hne q.1.symm
theorem Part.ne {lt : Bool} {u v : List Int} (h : Part lt u v) (a b : List Int) : u ++ a ≠ v ++ b := fun q => h.nopre a b (by rw [q]; exact List.prefix_refl _)
theorem Part.cons {lt : Bool} {u v : List Int} (c : Int) (h : Part lt u v) : Part lt (c :: u) (c :: v) := by
  obtain ⟨p, x, y, s, t, rfl, rfl, h1, h2⟩ := h
  exact ⟨c :: p, x, y, s, t, rfl, rfl, h1, h2⟩
theorem Part.snoc {lt : Bool} {u v : List Int} (a b : List Int) (h : Part lt u v) : Part lt (u ++ a) (v ++ b) := by
  obtain ⟨p, x, y, s, t, rfl, rfl, h1, h2⟩ := h
  exact ⟨p, x, y, s ++ a, t ++ b, by simp, by simp, h1, h2⟩
theorem part_head {lt : Bool} {x y : Int} (s t : List Int) (h1 : x ≠ y) (h2 : lt = true ↔ x < y) : Part lt (x :: s) (y :: t) := ⟨[], x, y, s, t, rfl, rfl, h1, h2⟩
/-- Numbers of as many bytes part as they stand. -/
theorem be_part : ∀ (k m n : Nat), (be m).length = k → (be n).length = k → m ≠ n → Part (decide (m < n)) (be m) (be n)
  | 0, m, n, hm, hn, hne => by
    exfalso
    have z : ∀ q, (be q).length = 0 → q = 0 := fun q hq => by
      rcases Nat.eq_zero_or_pos q with h | h
      · exact h
      · rw [be_pos q h, List.length_append] at hq; simp at hq
    exact hne ((z m hm).trans (z n hn).symm)
  | k + 1, m, n, hm, hn, hne => by
    have hp : ∀ q, (be q).length = k + 1 → 0 < q := fun q hq => by
      rcases Nat.eq_zero_or_pos q with rfl | h
      · rw [be_zero] at hq; cases hq
      · exact h
    have hm0 := hp m hm
    have hn0 := hp n hn
    rw [be_pos m hm0, be_pos n hn0]
    have lm : (be (m / 256)).length = k := by rw [be_pos m hm0, List.length_append, List.length_singleton] at hm; omega
    have ln : (be (n / 256)).length = k := by rw [be_pos n hn0, List.length_append, List.length_singleton] at hn; omega
    by_cases hq : m / 256 = n / 256
    · rw [hq]
      refine ⟨be (n / 256), _, _, [], [], rfl, rfl, by omega, ?_⟩
      rw [decide_eq_true_eq]
      omega
    · have := (be_part k (m / 256) (n / 256) lm ln hq).snoc [((m % 256 : Nat) : Int)] [((n % 256 : Nat) : Int)]
      rw [show decide (m / 256 < n / 256) = decide (m < n) by rw [decide_eq_decide]; omega] at this
      exact this
theorem be_up : ∀ m n : Nat, n ≤ m → (be n).length ≤ (be m).length := by
  intro m
  induction m using Nat.strongRecOn with
  | _ m ih =>
    intro n h
    rcases Nat.eq_zero_or_pos n with rfl | hn
    · rw [be_zero]; exact Nat.zero_le _
    · rw [be_pos n hn, be_pos m (by omega), List.length_append, List.length_append, List.length_singleton, List.length_singleton]
      have := ih (m / 256) (by omega) (n / 256) (by omega)
      omega
theorem be_mono (m n : Nat) (h : (be m).length < (be n).length) : m < n := by
  rcases Nat.lt_or_ge m n with q | q
  · exact q
  · have := be_up m n q; omega
theorem Part.neg {lt : Bool} {u v : List Int} (h : Part lt u v) : Part (!lt) (u.map (fun c => 255 - c)) (v.map (fun c => 255 - c)) := by
  obtain ⟨p, x, y, s, t, rfl, rfl, hne, hlt⟩ := h
  refine ⟨p.map (fun c => 255 - c), 255 - x, 255 - y, s.map (fun c => 255 - c), t.map (fun c => 255 - c), by simp, by simp, by omega, ?_⟩
  cases lt with
  | true =>
    have := hlt.1 rfl
    constructor
    · intro q; cases q
    · intro q; omega
  | false =>
    have : ¬ x < y := fun q => by have := hlt.2 q; cases this
    constructor
    · intro _; omega
    · intro _; rfl
/-- A number's bytes behind their number part as the numbers stand. -/
theorem num_part (m n : Nat) (a : Int) (hne : m ≠ n) : Part (decide (m < n)) ((a + ((be m).length : Int)) :: be m) ((a + ((be n).length : Int)) :: be n) := by
  by_cases h : (be m).length = (be n).length
  · rw [h]
    exact (be_part _ m n h rfl hne).cons _
  · refine part_head _ _ (by omega) ?_
    rw [decide_eq_true_eq]
    rcases Nat.lt_or_gt_of_ne h with q | q
    · have := be_mono m n q; omega
    · have := be_mono n m q; omega
theorem neg_part (m n : Nat) (a : Int) (hne : m ≠ n) : Part (decide (n < m)) ((a - ((be m).length : Int)) :: (be m).map (fun c => 255 - c)) ((a - ((be n).length : Int)) :: (be n).map (fun c => 255 - c)) := by
  have hd : decide (n < m) = !(decide (m < n)) := by
    by_cases q : m < n
    · rw [decide_eq_true q, decide_eq_false (by omega)]; rfl
    · rw [decide_eq_false q, decide_eq_true (by omega)]; rfl
  by_cases h : (be m).length = (be n).length
  · rw [h, hd]
    exact (be_part _ m n h rfl hne).neg.cons _
  · refine part_head _ _ (by omega) ?_
    rw [decide_eq_true_eq]
    rcases Nat.lt_or_gt_of_ne h with q | q
    · have := be_mono m n q; omega
    · have := be_mono n m q; omega
theorem esc_part : ∀ (u v a b : List Int), (∀ c ∈ u, 0 ≤ c) → (∀ c ∈ v, 0 ≤ c) → u ≠ v → Part (lessI u v) (esc u ++ 0 :: 0 :: a) (esc v ++ 0 :: 0 :: b)
  | [], [], _, _, _, _, h => absurd rfl h
  | [], d :: v, a, b, _, hv, _ => by
    have hd := hv d (by simp)
    rw [esc, esc, lessI, List.nil_append]
    by_cases h : d = 0
    · rw [if_pos h, List.cons_append, List.cons_append]
      exact (part_head _ _ (by decide) (by simp)).cons 0
    · rw [if_neg h, List.cons_append]
      exact part_head _ _ (by omega) (by simp; omega)
  | c :: u, [], a, b, hu, _, _ => by
    have hc := hu c (by simp)
    rw [esc, esc, lessI, List.nil_append]
    by_cases h : c = 0
    · rw [if_pos h, List.cons_append, List.cons_append]
      exact (part_head _ _ (by decide) (by simp)).cons 0
    · rw [if_neg h, List.cons_append]
      exact part_head _ _ h (by simp; omega)
  | c :: u, d :: v, a, b, hu, hv, hne => by
    have hc := hu c (by simp)
    have hd := hv d (by simp)
    rw [lessI]
    by_cases h : c = d
    · subst h
      have huv : u ≠ v := fun q => hne (by rw [q])
      have ih := esc_part u v a b (fun x hx => hu x (by simp [hx])) (fun x hx => hv x (by simp [hx])) huv
      rw [decide_eq_false (show ¬ c < c by omega), beq_self_eq_true, Bool.true_and, Bool.false_or, esc, esc]
      by_cases hz : c = 0
      · rw [if_pos hz, if_pos hz, List.cons_append, List.cons_append, List.cons_append, List.cons_append]
        exact (ih.cons 255).cons 0
      · rw [if_neg hz, if_neg hz, List.cons_append, List.cons_append]
        exact ih.cons c
    · have hb : (c == d) = false := beq_eq_false_iff_ne.2 h
      rw [hb, Bool.false_and, Bool.or_false, esc, esc]
      by_cases hz : c = 0
      · have hz' : ¬ d = 0 := fun q => h (hz.trans q.symm)
        rw [if_pos hz, if_neg hz', List.cons_append, List.cons_append, List.cons_append]
        exact part_head _ _ (by omega) (by rw [decide_eq_true_eq, hz])
      · by_cases hz' : d = 0
        · rw [if_neg hz, if_pos hz', List.cons_append, List.cons_append, List.cons_append]
          exact part_head _ _ hz (by rw [decide_eq_true_eq, hz'])
        · rw [if_neg hz, if_neg hz', List.cons_append, List.cons_append]
          exact part_head _ _ h (by rw [decide_eq_true_eq])
theorem sd_neg (b : Bool) : (sd b < 0) ↔ b = true := by cases b <;> decide
theorem cmpI_neg (a b : Int) (h : a ≠ b) : decide (ord.cmpI a b < 0) = decide (a < b) := by
  rw [cmpI_ne a b h, decide_eq_decide, sd_neg, decide_eq_true_eq]
theorem cF_zero (x y : S47) : ord.cF x y = 0 ↔ x = y := by
  obtain ⟨x0, x1, x2⟩ := x
  obtain ⟨y0, y1, y2⟩ := y
  unfold ord.cF
  dsimp only
  by_cases h0 : x0 = y0
  · rw [if_pos ((cmpI_eq _ _).2 h0)]
    by_cases h1 : x1 = y1
    · rw [if_pos ((cmpI_eq _ _).2 h1), cmpB_eq]
      exact ⟨fun h => by rw [h0, h1, b_inj' h], fun h => by injection h with _ _ h; rw [h]⟩
    · rw [if_neg (fun q => h1 ((cmpI_eq _ _).1 q))]
      exact ⟨fun q => absurd ((cmpI_eq _ _).1 q) h1, fun h => by injection h with _ h _; exact absurd h h1⟩
  · rw [if_neg (fun q => h0 ((cmpI_eq _ _).1 q))]
    exact ⟨fun q => absurd ((cmpI_eq _ _).1 q) h0, fun h => by injection h with h _ _; exact absurd h h0⟩
/-- Two fields' bytes part as the fields stand. -/
theorem fld_part {c : Int} (hc : good c) {x y : S47} (hx : Wf x) (hy : Wf y) (fx : ord.fit1 c x = true) (fy : ord.fit1 c y = true) (hne : x ≠ y) : Part (decide (ord.cF x y < 0)) (fb c x) (fb c y) := by
  obtain ⟨x0, x1, x2⟩ := x
  obtain ⟨y0, y1, y2⟩ := y
  obtain ⟨a0, a1, a2, a3, a4⟩ := hx
  obtain ⟨b0, b1, b2, b3, b4⟩ := hy
  unfold ord.fit1 at fx fy
  unfold fb ord.cF
  dsimp only at *
  rcases hc with rfl | rfl | rfl
  · rw [if_pos rfl, Bool.and_eq_true] at fx fy
    obtain rfl : x1 = 0 := by simpa using fx.1
    obtain rfl : y1 = 0 := by simpa using fy.1
    obtain rfl := (empty_toList _).1 fx.2
    obtain rfl := (empty_toList _).1 fy.2
    have h0 : x0 ≠ y0 := fun q => hne (by rw [q])
    rw [if_neg (fun q => h0 ((cmpI_eq _ _).1 q)), cmpI_neg _ _ h0, if_pos rfl, if_pos rfl]
    have := num_part x0.toNat y0.toNat 0 (by omega)
    rw [Int.zero_add, Int.zero_add, show decide (x0.toNat < y0.toNat) = decide (x0 < y0) by rw [decide_eq_decide]; omega] at this
    exact this
  · have e1 : ¬ (105 : Int) = 110 := by decide
    rw [if_neg e1, if_pos rfl, Bool.and_eq_true] at fx fy
    obtain rfl : x0 = 0 := by simpa using fx.1
    obtain rfl : y0 = 0 := by simpa using fy.1
    obtain rfl := (empty_toList _).1 fx.2
    obtain rfl := (empty_toList _).1 fy.2
    have h0 : x1 ≠ y1 := fun q => hne (by rw [q])
    rw [if_pos ((cmpI_eq _ _).2 rfl), if_neg (fun q => h0 ((cmpI_eq _ _).1 q)), cmpI_neg _ _ h0, if_neg e1, if_neg e1, if_pos rfl, if_pos rfl]
    by_cases gx : 0 ≤ x1
    · by_cases gy : 0 ≤ y1
      · rw [if_pos gx, if_pos gy]
        have := num_part x1.toNat y1.toNat 128 (by omega)
        rw [show decide (x1.toNat < y1.toNat) = decide (x1 < y1) by rw [decide_eq_decide]; omega] at this
        exact this
      · rw [if_pos gx, if_neg gy]
        exact part_head _ _ (by omega) (by rw [decide_eq_true_eq]; omega)
    · by_cases gy : 0 ≤ y1
      · rw [if_neg gx, if_pos gy]
        exact part_head _ _ (by omega) (by rw [decide_eq_true_eq]; omega)
      · rw [if_neg gx, if_neg gy]
        have := neg_part (-x1 - 1).toNat (-y1 - 1).toNat 127 (by omega)
        rw [show decide ((-y1 - 1).toNat < (-x1 - 1).toNat) = decide (x1 < y1) by rw [decide_eq_decide]; omega] at this
        exact this
  · have e1 : ¬ (115 : Int) = 110 := by decide
    have e2 : ¬ (115 : Int) = 105 := by decide
    rw [if_neg e1, if_neg e2, Bool.and_eq_true] at fx fy
    obtain rfl : x0 = 0 := by simpa using fx.1
    obtain rfl : y0 = 0 := by simpa using fy.1
    obtain rfl : x1 = 0 := by simpa using fx.2
    obtain rfl : y1 = 0 := by simpa using fy.2
    have h0 : x2.data.toList ≠ y2.data.toList := fun q => hne (by rw [b_inj' q])
    rw [if_pos ((cmpI_eq _ _).2 rfl), if_pos ((cmpI_eq _ _).2 rfl), cmpB_ne _ _ h0, if_neg e1, if_neg e1, if_neg e2, if_neg e2]
    have := esc_part (bytesOf x2) (bytesOf y2) [] [] (fun c hc => (ord.bytes_range x2 c hc).1) (fun c hc => (ord.bytes_range y2 c hc).1) (fun q => hne (by rw [bytes_inj q]))
    rw [show decide (sd (Op.bytesLess x2.data.toList y2.data.toList) < 0) = lessI (bytesOf x2) (bytesOf y2) by
      rw [Bool.eq_iff_iff, decide_eq_true_eq, sd_neg, less_bytes]; rfl]
    exact this
theorem body_cmp (a : ByteArray) (hg : ∀ i : Nat, i < a.size → good (bt a (i : Int))) : ∀ (l m : List S47) (i : Nat), i + l.length ≤ a.size → i + m.length ≤ a.size → (∀ x ∈ l, Wf x) → (∀ x ∈ m, Wf x) → ord.fitL a i l = true → ord.fitL a i m = true →
    lessI (body a i l) (body a i m) = decide (ord.cL l m < 0) ∧ (body a i l = body a i m ↔ ord.cL l m = 0) ∧ (body a i m <+: body a i l ↔ m <+: l)
  | [], [], i, _, _, _, _, _, _ => by rw [body, ord.cL]; exact ⟨rfl, by simp, by simp⟩
  | [], y :: m, i, _, _, _, _, _, _ => by
    have hp := fb_pos (bt a (i : Int)) y
    rw [body, body, ord.cL]
    obtain ⟨c, t, ht⟩ := List.exists_cons_of_length_pos hp
    rw [ht]
    refine ⟨rfl, by simp, by simp⟩
  | x :: l, [], i, _, _, _, _, _, _ => by
    have hp := fb_pos (bt a (i : Int)) x
    rw [body, body, ord.cL]
    obtain ⟨c, t, ht⟩ := List.exists_cons_of_length_pos hp
    rw [ht]
    refine ⟨rfl, by simp, by simp⟩
  | x :: l, y :: m, i, hl, hm, wl, wm, fl, fm => by
    rw [List.length_cons] at hl hm
    rw [ord.fitL, Bool.and_eq_true] at fl fm
    rw [body, body, ord.cL]
    by_cases h : x = y
    · subst h
      obtain ⟨h1, h2, h3⟩ := body_cmp a hg l m (i + 1) (by omega) (by omega) (fun z hz => wl z (by simp [hz])) (fun z hz => wm z (by simp [hz])) fl.2 fm.2
      rw [if_pos ((cF_zero _ _).2 rfl), lessI_pre, h1]
      refine ⟨rfl, ?_, ?_⟩
      · rw [List.append_cancel_left_eq, h2]
      · rw [List.prefix_append_right_inj, h3, List.cons_prefix_cons]
        simp
    · have hP := fld_part (hg i (by omega)) (wl x (by simp)) (wm y (by simp)) fl.1 fm.1 h
      have hz : ¬ ord.cF x y = 0 := fun q => h ((cF_zero _ _).1 q)
      rw [if_neg hz, hP.less]
      refine ⟨rfl, ⟨fun q => absurd q (hP.ne _ _), fun q => absurd q hz⟩, ⟨fun q => absurd q (hP.nopre _ _), fun q => ?_⟩⟩
      rw [List.cons_prefix_cons] at q
      exact absurd q.1.symm h
theorem begins_k (t s : ByteArray) : quittancelaw12_begins.f t s = some (decide (bytesOf s <+: bytesOf t)) := by
  unfold quittancelaw12_begins.f
  by_cases h : (t.size : Int) ≥ (s.size : Int)
  · rw [if_pos h, if_pos (by omega), if_pos (by omega)]
    congr 1
    rw [Bool.eq_iff_iff, beq_iff_eq, decide_eq_true_eq, toList_inj', List.prefix_iff_eq_take, bytesOf_length]
    constructor
    · intro q; have e := congrArg bytesOf q; rw [bytes_ext, List.drop_zero, Int.toNat_natCast] at e; exact e.symm
    · intro q; apply bytes_inj; rw [bytes_ext, List.drop_zero, Int.toNat_natCast]; exact q.symm
  · rw [if_neg h]
    congr 1
    symm
    rw [decide_eq_false_iff_not]
    intro hp
    have := hp.length_le
    rw [bytesOf_length, bytesOf_length] at this
    omega
theorem keeps_holds (a : ByteArray) (l m : List S47) (hl : l.length ≤ 9223372036854775807) (hm : m.length ≤ 9223372036854775807) (nl : ∀ x ∈ l, Nb x) (nm : ∀ x ∈ m, Nb x) : quittancelaw12_OrderKeeps.f (2 * l.length + 2 * m.length + 5000) a l m = some true := by
  obtain ⟨K, hK⟩ : ∃ K, 2 * l.length + 2 * m.length + 5000 = K + 2 := ⟨2 * l.length + 2 * m.length + 4998, by omega⟩
  have hKb : 2 * l.length + 2 * m.length + 4500 ≤ K := by omega
  rw [hK]
  have hgr : quittancelaw12_OrderKeeps.j0 (K + 2) a l m true = some true := by
    rw [quittancelaw12_OrderKeeps.j0, if_pos rfl, head_ok _ (by omega)]; rfl
  unfold quittancelaw12_OrderKeeps.f
  rw [great_is a l hl _ (by omega), Option.bind_some]
  by_cases gl : gr a l = true
  · rw [if_pos gl, hgr]
  · rw [if_neg gl, great_is a m hm _ (by omega), Option.bind_some]
    by_cases gm : gr a m = true
    · rw [gm, hgr]
    · rw [Bool.eq_false_iff.2 gm]
      obtain ⟨l40, ha, hxl⟩ := gr_no (Bool.eq_false_iff.2 gl)
      obtain ⟨m40, _, hxm⟩ := gr_no (Bool.eq_false_iff.2 gm)
      have wl : ∀ x ∈ l, Wf x := fun x h => (nl x h).wf (hxl x h)
      have wm : ∀ x ∈ m, Wf x := fun x h => (nm x h).wf (hxm x h)
      have hj1 : ∀ n x y, quittancelaw12_OrderKeeps.j1 (K + 1) l m n x y true = some true := fun n x y => by
        rw [quittancelaw12_OrderKeeps.j1, if_pos rfl, head_ok _ (by omega)]; rfl
      have hc : order_Compare.f l m = some (ord.cL l m) := rfl
      rw [quittancelaw12_OrderKeeps.j0, if_neg (by decide), hc, Option.bind_some, refCompare l m hl _ (by omega), Option.bind_some, if_pos rfl, putF a l ha wl _ (by omega), Option.bind_some, putF a m ha wm _ (by omega), Option.bind_some]
      by_cases e1 : (putV a l).2 = 0
      · rw [if_pos e1]
        by_cases e2 : (putV a m).2 = 0
        · obtain ⟨hk, _, E1⟩ := put_enc (b := (putV a l).1) wl (by rw [← e1])
          obtain ⟨_, _, E2⟩ := put_enc (b := (putV a m).1) wm (by rw [← e2])
          generalize (putV a l).1 = x at E1
          generalize (putV a m).1 = y at E2
          obtain ⟨c1, c2, c3⟩ := body_cmp a (kd_good hk).2 l m 0 (by have := E1.len; omega) (by have := E2.len; omega) wl wm E1.fit E2.fit
          rw [← E1.key, ← E2.key] at c1 c2 c3
          have d1 : Op.bytesLess x.toList y.toList = decide (ord.cL l m < 0) := by rw [Lib.toList_data, Lib.toList_data, less_bytes]; exact c1
          have d2 : (x.toList == y.toList) = (ord.cL l m == 0) := by
            rw [Bool.eq_iff_iff, toList_eq_iff, beq_iff_eq, ← c2]
            exact ⟨fun q => by rw [q], fun q => bytes_inj q⟩
          rw [e2, show ((0 : Int) != 0) = false from rfl, quittancelaw12_OrderKeeps.j1, if_neg (by decide)]
          by_cases hlm : (l.length : Int) ≥ (m.length : Int)
          · have hmn : mn (l.length : Int) (m.length : Int) = (m.length : Int) := by
              unfold mn
              split <;> omega
            obtain ⟨b, hb, hbi⟩ := same_is (l.take m.length) m (by rw [List.length_take]; omega) K (by rw [List.length_take]; omega)
            have d3 : b = decide (bytesOf y <+: bytesOf x) := by
              rw [Bool.eq_iff_iff, hbi, decide_eq_true_eq, c3, List.prefix_iff_eq_take]
              exact eq_comm
            rw [if_pos hlm, hmn, if_pos (by omega), if_pos (by omega), Int.toNat_natCast, hb, Option.bind_some, d1, d2, if_pos (by simp), if_pos (by simp), begins_k, Option.bind_some, d3, if_pos (by simp), head_ok _ (by omega)]
            rfl
          · have d3 : decide (bytesOf y <+: bytesOf x) = false := by
              rw [decide_eq_false_iff_not, c3]
              intro q
              have := q.length_le
              omega
            rw [if_neg hlm, d1, d2, if_pos (by simp), if_pos (by simp), begins_k, Option.bind_some, d3, if_pos (by simp), head_ok _ (by omega)]
            rfl
        · rw [show ((putV a m).2 != 0) = true by simpa using e2]
          exact hj1 _ _ _
      · rw [if_neg e1]
        exact hj1 _ _ _
theorem keepsWalk (s : ByteArray) (A1 : Option Addr) (c1 : Nat) (l1 : List S47) (A2 : Option Addr) (c2 : Nat) (l2 : List S47) (w : World) (HTab : Aside0 (Tab w)) (hc1 : l1.length ≤ c1) (hC1 : Kd.C k47 w A1 l1.length l1) (hn1 : ∀ x ∈ l1, Nb x) (hl1 : l1.length ≤ 9223372036854775807)
    (hc2 : l2.length ≤ c2) (hC2 : Kd.C k47 w A2 l2.length l2) (hn2 : ∀ x ∈ l2, Nb x) (hl2 : l2.length ≤ 9223372036854775807) :
    Calls Tryd.prog 6 #[.string s, .slice A1 l1.length c1, .slice A2 l2.length c2] w fun e w' => e = .returned (.bool true) ∧ Below w.heap.size w w' :=
  quittancelaw12_OrderKeeps.calls _ s A1 c1 l1 A2 c2 l2 true w hC1 hc1 hC2 hc2 HTab (keeps_holds s l1 l2 hl1 hl2 hn1 hn2)
end Go.Proofs.YtbghkjoejbfnbaaDoor.law12
