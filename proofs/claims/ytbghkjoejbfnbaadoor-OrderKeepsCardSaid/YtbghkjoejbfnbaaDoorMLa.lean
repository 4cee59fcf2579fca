/- Kinds and Fit answer as the document's. Plain law. No conditions. Fit answers as the document's. Plain law. No conditions. What the statements on order look at: great, as plain Lean; Same. Plain law. No conditions. Numbers as bytes, the highest first: what the program and the document write. Plain law. No conditions. How many bytes a number takes; its bytes from the highest. Plain law. No conditions. The bytes of a number field: the program's and the document's. Plain law. No conditions. ^i of a number below 0. Plain law. No conditions. The bytes of a text field: the program's and the document's. Plain law. No conditions. order.take undoes a number's bytes, and takes none but these. Plain law. No conditions. order.text and order.take undo a field's bytes, and take none but these. Plain law. No conditions. -/
import Derived.Test.YtbghkjoejbfnbaaDoorPHx7
import Derived.Test.YtbghkjoejbfnbaaDoorLaw12H
import Derived.Test.YtbghkjoejbfnbaaDoorPHx2
import Derived.Test.YtbghkjoejbfnbaaDoorPOrdT
import Derived.Test.YtbghkjoejbfnbaaDoorPHx4
import Derived.Laws.DeepNot64
import Derived.Lib.Replace
import Derived.Lib.IndexBytes
import Derived.Test.YtbghkjoejbfnbaaDoorPOrdV
import Derived.Test.YtbghkjoejbfnbaaDoorPOrdW
noncomputable section
namespace Go.Proofs.YtbghkjoejbfnbaaDoor.law12
open Go.RowKit Go.Proofs.YtbghkjoejbfnbaaDoorW.PrintWords Go.Proofs.YtbghkjoejbfnbaaDoor Go.Proofs.YtbghkjoejbfnbaaDoor.PH
/-- What Kinds tells. -/
def kd (a : ByteArray) : Bool := decide (a.size ≤ 16) && (Lib.trimS a.data.toList [110, 105, 115]).isEmpty
theorem kinds_kd (a : ByteArray) : order_Kinds.f a = some (kd a) := orf.kinds_some a
theorem kd_ok (a : ByteArray) : kd a = true ↔ orf.KindsOk a := by
 rw [← orf.kinds_ok, kinds_kd, Option.some.injEq]
def good (c : Int) : Prop := c = 110 ∨ c = 105 ∨ c = 115
theorem refKinds_l0 (a : ByteArray) (h : a.size ≤ 40) : ∀ (n i k : Nat), a.size - i = n → i ≤ a.size → n < k → (∀ j : Nat, j < i → good (bt a (j : Int))) → quittanceref12_Kinds.l0 k a (i : Int) = some (kd a)
 | 0, i, k, hn, hi, hk, hg => by
  obtain ⟨k, rfl⟩ : ∃ j, k = j + 1 := ⟨k - 1, by omega⟩
  obtain rfl : i = a.size := by omega
  unfold quittanceref12_Kinds.l0
  rw [if_neg (by omega)]
  congr 1
  rw [Bool.eq_iff_iff, decide_eq_true_eq, kd_ok]
  exact ⟨fun q => ⟨by omega, fun j hj => hg j hj⟩, fun q => by have := q.1; omega⟩
 | n + 1, i, k, hn, hi, hk, hg => by
  obtain ⟨k, rfl⟩ : ∃ j, k = j + 1 := ⟨k - 1, by omega⟩
  have ew : wrap64 ((i : Int) + 1) = ((i + 1 : Nat) : Int) := by unfold wrap64; omega
  have ih : good (bt a (i : Int)) → quittanceref12_Kinds.l0 k a ((i + 1 : Nat) : Int) = some (kd a) := fun q => refKinds_l0 a h n (i + 1) k (by omega) (by omega) (by omega) (fun j hj => by
   rcases Nat.lt_or_ge j i with c | c
   ·exact hg j c
   ·obtain rfl : j = i := by omega
    exact q)
  unfold quittanceref12_Kinds.l0
  rw [if_pos (by omega), if_pos (by omega), ew]
  by_cases c1 : bt a (i : Int) = 110
  ·rw [if_pos c1]; exact ih (.inl c1)
  ·rw [if_neg c1]
   by_cases c2 : bt a (i : Int) = 105
   ·rw [if_pos c2]; exact ih (.inr (.inl c2))
   ·rw [if_neg c2]
    by_cases c3 : bt a (i : Int) = 115
    ·rw [if_pos c3]; exact ih (.inr (.inr c3))
    ·rw [if_neg c3]
     congr 1
     symm
     rw [Bool.eq_false_iff]
     intro q
     rcases ((kd_ok a).1 q).2 i (by omega) with e | e | e
     ·exact c1 e
     ·exact c2 e
     ·exact c3 e
theorem refKinds (a : ByteArray) (h : a.size ≤ 40) (k : Nat) (hk : 60 ≤ k) : quittanceref12_Kinds.f k a = some (kd a) :=
 refKinds_l0 a h a.size 0 k (by omega) (by omega) (by omega) (fun j hj => absurd hj (by omega))
theorem empty_is (b : ByteArray) : (b.toList == ([] : List UInt8)) = b.toList.isEmpty := by cases b.toList <;> rfl
theorem refFits (c : Int) (x : S47) : quittanceref12_fits.f c x.f0 x.f1 x.f2 = some (ord.fit1 c x) := by
 unfold quittanceref12_fits.f ord.fit1
 rw [empty_is]
 by_cases c1 : c = 110
 ·rw [if_pos c1, if_pos c1]
  by_cases c2 : x.f1 = 0
  ·rw [if_pos c2, c2]; rfl
  ·rw [if_neg c2, beq_eq_false_iff_ne.2 c2]; rfl
 ·rw [if_neg c1, if_neg c1]
  by_cases c2 : c = 105
  ·rw [if_pos c2, if_pos c2]
   by_cases c3 : x.f0 = 0
   ·rw [if_pos c3, c3]; rfl
   ·rw [if_neg c3, beq_eq_false_iff_ne.2 c3]; rfl
  ·rw [if_neg c2, if_neg c2]
   by_cases c3 : x.f0 = 0
   ·rw [if_pos c3, c3]; rfl
   ·rw [if_neg c3, beq_eq_false_iff_ne.2 c3]; rfl
end Go.Proofs.YtbghkjoejbfnbaaDoor.law12

noncomputable section
namespace Go.Proofs.YtbghkjoejbfnbaaDoor.law12
open Go.RowKit Go.Proofs.YtbghkjoejbfnbaaDoorW.PrintWords Go.Proofs.YtbghkjoejbfnbaaDoor Go.Proofs.YtbghkjoejbfnbaaDoor.PH
theorem rd_at (l : List S47) (i : Nat) (h : i < l.length) : rd_T47 l (i : Int) = l[i] := by
 unfold rd_T47
 rw [Int.toNat_natCast, List.getD_eq_getElem?_getD, List.getElem?_eq_getElem h]
 rfl
theorem refFit_l0 (a : ByteArray) (l : List S47) (h : l.length ≤ a.size) (hs : a.size ≤ 40) : ∀ (n i k : Nat), l.length - i = n → i ≤ l.length → n < k → quittanceref12_Fit.l0 k a l (i : Int) = some (ord.fitL a i (l.drop i))
 | 0, i, k, hn, hi, hk => by
  obtain ⟨k, rfl⟩ : ∃ j, k = j + 1 := ⟨k - 1, by omega⟩
  unfold quittanceref12_Fit.l0
  rw [if_neg (by omega), List.drop_eq_nil_of_le (by omega)]
  rfl
 | n + 1, i, k, hn, hi, hk => by
  obtain ⟨k, rfl⟩ : ∃ j, k = j + 1 := ⟨k - 1, by omega⟩
  have ew : wrap64 ((i : Int) + 1) = ((i + 1 : Nat) : Int) := by unfold wrap64; omega
  have hil : i < l.length := by omega
  unfold quittanceref12_Fit.l0
  rw [if_pos (by omega), if_pos (by omega), if_pos (by omega), rd_at l i hil, refFits, Option.bind_some, List.drop_eq_getElem_cons hil]
  unfold ord.fitL
  cases hf : ord.fit1 (bt a (i : Int)) l[i] with
  | true => rw [if_pos rfl, ew, refFit_l0 a l h hs n (i + 1) k (by omega) (by omega) (by omega)]; rfl
  | false => rw [if_neg (by decide)]; rfl
theorem refFit (a : ByteArray) (l : List S47) (hs : a.size ≤ 40) (k : Nat) (hk : 100 ≤ k) : quittanceref12_Fit.f k a l = some (ord.fitB a (kd a) l) := by
 unfold quittanceref12_Fit.f ord.fitB
 rw [refKinds a hs k (by omega), Option.bind_some]
 obtain ⟨k, rfl⟩ : ∃ j, k = j + 1 := ⟨k - 1, by omega⟩
 cases hkd : kd a with
 | false => rw [if_neg (by decide), quittanceref12_Fit.j0, if_pos rfl]; rfl
 | true =>
  rw [if_pos rfl, quittanceref12_Fit.j0]
  by_cases hl : l.length ≤ a.size
  ·rw [decide_eq_false (by omega), if_neg (by decide), show (0 : Int) = ((0 : Nat) : Int) from rfl, refFit_l0 a l hl hs l.length 0 k (by omega) (by omega) (by omega), decide_eq_true hl]
   rfl
  ·rw [decide_eq_true (by omega), if_pos rfl, decide_eq_false hl]
   rfl
theorem putFit (a : ByteArray) (l : List S47) (hs : a.size ≤ 40) : order_Fit.f a l = some (ord.fitB a (kd a) l) := by
 unfold order_Fit.f
 rw [kinds_kd, Option.bind_some, if_pos (by omega)]
end Go.Proofs.YtbghkjoejbfnbaaDoor.law12

noncomputable section
namespace Go.Proofs.YtbghkjoejbfnbaaDoor.law12
open Go.RowKit Go.Proofs.YtbghkjoejbfnbaaDoorW.PrintWords Go.Proofs.YtbghkjoejbfnbaaDoor Go.Proofs.YtbghkjoejbfnbaaDoor.PH
/-- Are fields more than a statement looks at? -/
def gr (a : ByteArray) (l : List S47) : Bool := l.any (fun x => decide (1200 < x.f2.size)) || decide (40 < l.length) || decide (40 < a.size)
theorem great_l0 (a : ByteArray) (l : List S47) (h : l.length ≤ 9223372036854775807) : ∀ (n i k : Nat), l.length - i = n → i ≤ l.length → n < k →
  quittancelaw12_great.l0 k a l (i : Int) = some ((l.drop i).any (fun x => decide (1200 < x.f2.size)) || decide (40 < l.length) || decide (40 < a.size))
 | 0, i, k, hn, hi, hk => by
  obtain ⟨k, rfl⟩ : ∃ j, k = j + 1 := ⟨k - 1, by omega⟩
  unfold quittancelaw12_great.l0
  rw [if_neg (by omega), List.drop_eq_nil_of_le (by omega)]
  by_cases c : 40 < l.length
  ·rw [if_pos (by omega), decide_eq_true c]; rfl
  ·rw [if_neg (by omega), decide_eq_false c]
   by_cases d : 40 < a.size
   ·rw [decide_eq_true (by omega), decide_eq_true d]; rfl
   ·rw [decide_eq_false (by omega), decide_eq_false d]; rfl
 | n + 1, i, k, hn, hi, hk => by
  obtain ⟨k, rfl⟩ : ∃ j, k = j + 1 := ⟨k - 1, by omega⟩
  have ew : wrap64 ((i : Int) + 1) = ((i + 1 : Nat) : Int) := by unfold wrap64; omega
  have hil : i < l.length := by omega
  unfold quittancelaw12_great.l0
  rw [if_pos (by omega), if_pos (by omega), rd_at l i hil, List.drop_eq_getElem_cons hil, List.any_cons]
  by_cases c : 1200 < l[i].f2.size
  ·rw [if_pos (by omega), decide_eq_true c]; rfl
  ·rw [if_neg (by omega), decide_eq_false c, ew, great_l0 a l h n (i + 1) k (by omega) (by omega) (by omega)]; rfl
theorem great_is (a : ByteArray) (l : List S47) (h : l.length ≤ 9223372036854775807) (k : Nat) (hk : l.length < k) : quittancelaw12_great.f k a l = some (gr a l) :=
 great_l0 a l h l.length 0 k rfl (by omega) hk
theorem gr_no {a : ByteArray} {l : List S47} (h : gr a l = false) : l.length ≤ 40 ∧ a.size ≤ 40 ∧ ∀ x ∈ l, x.f2.size ≤ 1200 := by
 unfold gr at h
 rw [Bool.or_eq_false_iff, Bool.or_eq_false_iff, decide_eq_false_iff_not, decide_eq_false_iff_not, List.any_eq_false] at h
 refine ⟨by omega, by omega, fun x hx => ?_⟩
 have := h.1.1 x hx
 simpa using this
theorem b_inj' {a b : ByteArray} (h : a.data.toList = b.data.toList) : a = b := by
 cases a; cases b
 congr
 exact Array.toList_inj.1 h
theorem toList_eq_iff (a b : ByteArray) : (a.toList == b.toList) = true ↔ a = b := by
 rw [beq_iff_eq, Lib.toList_data, Lib.toList_data]
 exact ⟨b_inj', fun h => by rw [h]⟩
/-- Same tells equality. -/
theorem same_l0 (l m : List S47) (h : l.length = m.length) (hl : l.length ≤ 9223372036854775807) : ∀ (n i k : Nat), l.length - i = n → i ≤ l.length → n < k →
  ∃ b, quittanceref12_Same.l0 k l m (i : Int) = some b ∧ (b = true ↔ l.drop i = m.drop i)
 | 0, i, k, hn, hi, hk => by
  obtain ⟨k, rfl⟩ : ∃ j, k = j + 1 := ⟨k - 1, by omega⟩
  refine ⟨true, ?_, by rw [List.drop_eq_nil_of_le (by omega), List.drop_eq_nil_of_le (by omega)]; simp⟩
  unfold quittanceref12_Same.l0
  rw [if_neg (by omega)]
 | n + 1, i, k, hn, hi, hk => by
  obtain ⟨k, rfl⟩ : ∃ j, k = j + 1 := ⟨k - 1, by omega⟩
  have ew : wrap64 ((i : Int) + 1) = ((i + 1 : Nat) : Int) := by unfold wrap64; omega
  have hil : i < l.length := by omega
  have him : i < m.length := by omega
  obtain ⟨b, hb, hbi⟩ := same_l0 l m h hl n (i + 1) k (by omega) (by omega) (by omega)
  have hx : ∀ x y : S47, ((!(x.f0 == y.f0) || (!(x.f1 == y.f1) || (!(x.f2.toList == y.f2.toList)))) = true) ↔ x ≠ y := by
   intro x y
   obtain ⟨x0, x1, x2⟩ := x
   obtain ⟨y0, y1, y2⟩ := y
   have := toList_eq_iff x2 y2
   constructor
   ·rintro q e
    injection e with e0 e1 e2
    subst e0 e1 e2
    simp at q
   ·intro q
    by_cases c0 : x0 = y0
    ·by_cases c1 : x1 = y1
     ·have c2 : x2 ≠ y2 := fun e => q (by rw [c0, c1, e])
      have : (x2.toList == y2.toList) = false := by rw [Bool.eq_false_iff]; exact fun e => c2 (this.1 e)
      dsimp only
      rw [this]; simp
     ·have : (x1 == y1) = false := by simpa using c1
      dsimp only
      rw [this]; simp
    ·have : (x0 == y0) = false := by simpa using c0
     dsimp only
     rw [this]; simp
  unfold quittanceref12_Same.l0
  rw [if_pos (by omega), if_pos (by omega), if_pos (by omega), rd_at l i hil, rd_at m i him, List.drop_eq_getElem_cons hil, List.drop_eq_getElem_cons him]
  by_cases c : l[i] = m[i]
  ·rw [if_neg (by rw [hx]; exact fun q => q c), ew]
   refine ⟨b, hb, ?_⟩
   rw [hbi, List.cons.injEq]
   exact ⟨fun q => ⟨c, q⟩, fun q => q.2⟩
  ·rw [if_pos ((hx _ _).2 c)]
   refine ⟨false, rfl, ⟨fun q => (by cases q), fun q => ?_⟩⟩
   rw [List.cons.injEq] at q
   exact absurd q.1 c
theorem same_is (l m : List S47) (hl : l.length ≤ 9223372036854775807) (k : Nat) (hk : l.length < k) : ∃ b, quittanceref12_Same.f k l m = some b ∧ (b = true ↔ l = m) := by
 unfold quittanceref12_Same.f
 by_cases h : l.length = m.length
 ·rw [if_pos (by omega)]
  exact same_l0 l m h hl l.length 0 k rfl (by omega) hk
 ·rw [if_neg (by omega)]
  exact ⟨false, rfl, ⟨fun q => (by cases q), fun q => absurd (by rw [q]) h⟩⟩
end Go.Proofs.YtbghkjoejbfnbaaDoor.law12

noncomputable section
namespace Go.Proofs.YtbghkjoejbfnbaaDoor.law12
open Go.RowKit Go.Proofs.YtbghkjoejbfnbaaDoorW.PrintWords Go.Proofs.YtbghkjoejbfnbaaDoor Go.Proofs.YtbghkjoejbfnbaaDoor.PH
/-- A number's bytes, the highest first; none of 0. -/
def be (n : Nat) : List Int := if _h : n = 0 then [] else be (n / 256) ++ [((n % 256 : Nat) : Int)]
termination_by n
decreasing_by omega
theorem be_zero : be 0 = [] := by rw [be]; simp
theorem be_pos (n : Nat) (h : 0 < n) : be n = be (n / 256) ++ [((n % 256 : Nat) : Int)] := by rw [be, dif_neg (by omega)]
theorem be_len : ∀ (s n : Nat), n < 256 ^ s → (be n).length ≤ s
 | 0, n, h => by
  obtain rfl : n = 0 := by simpa using h
  rw [be_zero]; exact Nat.le_refl _
 | s + 1, n, h => by
  rcases Nat.eq_zero_or_pos n with rfl | hn
  ·rw [be_zero]; exact Nat.zero_le _
  ·rw [be_pos n hn, List.length_append]
   have := be_len s (n / 256) (Nat.div_lt_of_lt_mul (by rw [Nat.pow_succ] at h; omega))
   simp only [List.length_singleton]
   omega
theorem be_lt (s n : Nat) (h : 256 ^ s ≤ n) : s < (be n).length := by
 induction s generalizing n with
 | zero =>
  rw [be_pos n (by rw [Nat.pow_zero] at h; omega), List.length_append]
  simp
 | succ s ih =>
  have hp : 0 < n := Nat.lt_of_lt_of_le (Nat.pow_pos (by decide)) h
  rw [be_pos n hp, List.length_append]
  have : s < (be (n / 256)).length := ih (n / 256) ((Nat.le_div_iff_mul_le (by decide)).2 (by rw [Nat.pow_succ] at h; omega))
  simp only [List.length_singleton]
  omega
theorem be_rng : ∀ n, ∀ c ∈ be n, 0 ≤ c ∧ c ≤ 255 := by
 intro n
 induction n using Nat.strongRecOn with
 | _ n ih =>
  intro c hc
  rcases Nat.eq_zero_or_pos n with rfl | hn
  ·rw [be_zero] at hc; cases hc
  ·rw [be_pos n hn] at hc
   rcases List.mem_append.1 hc with h | h
   ·exact ih (n / 256) (by omega) c h
   ·have : c = ((n % 256 : Nat) : Int) := by simpa using h
    omega
theorem str_app (l m : List Int) : strOfNums (l ++ m) = strOfNums l ++ strOfNums m := by
 have : ∀ a b : ByteArray, a.data.toList = b.data.toList → a = b := by
  intro a b h
  cases a; cases b
  congr
  exact Array.toList_inj.1 h
 apply this
 rw [ByteArray.data_append, Array.toList_append, strOfNums_data, strOfNums_data, strOfNums_data, List.map_append]
/-- The document's bytes of a number. -/
theorem short_l0 : ∀ (k n : Nat) (acc : ByteArray), n < 256 ^ k → k ≤ 20 → acc.size + k ≤ 1000 → n < 18446744073709551616 → quittanceref12_short.l0 (k + 1) (n : Int) acc = some (strOfNums (be n) ++ acc) := by
 intro k
 have hz : ∀ (k : Nat) (acc : ByteArray), quittanceref12_short.l0 (k + 1) ((0 : Nat) : Int) acc = some (strOfNums (be 0) ++ acc) := by
  intro k acc
  unfold quittanceref12_short.l0
  rw [if_neg (by decide), be_zero]
  congr 1
 induction k with
 | zero =>
  intro n acc h _ _ _
  obtain rfl : n = 0 := by rw [Nat.pow_zero] at h; omega
  exact hz 0 acc
 | succ k ih =>
  intro n acc h hk ha hn
  rcases Nat.eq_zero_or_pos n with rfl | hp
  ·exact hz _ acc
  ·have e1 : Int.tmod (n : Int) 256 % 256 = ((n % 256 : Nat) : Int) := by
    rw [Int.tmod_eq_emod_of_nonneg (by omega)]; omega
   have e2 : IntKind.u64.wrap (Int.tdiv (n : Int) 256) = ((n / 256 : Nat) : Int) := by
    rw [Int.tdiv_eq_ediv_of_nonneg (by omega), ord.u64w]; omega
   rw [quittanceref12_short.l0, if_pos (by omega), Option.bind_some, e1, e2, if_pos (by rw [strOfNums_size]; simp; omega)]
   have hs : (strOfNums [((n % 256 : Nat) : Int)] ++ acc).size = acc.size + 1 := by rw [ByteArray.size_append, strOfNums_size]; simp; omega
   rw [ih (n / 256) (strOfNums [((n % 256 : Nat) : Int)] ++ acc) (Nat.div_lt_of_lt_mul (by rw [Nat.pow_succ] at h; omega)) (by omega) (by rw [hs]; omega) (by omega), be_pos n hp, str_app, ByteArray.append_assoc]
end Go.Proofs.YtbghkjoejbfnbaaDoor.law12

noncomputable section
namespace Go.Proofs.YtbghkjoejbfnbaaDoor.law12
open Go.RowKit Go.Proofs.YtbghkjoejbfnbaaDoorW.PrintWords Go.Proofs.YtbghkjoejbfnbaaDoorW.PrintMore Go.Proofs.YtbghkjoejbfnbaaDoor Go.Proofs.YtbghkjoejbfnbaaDoor.PH
theorem bitLen_be : ∀ n : Nat, n < 18446744073709551616 → (Lib.bitLen n + 7) / 8 = (be n).length := by
 intro n
 induction n using Nat.strongRecOn with
 | _ n ih =>
  intro h
  rcases Nat.eq_zero_or_pos n with rfl | hp
  ·rw [be_zero]; decide
  ·rw [be_pos n hp, List.length_append, List.length_singleton]
   by_cases c : 256 ≤ n
   ·have := ih (n / 256) (by omega) (by omega)
    rw [Lib.bitLen_shift8 n c h]
    omega
   ·have h8 := Lib.bitLen_le8 ⟨n, by omega⟩
    have h1 := Lib.bitLen_half n (by omega) (by omega)
    rw [show n / 256 = 0 by omega, be_zero]
    simp only [List.length_nil]
    dsimp only at h8
    omega
theorem size_be (n : Nat) (h : n < 18446744073709551616) : order_size.f (n : Int) = some ((be n).length : Int) := by
 unfold order_size.f bits_Len64.f
 have hb := bitLen_be n h
 have h8 := be_len 8 n (by have : (256 : Nat) ^ 8 = 18446744073709551616 := by decide
                           omega)
 rw [if_pos ⟨by omega, by omega⟩, Option.bind_some, Int.toNat_natCast]
 congr 1
 generalize Lib.bitLen n = x at hb
 have e1 : wrap64 ((x : Int) + 7) = ((x + 7 : Nat) : Int) := by unfold wrap64; omega
 rw [e1, Int.tdiv_eq_ediv_of_nonneg (by omega)]
 unfold wrap64
 omega
/-- A number's last s bytes, the highest first. -/
def dgs (n : Nat) : Nat → List Int
 | 0 => []
 | s + 1 => ((n / 256 ^ s % 256 : Nat) : Int) :: dgs n s
theorem dgs_snoc (n : Nat) : ∀ s, dgs n (s + 1) = dgs (n / 256) s ++ [((n % 256 : Nat) : Int)]
 | 0 => by simp [dgs]
 | s + 1 => by
  rw [dgs, dgs_snoc n s, dgs, Nat.div_div_eq_div_mul, Nat.pow_succ, Nat.mul_comm 256]
  rfl
theorem be_dgs : ∀ n : Nat, be n = dgs n (be n).length := by
 intro n
 induction n using Nat.strongRecOn with
 | _ n ih =>
  rcases Nat.eq_zero_or_pos n with rfl | hp
  ·rw [be_zero]; rfl
  ·rw [be_pos n hp, List.length_append, List.length_singleton, dgs_snoc, ← ih (n / 256) (by omega)]
theorem digits_l0 (n : Nat) (turn : Int) : ∀ (s k : Nat) (acc : List Int), s ≤ 8 → s + 1 ≤ k → acc.length + s ≤ 100000 →
  order_digits.l0 k acc (n : Int) turn ((s : Int) - 1) = some (acc ++ (dgs n s).map (fun c => Go.bits .xor .u8 c turn))
 | 0, k, acc, _, hk, _ => by
  obtain ⟨k, rfl⟩ : ∃ j, k = j + 1 := ⟨k - 1, by omega⟩
  unfold order_digits.l0
  rw [if_neg (by omega)]
  simp [dgs]
 | s + 1, k, acc, hs, hk, ha => by
  obtain ⟨k, rfl⟩ : ∃ j, k = j + 1 := ⟨k - 1, by omega⟩
  have e0 : ((s + 1 : Nat) : Int) - 1 = (s : Int) := by omega
  have e1 : wrap64 (8 * (s : Int)) = 8 * (s : Int) := by unfold wrap64; omega
  have e2 : wrap64 ((s : Int) - 1) = (s : Int) - 1 := by unfold wrap64; omega
  have e3 : shr .u64 (n : Int) (8 * (s : Int)) % 256 = ((n / 256 ^ s % 256 : Nat) : Int) := by
   unfold shr
   have hm : min (8 * (s : Int)).toNat IntKind.u64.bits = 8 * s := by
    have : IntKind.u64.bits = 64 := rfl
    omega
   have h2 : (2 : Nat) ^ (8 * s) = 256 ^ s := by rw [Nat.pow_mul]
   have hp : (2 : Int) ^ (8 * s) = (((256 : Nat) ^ s : Nat) : Int) := by rw [← h2]; push_cast; rfl
   rw [hm, hp]
   clear hm hp h2 e0 e1 e2
   generalize 256 ^ s = q
   first | rfl | (push_cast; rfl) | simp
  rw [order_digits.l0, e0, if_pos (by omega), e1, if_pos (by omega), if_pos (by omega), e2, e3, digits_l0 n turn s k _ (by omega) (by omega) (by simp; omega), dgs]
  simp
theorem digits_f (n : Nat) (h : n < 18446744073709551616) (turn : Int) (acc : List Int) (k : Nat) (hk : 10 ≤ k) (ha : acc.length ≤ 90000) : order_digits.f k acc (n : Int) turn = some (acc ++ (be n).map (fun c => Go.bits .xor .u8 c turn)) := by
 have h8 := be_len 8 n (by have : (256 : Nat) ^ 8 = 18446744073709551616 := by decide
                           omega)
 unfold order_digits.f
 rw [size_be n h, Option.bind_some]
 have e : wrap64 (((be n).length : Int) - 1) = ((be n).length : Int) - 1 := by unfold wrap64; omega
 rw [e, digits_l0 n turn (be n).length k acc h8 (by omega) (by omega), ← be_dgs]
end Go.Proofs.YtbghkjoejbfnbaaDoor.law12

noncomputable section
namespace Go.Proofs.YtbghkjoejbfnbaaDoor.law12
open Go.RowKit Go.Proofs.YtbghkjoejbfnbaaDoorW.PrintWords Go.Proofs.YtbghkjoejbfnbaaDoor Go.Proofs.YtbghkjoejbfnbaaDoor.PH
theorem be8 (n : Nat) (h : n < 18446744073709551616) : (be n).length ≤ 8 :=
 be_len 8 n (by have : (256 : Nat) ^ 8 = 18446744073709551616 := by decide
                omega)
theorem xor_zero (n : Nat) : (be n).map (fun c => Go.bits .xor .u8 c 0) = be n := by
 conv => rhs; rw [← List.map_id (be n)]
 exact List.map_congr_left (fun c hc => by
  have := be_rng n c hc
  rw [ord.xor_tb 0 c (.inl rfl) this.1 this.2]
  rfl)
theorem xor_ff (n : Nat) : (be n).map (fun c => Go.bits .xor .u8 c 255) = (be n).map (fun c => 255 - c) :=
 List.map_congr_left (fun c hc => by
  have := be_rng n c hc
  rw [ord.xor_tb 255 c (.inr rfl) this.1 this.2]
  rfl)
theorem put_n (n : Nat) (h : n < 18446744073709551616) (i : Int) (s : ByteArray) (acc : List Int) (k : Nat) (hk : 10 ≤ k) (ha : acc.length ≤ 80000) :
  order_put.f k acc 110 (n : Int) i s = some (acc ++ (((be n).length : Int) :: be n)) := by
 have h8 := be8 n h
 unfold order_put.f
 rw [if_pos rfl, size_be n h, Option.bind_some, if_pos (by omega), digits_f n h 0 _ k hk (by simp; omega), Option.bind_some, xor_zero, show ((be n).length : Int) % 256 = ((be n).length : Int) by omega]
 simp
theorem short_f (n : Nat) (h : n < 18446744073709551616) (k : Nat) (hk : 30 ≤ k) : quittanceref12_short.f k (n : Int) = some (strOfNums (be n)) := by
 unfold quittanceref12_short.f
 have h9 : quittanceref12_short.l0 (8 + 1) (n : Int) (⟨#[]⟩ : ByteArray) = some (strOfNums (be n) ++ ⟨#[]⟩) :=
  short_l0 8 n _ (by have : (256 : Nat) ^ 8 = 18446744073709551616 := by decide
                     omega) (by decide) (by decide) h
 have e : strOfNums (be n) ++ (⟨#[]⟩ : ByteArray) = strOfNums (be n) := by
  have := str_app (be n) []
  rw [List.append_nil] at this
  exact this.symm
 rw [e] at h9
 exact up (f := fun k => quittanceref12_short.l0 k (n : Int) (⟨#[]⟩ : ByteArray)) (fun k => quittanceref12_short.mono (n : Int) k) h9 k (by omega)
theorem ref_n (n : Nat) (h : n < 18446744073709551616) (i : Int) (s : ByteArray) (k : Nat) (hk : 30 ≤ k) :
  quittanceref12_bytes.f k 110 (n : Int) i s = some (strOfNums (((be n).length : Int) :: be n)) := by
 have h8 := be8 n h
 unfold quittanceref12_bytes.f quittanceref12_one.f
 rw [if_pos rfl, short_f n h k hk, Option.bind_some, Option.bind_some, if_pos (by rw [strOfNums_size, strOfNums_size]; simp; omega), strOfNums_size, show ((be n).length : Int) % 256 = ((be n).length : Int) by omega, ← str_app]
 rfl
theorem put_ip (m : Nat) (h : m < 9223372036854775808) (n : Int) (s : ByteArray) (acc : List Int) (k : Nat) (hk : 10 ≤ k) (ha : acc.length ≤ 80000) :
  order_put.f k acc 105 n (m : Int) s = some (acc ++ ((128 + ((be m).length : Int)) :: be m)) := by
 have h8 := be8 m (by omega)
 have ew : IntKind.u64.wrap (m : Int) = (m : Int) := by rw [ord.u64w]; omega
 have e1 : wrap64 (128 + ((be m).length : Int)) % 256 = 128 + ((be m).length : Int) := by unfold wrap64; omega
 unfold order_put.f
 rw [if_neg (by decide), if_pos rfl, if_pos (by omega), ew, size_be m (by omega), Option.bind_some, if_pos (by omega), digits_f m (by omega) 0 _ k hk (by simp; omega), Option.bind_some, xor_zero, e1]
 simp
theorem ref_ip (m : Nat) (h : m < 9223372036854775808) (n : Int) (s : ByteArray) (k : Nat) (hk : 30 ≤ k) :
  quittanceref12_bytes.f k 105 n (m : Int) s = some (strOfNums ((128 + ((be m).length : Int)) :: be m)) := by
 have h8 := be8 m (by omega)
 have ew : IntKind.u64.wrap (m : Int) = (m : Int) := by rw [ord.u64w]; omega
 have e1 : wrap64 (128 + ((be m).length : Int)) % 256 = 128 + ((be m).length : Int) := by unfold wrap64; omega
 unfold quittanceref12_bytes.f quittanceref12_one.f
 rw [if_neg (by decide), if_pos rfl, if_pos (by omega), ew, short_f m (by omega) k hk, Option.bind_some, Option.bind_some, if_pos (by rw [strOfNums_size, strOfNums_size]; simp; omega), strOfNums_size, e1, ← str_app]
 rfl
end Go.Proofs.YtbghkjoejbfnbaaDoor.law12

noncomputable section
namespace Go.Proofs.YtbghkjoejbfnbaaDoor.law12
open Go.RowKit Go.Proofs.YtbghkjoejbfnbaaDoorW.PrintWords Go.Proofs.YtbghkjoejbfnbaaDoor Go.Proofs.YtbghkjoejbfnbaaDoor.PH
theorem not_neg (m : Nat) (hm : m < 9223372036854775808) : Go.bits .xor .i64 (-1) (-(m : Int) - 1) = (m : Int) := by
 show IntKind.i64.wrap ((BitVec.ofInt 64 (-1) ^^^ BitVec.ofInt 64 (-(m : Int) - 1)).toNat : Int) = _
 have h1 : BitVec.ofInt 64 (-1) = BitVec.allOnes 64 := by decide
 have h2 : (BitVec.ofInt 64 (-(m : Int) - 1)).toNat = 18446744073709551616 - 1 - m := by
  rw [BitVec.toNat_ofInt]
  omega
 rw [h1, BitVec.allOnes_xor, BitVec.toNat_not, h2]
 simp [IntKind.wrap, IntKind.bits, IntKind.signed]
 omega
theorem bt_str (l : List Int) (hl : ∀ c ∈ l, 0 ≤ c ∧ c ≤ 255) (i : Nat) (h : i < l.length) : bt (strOfNums l) (i : Int) = l[i] := by
 have hs : i < (strOfNums l).size := by rw [strOfNums_size]; exact h
 rw [← bt_at (strOfNums l) (i : Int) (by simpa using hs)]
 have e : (strOfNums l)[i]'hs = UInt8.ofNat l[i].toNat := by
  show (strOfNums l).data[i]'hs = _
  simp [strOfNums]
 simp only [Int.toNat_natCast]
 rw [e]
 have := hl l[i] (List.getElem_mem h)
 generalize l[i] = c at this
 rw [UInt8.toNat_ofNat']
 omega
theorem neg_l0 (l : List Int) (hl : ∀ c ∈ l, 0 ≤ c ∧ c ≤ 255) (hn : l.length ≤ 100) : ∀ (n i k : Nat) (acc : ByteArray), l.length - i = n → i ≤ l.length → n < k → acc.size + n ≤ 1000 →
  quittanceref12_bytes.l0 k (strOfNums l) acc (i : Int) = some (acc ++ strOfNums ((l.drop i).map (fun c => 255 - c)))
 | 0, i, k, acc, h, hi, hk, _ => by
  obtain ⟨k, rfl⟩ : ∃ j, k = j + 1 := ⟨k - 1, by omega⟩
  rw [quittanceref12_bytes.l0, if_neg (by rw [strOfNums_size]; omega), show l.drop i = [] from List.drop_eq_nil_of_le (by omega)]
  congr 1
  exact (ByteArray.append_empty (b := acc)).symm
 | n + 1, i, k, acc, h, hi, hk, ha => by
  obtain ⟨k, rfl⟩ : ∃ j, k = j + 1 := ⟨k - 1, by omega⟩
  have hil : i < l.length := by omega
  have ew : wrap64 ((i : Int) + 1) = ((i + 1 : Nat) : Int) := by unfold wrap64; omega
  have hr := hl l[i] (List.getElem_mem hil)
  have e1 : wrap64 (255 - wrap64 l[i]) % 256 = 255 - l[i] := by unfold wrap64; omega
  rw [quittanceref12_bytes.l0, if_pos (by rw [strOfNums_size]; omega), if_pos (by omega), bt_str l hl i hil]
  unfold quittanceref12_one.f
  have hs : (acc ++ strOfNums [255 - l[i]]).size = acc.size + 1 := by rw [ByteArray.size_append, strOfNums_size]; rfl
  rw [Option.bind_some, e1, if_pos (by rw [strOfNums_size]; simp; omega), ew, neg_l0 l hl hn n (i + 1) k _ (by omega) (by omega) (by omega) (by rw [hs]; omega), List.drop_eq_getElem_cons hil, List.map_cons, ByteArray.append_assoc, ← str_app]
  rfl
theorem put_in (m : Nat) (h : m < 9223372036854775808) (n : Int) (s : ByteArray) (acc : List Int) (k : Nat) (hk : 10 ≤ k) (ha : acc.length ≤ 80000) :
  order_put.f k acc 105 n (-(m : Int) - 1) s = some (acc ++ ((127 - ((be m).length : Int)) :: (be m).map (fun c => 255 - c))) := by
 have h8 := be8 m (by omega)
 have ew : IntKind.u64.wrap (m : Int) = (m : Int) := by rw [ord.u64w]; omega
 have e1 : wrap64 (127 - ((be m).length : Int)) % 256 = 127 - ((be m).length : Int) := by unfold wrap64; omega
 unfold order_put.f
 rw [if_neg (by decide), if_pos rfl, if_neg (by omega), not_neg m h, ew, size_be m (by omega), Option.bind_some, if_pos (by omega), digits_f m (by omega) 255 _ k hk (by simp; omega), Option.bind_some, xor_ff, e1]
 simp
theorem ref_in (m : Nat) (h : m < 9223372036854775808) (n : Int) (s : ByteArray) (k : Nat) (hk : 30 ≤ k) :
  quittanceref12_bytes.f k 105 n (-(m : Int) - 1) s = some (strOfNums ((127 - ((be m).length : Int)) :: (be m).map (fun c => 255 - c))) := by
 have h8 := be8 m (by omega)
 have ew : IntKind.u64.wrap (wrap64 (-(wrap64 (-(m : Int) - 1 + 1)))) = (m : Int) := by
  have e : wrap64 (-(m : Int) - 1 + 1) = -(m : Int) := by unfold wrap64; omega
  rw [e]
  have e' : wrap64 (- -(m : Int)) = (m : Int) := by unfold wrap64; omega
  rw [e', ord.u64w]; omega
 have e1 : wrap64 (127 - ((be m).length : Int)) % 256 = 127 - ((be m).length : Int) := by unfold wrap64; omega
 unfold quittanceref12_bytes.f quittanceref12_one.f
 rw [if_neg (by decide), if_pos rfl, if_neg (by omega), ew, short_f m (by omega) k hk, Option.bind_some, Option.bind_some, strOfNums_size, e1]
 have := neg_l0 (be m) (be_rng m) (by omega) (be m).length 0 k (strOfNums [127 - ((be m).length : Int)]) rfl (by omega) (by omega) (by rw [strOfNums_size]; simp; omega)
 rw [List.drop_zero, ← str_app] at this
 exact this
end Go.Proofs.YtbghkjoejbfnbaaDoor.law12

noncomputable section
namespace Go.Proofs.YtbghkjoejbfnbaaDoor.law12
open Go.RowKit Go.Proofs.YtbghkjoejbfnbaaDoorW.PrintWords Go.Proofs.YtbghkjoejbfnbaaDoor Go.Proofs.YtbghkjoejbfnbaaDoor.PH
theorem str_bytes (s : ByteArray) : strOfNums (bytesOf s) = s := by
 apply b_inj'
 rw [strOfNums_data, bytesOf, List.map_map]
 conv => rhs; rw [← List.map_id s.data.toList]
 exact List.map_congr_left (fun b _ => by simp)
theorem bytes_str (l : List Int) (hl : ∀ c ∈ l, 0 ≤ c ∧ c ≤ 255) : bytesOf (strOfNums l) = l := by
 rw [bytesOf, strOfNums_data, List.map_map]
 conv => rhs; rw [← List.map_id l]
 exact List.map_congr_left (fun c hc => by
  have := hl c hc
  simp only [Function.comp_apply, UInt8.toNat_ofNat', id]
  omega)
theorem bytes_app (a b : ByteArray) : bytesOf (a ++ b) = bytesOf a ++ bytesOf b := by
 rw [bytesOf, ByteArray.data_append, Array.toList_append, List.map_append]; rfl
theorem bytes_ext (a : ByteArray) (i j : Nat) : bytesOf (a.extract i j) = ((bytesOf a).take j).drop i := by
 rw [bytesOf, bytesOf, ByteArray.data_extract, Array.toList_extract, List.extract_eq_take_drop, ← List.map_take, ← List.map_drop, List.drop_take]
theorem bytes_inj {a b : ByteArray} (h : bytesOf a = bytesOf b) : a = b := by rw [← str_bytes a, ← str_bytes b, h]
theorem bt_bytes (s : ByteArray) (i : Nat) (h : i < (bytesOf s).length) : bt s (i : Int) = (bytesOf s)[i] := by
 conv => lhs; rw [← str_bytes s]
 exact bt_str (bytesOf s) (ord.bytes_range s) i h
/-- A text's bytes, each 0 marked. -/
def esc : List Int → List Int
 | [] => []
 | c :: l => if c = 0 then 0 :: 255 :: esc l else c :: esc l
theorem esc_len : ∀ l, (esc l).length ≤ 2 * l.length
 | [] => Nat.le_refl _
 | c :: l => by
  have := esc_len l
  unfold esc
  split <;> simp <;> omega
theorem esc_rng : ∀ l, (∀ c ∈ l, 0 ≤ c ∧ c ≤ 255) → ∀ c ∈ esc l, 0 ≤ c ∧ c ≤ 255
 | [], _ => by intro c hc; cases hc
 | a :: l, h => by
  intro c hc
  have ih := esc_rng l (fun x hx => h x (by simp [hx])) c
  unfold esc at hc
  split at hc
  ·simp only [List.mem_cons] at hc
   rcases hc with rfl | rfl | hc
   ·decide
   ·decide
   ·exact ih hc
  ·simp only [List.mem_cons] at hc
   rcases hc with rfl | hc
   ·exact h _ (by simp)
   ·exact ih hc
theorem rep_ne (b : UInt8) (l : List UInt8) (h : b ≠ 0) : ∀ k, Lib.replaceK [0] [0, 255] k (b :: l) = b :: Lib.replaceK [0] [0, 255] k l
 | 0 => rfl
 | k + 1 => by
  have hp : List.isPrefixOf [(0 : UInt8)] (b :: l) = false := by
   simp only [List.isPrefixOf]
   rw [Bool.and_eq_false_iff]
   exact .inl (beq_eq_false_iff_ne.2 (Ne.symm h))
  have hi : Lib.index (b :: l) [0] = if Lib.index l [0] == -1 then -1 else Lib.index l [0] + 1 := by
   conv => lhs; unfold Lib.index
   rw [hp]; rfl
  have hg := Lib.index_ge l [0]
  unfold Lib.replaceK
  rw [hi]
  by_cases c : Lib.index l [0] = -1
  ·rw [c]; rfl
  ·have c1 : (Lib.index l [0] == -1) = false := by simpa using c
   rw [c1]
   have c2 : (Lib.index l [0] + 1 == -1) = false := by rw [beq_eq_false_iff_ne]; omega
   have c3 : (Lib.index l [0] + 1).toNat = (Lib.index l [0]).toNat + 1 := by omega
   simp only [Bool.false_eq_true, if_false, c2, c3, List.take_succ_cons, List.length_singleton, List.cons_append]
   rfl
theorem rep_eq (l : List UInt8) (k : Nat) : Lib.replaceK [0] [0, 255] (k + 1) (0 :: l) = 0 :: 255 :: Lib.replaceK [0] [0, 255] k l := by
 have hi : Lib.index (0 :: l) [0] = ((0 : Nat) : Int) := by
  unfold Lib.index
  rw [if_pos (by simp [List.isPrefixOf])]; rfl
 rw [Lib.replaceK_hit _ _ _ _ 0 hi]
 rfl
theorem rep_esc : ∀ l : List UInt8, (Lib.replaceK [0] [0, 255] (Lib.count l [0]) l).map (fun b => (b.toNat : Int)) = esc (l.map (fun b => (b.toNat : Int)))
 | [] => by
  have : ∀ k, Lib.replaceK [0] [0, 255] k [] = [] := fun k => by cases k <;> rfl
  rw [this]; rfl
 | b :: l => by
  by_cases h : b = 0
  ·subst h
   rw [Lib.count_cons_eq, Nat.add_comm, rep_eq, List.map_cons, List.map_cons, rep_esc l, List.map_cons, esc, if_pos (by rfl)]
   rfl
  ·have hz : ((b.toNat : Int)) ≠ 0 := fun e => h (UInt8.toNat_inj.1 (by simpa using e))
   rw [Lib.count_cons_ne b 0 l h, rep_ne b l h, List.map_cons, rep_esc l, List.map_cons, esc, if_neg hz]
theorem repAll_esc (s : ByteArray) : bytesOf ⟨(Lib.replaceAll s.data.toList [0] [0, 255]).toArray⟩ = esc (bytesOf s) := by
 rw [bytesOf, bytesOf, ← rep_esc]
 unfold Lib.replaceAll Lib.replace Lib.replaceNum
 rw [if_neg (by decide), if_pos (.inl (by decide))]
theorem put_s (s : ByteArray) (hs : s.size ≤ 1200) (n i : Int) (acc : List Int) (k : Nat) (ha : acc.length ≤ 80000) :
  order_put.f k acc 115 n i s = some (acc ++ (esc (bytesOf s) ++ [0, 0])) := by
 have hl : s.data.toList.length = s.size := by rw [Array.length_toList]; rfl
 have hc := Lib.count_le s.data.toList [0]
 have he := esc_len (bytesOf s)
 rw [bytesOf_length] at he
 unfold order_put.f strings_ReplaceAll.f
 have hr : bytesOf ⟨(Lib.replaceAll s.data.toList (⟨#[0]⟩ : ByteArray).data.toList (⟨#[0, 255]⟩ : ByteArray).data.toList).toArray⟩ = esc (bytesOf s) := repAll_esc s
 have h2 : (⟨#[0, 255]⟩ : ByteArray).size = 2 := rfl
 have h1 : Lib.countB s ⟨#[0]⟩ = Lib.count s.data.toList [0] := rfl
 rw [if_neg (by decide), if_neg (by decide), if_pos (⟨by omega, by decide, by rw [h2, h1]; omega⟩)]
 ·rw [Option.bind_some]
  have hsz : (⟨(Lib.replaceAll s.data.toList (⟨#[0]⟩ : ByteArray).data.toList (⟨#[0, 255]⟩ : ByteArray).data.toList).toArray⟩ : ByteArray).size = (esc (bytesOf s)).length := by rw [← hr, bytesOf_length]
  rw [hsz, hr, if_pos (by omega), Option.bind_some, Option.bind_some, if_pos (by simp; omega), List.append_assoc]
theorem str_one (s : ByteArray) (i : Nat) (h : i < s.size) : bytesOf (s.extract i (i + 1)) = [bt s (i : Int)] := by
 have hl : i < (bytesOf s).length := by rw [bytesOf_length]; exact h
 rw [bytes_ext, bt_bytes s i hl, List.take_succ_eq_append_getElem hl]
 rw [List.drop_append_of_le_length (by rw [List.length_take]; omega), List.drop_eq_nil_of_le (by rw [List.length_take]; omega), List.nil_append]
theorem ref_s_l1 (s : ByteArray) (hs : s.size ≤ 2000) (n i : Int) : ∀ (m j k : Nat) (acc : ByteArray), s.size - j = m → j ≤ s.size → m < k → acc.size + 2 * m ≤ 100000 →
  ∃ r, quittanceref12_bytes.l1 k acc (j : Int) n i s = some r ∧ bytesOf r = bytesOf acc ++ (esc ((bytesOf s).drop j) ++ [0, 0])
 | 0, j, k, acc, hm, hj, hk, ha => by
  obtain ⟨k, rfl⟩ : ∃ q, k = q + 1 := ⟨k - 1, by omega⟩
  refine ⟨acc ++ ⟨#[0, 0]⟩, ?_, ?_⟩
  ·rw [quittanceref12_bytes.l1, if_neg (by omega), if_pos (by omega)]
  ·rw [bytes_app, show (bytesOf s).drop j = [] from List.drop_eq_nil_of_le (by rw [bytesOf_length]; omega)]
   rfl
 | m + 1, j, k, acc, hm, hj, hk, ha => by
  obtain ⟨k, rfl⟩ : ∃ q, k = q + 1 := ⟨k - 1, by omega⟩
  have hjs : j < s.size := by omega
  have hjl : j < (bytesOf s).length := by rw [bytesOf_length]; exact hjs
  have ew : wrap64 ((j : Int) + 1) = ((j + 1 : Nat) : Int) := by unfold wrap64; omega
  have hsz : (s.extract j (j + 1)).size = 1 := by rw [ByteArray.size_extract]; omega
  have hsz2 : (acc ++ s.extract j (j + 1)).size = acc.size + 1 := by rw [ByteArray.size_append, hsz]
  have hsz3 : (acc ++ s.extract j (j + 1) ++ ⟨#[255]⟩).size = acc.size + 2 := by rw [ByteArray.size_append, hsz2]; rfl
  have hb := str_one s j hjs
  rw [quittanceref12_bytes.l1, if_pos (by omega), if_pos (by omega), ew, if_pos (by omega), if_pos (by omega), Int.toNat_natCast, Int.toNat_natCast, if_pos (by omega), List.drop_eq_getElem_cons hjl, ← bt_bytes s j hjl, esc]
  by_cases c : bt s (j : Int) = 0
  ·rw [if_pos c, if_pos (by omega), if_pos c]
   obtain ⟨r, h1, h2⟩ := ref_s_l1 s hs n i m (j + 1) k (acc ++ s.extract j (j + 1) ++ ⟨#[255]⟩) (by omega) (by omega) (by omega) (by rw [hsz3]; omega)
   refine ⟨r, h1, ?_⟩
   rw [h2, bytes_app, bytes_app, hb, c]
   have : bytesOf (⟨#[255]⟩ : ByteArray) = [255] := rfl
   rw [this]
   simp
  ·rw [if_neg c, if_neg c]
   obtain ⟨r, h1, h2⟩ := ref_s_l1 s hs n i m (j + 1) k (acc ++ s.extract j (j + 1)) (by omega) (by omega) (by omega) (by rw [hsz2]; omega)
   refine ⟨r, h1, ?_⟩
   rw [h2, bytes_app, hb]
   simp
theorem ref_s (s : ByteArray) (hs : s.size ≤ 2000) (n i : Int) (k : Nat) (hk : 3000 ≤ k) : quittanceref12_bytes.f k 115 n i s = some (strOfNums (esc (bytesOf s) ++ [0, 0])) := by
 unfold quittanceref12_bytes.f
 rw [if_neg (by decide), if_neg (by decide)]
 have e0 : (⟨#[]⟩ : ByteArray).size = 0 := rfl
 obtain ⟨r, h1, h2⟩ := ref_s_l1 s hs n i s.size 0 k ⟨#[]⟩ rfl (by omega) (by omega) (by omega)
 rw [show ((0 : Nat) : Int) = 0 from rfl] at h1
 rw [h1, ← str_bytes r, h2, List.drop_zero]
 rfl
/-- What a field's numbers may be. -/
structure Wf (x : S47) : Prop where
 n0 : 0 ≤ x.f0
 n1 : x.f0 < 18446744073709551616
 i0 : -9223372036854775808 ≤ x.f1
 i1 : x.f1 < 9223372036854775808
 s : x.f2.size ≤ 1200
/-- A field's bytes. -/
def fb (c : Int) (x : S47) : List Int :=
 if c = 110 then ((be x.f0.toNat).length : Int) :: be x.f0.toNat
 else if c = 105 then (if 0 ≤ x.f1 then (128 + ((be x.f1.toNat).length : Int)) :: be x.f1.toNat else (127 - ((be (-x.f1 - 1).toNat).length : Int)) :: (be (-x.f1 - 1).toNat).map (fun c => 255 - c))
 else esc (bytesOf x.f2) ++ [0, 0]
theorem put_is {c : Int} (hc : good c) {x : S47} (hx : Wf x) (acc : List Int) (k : Nat) (hk : 10 ≤ k) (ha : acc.length ≤ 80000) :
  order_put.f k acc c x.f0 x.f1 x.f2 = some (acc ++ fb c x) := by
 obtain ⟨h0, h1, h2, h3, h4⟩ := hx
 unfold fb
 rcases hc with rfl | rfl | rfl
 ·rw [if_pos rfl]
  have := put_n x.f0.toNat (by omega) x.f1 x.f2 acc k hk ha
  rwa [show ((x.f0.toNat : Nat) : Int) = x.f0 by omega] at this
 ·rw [if_neg (by decide), if_pos rfl]
  by_cases c : 0 ≤ x.f1
  ·rw [if_pos c]
   have := put_ip x.f1.toNat (by omega) x.f0 x.f2 acc k hk ha
   rwa [show ((x.f1.toNat : Nat) : Int) = x.f1 by omega] at this
  ·rw [if_neg c]
   have := put_in (-x.f1 - 1).toNat (by omega) x.f0 x.f2 acc k hk ha
   rwa [show (-(((-x.f1 - 1).toNat : Nat) : Int) - 1) = x.f1 by omega] at this
 ·rw [if_neg (by decide), if_neg (by decide)]
  exact put_s x.f2 h4 _ _ acc k ha
theorem ref_is {c : Int} (hc : good c) {x : S47} (hx : Wf x) (k : Nat) (hk : 3000 ≤ k) :
  quittanceref12_bytes.f k c x.f0 x.f1 x.f2 = some (strOfNums (fb c x)) := by
 obtain ⟨h0, h1, h2, h3, h4⟩ := hx
 unfold fb
 rcases hc with rfl | rfl | rfl
 ·rw [if_pos rfl]
  have := ref_n x.f0.toNat (by omega) x.f1 x.f2 k (by omega)
  rwa [show ((x.f0.toNat : Nat) : Int) = x.f0 by omega] at this
 ·rw [if_neg (by decide), if_pos rfl]
  by_cases c : 0 ≤ x.f1
  ·rw [if_pos c]
   have := ref_ip x.f1.toNat (by omega) x.f0 x.f2 k (by omega)
   rwa [show ((x.f1.toNat : Nat) : Int) = x.f1 by omega] at this
  ·rw [if_neg c]
   have := ref_in (-x.f1 - 1).toNat (by omega) x.f0 x.f2 k (by omega)
   rwa [show (-(((-x.f1 - 1).toNat : Nat) : Int) - 1) = x.f1 by omega] at this
 ·rw [if_neg (by decide), if_neg (by decide)]
  exact ref_s x.f2 (by omega) _ _ k hk
theorem map_rng (l : List Int) (h : ∀ c ∈ l, 0 ≤ c ∧ c ≤ 255) : ∀ c ∈ l.map (fun c => 255 - c), 0 ≤ c ∧ c ≤ 255 := by
 intro c hc
 obtain ⟨d, hd, rfl⟩ := List.mem_map.1 hc
 have := h d hd
 omega
theorem fb_rng {c : Int} {x : S47} (hx : Wf x) : ∀ b ∈ fb c x, 0 ≤ b ∧ b ≤ 255 := by
 obtain ⟨h0, h1, h2, h3, h4⟩ := hx
 unfold fb
 intro b hb
 split at hb
 ·have := be8 x.f0.toNat (by omega)
  rcases List.mem_cons.1 hb with rfl | hb
  ·omega
  ·exact be_rng _ b hb
 ·split at hb
  ·split at hb
   ·have := be8 x.f1.toNat (by omega)
    rcases List.mem_cons.1 hb with rfl | hb
    ·omega
    ·exact be_rng _ b hb
   ·have := be8 (-x.f1 - 1).toNat (by omega)
    rcases List.mem_cons.1 hb with rfl | hb
    ·omega
    ·exact map_rng _ (be_rng _) b hb
  ·rcases List.mem_append.1 hb with hb | hb
   ·exact esc_rng _ (ord.bytes_range _) b hb
   ·simp at hb
    omega
theorem fb_len {c : Int} {x : S47} (hx : Wf x) : (fb c x).length ≤ 2402 := by
 obtain ⟨h0, h1, h2, h3, h4⟩ := hx
 unfold fb
 split
 ·have := be8 x.f0.toNat (by omega)
  simp only [List.length_cons]
  omega
 ·split
  ·split
   ·have := be8 x.f1.toNat (by omega)
    simp only [List.length_cons]
    omega
   ·have := be8 (-x.f1 - 1).toNat (by omega)
    simp only [List.length_cons, List.length_map]
    omega
  ·have := esc_len (bytesOf x.f2)
   rw [bytesOf_length] at this
   simp only [List.length_append, List.length_cons, List.length_nil]
   omega
end Go.Proofs.YtbghkjoejbfnbaaDoor.law12

noncomputable section
namespace Go.Proofs.YtbghkjoejbfnbaaDoor.law12
open Go.RowKit Go.Proofs.YtbghkjoejbfnbaaDoorW.PrintWords Go.Proofs.YtbghkjoejbfnbaaDoor Go.Proofs.YtbghkjoejbfnbaaDoor.PH
theorem tb_zero : ord.tb 0 = fun c => c := by funext c; unfold ord.tb; rw [if_pos rfl]
theorem tb_ff : ord.tb 255 = fun c => 255 - c := by funext c; unfold ord.tb; rw [if_neg (by decide)]
theorem numV_tb (turn : Int) : ∀ (l : List Int) (n : Int), l.foldl (fun n c => n * 256 + ord.tb turn c) n = (l.map (ord.tb turn)).foldl (fun n c => n * 256 + ord.tb 0 c) n
 | [], _ => rfl
 | c :: l, n => by rw [List.foldl_cons, numV_tb turn l, List.map_cons, List.foldl_cons, tb_zero]
theorem numV_map (turn : Int) (l : List Int) : ord.numV turn l = ord.numV 0 (l.map (ord.tb turn)) := numV_tb turn l 0
theorem numV_be : ∀ n : Nat, ord.numV 0 (be n) = (n : Int) := by
 intro n
 induction n using Nat.strongRecOn with
 | _ n ih =>
  rcases Nat.eq_zero_or_pos n with rfl | hp
  ·rw [be_zero]; rfl
  ·rw [be_pos n hp, ord.numV_snoc, ih (n / 256) (by omega), tb_zero]
   dsimp only
   omega
theorem dgs_num : ∀ (n : Nat) (l : List Int), l.length = n → (∀ c ∈ l, 0 ≤ c ∧ c ≤ 255) → 0 ≤ ord.numV 0 l ∧ dgs (ord.numV 0 l).toNat l.length = l
 | 0, l, h, _ => by
  obtain rfl := List.length_eq_zero_iff.1 h
  exact ⟨Int.le_refl _, rfl⟩
 | n + 1, l, h, hr => by
  obtain ⟨p, c, rfl⟩ : ∃ p c, l = p ++ [c] := by
   rcases List.eq_nil_or_concat l with rfl | ⟨p, c, q⟩
   ·cases h
   ·exact ⟨p, c, by simpa using q⟩
  have hp : p.length = n := by simpa using h
  obtain ⟨h0, h1⟩ := dgs_num n p hp (fun x hx => hr x (by simp [hx]))
  have hc := hr c (by simp)
  rw [ord.numV_snoc, tb_zero]
  dsimp only
  have e : (ord.numV 0 p * 256 + c).toNat = (ord.numV 0 p).toNat * 256 + c.toNat := by omega
  refine ⟨by omega, ?_⟩
  rw [e, List.length_append, List.length_singleton, dgs_snoc]
  rw [show ((ord.numV 0 p).toNat * 256 + c.toNat) / 256 = (ord.numV 0 p).toNat by omega, show ((ord.numV 0 p).toNat * 256 + c.toNat) % 256 = c.toNat by omega, h1]
  congr 2
  omega
theorem be_num (l : List Int) (hr : ∀ c ∈ l, 0 ≤ c ∧ c ≤ 255) (h : (be (ord.numV 0 l).toNat).length = l.length) : be (ord.numV 0 l).toNat = l := by
 rw [be_dgs, h]
 exact (dgs_num l.length l rfl hr).2
theorem sizeV_be (n : Nat) (h : n < 18446744073709551616) : ord.sizeV (n : Int) = ((be n).length : Int) := by
 have := size_be n h
 unfold order_size.f bits_Len64.f at this
 rw [if_pos ⟨by omega, by omega⟩, Option.bind_some] at this
 exact Option.some.inj this
theorem tb_map_rng {turn : Int} (ht : turn = 0 ∨ turn = 255) {l : List Int} (hr : ∀ c ∈ l, 0 ≤ c ∧ c ≤ 255) : ∀ c ∈ l.map (ord.tb turn), 0 ≤ c ∧ c ≤ 255 := by
 intro c hc
 obtain ⟨d, hd, rfl⟩ := List.mem_map.1 hc
 exact ord.tb_range turn d ht (hr d hd).1 (hr d hd).2
theorem tb_tb {turn : Int} (ht : turn = 0 ∨ turn = 255) (l : List Int) : (l.map (ord.tb turn)).map (ord.tb turn) = l := by
 rw [List.map_map]
 conv => rhs; rw [← List.map_id l]
 apply List.map_congr_left
 intro c _
 rcases ht with rfl | rfl
 ·rw [tb_zero]; rfl
 ·rw [tb_ff]; simp only [Function.comp_apply, id]; omega
theorem nV_is {b : ByteArray} {c0 : Int} {m : List Int} (hb : bytesOf b = c0 :: m) {k : Int} (turn : Int) (h : ord.okN b k = true) :
  ord.nV b k turn = ord.numV turn (m.take k.toNat) ∧ bytesOf (ord.nR b k) = m.drop k.toNat ∧ k.toNat ≤ m.length := by
 obtain ⟨h0, h8, hk⟩ := ord.okN_iff.1 h
 have hl : m.length + 1 = b.size := by rw [← bytesOf_length, hb]; rfl
 unfold ord.nV ord.nR
 rw [if_pos h, if_pos h]
 unfold ord.sub1
 rw [bytes_ext, bytes_ext, hb]
 refine ⟨?_, ?_, by omega⟩
 ·rw [show 1 + k.toNat = k.toNat + 1 by omega, List.take_succ_cons, List.drop_succ_cons, List.drop_zero]
 ·rw [List.take_of_length_le (by rw [List.length_cons]; omega), show 1 + k.toNat = k.toNat + 1 by omega, List.drop_succ_cons]
theorem num_lt {turn : Int} (ht : turn = 0 ∨ turn = 255) {l : List Int} (hr : ∀ c ∈ l, 0 ≤ c ∧ c ≤ 255) (hl : l.length ≤ 8) : 0 ≤ ord.numV turn l ∧ ord.numV turn l < 18446744073709551616 := by
 have q := ord.numV_bd turn ht l 0 0 hr (Int.le_refl _) (by decide)
 rw [show l.foldl (fun n c => n * 256 + ord.tb turn c) 0 = ord.numV turn l from rfl] at q
 have hp : (256 : Nat) ^ (0 + l.length) ≤ 256 ^ 8 := Nat.pow_le_pow_right (by decide) (by omega)
 have h8 : (256 : Nat) ^ 8 = 18446744073709551616 := by decide
 have hc : (((256 : Nat) ^ (0 + l.length) : Nat) : Int) = (256 : Int) ^ (0 + l.length) := Int.natCast_pow 256 (0 + l.length)
 omega
/-- What is taken is written so. -/
theorem num_sound {b : ByteArray} {c0 : Int} {m : List Int} (hb : bytesOf b = c0 :: m) {k turn : Int} (ht : turn = 0 ∨ turn = 255) (h : ord.nI b k turn = true) :
  0 ≤ k ∧ k ≤ 8 ∧ k.toNat ≤ m.length ∧ bytesOf (ord.nR b k) = m.drop k.toNat ∧ 0 ≤ ord.nV b k turn ∧ ord.nV b k turn < 18446744073709551616 ∧ ((be (ord.nV b k turn).toNat).length : Int) = k ∧ be (ord.nV b k turn).toNat = (m.take k.toNat).map (ord.tb turn) := by
 have hok : ord.okN b k = true := by
  unfold ord.nI at h
  by_cases c : ord.okN b k = true
  ·exact c
  ·rw [if_neg c] at h; cases h
 obtain ⟨h0, h8, hk⟩ := ord.okN_iff.1 hok
 obtain ⟨e1, e2, e3⟩ := nV_is hb turn hok
 have hm : ∀ c ∈ m, 0 ≤ c ∧ c ≤ 255 := fun c hc => ord.bytes_range b c (by rw [hb]; simp [hc])
 have hr : ∀ c ∈ m.take k.toNat, 0 ≤ c ∧ c ≤ 255 := fun c hc => hm c (List.mem_of_mem_take hc)
 have hln : (m.take k.toNat).length = k.toNat := by rw [List.length_take]; omega
 obtain ⟨b0, b1⟩ := num_lt ht hr (by omega)
 rw [← e1] at b0 b1
 have hz : ((be (ord.nV b k turn).toNat).length : Int) = k := by
  unfold ord.nI at h
  rw [if_pos hok] at h
  have := beq_iff_eq.1 h
  have q := sizeV_be (ord.nV b k turn).toNat (by omega)
  rw [show (((ord.nV b k turn).toNat : Nat) : Int) = ord.nV b k turn by omega] at q
  omega
 refine ⟨h0, h8, e3, e2, b0, b1, hz, ?_⟩
 have hmr := tb_map_rng ht hr
 rw [e1, numV_map] at hz ⊢
 exact be_num _ hmr (by rw [List.length_map, hln]; omega)
/-- What is written is taken. -/
theorem num_back {b : ByteArray} {c0 : Int} {t : List Int} {turn : Int} (ht : turn = 0 ∨ turn = 255) (n : Nat) (hn : n < 18446744073709551616) (hb : bytesOf b = c0 :: ((be n).map (ord.tb turn) ++ t)) :
  ord.nV b ((be n).length : Int) turn = (n : Int) ∧ bytesOf (ord.nR b ((be n).length : Int)) = t ∧ ord.nI b ((be n).length : Int) turn = true := by
 have h8 := be8 n hn
 have hl : ((be n).map (ord.tb turn) ++ t).length + 1 = b.size := by rw [← bytesOf_length, hb]; rfl
 rw [List.length_append, List.length_map] at hl
 have hok : ord.okN b ((be n).length : Int) = true := ord.okN_iff.2 ⟨by omega, by omega, by omega⟩
 obtain ⟨e1, e2, e3⟩ := nV_is hb turn hok
 have e4 : ((be n).map (ord.tb turn) ++ t).take (be n).length = (be n).map (ord.tb turn) := List.take_left' (List.length_map _)
 have e5 : ((be n).map (ord.tb turn) ++ t).drop (be n).length = t := List.drop_left' (List.length_map _)
 rw [Int.toNat_natCast] at e1 e2
 rw [e4, numV_map, tb_tb ht, numV_be] at e1
 rw [e5] at e2
 refine ⟨e1, e2, ?_⟩
 unfold ord.nI
 rw [if_pos hok, e1, sizeV_be n hn]
 exact beq_self_eq_true _
theorem not_pos (m : Nat) (hm : m < 9223372036854775808) : Go.bits .xor .i64 (-1) (m : Int) = -(m : Int) - 1 := by
 show IntKind.i64.wrap ((BitVec.ofInt 64 (-1) ^^^ BitVec.ofInt 64 (m : Int)).toNat : Int) = _
 have h1 : BitVec.ofInt 64 (-1) = BitVec.allOnes 64 := by decide
 have h2 : (BitVec.ofInt 64 (m : Int)).toNat = m := by
  rw [BitVec.toNat_ofInt]
  omega
 rw [h1, BitVec.allOnes_xor, BitVec.toNat_not, h2]
 simp [IntKind.wrap, IntKind.bits, IntKind.signed]
 omega
theorem notV_is (m : Nat) (hm : m < 9223372036854775808) : ord.notV (m : Int) = -(m : Int) - 1 := by
 have e : wrap64 (m : Int) = (m : Int) := by unfold wrap64; omega
 show Go.bits .xor .i64 (-1) (wrap64 (m : Int)) = _
 rw [e]
 exact not_pos m hm
end Go.Proofs.YtbghkjoejbfnbaaDoor.law12

noncomputable section
namespace Go.Proofs.YtbghkjoejbfnbaaDoor.law12
open Go.RowKit Go.Proofs.YtbghkjoejbfnbaaDoorW.PrintWords Go.Proofs.YtbghkjoejbfnbaaDoor Go.Proofs.YtbghkjoejbfnbaaDoor.PH
/-- A text's bytes, undone: the text, and what is left. -/
def dec : List Int → Option (List Int × List Int)
 | [] => none
 | [_] => none
 | c :: d :: m => if c = 0 then (if d = 0 then some ([], m) else if d = 255 then (dec m).map (fun r => (0 :: r.1, r.2)) else none) else (dec (d :: m)).map (fun r => (c :: r.1, r.2))
theorem dec_ne (c : Int) (l : List Int) (h : c ≠ 0) : dec (c :: l) = (dec l).map (fun r => (c :: r.1, r.2)) := by
 cases l with
 | nil => rw [dec, dec]; rfl
 | cons d m => rw [dec, if_neg h]
theorem dec_z (d : Int) (m : List Int) : dec (0 :: d :: m) = if d = 0 then some ([], m) else if d = 255 then (dec m).map (fun r => (0 :: r.1, r.2)) else none := by rw [dec, if_pos rfl]
theorem dec_z0 : dec [0] = none := by rw [dec]
theorem dec_pre : ∀ (p l : List Int), (∀ c ∈ p, c ≠ 0) → dec (p ++ l) = (dec l).map (fun r => (p ++ r.1, r.2))
 | [], l, _ => by rw [List.nil_append]; cases dec l <;> rfl
 | c :: p, l, h => by
  rw [List.cons_append, dec_ne c _ (h c (by simp)), dec_pre p l (fun x hx => h x (by simp [hx]))]
  cases dec l <;> rfl
theorem dec_none : ∀ (p : List Int), (∀ c ∈ p, c ≠ 0) → dec p = none
 | [], _ => by rw [dec]
 | c :: p, h => by
  rw [dec_ne c _ (h c (by simp)), dec_none p (fun x hx => h x (by simp [hx]))]
  rfl
theorem dec_esc : ∀ (u t : List Int), dec (esc u ++ (0 :: 0 :: t)) = some (u, t)
 | [], t => by rw [esc, List.nil_append, dec_z, if_pos rfl]
 | c :: u, t => by
  have ih := dec_esc u t
  unfold esc
  by_cases h : c = 0
  ·rw [if_pos h, List.cons_append, List.cons_append, dec_z, if_neg (by decide), if_pos rfl, ih, h]
   rfl
  ·rw [if_neg h, List.cons_append, dec_ne c _ h, ih]
   rfl
theorem dec_sound : ∀ (n : Nat) (l u t : List Int), l.length ≤ n → dec l = some (u, t) → l = esc u ++ (0 :: 0 :: t)
 | 0, l, u, t, hn, h => by
  obtain rfl := List.length_eq_zero_iff.1 (Nat.le_zero.1 hn)
  rw [dec] at h; cases h
 | n + 1, [], u, t, hn, h => by rw [dec] at h; cases h
 | n + 1, c :: l, u, t, hn, h => by
  have hn' : l.length ≤ n := by simpa using hn
  by_cases hc : c = 0
  ·subst hc
   cases l with
   | nil => rw [dec_z0] at h; cases h
   | cons d m =>
    rw [dec_z] at h
    have hm : m.length ≤ n := by simp at hn'; omega
    by_cases hd : d = 0
    ·rw [if_pos hd] at h
     injection h with h
     injection h with h1 h2
     subst h1 h2 hd
     rfl
    ·rw [if_neg hd] at h
     by_cases he : d = 255
     ·rw [if_pos he, Option.map_eq_some_iff] at h
      obtain ⟨⟨u', t'⟩, h1, h2⟩ := h
      injection h2 with h2 h3
      dsimp only at h2 h3
      subst h2 h3 he
      rw [dec_sound n m u' t' hm h1, esc, if_pos rfl]
      rfl
     ·rw [if_neg he] at h; cases h
  ·rw [dec_ne c _ hc, Option.map_eq_some_iff] at h
   obtain ⟨⟨u', t'⟩, h1, h2⟩ := h
   injection h2 with h2 h3
   dsimp only at h2 h3
   subst h2 h3
   rw [dec_sound n l u' t' hn' h1, esc, if_neg hc]
   rfl
/-- Where the first 0 stands. -/
theorem index_zero : ∀ l : List UInt8, (Lib.indexByte l 0 = -1 ∧ ∀ c ∈ l.map (fun b => (b.toNat : Int)), c ≠ 0) ∨
  ∃ p r : List Int, Lib.indexByte l 0 = (p.length : Int) ∧ l.map (fun b => (b.toNat : Int)) = p ++ 0 :: r ∧ ∀ c ∈ p, c ≠ 0
 | [] => .inl ⟨rfl, by intro c hc; cases hc⟩
 | b :: l => by
  unfold Lib.indexByte
  by_cases h : b = 0
  ·subst h
   exact .inr ⟨[], l.map (fun b => (b.toNat : Int)), rfl, rfl, by intro c hc; cases hc⟩
  ·have hb : (b == 0) = false := by simpa using h
   have hz : ((b.toNat : Int)) ≠ 0 := fun e => h (UInt8.toNat_inj.1 (by simpa using e))
   rw [hb]
   rcases index_zero l with ⟨h1, h2⟩ | ⟨p, r, h1, h2, h3⟩
   ·rw [h1]
    refine .inl ⟨rfl, fun c hc => ?_⟩
    rw [List.map_cons] at hc
    rcases List.mem_cons.1 hc with rfl | hc
    ·exact hz
    ·exact h2 c hc
   ·have hn : (Lib.indexByte l 0 == -1) = false := by rw [beq_eq_false_iff_ne, h1]; omega
    rw [hn]
    refine .inr ⟨(b.toNat : Int) :: p, r, ?_, by rw [List.map_cons, h2]; rfl, fun c hc => ?_⟩
    ·rw [h1]; simp
    ·rcases List.mem_cons.1 hc with rfl | hc
     ·exact hz
     ·exact h3 c hc
def decR (acc : List Int) : Option (List Int × List Int) → Int × Int × ByteArray × ByteArray × Bool
 | some r => (0, 0, strOfNums (acc ++ r.1), strOfNums r.2, true)
 | none => (0, 0, ⟨#[]⟩, ⟨#[]⟩, false)
theorem text_dec : ∀ (n : Nat) (b : ByteArray) (acc : List Int) (k : Nat), b.size ≤ n → n ≤ 100000 → 2 * n + 4 ≤ k → acc.length + b.size ≤ 100000 → order_text.l0 k b acc = some (decR acc (dec (bytesOf b))) := by
 intro n
 induction n using Nat.strongRecOn with
 | _ n ih =>
  intro b acc k hb hn hk ha
  obtain ⟨k, rfl⟩ : ∃ k', k = k' + 2 := ⟨k - 2, by omega⟩
  unfold order_text.l0 strings_IndexByte.f
  rw [show ((0 : Int).toNat.toUInt8) = (0 : UInt8) from rfl, Option.bind_some]
  have bad : ∀ t, order_text.j1 (k + 1) b acc t true = some (decR acc none) := fun t => by
   unfold order_text.j1
   rw [if_pos rfl]
   rfl
  rcases index_zero b.data.toList with ⟨h1, h2⟩ | ⟨p, r, h1, h2, h3⟩
  ·rw [h1, if_pos (by decide), bad, dec_none (bytesOf b) h2]
  ·have hB : bytesOf b = p ++ 0 :: r := h2
   have hsz : p.length + (r.length + 1) = b.size := by rw [← bytesOf_length, hB, List.length_append, List.length_cons]
   have w1 : wrap64 ((p.length : Int) + 1) = ((p.length + 1 : Nat) : Int) := by unfold wrap64; omega
   have w2 : wrap64 ((p.length : Int) + 2) = ((p.length + 2 : Nat) : Int) := by unfold wrap64; omega
   rw [h1, if_neg (by omega), w1, hB, dec_pre p _ h3]
   cases r with
   | nil =>
    rw [dec_z0, if_pos (by simp at hsz; omega), bad]
    rfl
   | cons d m =>
    rw [List.length_cons] at hsz
    have hbt : bt b ((p.length + 1 : Nat) : Int) = d := by
     rw [bt_bytes b (p.length + 1) (by rw [bytesOf_length]; omega)]
     simp [hB]
    have hd := ord.bytes_range b d (by rw [hB]; simp)
    have hx : (b.extract 0 p.length).size = p.length := by rw [ByteArray.size_extract]; omega
    have hbx : bytesOf (b.extract 0 p.length) = p := by rw [bytes_ext, hB, List.drop_zero, List.take_left' rfl]
    have hby : bytesOf (b.extract (p.length + 2) b.size) = m := by
     rw [bytes_ext, List.take_of_length_le (by rw [bytesOf_length]; exact Nat.le_refl _), hB, show p ++ 0 :: d :: m = (p ++ [0, d]) ++ m by simp, List.drop_left' (by simp)]
    have hys : (b.extract (p.length + 2) b.size).size = b.size - (p.length + 2) := by rw [ByteArray.size_extract]; omega
    have hms : strOfNums m = b.extract (p.length + 2) b.size := by rw [← hby, str_bytes]
    rw [dec_z, if_neg (by omega), if_pos (by omega), if_pos (by omega), hbt]
    by_cases hd0 : d = 0
    ·rw [if_pos hd0, if_pos hd0]
     unfold order_text.j1
     rw [if_neg (by decide), if_pos (by omega), if_pos (by omega), Int.toNat_natCast, if_pos (by omega), Option.bind_some, w1, w2, if_pos (by omega), if_pos (by omega), hbt, if_pos hd0, if_pos (by omega), if_pos (by omega), Int.toNat_natCast, hbx]
     show _ = some (0, 0, strOfNums (acc ++ (p ++ [])), strOfNums m, true)
     rw [List.append_nil, hms]
    ·rw [if_neg hd0, if_neg hd0]
     by_cases hd1 : d = 255
     ·rw [if_pos hd1, show (d != 255) = false by rw [hd1]; rfl]
      have ha' : (acc ++ p ++ [0]).length + (b.extract (p.length + 2) b.size).size ≤ 100000 := by
       rw [hys, List.length_append, List.length_append, List.length_singleton]
       omega
      unfold order_text.j1
      rw [if_neg (by decide), if_pos (by omega), if_pos (by omega), Int.toNat_natCast, if_pos (by omega), Option.bind_some, w1, w2, if_pos (by omega), if_pos (by omega), hbt, if_neg hd0, hbx, if_pos (by rw [List.length_append]; omega), if_pos (by omega), if_pos (by omega), Int.toNat_natCast,
       ih (b.size - (p.length + 2)) (by omega) (b.extract (p.length + 2) b.size) (acc ++ p ++ [0]) k (by omega) (by omega) (by omega) ha', hby]
      cases dec m with
      | none => rfl
      | some q =>
       show some (0, 0, strOfNums ((acc ++ p ++ [0]) ++ q.1), strOfNums q.2, true) = some (0, 0, strOfNums (acc ++ (p ++ 0 :: q.1)), strOfNums q.2, true)
       simp
     ·rw [if_neg hd1, show (d != 255) = true by simpa using hd1, bad]
      rfl
theorem text_f (b : ByteArray) (hs : b.size ≤ 2000) : order_text.f 5000 b = some (decR [] (dec (bytesOf b))) :=
 text_dec 2000 b [] 5000 hs (by decide) (by decide) (by simp; omega)
theorem empty_toList (b : ByteArray) : b.toList.isEmpty = true ↔ b = ⟨#[]⟩ := by
 rw [Lib.toList_data, List.isEmpty_iff]
 exact ⟨fun h => b_inj' h, fun h => by rw [h]⟩
theorem bt_head {b : ByteArray} {c0 : Int} {m : List Int} (hb : bytesOf b = c0 :: m) : bt b 0 = c0 := by
 have := bt_bytes b 0 (by rw [hb]; simp)
 rw [show ((0 : Nat) : Int) = 0 from rfl] at this
 rw [this]
 simp [hb]
/-- What take takes is written so. -/
theorem take_sound {c : Int} (hc : good c) {b : ByteArray} (hs : b.size ≤ 1024) (h0 : 0 < b.size) (h : (ord.takeT c b).2.2.2.2 = true) :
  ∃ x : S47, ord.takeT c b = (x.f0, x.f1, x.f2, (ord.takeT c b).2.2.2.1, true) ∧ Wf x ∧ ord.fit1 c x = true ∧ bytesOf b = fb c x ++ bytesOf (ord.takeT c b).2.2.2.1 := by
 obtain ⟨c0, m, hb⟩ : ∃ c0 m, bytesOf b = c0 :: m := by
  cases hq : bytesOf b with
  | nil => have := bytesOf_length b; rw [hq] at this; simp at this; omega
  | cons c0 m => exact ⟨c0, m, rfl⟩
 have hc0 := ord.bytes_range b c0 (by rw [hb]; simp)
 have hbt := bt_head hb
 unfold ord.takeT ord.takeF at h ⊢
 rw [hbt] at h ⊢
 rcases hc with rfl | rfl | rfl
 ·rw [if_neg (by decide), if_pos rfl] at h ⊢
  simp only [Option.getD_some] at h ⊢
  obtain ⟨k0, k8, kl, hr, n0, n1, hz, hbe⟩ := num_sound hb (.inl rfl) h
  refine ⟨⟨ord.nV b c0 0, 0, ⟨#[]⟩⟩, by rw [h], ⟨n0, n1, of_decide_eq_true rfl, of_decide_eq_true rfl, Nat.zero_le _⟩, ?_, ?_⟩
  ·unfold ord.fit1; rw [if_pos rfl, Bool.and_eq_true]; exact ⟨rfl, (empty_toList _).2 rfl⟩
  ·rw [hb, hr]
   unfold fb
   rw [if_pos rfl, hz, hbe, tb_zero, List.map_id', List.cons_append, List.take_append_drop]
 ·rw [if_neg (by decide), if_neg (by decide)] at h ⊢
  by_cases hg : 128 ≤ c0
  ·rw [if_pos hg] at h ⊢
   simp only [Option.getD_some] at h ⊢
   have h' := h
   rw [Bool.and_eq_true, decide_eq_true_eq] at h
   obtain ⟨k0, k8, kl, hr, n0, n1, hz, hbe⟩ := num_sound hb (.inl rfl) h.1
   have ew : wrap64 (ord.nV b (c0 - 128) 0) = ord.nV b (c0 - 128) 0 := by unfold wrap64; omega
   refine ⟨⟨0, ord.nV b (c0 - 128) 0, ⟨#[]⟩⟩, by rw [h', ew], ⟨of_decide_eq_true rfl, of_decide_eq_true rfl, by dsimp only; omega, by dsimp only; omega, Nat.zero_le _⟩, ?_, ?_⟩
   ·unfold ord.fit1; rw [if_neg (by decide), if_pos rfl, Bool.and_eq_true]; exact ⟨rfl, (empty_toList _).2 rfl⟩
   ·rw [hb, hr]
    unfold fb
    rw [if_neg (by decide), if_pos rfl, if_pos n0, hz, hbe, tb_zero, List.map_id', show 128 + (c0 - 128) = c0 by omega, List.cons_append, List.take_append_drop]
  ·rw [if_neg hg] at h ⊢
   simp only [Option.getD_some] at h ⊢
   have h' := h
   rw [Bool.and_eq_true, decide_eq_true_eq] at h
   obtain ⟨k0, k8, kl, hr, n0, n1, hz, hbe⟩ := num_sound hb (.inr rfl) h.1
   have en := notV_is (ord.nV b (127 - c0) 255).toNat (by omega)
   rw [show (((ord.nV b (127 - c0) 255).toNat : Nat) : Int) = ord.nV b (127 - c0) 255 by omega] at en
   refine ⟨⟨0, -(ord.nV b (127 - c0) 255) - 1, ⟨#[]⟩⟩, by rw [h', en], ⟨of_decide_eq_true rfl, of_decide_eq_true rfl, by dsimp only; omega, by dsimp only; omega, Nat.zero_le _⟩, ?_, ?_⟩
   ·unfold ord.fit1; rw [if_neg (by decide), if_pos rfl, Bool.and_eq_true]; exact ⟨rfl, (empty_toList _).2 rfl⟩
   ·rw [hb, hr]
    unfold fb
    dsimp only
    rw [if_neg (by decide), if_pos rfl, if_neg (by omega), show - (-(ord.nV b (127 - c0) 255) - 1) - 1 = ord.nV b (127 - c0) 255 by omega, hz, hbe, show 127 - (127 - c0) = c0 by omega]
    have := tb_tb (.inr rfl) (m.take (127 - c0).toNat)
    rw [tb_ff] at this
    rw [tb_ff, this, List.cons_append, List.take_append_drop]
 ·rw [if_pos rfl, text_f b (by omega)] at h ⊢
  simp only [Option.getD_some] at h ⊢
  cases hd : dec (bytesOf b) with
  | none => rw [hd] at h; cases h
  | some q =>
   obtain ⟨u, t⟩ := q
   have hl := dec_sound _ _ u t (Nat.le_refl _) hd
   have hr := ord.bytes_range b
   rw [hl] at hr
   have hu : (esc u).length ≤ b.size := by rw [← bytesOf_length, hl, List.length_append]; omega
   have hul : ∀ l : List Int, l.length ≤ (esc l).length := by
    intro l
    induction l with
    | nil => exact Nat.le_refl _
    | cons c l ih => unfold esc; split <;> simp <;> omega
   have hru : ∀ c ∈ u, 0 ≤ c ∧ c ≤ 255 := by
    have : ∀ l : List Int, ∀ c ∈ l, c ∈ esc l := by
     intro l
     induction l with
     | nil => intro c hc; cases hc
     | cons d l ih =>
      intro c hc
      unfold esc
      rcases List.mem_cons.1 hc with rfl | hc
      ·split
       ·rename_i h; simp [h]
       ·simp
      ·have := ih c hc
       split <;> simp [this]
    intro c hc
    exact hr c (List.mem_append_left _ (this u c hc))
   have hrt : ∀ c ∈ t, 0 ≤ c ∧ c ≤ 255 := fun c hc => hr c (by simp [hc])
   refine ⟨⟨0, 0, strOfNums u⟩, rfl, ⟨of_decide_eq_true rfl, of_decide_eq_true rfl, of_decide_eq_true rfl, of_decide_eq_true rfl, ?_⟩, rfl, ?_⟩
   ·have := hul u
    rw [strOfNums_size]
    omega
   ·rw [hl]
    show _ = fb 115 ⟨0, 0, strOfNums u⟩ ++ bytesOf (strOfNums t)
    rw [bytes_str t hrt]
    unfold fb
    rw [if_neg (by decide), if_neg (by decide)]
    dsimp only
    rw [bytes_str u hru]
    simp
/-- What is written is taken. -/
theorem take_back {c : Int} (hc : good c) {x : S47} (hx : Wf x) (hf : ord.fit1 c x = true) {b : ByteArray} (hs : b.size ≤ 1024) {t : List Int} (hb : bytesOf b = fb c x ++ t) :
  ord.takeT c b = (x.f0, x.f1, x.f2, strOfNums t, true) := by
 obtain ⟨x0, x1, x2⟩ := x
 obtain ⟨h0, h1, h2, h3, h4⟩ := hx
 unfold ord.takeT ord.takeF
 unfold ord.fit1 at hf
 unfold fb at hb
 dsimp only at *
 rcases hc with rfl | rfl | rfl
 ·rw [if_pos rfl, Bool.and_eq_true] at hf
  obtain ⟨e1, e2⟩ := hf
  obtain rfl : x1 = 0 := by simpa using e1
  obtain rfl := (empty_toList _).1 e2
  rw [if_pos rfl, List.cons_append] at hb
  rw [if_neg (by decide), if_pos rfl, bt_head hb]
  simp only [Option.getD_some]
  obtain ⟨a1, a2, a3⟩ := num_back (turn := 0) (t := t) (.inl rfl) x0.toNat (by omega) (by rw [tb_zero, List.map_id']; exact hb)
  rw [a1, a3, ← a2, str_bytes, show ((x0.toNat : Nat) : Int) = x0 by omega]
 ·rw [if_neg (by decide), if_pos rfl, Bool.and_eq_true] at hf
  obtain ⟨e1, e2⟩ := hf
  obtain rfl : x0 = 0 := by simpa using e1
  obtain rfl := (empty_toList _).1 e2
  rw [if_neg (by decide), if_pos rfl] at hb
  rw [if_neg (by decide), if_neg (by decide)]
  by_cases hg : 0 ≤ x1
  ·rw [if_pos hg, List.cons_append] at hb
   obtain ⟨a1, a2, a3⟩ := num_back (turn := 0) (t := t) (.inl rfl) x1.toNat (by omega) (by rw [tb_zero, List.map_id']; exact hb)
   rw [bt_head hb, if_pos (by omega), show 128 + ((be x1.toNat).length : Int) - 128 = ((be x1.toNat).length : Int) by omega]
   simp only [Option.getD_some]
   rw [a1, a3, ← a2, str_bytes, show ((x1.toNat : Nat) : Int) = x1 by omega, decide_eq_true h3]
   have ew : wrap64 x1 = x1 := by unfold wrap64; omega
   rw [ew]
   rfl
  ·rw [if_neg hg, List.cons_append] at hb
   have h8 := be8 (-x1 - 1).toNat (by omega)
   obtain ⟨a1, a2, a3⟩ := num_back (turn := 255) (t := t) (.inr rfl) (-x1 - 1).toNat (by omega) (by rw [tb_ff]; exact hb)
   rw [bt_head hb, if_neg (by omega), show 127 - (127 - ((be (-x1 - 1).toNat).length : Int)) = ((be (-x1 - 1).toNat).length : Int) by omega]
   simp only [Option.getD_some]
   rw [a1, a3, ← a2, str_bytes, notV_is _ (by omega), decide_eq_true (by omega)]
   rw [show -(((-x1 - 1).toNat : Nat) : Int) - 1 = x1 by omega]
   rfl
 ·rw [if_neg (by decide), if_neg (by decide), Bool.and_eq_true] at hf
  obtain ⟨e1, e2⟩ := hf
  obtain rfl : x0 = 0 := by simpa using e1
  obtain rfl : x1 = 0 := by simpa using e2
  rw [if_neg (by decide), if_neg (by decide), List.append_assoc] at hb
  rw [if_pos rfl, text_f b (by omega), hb]
  simp only [Option.getD_some]
  rw [show ([0, 0] : List Int) ++ t = 0 :: 0 :: t from rfl, dec_esc]
  show (0, 0, strOfNums ([] ++ bytesOf x2), strOfNums t, true) = _
  rw [List.nil_append, str_bytes]
end Go.Proofs.YtbghkjoejbfnbaaDoor.law12

