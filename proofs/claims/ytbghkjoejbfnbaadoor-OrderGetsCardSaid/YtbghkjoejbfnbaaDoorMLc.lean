/- The document's Get reads the fields whose bytes the key is. Plain law. No conditions. The document's Get, whole; OrderGets holds. Plain law. No conditions. -/
import Derived.Test.YtbghkjoejbfnbaaDoorMLb
import Derived.Test.YtbghkjoejbfnbaaDoorPHx11
import Derived.Test.YtbghkjoejbfnbaaDoorPHx12
noncomputable section
namespace Go.Proofs.YtbghkjoejbfnbaaDoor.law12
open Go.RowKit Go.Proofs.YtbghkjoejbfnbaaDoorW.PrintWords Go.Proofs.YtbghkjoejbfnbaaDoor Go.Proofs.YtbghkjoejbfnbaaDoor.PH
/-- The document's loop over a text's bytes: how many a text takes. -/
def szT : List Int → Nat
 | [] => 2
 | [_] => 2
 | c :: d :: m => if c = 0 then (if d = 0 then 2 else szT m + 2) else szT (d :: m) + 1
theorem szT_ne (c : Int) (l : List Int) (h : c ≠ 0) (hl : l ≠ []) : szT (c :: l) = szT l + 1 := by
 cases l with
 | nil => exact absurd rfl hl
 | cons d m => rw [szT, if_neg h]
theorem szT_esc : ∀ (u t : List Int), szT (esc u ++ (0 :: 0 :: t)) = (esc u).length + 2
 | [], t => by rw [esc, List.nil_append, szT, if_pos rfl, if_pos rfl]; rfl
 | c :: u, t => by
  have ih := szT_esc u t
  unfold esc
  by_cases h : c = 0
  ·rw [if_pos h, List.cons_append, List.cons_append, szT, if_pos rfl, if_neg (by decide), ih]
   simp only [List.length_cons]
  ·rw [if_neg h, List.cons_append, szT_ne c _ h (by simp), ih]
   simp only [List.length_cons]
   try omega
theorem szT_two : ∀ (n : Nat) (l : List Int), l.length ≤ n → 2 ≤ szT l ∧ szT l ≤ l.length + 2
 | 0, l, h => by
  obtain rfl := List.length_eq_zero_iff.1 (Nat.le_zero.1 h)
  rw [szT]; simp
 | n + 1, [], _ => by rw [szT]; simp
 | n + 1, [_], _ => by rw [szT]; simp
 | n + 1, c :: d :: m, h => by
  simp only [List.length_cons] at h ⊢
  rw [szT]
  split
  ·split
   ·omega
   ·have := szT_two n m (by omega); omega
  ·have := szT_two n (d :: m) (by simp only [List.length_cons]; omega)
   simp only [List.length_cons] at this
   omega
theorem size_l0 (b : ByteArray) (hs : b.size ≤ 2000) : ∀ (n i k : Nat), b.size - i ≤ n → i ≤ b.size + 1 → 2 * n + 4 ≤ k → quittanceref12_size.l0 k b (i : Int) = some (((i + szT ((bytesOf b).drop i) : Nat) : Int)) := by
 intro n
 induction n using Nat.strongRecOn with
 | _ n ih =>
  intro i k hn hi hk
  obtain ⟨k, rfl⟩ : ∃ q, k = q + 2 := ⟨k - 2, by omega⟩
  have ew : wrap64 ((i : Int) + 1) = ((i + 1 : Nat) : Int) := by unfold wrap64; omega
  have ew2 : wrap64 (((i + 1 : Nat) : Int) + 1) = ((i + 2 : Nat) : Int) := by unfold wrap64; omega
  have ew3 : wrap64 ((i : Int) + 2) = ((i + 2 : Nat) : Int) := by unfold wrap64; omega
  have hlen := bytesOf_length b
  rw [quittanceref12_size.l0, ew]
  by_cases h1 : i + 1 < b.size
  ·have hil : i < (bytesOf b).length := by omega
   have hil1 : i + 1 < (bytesOf b).length := by omega
   rw [if_pos (by omega), if_pos (by omega), if_pos (by omega), List.drop_eq_getElem_cons hil, List.drop_eq_getElem_cons hil1, ← bt_bytes b i hil, ← bt_bytes b (i + 1) hil1, szT]
   by_cases c : bt b (i : Int) = 0
   ·rw [if_pos c, if_pos (by omega), if_pos c]
    by_cases d : bt b ((i + 1 : Nat) : Int) = 0
    ·rw [d, if_pos rfl, show ((0 : Int) != 0) = false from rfl, quittanceref12_size.j2, if_neg (by decide), ew3]
    ·rw [if_neg d, show (bt b ((i + 1 : Nat) : Int) != 0) = true by simpa using d, quittanceref12_size.j2, if_pos rfl, if_pos (by omega), if_pos (by omega), if_pos c, ew, ew2, ih (n - 2) (by omega) (i + 2) k (by omega) (by omega) (by omega)]
     have e : List.drop (i + 1 + 1) (bytesOf b) = List.drop (i + 2) (bytesOf b) := rfl
     rw [e]
     congr 2
     omega
   ·rw [if_neg c, if_neg c, quittanceref12_size.j2, if_pos rfl, if_pos (by omega), if_pos (by omega), if_neg c, ew, ih (n - 1) (by omega) (i + 1) k (by omega) (by omega) (by omega), List.drop_eq_getElem_cons hil1, ← bt_bytes b (i + 1) hil1]
    congr 2
    omega
  ·rw [if_neg (by omega), quittanceref12_size.j2, if_neg (by decide), ew3]
   have hs2 : szT ((bytesOf b).drop i) = 2 := by
    rcases Nat.lt_or_ge i b.size with h | h
    ·rw [List.drop_eq_getElem_cons (by omega), show (bytesOf b).drop (i + 1) = [] from List.drop_eq_nil_of_le (by omega), szT]
    ·rw [show (bytesOf b).drop i = [] from List.drop_eq_nil_of_le (by omega), szT]
   rw [hs2]
/-- How many bytes a field of a letter would take. -/
def szF (c : Int) (l : List Int) : Int := if c = 110 then 1 + l.headD 0 else if c = 105 then (if 128 ≤ l.headD 0 then 1 + l.headD 0 - 128 else 128 - l.headD 0) else (szT l : Int)
theorem size_f {c : Int} (hc : good c) (b : ByteArray) (hs : b.size ≤ 1100) (h0 : 0 < b.size) (k : Nat) (hk : 4000 ≤ k) : quittanceref12_size.f k c b = some (szF c (bytesOf b)) := by
 obtain ⟨c0, m, hb⟩ : ∃ c0 m, bytesOf b = c0 :: m := by
  cases hq : bytesOf b with
  | nil => have := bytesOf_length b; rw [hq] at this; simp at this; omega
  | cons c0 m => exact ⟨c0, m, rfl⟩
 have hc0 := ord.bytes_range b c0 (by rw [hb]; simp)
 have ew : wrap64 c0 = c0 := by unfold wrap64; omega
 have ew1 : wrap64 (1 + c0) = 1 + c0 := by unfold wrap64; omega
 have ew2 : wrap64 (1 + c0 - 128) = 1 + c0 - 128 := by unfold wrap64; omega
 have ew3 : wrap64 (128 - c0) = 128 - c0 := by unfold wrap64; omega
 obtain ⟨k, rfl⟩ : ∃ q, k = q + 1 := ⟨k - 1, by omega⟩
 unfold quittanceref12_size.f szF
 rw [if_pos (by omega), bt_head hb, ew]
 rcases hc with rfl | rfl | rfl
 ·rw [if_pos rfl, if_pos rfl, ew1, hb]; rfl
 ·rw [if_neg (show ¬ (105 : Int) = 110 by decide), if_neg (show ¬ (105 : Int) = 110 by decide), if_pos (show (105 : Int) = 105 from rfl), if_pos (show (105 : Int) = 105 from rfl), quittanceref12_size.j0, hb, List.headD_cons]
  by_cases hg : 128 ≤ c0
  ·rw [decide_eq_true (show c0 ≥ 128 from hg), if_pos rfl, ew1, ew2, if_pos hg]
  ·rw [decide_eq_false (show ¬ c0 ≥ 128 from hg), if_neg (by decide), if_pos rfl, ew3, if_neg hg]
 ·rw [if_neg (show ¬ (115 : Int) = 110 by decide), if_neg (show ¬ (115 : Int) = 110 by decide), if_neg (show ¬ (115 : Int) = 105 by decide), if_neg (show ¬ (115 : Int) = 105 by decide), quittanceref12_size.j0, if_neg (by decide), if_neg (by decide)]
  have := size_l0 b (by omega) b.size 0 k (by omega) (by omega) (by omega)
  rw [show ((0 : Nat) : Int) = 0 from rfl, List.drop_zero, Nat.zero_add] at this
  exact this
theorem szF_pos {c : Int} (l : List Int) (h : ∀ x ∈ l, 0 ≤ x ∧ x ≤ 255) : 1 ≤ szF c l := by
 have hh : 0 ≤ l.headD 0 ∧ l.headD 0 ≤ 255 := by
  cases l with
  | nil => exact ⟨Int.le_refl _, by decide⟩
  | cons a t => exact h a (by simp)
 unfold szF
 split
 ·omega
 ·split
  ·split <;> omega
  ·have := szT_two _ l (Nat.le_refl _); omega
theorem szF_fb {c : Int} (hc : good c) {x : S47} (hx : Wf x) (t : List Int) : szF c (fb c x ++ t) = ((fb c x).length : Int) ∧ (c ≠ 115 → (fb c x).length ≤ 9) := by
 obtain ⟨h0, h1, h2, h3, h4⟩ := hx
 unfold szF fb
 rcases hc with rfl | rfl | rfl
 ·have := be8 x.f0.toNat (by omega)
  rw [if_pos rfl, if_pos rfl]
  refine ⟨?_, fun _ => by simp only [List.length_cons]; omega⟩
  simp only [List.cons_append, List.headD_cons, List.length_cons]
  omega
 ·rw [if_neg (show ¬ (105 : Int) = 110 by decide), if_neg (show ¬ (105 : Int) = 110 by decide), if_pos (show (105 : Int) = 105 from rfl), if_pos (show (105 : Int) = 105 from rfl)]
  by_cases g : 0 ≤ x.f1
  ·have := be8 x.f1.toNat (by omega)
   rw [if_pos g]
   refine ⟨?_, fun _ => by simp only [List.length_cons]; omega⟩
   rw [List.cons_append, List.headD_cons, List.length_cons, if_pos (by omega)]
   omega
  ·have := be8 (-x.f1 - 1).toNat (by omega)
   rw [if_neg g]
   refine ⟨?_, fun _ => by simp only [List.length_cons, List.length_map]; omega⟩
   rw [List.cons_append, List.headD_cons, List.length_cons, List.length_map, if_neg (by omega)]
   omega
 ·rw [if_neg (show ¬ (115 : Int) = 110 by decide), if_neg (show ¬ (115 : Int) = 110 by decide), if_neg (show ¬ (115 : Int) = 105 by decide), if_neg (show ¬ (115 : Int) = 105 by decide)]
  refine ⟨?_, fun h => absurd rfl h⟩
  rw [List.append_assoc, show ([0, 0] : List Int) ++ t = 0 :: 0 :: t from rfl, szT_esc, List.length_append]
  rfl
/-- The document's number: within its kind, whatever the bytes. -/
def refN (turned : Bool) (l : List Int) (n : Int) : Int := l.foldl (fun n c => IntKind.u64.wrap (IntKind.u64.wrap (256 * n) + IntKind.u64.wrap (if turned = true then IntKind.u64.wrap (255 - IntKind.u64.wrap c) else IntKind.u64.wrap c))) n
theorem number_l0 (s : ByteArray) (turned : Bool) (hs : s.size ≤ 2000) : ∀ (n i k : Nat) (acc : Int), s.size - i = n → i ≤ s.size → n < k → quittanceref12_number.l0 k s turned acc (i : Int) = some (refN turned ((bytesOf s).drop i) acc)
 | 0, i, k, acc, hn, hi, hk => by
  obtain ⟨k, rfl⟩ : ∃ q, k = q + 1 := ⟨k - 1, by omega⟩
  rw [quittanceref12_number.l0, if_neg (by omega), show (bytesOf s).drop i = [] from List.drop_eq_nil_of_le (by rw [bytesOf_length]; omega)]
  rfl
 | n + 1, i, k, acc, hn, hi, hk => by
  obtain ⟨k, rfl⟩ : ∃ q, k = q + 1 := ⟨k - 1, by omega⟩
  have hil : i < (bytesOf s).length := by rw [bytesOf_length]; omega
  have ew : wrap64 ((i : Int) + 1) = ((i + 1 : Nat) : Int) := by unfold wrap64; omega
  rw [quittanceref12_number.l0, if_pos (by omega), if_pos (by omega), ew, List.drop_eq_getElem_cons hil, ← bt_bytes s i hil]
  have hw : IntKind.u64.wrap (IntKind.u64.wrap (bt s (i : Int))) = IntKind.u64.wrap (bt s (i : Int)) := by rw [ord.u64w, ord.u64w]; omega
  have hw2 : ∀ z : Int, IntKind.u64.wrap (IntKind.u64.wrap z) = IntKind.u64.wrap z := fun z => by rw [ord.u64w, ord.u64w]; omega
  cases turned with
  | true =>
   rw [if_pos rfl, number_l0 s true hs n (i + 1) k _ (by omega) (by omega) (by omega)]
   conv => rhs; unfold refN; rw [List.foldl_cons, if_pos rfl, hw2]
   rfl
  | false =>
   rw [if_neg (by decide), number_l0 s false hs n (i + 1) k _ (by omega) (by omega) (by omega)]
   conv => rhs; unfold refN; rw [List.foldl_cons, if_neg (by decide), hw2]
   rfl
theorem refN_rng (turned : Bool) : ∀ (l : List Int) (n : Int), 0 ≤ n → n < 18446744073709551616 → 0 ≤ refN turned l n ∧ refN turned l n < 18446744073709551616
 | [], n, h0, h1 => ⟨h0, h1⟩
 | c :: l, n, h0, h1 => by
  unfold refN
  rw [List.foldl_cons]
  exact refN_rng turned l _ (by rw [ord.u64w]; omega) (by rw [ord.u64w]; omega)
/-- Of at most 8 bytes it is the bytes' number. -/
theorem refN_is (turned : Bool) : ∀ (l : List Int) (n : Int) (B : Nat), (∀ c ∈ l, 0 ≤ c ∧ c ≤ 255) → 0 ≤ n → n < 256 ^ B → B + l.length ≤ 8 → refN turned l n = l.foldl (fun n c => n * 256 + ord.tb (if turned = true then 255 else 0) c) n
 | [], n, B, _, _, _, _ => rfl
 | c :: l, n, B, hr, h0, h1, hB => by
  have hc := hr c (by simp)
  rw [List.length_cons] at hB
  have hp7 : (256 : Nat) ^ B ≤ 256 ^ 7 := Nat.pow_le_pow_right (by decide) (by omega)
  have h7 : (256 : Nat) ^ 7 = 72057594037927936 := by decide
  have hcast : (((256 : Nat) ^ B : Nat) : Int) = (256 : Int) ^ B := Int.natCast_pow 256 B
  have ht := ord.tb_range (if turned = true then 255 else 0) c (by cases turned <;> simp) hc.1 hc.2
  have e : IntKind.u64.wrap (IntKind.u64.wrap (256 * n) + IntKind.u64.wrap (if turned = true then IntKind.u64.wrap (255 - IntKind.u64.wrap c) else IntKind.u64.wrap c)) = n * 256 + ord.tb (if turned = true then 255 else 0) c := by
   cases turned with
   | true =>
    rw [if_pos rfl, if_pos rfl, ord.tb, if_neg (by decide)]
    simp only [ord.u64w]
    omega
   | false =>
    rw [if_neg (by decide), if_neg (by decide), ord.tb, if_pos rfl]
    simp only [ord.u64w]
    omega
  have hp : (256 : Int) ^ (B + 1) = 256 ^ B * 256 := by rw [Int.pow_succ]
  unfold refN
  rw [List.foldl_cons, List.foldl_cons, e]
  exact refN_is turned l _ (B + 1) (fun x hx => hr x (by simp [hx])) (by omega) (by rw [hp]; omega) (by omega)
end Go.Proofs.YtbghkjoejbfnbaaDoor.law12

noncomputable section
namespace Go.Proofs.YtbghkjoejbfnbaaDoor.law12
open Go.RowKit Go.Proofs.YtbghkjoejbfnbaaDoorW.PrintWords Go.Proofs.YtbghkjoejbfnbaaDoor Go.Proofs.YtbghkjoejbfnbaaDoor.PH
/-- The document's loop that reads a text. -/
def rdT : List Int → List Int
 | [] => []
 | [_] => []
 | [_, _] => []
 | c :: d :: e :: m => if c = 0 then c :: rdT (e :: m) else c :: rdT (d :: e :: m)
theorem rdT_esc : ∀ u : List Int, rdT (esc u ++ [0, 0]) = u
 | [] => by rw [esc, List.nil_append, rdT]
 | c :: u => by
  have ih := rdT_esc u
  unfold esc
  by_cases h : c = 0
  ·rw [if_pos h]
   obtain ⟨x, y, m, hx⟩ : ∃ x y m, esc u ++ [0, 0] = x :: y :: m := by
    cases hq : esc u with
    | nil => exact ⟨0, 0, [], rfl⟩
    | cons a q => cases q with
     | nil => exact ⟨a, 0, [0], rfl⟩
     | cons b r => exact ⟨a, b, r ++ [0, 0], rfl⟩
   rw [List.cons_append, List.cons_append, hx, rdT, if_pos rfl, ← hx, ih, h]
  ·rw [if_neg h]
   obtain ⟨x, y, m, hx⟩ : ∃ x y m, esc u ++ [0, 0] = x :: y :: m := by
    cases hq : esc u with
    | nil => exact ⟨0, 0, [], rfl⟩
    | cons a q => cases q with
     | nil => exact ⟨a, 0, [0], rfl⟩
     | cons b r => exact ⟨a, b, r ++ [0, 0], rfl⟩
   rw [List.cons_append, hx, rdT, if_neg h, ← hx, ih]
theorem rdT_len : ∀ (n : Nat) (l : List Int), l.length ≤ n → (rdT l).length ≤ l.length ∧ ∀ c ∈ rdT l, c ∈ l
 | 0, l, h => by
  obtain rfl := List.length_eq_zero_iff.1 (Nat.le_zero.1 h)
  rw [rdT]; simp
 | n + 1, [], _ => by rw [rdT]; simp
 | n + 1, [_], _ => by rw [rdT]; simp
 | n + 1, [_, _], _ => by rw [rdT]; simp
 | n + 1, c :: d :: e :: m, h => by
  simp only [List.length_cons] at h
  rw [rdT]
  split
  ·have := rdT_len n (e :: m) (by simp only [List.length_cons]; omega)
   simp only [List.length_cons] at this ⊢
   refine ⟨by omega, fun x hx => ?_⟩
   rcases List.mem_cons.1 hx with rfl | hx
   ·simp
   ·have := this.2 x hx; simp at this ⊢; rcases this with q | q <;> simp [q]
  ·have := rdT_len n (d :: e :: m) (by simp only [List.length_cons]; omega)
   simp only [List.length_cons] at this ⊢
   refine ⟨by omega, fun x hx => ?_⟩
   rcases List.mem_cons.1 hx with rfl | hx
   ·simp
   ·have := this.2 x hx; simp at this ⊢; rcases this with q | q | q <;> simp [q]
theorem read_l0 (b : ByteArray) (hs : b.size ≤ 2000) (n0 i0 : Int) (s0 : ByteArray) : ∀ (n i k : Nat) (acc : List Int), b.size - i ≤ n → i ≤ b.size → n < k → acc.length + n ≤ 100000 → quittanceref12_read.l0 k b acc (i : Int) n0 i0 s0 = some (n0, i0, strOfNums (acc ++ rdT ((bytesOf b).drop i))) := by
 intro n
 induction n using Nat.strongRecOn with
 | _ n ih =>
  intro i k acc hn hi hk ha
  obtain ⟨k, rfl⟩ : ∃ q, k = q + 1 := ⟨k - 1, by omega⟩
  have ew1 : wrap64 ((i : Int) + 1) = ((i + 1 : Nat) : Int) := by unfold wrap64; omega
  have ew2 : wrap64 (((i + 1 : Nat) : Int) + 1) = ((i + 2 : Nat) : Int) := by unfold wrap64; omega
  have ew3 : wrap64 ((i : Int) + 2) = ((i + 2 : Nat) : Int) := by unfold wrap64; omega
  have hlen := bytesOf_length b
  rw [quittanceref12_read.l0, ew3]
  by_cases h : i + 2 < b.size
  ·have d0 : (bytesOf b).drop i = (bytesOf b)[i] :: (bytesOf b).drop (i + 1) := List.drop_eq_getElem_cons (by omega)
   have d1 : (bytesOf b).drop (i + 1) = (bytesOf b)[i + 1] :: (bytesOf b).drop (i + 2) := List.drop_eq_getElem_cons (by omega)
   have d2 : (bytesOf b).drop (i + 2) = (bytesOf b)[i + 2] :: (bytesOf b).drop (i + 3) := List.drop_eq_getElem_cons (by omega)
   rw [if_pos (by omega), if_pos (by omega), if_pos (by omega), if_pos (by omega), Option.bind_some, ew1, ew2, d0, d1, d2, ← bt_bytes b i (by omega), rdT, ← d2, ← d1]
   by_cases c : bt b (i : Int) = 0
   ·rw [if_pos c, if_pos c, ih (n - 2) (by omega) (i + 2) k _ (by omega) (by omega) (by omega) (by simp; omega)]
    simp
   ·rw [if_neg c, if_neg c, ih (n - 1) (by omega) (i + 1) k _ (by omega) (by omega) (by omega) (by simp; omega)]
    simp
  ·rw [if_neg (by omega)]
   have hl : ((bytesOf b).drop i).length ≤ 2 := by rw [List.length_drop]; omega
   have : rdT ((bytesOf b).drop i) = [] := by
    generalize (bytesOf b).drop i = l at hl
    match l, hl with
    | [], _ => rw [rdT]
    | [_], _ => rw [rdT]
    | [_, _], _ => rw [rdT]
    | _ :: _ :: _ :: _, h => simp at h
   rw [this, List.append_nil]
theorem number_f (s : ByteArray) (turned : Bool) (hs : s.size ≤ 2000) (k : Nat) (hk : s.size < k) : quittanceref12_number.f k s turned = some (refN turned (bytesOf s) 0) := by
 have := number_l0 s turned hs s.size 0 k 0 (by omega) (by omega) hk
 rw [List.drop_zero, show ((0 : Nat) : Int) = 0 from rfl] at this
 exact this
theorem wrap_rng (z : Int) : -9223372036854775808 ≤ wrap64 z ∧ wrap64 z < 9223372036854775808 := by unfold wrap64; omega
theorem wrap_neg (n : Nat) (h : n < 9223372036854775808) : wrap64 (wrap64 (-(wrap64 (n : Int))) - 1) = -(n : Int) - 1 := by
 have e1 : wrap64 (n : Int) = (n : Int) := by unfold wrap64; omega
 have e2 : wrap64 (-(n : Int)) = -(n : Int) := by unfold wrap64; omega
 have e3 : wrap64 (-(n : Int) - 1) = -(n : Int) - 1 := by unfold wrap64; omega
 rw [e1, e2, e3]
theorem ext1 {b : ByteArray} {c0 : Int} {m : List Int} (hb : bytesOf b = c0 :: m) : bytesOf (b.extract 1 b.size) = m := by
 rw [bytes_ext, List.take_of_length_le (by rw [bytesOf_length]; exact Nat.le_refl _), hb, List.drop_succ_cons, List.drop_zero]
theorem refN_be (tn : Bool) (n : Nat) (h : n < 18446744073709551616) : refN tn ((be n).map (ord.tb (if tn = true then 255 else 0))) 0 = (n : Int) := by
 have h8 := be8 n h
 have ht : (if tn = true then (255 : Int) else 0) = 0 ∨ (if tn = true then (255 : Int) else 0) = 255 := by cases tn <;> simp
 rw [refN_is tn _ 0 0 (tb_map_rng ht (be_rng n)) (Int.le_refl _) (by decide) (by rw [List.length_map]; omega), numV_tb, tb_tb ht]
 exact numV_be n
theorem read_n (b : ByteArray) (hs : b.size ≤ 1100) (c0 : Int) (m : List Int) (hb : bytesOf b = c0 :: m) (k : Nat) (hk : 2000 ≤ k) : quittanceref12_read.f k 110 b = some (refN false m 0, 0, ⟨#[]⟩) := by
 have hl : m.length + 1 = b.size := by rw [← bytesOf_length, hb]; rfl
 have hxs : (b.extract 1 b.size).size ≤ 1100 := by rw [ByteArray.size_extract]; omega
 unfold quittanceref12_read.f
 rw [if_pos rfl, if_pos (by omega), number_f _ _ (by omega) _ (by omega), ext1 hb]
 rfl
theorem read_ip (b : ByteArray) (hs : b.size ≤ 1100) (c0 : Int) (m : List Int) (hb : bytesOf b = c0 :: m) (hc : 128 ≤ c0) (k : Nat) (hk : 2000 ≤ k) : quittanceref12_read.f (k + 1) 105 b = some (0, wrap64 (refN false m 0), ⟨#[]⟩) := by
 have hl : m.length + 1 = b.size := by rw [← bytesOf_length, hb]; rfl
 have hxs : (b.extract 1 b.size).size ≤ 1100 := by rw [ByteArray.size_extract]; omega
 unfold quittanceref12_read.f
 rw [if_neg (by decide), if_pos rfl, if_pos (by omega), bt_head hb, decide_eq_true (show c0 ≥ 128 from hc), quittanceref12_read.j0, if_pos rfl, if_pos (by omega), number_f _ _ (by omega) _ (by omega), ext1 hb]
 rfl
theorem read_in (b : ByteArray) (hs : b.size ≤ 1100) (c0 : Int) (m : List Int) (hb : bytesOf b = c0 :: m) (hc : ¬ 128 ≤ c0) (k : Nat) (hk : 2000 ≤ k) : quittanceref12_read.f (k + 1) 105 b = some (0, wrap64 (wrap64 (-(wrap64 (refN true m 0))) - 1), ⟨#[]⟩) := by
 have hl : m.length + 1 = b.size := by rw [← bytesOf_length, hb]; rfl
 have hxs : (b.extract 1 b.size).size ≤ 1100 := by rw [ByteArray.size_extract]; omega
 unfold quittanceref12_read.f
 rw [if_neg (by decide), if_pos rfl, if_pos (by omega), bt_head hb, decide_eq_false (show ¬ c0 ≥ 128 from hc), quittanceref12_read.j0, if_neg (by decide), if_pos rfl, if_pos (by omega), number_f _ _ (by omega) _ (by omega), ext1 hb]
 rfl
theorem read_s (b : ByteArray) (hs : b.size ≤ 1100) (k : Nat) (hk : 2000 ≤ k) : quittanceref12_read.f (k + 1) 115 b = some (0, 0, strOfNums (rdT (bytesOf b))) := by
 have := read_l0 b (by omega) 0 0 ⟨#[]⟩ b.size 0 k [] (by omega) (by omega) (by omega) (by simp; omega)
 rw [List.drop_zero, List.nil_append, show ((0 : Nat) : Int) = 0 from rfl] at this
 unfold quittanceref12_read.f
 rw [if_neg (by decide), if_neg (by decide), quittanceref12_read.j0, if_neg (by decide), if_neg (by decide)]
 exact this
theorem ext_fld (x y : S47) (h0 : x.f0 = y.f0) (h1 : x.f1 = y.f1) (h2 : x.f2 = y.f2) : x = y := by
 cases x; cases y
 simp only at h0 h1 h2
 rw [h0, h1, h2]
/-- The field of a number's bytes. -/
theorem fb_n {y : S47} (hy : Wf y) (hf : ord.fit1 110 y = true) {c0 : Int} {m : List Int} (he : c0 :: m = fb 110 y) : refN false m 0 = y.f0 ∧ y.f1 = 0 ∧ y.f2 = ⟨#[]⟩ := by
 have h0 := hy.n0
 have h1 := hy.n1
 unfold ord.fit1 at hf
 rw [if_pos rfl, Bool.and_eq_true] at hf
 unfold fb at he
 rw [if_pos rfl] at he
 injection he with he1 he2
 refine ⟨?_, by simpa using hf.1, (empty_toList _).1 hf.2⟩
 have := refN_be false y.f0.toNat (by omega)
 rw [if_neg (by decide), tb_zero, List.map_id'] at this
 rw [he2, this]
 omega
theorem fb_i {y : S47} (hy : Wf y) (hf : ord.fit1 105 y = true) {c0 : Int} {m : List Int} (he : c0 :: m = fb 105 y) : y.f0 = 0 ∧ y.f2 = ⟨#[]⟩ ∧ (128 ≤ c0 → wrap64 (refN false m 0) = y.f1) ∧ (¬ 128 ≤ c0 → wrap64 (wrap64 (-(wrap64 (refN true m 0))) - 1) = y.f1) := by
 have h0 := hy.i0
 have h1 := hy.i1
 unfold ord.fit1 at hf
 rw [if_neg (by decide), if_pos rfl, Bool.and_eq_true] at hf
 unfold fb at he
 rw [if_neg (by decide), if_pos rfl] at he
 refine ⟨by simpa using hf.1, (empty_toList _).1 hf.2, fun hc => ?_, fun hc => ?_⟩
 ·by_cases g : 0 ≤ y.f1
  ·rw [if_pos g] at he
   injection he with he1 he2
   have := refN_be false y.f1.toNat (by omega)
   rw [if_neg (by decide), tb_zero, List.map_id'] at this
   rw [he2, this]
   unfold wrap64
   omega
  ·rw [if_neg g] at he
   injection he with he1 he2
   omega
 ·by_cases g : 0 ≤ y.f1
  ·rw [if_pos g] at he
   injection he with he1 he2
   omega
  ·rw [if_neg g] at he
   injection he with he1 he2
   have := refN_be true (-y.f1 - 1).toNat (by omega)
   rw [if_pos rfl, tb_ff] at this
   rw [he2, this, wrap_neg _ (by omega)]
   omega
theorem fb_s {y : S47} (hf : ord.fit1 115 y = true) {l : List Int} (he : l = fb 115 y) : y.f0 = 0 ∧ y.f1 = 0 ∧ strOfNums (rdT l) = y.f2 := by
 unfold ord.fit1 at hf
 rw [if_neg (by decide), if_neg (by decide), Bool.and_eq_true] at hf
 unfold fb at he
 rw [if_neg (by decide), if_neg (by decide)] at he
 refine ⟨by simpa using hf.1, by simpa using hf.2, ?_⟩
 rw [he, rdT_esc, str_bytes]
/-- What is read of a field's bytes is the field; of any bytes it is some field. -/
theorem read_f {c : Int} (hc : good c) (b : ByteArray) (hs : b.size ≤ 1100) (h0 : 0 < b.size) (k : Nat) (hk : 2001 ≤ k) :
  ∃ x : S47, quittanceref12_read.f k c b = some (x.f0, x.f1, x.f2) ∧ Wf x ∧ ∀ y : S47, Wf y → ord.fit1 c y = true → bytesOf b = fb c y → x = y := by
 obtain ⟨c0, m, hb⟩ : ∃ c0 m, bytesOf b = c0 :: m := by
  cases hq : bytesOf b with
  | nil => have := bytesOf_length b; rw [hq] at this; simp at this; omega
  | cons c0 m => exact ⟨c0, m, rfl⟩
 obtain ⟨k, rfl⟩ : ∃ q, k = q + 1 := ⟨k - 1, by omega⟩
 have hk2 : 2000 ≤ k := by omega
 have rN := fun tn => refN_rng tn m 0 (by decide) (by decide)
 have z0 : (-9223372036854775808 : Int) ≤ 0 := by decide
 have z1 : (0 : Int) < 9223372036854775808 := by decide
 have z2 : (0 : Int) < 18446744073709551616 := by decide
 rcases hc with rfl | rfl | rfl
 ·exact ⟨⟨refN false m 0, 0, ⟨#[]⟩⟩, read_n b hs c0 m hb (k + 1) (by omega), ⟨(rN false).1, (rN false).2, z0, z1, Nat.zero_le _⟩, fun y hy hf he => by
   obtain ⟨e0, e1, e2⟩ := fb_n hy hf (hb.symm.trans he)
   exact ext_fld _ _ e0 e1.symm e2.symm⟩
 ·by_cases hg : 128 ≤ c0
  ·exact ⟨⟨0, wrap64 (refN false m 0), ⟨#[]⟩⟩, read_ip b hs c0 m hb hg k hk2, ⟨Int.le_refl _, z2, (wrap_rng _).1, (wrap_rng _).2, Nat.zero_le _⟩, fun y hy hf he => by
    obtain ⟨e0, e1, e2, _⟩ := fb_i hy hf (hb.symm.trans he)
    exact ext_fld _ _ e0.symm (e2 hg) e1.symm⟩
  ·exact ⟨⟨0, wrap64 (wrap64 (-(wrap64 (refN true m 0))) - 1), ⟨#[]⟩⟩, read_in b hs c0 m hb hg k hk2, ⟨Int.le_refl _, z2, (wrap_rng _).1, (wrap_rng _).2, Nat.zero_le _⟩, fun y hy hf he => by
    obtain ⟨e0, e1, _, e2⟩ := fb_i hy hf (hb.symm.trans he)
    exact ext_fld _ _ e0.symm (e2 hg) e1.symm⟩
 ·have hl := (rdT_len _ (bytesOf b) (Nat.le_refl _)).1
  rw [bytesOf_length] at hl
  have hz : (strOfNums (rdT (bytesOf b))).size ≤ 1200 := by rw [strOfNums_size]; omega
  exact ⟨⟨0, 0, strOfNums (rdT (bytesOf b))⟩, read_s b hs k hk2, ⟨Int.le_refl _, z2, z0, z1, hz⟩, fun y hy hf he => by
   obtain ⟨e0, e1, e2⟩ := fb_s hf he
   exact ext_fld _ _ e0.symm e1.symm e2⟩
theorem ne_nil (b : ByteArray) : (b.toList != ([] : List UInt8)) = decide (b.size ≠ 0) := by
 rw [Lib.toList_data]
 have : b.data.toList.length = b.size := by rw [Array.length_toList]; rfl
 cases h : b.data.toList with
 | nil => rw [h] at this; simp at this; simp [← this]
 | cons a l => rw [h] at this; simp at this; simp [← this]
theorem toList_inj {a b : ByteArray} : a.toList = b.toList ↔ a = b := by
 rw [Lib.toList_data, Lib.toList_data]
 exact ⟨b_inj', fun h => by rw [h]⟩
theorem wrapS (i : Nat) (h : i ≤ 1000000) : wrap64 ((i : Int) + 1) = ((i + 1 : Nat) : Int) := by unfold wrap64; omega
theorem refGet_l0 (a key : ByteArray) (hk : kd a = true) (hkey : key.size ≤ 1024) (K0 : Nat) (hK0 : 4000 ≤ K0) : ∀ (n i k : Nat) (acc : List S47) (rest : ByteArray), a.size - i = n → i ≤ a.size → 2 * n + 4 + K0 ≤ k → acc.length = i → rest.size ≤ 1024 → (∀ x ∈ acc, Wf x) →
  (∀ l, Enc a l key → ∃ m, l = acc ++ m ∧ bytesOf rest = body a i m ∧ ord.fitL a i m = true) →
  (∃ l, quittanceref12_Get.l0 k a key acc rest (i : Int) = some (l, 0) ∧ Enc a l key) ∨ (quittanceref12_Get.l0 k a key acc rest (i : Int) = some ([], 5) ∧ ∀ l, ¬ Enc a l key) := by
 obtain ⟨h16, hg⟩ := kd_good hk
 have fin : ∀ (i k : Nat) (acc : List S47) (rest : ByteArray), 1 + K0 ≤ k → acc.length = i → i ≤ a.size → (∀ x ∈ acc, Wf x) → (rest.size = 0 ∨ i = a.size) →
   (∀ l, Enc a l key → ∃ m, l = acc ++ m ∧ bytesOf rest = body a i m ∧ ord.fitL a i m = true) →
   (∃ l, quittanceref12_Get.j1 k a key acc rest (i : Int) false = some (l, 0) ∧ Enc a l key) ∨ (quittanceref12_Get.j1 k a key acc rest (i : Int) false = some ([], 5) ∧ ∀ l, ¬ Enc a l key) := by
  intro i k acc rest hk2 hal hia hw hend hinv
  obtain ⟨k, rfl⟩ : ∃ q, k = q + 1 := ⟨k - 1, by omega⟩
  have hk4 : 4000 ≤ k := Nat.le_trans hK0 (by omega)
  rw [quittanceref12_Get.j1, if_neg (by decide), refF a acc (by omega) hw k hk4, Option.bind_some]
  have hno : ∀ l, Enc a l key → Enc a acc key := by
   intro l hl
   obtain ⟨m, rfl, hm, _⟩ := hinv l hl
   have hmn : m = [] := by
    rcases hend with h | h
    ·cases m with
     | nil => rfl
     | cons x m =>
      exfalso
      have h2 : (bytesOf rest).length = 0 := by rw [bytesOf_length]; exact h
      rw [hm, body, List.length_append] at h2
      have := fb_pos (bt a (i : Int)) x
      omega
    ·have := hl.len
     rw [List.length_append] at this
     exact List.length_eq_zero_iff.1 (by omega)
   rw [hmn, List.append_nil] at hl
   exact hl
  by_cases h0 : (putV a acc).2 = 0
  ·by_cases h1 : (putV a acc).1.toList = key.toList
   ·rw [if_pos h0, if_pos h1]
    have h1' := toList_inj.1 h1
    exact .inl ⟨acc, rfl, (put_enc hw (show putV a acc = (key, 0) by rw [← h1', ← h0])).2.2⟩
   ·rw [if_pos h0, if_neg h1]
    refine .inr ⟨rfl, fun l hl => h1 ?_⟩
    rw [enc_put hk hkey (hno l hl)]
  ·rw [if_neg h0]
   refine .inr ⟨rfl, fun l hl => h0 ?_⟩
   rw [enc_put hk hkey (hno l hl)]
 intro n
 induction n with
 | zero =>
  intro i k acc rest hn hi hk2 hal hrs hw hinv
  obtain ⟨k, rfl⟩ : ∃ q, k = q + 1 := ⟨k - 1, by omega⟩
  rw [quittanceref12_Get.l0, if_neg (by omega)]
  exact fin i k acc rest (by omega) hal hi hw (.inr (by omega)) hinv
 | succ n ih =>
  intro i k acc rest hn hi hk2 hal hrs hw hinv
  obtain ⟨k, rfl⟩ : ∃ q, k = q + 2 := ⟨k - 2, by omega⟩
  have hia : i < a.size := by omega
  have hgi := hg i hia
  rw [quittanceref12_Get.l0, if_pos (by omega), ne_nil]
  by_cases hz : rest.size = 0
  ·rw [decide_eq_false (by omega)]
   exact fin i (k + 1) acc rest (by omega) hal hi hw (.inl hz) hinv
  ·have hk4 : 4000 ≤ k := Nat.le_trans hK0 (by omega)
   obtain ⟨z, hz1, hsz, hqz⟩ : ∃ z, 1 ≤ z ∧ quittanceref12_size.f k (bt a (i : Int)) rest = some z ∧ ∀ x m, Wf x → bytesOf rest = fb (bt a (i : Int)) x ++ m → z = ((fb (bt a (i : Int)) x).length : Int) ∧ (bt a (i : Int) ≠ 115 → (fb (bt a (i : Int)) x).length ≤ 9) :=
    ⟨szF (bt a (i : Int)) (bytesOf rest), szF_pos (c := bt a (i : Int)) (bytesOf rest) (ord.bytes_range rest), size_f hgi rest (by omega) (by omega) k hk4, fun x m hx hm => by rw [hm]; exact szF_fb hgi hx m⟩
   -- what a key's fields say of the next one
   have hnext : ∀ l, Enc a l key → ∃ x m, l = acc ++ x :: m ∧ bytesOf rest = fb (bt a (i : Int)) x ++ body a (i + 1) m ∧ ord.fit1 (bt a (i : Int)) x = true ∧ ord.fitL a (i + 1) m = true ∧ Wf x ∧ z = ((fb (bt a (i : Int)) x).length : Int) ∧ (bt a (i : Int) ≠ 115 → z ≤ 9) ∧ z ≤ (rest.size : Int) := by
    intro l hl
    obtain ⟨m, rfl, hm, hfm⟩ := hinv l hl
    cases m with
    | nil =>
     exfalso
     have h2 : (bytesOf rest).length = 0 := by rw [hm]; rfl
     rw [bytesOf_length] at h2
     omega
    | cons x m =>
     rw [body] at hm
     rw [ord.fitL, Bool.and_eq_true] at hfm
     have hx : Wf x := hl.wf x (by simp)
     have hq := hqz x _ hx hm
     have hle : (fb (bt a (i : Int)) x).length ≤ rest.size := by rw [← bytesOf_length, hm, List.length_append]; omega
     exact ⟨x, m, rfl, hm, hfm.1, hfm.2, hx, hq.1, fun h => by have := hq.2 h; omega, by omega⟩
   rw [decide_eq_true hz, quittanceref12_Get.j1, if_pos (show true = true from rfl), if_pos (show (0 : Int) ≤ (i : Int) by omega), if_pos (show (i : Int) < (a.size : Int) by omega), hsz, Option.bind_some]
   have bad : ∀ e : Option (List S47 × Int), e = some ([], 5) → (∀ l, ¬ Enc a l key) → (∃ l, e = some (l, 0) ∧ Enc a l key) ∨ (e = some ([], 5) ∧ ∀ l, ¬ Enc a l key) := fun e h1 h2 => .inr ⟨h1, h2⟩
   by_cases hbig : z > (rest.size : Int)
   ·rw [if_pos hbig]
    exact bad _ rfl (fun l hl => by obtain ⟨x, m, _, _, _, _, _, _, _, h⟩ := hnext l hl; omega)
   ·rw [if_neg hbig]
    have hes : (rest.extract 0 z.toNat).size = z.toNat := by rw [ByteArray.size_extract]; omega
    have heb : bytesOf (rest.extract 0 z.toNat) = (bytesOf rest).take z.toNat := by rw [bytes_ext, List.drop_zero]
    have her : bytesOf (rest.extract z.toNat rest.size) = (bytesOf rest).drop z.toNat := by rw [bytes_ext, List.take_of_length_le (by rw [bytesOf_length]; exact Nat.le_refl _)]
    obtain ⟨x, hx1, hx2, hx3⟩ := read_f hgi (rest.extract 0 z.toNat) (by omega) (by omega) k (Nat.le_trans (by decide) hk4)
    have goon : (∃ l, quittanceref12_Get.l0 k a key (acc ++ [(⟨x.f0, x.f1, x.f2⟩ : S47)]) (rest.extract z.toNat rest.size) (wrap64 ((i : Int) + 1)) = some (l, 0) ∧ Enc a l key) ∨ (quittanceref12_Get.l0 k a key (acc ++ [(⟨x.f0, x.f1, x.f2⟩ : S47)]) (rest.extract z.toNat rest.size) (wrap64 ((i : Int) + 1)) = some ([], 5) ∧ ∀ l, ¬ Enc a l key) := by
     rw [wrapS i (by omega)]
     refine ih (i + 1) k _ _ (by omega) (by omega) (by omega) (by rw [List.length_append, hal]; rfl) (by rw [ByteArray.size_extract]; omega) ?_ ?_
     ·intro y hy
      rcases List.mem_append.1 hy with h | h
      ·exact hw y h
      ·rw [List.mem_singleton] at h
       rw [h]; exact hx2
     ·intro l hl
      obtain ⟨y, m, rfl, hm, hf1, hf2, hy, hzz, _, _⟩ := hnext l hl
      have ht : z.toNat = (fb (bt a (i : Int)) y).length := by omega
      have hxy : x = y := hx3 y hy hf1 (by rw [heb, hm, ht, List.take_left' rfl])
      subst hxy
      exact ⟨m, by simp, by rw [her, hm, ht, List.drop_left' rfl], hf2⟩
    by_cases h115 : bt a (i : Int) = 115
    ·rw [if_pos h115, if_pos (by omega), if_pos (by omega), hx1, Option.bind_some, if_pos (by omega)]
     exact goon
    ·rw [if_neg h115]
     by_cases h9 : z > 9
     ·rw [if_pos h9]
      exact bad _ rfl (fun l hl => by obtain ⟨x, m, _, _, _, _, _, _, h, _⟩ := hnext l hl; have := h h115; omega)
     ·rw [if_neg h9, if_pos (by omega), if_pos (by omega), hx1, Option.bind_some, if_pos (by omega)]
      exact goon
theorem refGet {a key : ByteArray} (hs : a.size ≤ 40) (k : Nat) (hk : 4500 ≤ k) : quittanceref12_Get.f k a key = order_Get.f a key := by
 unfold quittanceref12_Get.f
 rw [refKinds a hs k (by omega), Option.bind_some]
 by_cases hkd : kd a = true
 ·rw [if_pos hkd]
  by_cases hb : key.size ≤ 1024
  ·rw [if_neg (by omega)]
   have h16 := (kd_good hkd).1
   have := refGet_l0 a key hkd hb 4000 (Nat.le_refl _) a.size 0 k [] key (by omega) (by omega) (by omega) rfl hb (by intro x hx; cases hx) (fun l hl => ⟨l, rfl, hl.key, hl.fit⟩)
   rw [show ((0 : Nat) : Int) = 0 from rfl] at this
   rcases this with ⟨l, e, hl⟩ | ⟨e, hn⟩
   ·rw [e, get_enc hkd hb hl]
   ·rcases get_any hkd hb with ⟨l, _, hl⟩ | ⟨e2, _⟩
    ·exact absurd hl (hn l)
    ·rw [e, e2]
  ·rw [if_pos (by omega), get_big hkd (by omega)]
 ·rw [if_neg hkd, get_kd (Bool.eq_false_iff.2 hkd)]
theorem get_len {a b : ByteArray} : ∃ l e, order_Get.f a b = some (l, e) ∧ l.length ≤ 16 := by
 by_cases hk : kd a = true
 ·by_cases hb : b.size ≤ 1024
  ·rcases get_any hk hb with ⟨l, e, hl⟩ | ⟨e, _⟩
   ·exact ⟨l, 0, e, by have := hl.len; have := (kd_good hk).1; omega⟩
   ·exact ⟨[], 5, e, Nat.zero_le _⟩
  ·exact ⟨[], 3, get_big hk (by omega), Nat.zero_le _⟩
 ·exact ⟨[], 2, get_kd (Bool.eq_false_iff.2 hk), Nat.zero_le _⟩
theorem gets_holds (a b : ByteArray) : quittancelaw12_OrderGets.f 5000 a b = some true := by
 have hgr : quittancelaw12_OrderGets.j0 5000 a b true = some true := by
  rw [show 5000 = 4999 + 1 from rfl, quittancelaw12_OrderGets.j0, if_pos rfl, head_ok _ (by decide)]; rfl
 unfold quittancelaw12_OrderGets.f
 by_cases ha : (a.size : Int) > 40
 ·rw [if_pos ha, hgr]
 ·rw [if_neg ha]
  by_cases hb : (b.size : Int) > 1100
  ·rw [decide_eq_true hb, hgr]
  ·obtain ⟨l, e, he, hl⟩ := get_len (a := a) (b := b)
   obtain ⟨q, hq, hqi⟩ := same_is l l (by omega) 4999 (by omega)
   rw [decide_eq_false hb, show 5000 = 4999 + 1 from rfl, quittancelaw12_OrderGets.j0, if_neg (by decide), refGet (by omega) 4999 (by decide), he, Option.bind_some, Option.bind_some, hq, Option.bind_some, if_pos (hqi.2 rfl), if_pos rfl, head_ok _ (by decide)]
   rfl
theorem getsWalk (a b : ByteArray) (w : World) (HTab : Aside0 (Tab w)) : Calls Tryd.prog 4 #[.string a, .string b] w fun e w' => e = .returned (.bool true) ∧ Below w.heap.size w w' :=
 quittancelaw12_OrderGets.calls 5000 a b true w HTab (gets_holds a b)
end Go.Proofs.YtbghkjoejbfnbaaDoor.law12

