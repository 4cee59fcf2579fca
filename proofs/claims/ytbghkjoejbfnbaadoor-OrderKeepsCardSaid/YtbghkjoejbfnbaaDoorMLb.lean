/- Put answers as the document's. Plain law. No conditions. What order.Get reads of a key: the fields whose bytes it is. Plain law. No conditions. -/
import Derived.Test.YtbghkjoejbfnbaaDoorMLa
import Derived.Test.YtbghkjoejbfnbaaDoorPOrdG
noncomputable section
namespace Go.Proofs.YtbghkjoejbfnbaaDoor.law12
open Go.RowKit Go.Proofs.YtbghkjoejbfnbaaDoorW.PrintWords Go.Proofs.YtbghkjoejbfnbaaDoor Go.Proofs.YtbghkjoejbfnbaaDoor.PH
/-- What Put writes. -/
def body (a : ByteArray) : Nat → List S47 → List Int
 | _, [] => []
 | i, x :: l => fb (bt a (i : Int)) x ++ body a (i + 1) l
def fin (xs : List Int) : ByteArray × Int := if xs.length > 1024 then (⟨#[]⟩, 3) else (strOfNums xs, 0)
def putV (a : ByteArray) (l : List S47) : ByteArray × Int :=
 if kd a = true then (if ord.fitB a (kd a) l = true then fin (body a 0 l) else (⟨#[]⟩, 5)) else (⟨#[]⟩, 2)
theorem kd_good {a : ByteArray} (h : kd a = true) : a.size ≤ 16 ∧ ∀ i : Nat, i < a.size → good (bt a (i : Int)) := by
 have := (kd_ok a).1 h
 exact ⟨this.1, fun i hi => this.2 i hi⟩
theorem fitB_len {a : ByteArray} {k : Bool} {l : List S47} (h : ord.fitB a k l = true) : l.length ≤ a.size := by
 unfold ord.fitB at h
 simp only [Bool.and_eq_true, decide_eq_true_eq] at h
 exact h.1.2
theorem put_l0 (a : ByteArray) (l : List S47) (hg : ∀ i : Nat, i < a.size → good (bt a (i : Int))) (h16 : a.size ≤ 16) (hl : l.length ≤ a.size) (hw : ∀ x ∈ l, Wf x) :
  ∀ (n i k : Nat) (acc : List Int), l.length - i = n → i ≤ l.length → n + 12 ≤ k → acc.length + 2402 * n ≤ 60000 → order_Put.l0 k a acc l (l.length : Int) (i : Int) = some (fin (acc ++ body a i (l.drop i)))
 | 0, i, k, acc, hn, hi, hk, ha => by
  obtain ⟨k, rfl⟩ : ∃ q, k = q + 1 := ⟨k - 1, by omega⟩
  rw [order_Put.l0, if_neg (by omega), show l.drop i = [] from List.drop_eq_nil_of_le (by omega), body, List.append_nil, fin]
  by_cases c : acc.length > 1024
  ·rw [if_pos (by omega), if_pos c]
  ·rw [if_neg (by omega), if_neg c]
 | n + 1, i, k, acc, hn, hi, hk, ha => by
  obtain ⟨k, rfl⟩ : ∃ q, k = q + 1 := ⟨k - 1, by omega⟩
  have hil : i < l.length := by omega
  have ew : wrap64 ((i : Int) + 1) = ((i + 1 : Nat) : Int) := by unfold wrap64; omega
  have hx := hw l[i] (List.getElem_mem hil)
  have hf := fb_len (c := bt a (i : Int)) hx
  rw [order_Put.l0, if_pos (by omega), if_pos (by omega), if_pos (by omega), if_pos (by omega), rd_at l i hil, put_is (hg i (by omega)) hx acc k (by omega) (by omega), Option.bind_some, ew,
   put_l0 a l hg h16 hl hw n (i + 1) k (acc ++ fb (bt a (i : Int)) l[i]) (by omega) (by omega) (by omega) (by rw [List.length_append]; omega), List.drop_eq_getElem_cons hil, body, List.append_assoc]
theorem ref_l0 (a : ByteArray) (l : List S47) (hg : ∀ i : Nat, i < a.size → good (bt a (i : Int))) (h16 : a.size ≤ 16) (hl : l.length ≤ a.size) (hw : ∀ x ∈ l, Wf x) (K0 : Nat) (hK0 : 3000 ≤ K0) :
  ∀ (n i k : Nat) (acc : ByteArray), l.length - i = n → i ≤ l.length → n + 2 + K0 ≤ k → acc.size + 2402 * n ≤ 60000 → quittanceref12_Put.l0 k a l acc (i : Int) = some (fin (bytesOf acc ++ body a i (l.drop i)))
 | 0, i, k, acc, hn, hi, hk, ha => by
  obtain ⟨k, rfl⟩ : ∃ q, k = q + 1 := ⟨k - 1, by omega⟩
  rw [quittanceref12_Put.l0, if_neg (by omega), show l.drop i = [] from List.drop_eq_nil_of_le (by omega), body, List.append_nil, fin, bytesOf_length, str_bytes]
  by_cases c : acc.size > 1024
  ·rw [if_pos (by omega), if_pos c]
  ·rw [if_neg (by omega), if_neg c]
 | n + 1, i, k, acc, hn, hi, hk, ha => by
  obtain ⟨k, rfl⟩ : ∃ q, k = q + 1 := ⟨k - 1, by omega⟩
  have hil : i < l.length := by omega
  have ew : wrap64 ((i : Int) + 1) = ((i + 1 : Nat) : Int) := by unfold wrap64; omega
  have hx := hw l[i] (List.getElem_mem hil)
  have hf := fb_len (c := bt a (i : Int)) hx
  have hs : (strOfNums (fb (bt a (i : Int)) l[i])).size = (fb (bt a (i : Int)) l[i]).length := strOfNums_size _
  have hk3 : 3000 ≤ k := Nat.le_trans hK0 (by omega)
  have hr := ref_is (hg i (by omega)) hx k hk3
  rw [quittanceref12_Put.l0, if_pos (by omega), if_pos (by omega), if_pos (by omega), rd_at l i hil, hr, Option.bind_some, if_pos (by omega), ew,
   ref_l0 a l hg h16 hl hw K0 hK0 n (i + 1) k (acc ++ strOfNums (fb (bt a (i : Int)) l[i])) (by omega) (by omega) (by omega) (by rw [ByteArray.size_append]; omega), List.drop_eq_getElem_cons hil, body, bytes_app, bytes_str _ (fb_rng hx), List.append_assoc]
theorem putF (a : ByteArray) (l : List S47) (hs : a.size ≤ 40) (hw : ∀ x ∈ l, Wf x) (k : Nat) (hk : 100 ≤ k) : order_Put.f k a l = some (putV a l) := by
 unfold order_Put.f putV
 rw [kinds_kd, Option.bind_some]
 by_cases h : kd a = true
 ·obtain ⟨h16, hg⟩ := kd_good h
  rw [if_pos h, if_pos h, putFit a l hs, Option.bind_some]
  by_cases hf : ord.fitB a (kd a) l = true
  ·have hl := fitB_len hf
   rw [if_pos hf, if_pos hf]
   have := put_l0 a l hg h16 hl hw l.length 0 k [] (by omega) (by omega) (by omega) (by simp; omega)
   rw [List.drop_zero, List.nil_append] at this
   exact this
  ·rw [if_neg hf, if_neg hf]
 ·rw [if_neg h, if_neg h]
theorem refF (a : ByteArray) (l : List S47) (hs : a.size ≤ 40) (hw : ∀ x ∈ l, Wf x) (k : Nat) (hk : 4000 ≤ k) : quittanceref12_Put.f k a l = some (putV a l) := by
 unfold quittanceref12_Put.f putV
 rw [refKinds a hs k (by omega), Option.bind_some]
 by_cases h : kd a = true
 ·obtain ⟨h16, hg⟩ := kd_good h
  rw [if_pos h, if_pos h, refFit a l hs k (by omega), Option.bind_some]
  by_cases hf : ord.fitB a (kd a) l = true
  ·have hl := fitB_len hf
   rw [if_pos hf, if_pos hf]
   have e0 : (⟨#[]⟩ : ByteArray).size = 0 := rfl
   have := ref_l0 a l hg h16 hl hw 3000 (Nat.le_refl _) l.length 0 k ⟨#[]⟩ (by omega) (by omega) (by omega) (by omega)
   rw [List.drop_zero] at this
   exact this
  ·rw [if_neg hf, if_neg hf]
 ·rw [if_neg h, if_neg h]
/-- Numbers within their kinds: what a row gives. -/
structure Nb (x : S47) : Prop where
 n0 : 0 ≤ x.f0
 n1 : x.f0 < 18446744073709551616
 i0 : -9223372036854775808 ≤ x.f1
 i1 : x.f1 < 9223372036854775808
theorem Nb.wf {x : S47} (h : Nb x) (hs : x.f2.size ≤ 1200) : Wf x := ⟨h.n0, h.n1, h.i0, h.i1, hs⟩
end Go.Proofs.YtbghkjoejbfnbaaDoor.law12

noncomputable section
namespace Go.Proofs.YtbghkjoejbfnbaaDoor.law12
open Go.RowKit Go.Proofs.YtbghkjoejbfnbaaDoorW.PrintWords Go.Proofs.YtbghkjoejbfnbaaDoor Go.Proofs.YtbghkjoejbfnbaaDoor.PH
theorem fb_pos (c : Int) (x : S47) : 0 < (fb c x).length := by
 unfold fb
 split
 ·simp
 ·split
  ·split <;> simp
  ·simp
def itm (x : S47) : orf.Fd := ((x.f0, x.f1, x.f2), true)
theorem fld_itm (x : S47) : fld (itm x) = x := rfl
/-- What is written is read. -/
theorem items_back (a : ByteArray) (hg : ∀ i : Nat, i < a.size → good (bt a (i : Int))) : ∀ (l : List S47) (n i : Nat) (b : ByteArray), l.length ≤ n → i + l.length ≤ a.size → ord.fitL a i l = true → (∀ x ∈ l, Wf x) → b.size ≤ 1024 → bytesOf b = body a i l →
  orf.items a n i b = l.map itm
 | [], n, i, b, _, _, _, _, _, hb => by
  have hz : b.size = 0 := by rw [← bytesOf_length, hb]; rfl
  cases n with
  | zero => rfl
  | succ n => unfold orf.items; rw [if_pos hz]; rfl
 | x :: l, n, i, b, hn, hi, hf, hw, hs, hb => by
  obtain ⟨n, rfl⟩ : ∃ q, n = q + 1 := ⟨n - 1, by rw [List.length_cons] at hn; omega⟩
  rw [List.length_cons] at hn hi
  unfold ord.fitL at hf
  rw [Bool.and_eq_true] at hf
  rw [body] at hb
  have hp := fb_pos (bt a (i : Int)) x
  have hz : ¬ b.size = 0 := by rw [← bytesOf_length, hb, List.length_append]; omega
  have ht := take_back (hg i (by omega)) (hw x (by simp)) hf.1 hs hb
  have hbl : (body a (i + 1) l).length ≤ b.size := by rw [← bytesOf_length b, hb, List.length_append]; omega
  have hr : bytesOf (strOfNums (body a (i + 1) l)) = body a (i + 1) l := bytes_str _ (fun c hc => ord.bytes_range b c (by rw [hb]; exact List.mem_append_right _ hc))
  have e1 : (orf.tk a i b) = (itm x, strOfNums (body a (i + 1) l)) := by
   unfold orf.tk
   rw [if_pos (by omega), ht]
   rfl
  unfold orf.items
  rw [if_neg hz, e1, List.map_cons]
  dsimp only
  rw [if_pos (show (itm x).2 = true from rfl), items_back a hg l n (i + 1) _ (by omega) (by omega) hf.2 (fun y hy => hw y (by simp [hy])) (by rw [strOfNums_size]; omega) hr]
/-- What is read was written so. -/
theorem items_sound (a : ByteArray) (hg : ∀ i : Nat, i < a.size → good (bt a (i : Int))) : ∀ (n i : Nat) (b : ByteArray), i ≤ a.size → a.size < i + n → b.size ≤ 1024 → (orf.items a n i b).all (·.2) = true →
  ∃ l : List S47, (orf.items a n i b).map fld = l ∧ bytesOf b = body a i l ∧ ord.fitL a i l = true ∧ i + l.length ≤ a.size ∧ ∀ x ∈ l, Wf x
 | 0, i, b, hi, hn, hs, h => by omega
 | n + 1, i, b, hi, hn, hs, h => by
  by_cases hz : b.size = 0
  ·refine ⟨[], by unfold orf.items; rw [if_pos hz]; rfl, ?_, rfl, by simpa using hi, by intro x hx; cases hx⟩
   exact List.length_eq_zero_iff.1 (by rw [bytesOf_length]; exact hz)
  ·unfold orf.items at h ⊢
   rw [if_neg hz, List.all_cons, Bool.and_eq_true] at h
   rw [if_neg hz]
   obtain ⟨h1, h2⟩ := h
   by_cases hia : i < a.size
   ·have e : orf.tk a i b = ((((ord.takeT (bt a i) b).1, (ord.takeT (bt a i) b).2.1, (ord.takeT (bt a i) b).2.2.1), (ord.takeT (bt a i) b).2.2.2.2), (ord.takeT (bt a i) b).2.2.2.1) := by
     unfold orf.tk; rw [if_pos hia]
    have h3 : (ord.takeT (bt a (i : Int)) b).2.2.2.2 = true := by rw [e] at h1; exact h1
    obtain ⟨x, q1, q2, q3, q4⟩ := take_sound (hg i hia) hs (by omega) h3
    have hsz := ord.takeT_size (bt a (i : Int)) b (by omega)
    generalize (ord.takeT (bt a (i : Int)) b).2.2.2.1 = t at q1 q4 hsz
    have e2 : orf.tk a i b = (itm x, t) := by rw [e, q1]; rfl
    rw [e2] at h2 ⊢
    dsimp only at h2 ⊢
    rw [if_pos (show (itm x).2 = true from rfl)] at h2 ⊢
    obtain ⟨l, p1, p2, p3, p4, p5⟩ := items_sound a hg n (i + 1) t (by omega) (by omega) (by omega) h2
    refine ⟨x :: l, by rw [List.map_cons, p1, fld_itm], by rw [q4, p2, body], by rw [ord.fitL, q3, p3]; rfl, by rw [List.length_cons]; omega, fun y hy => ?_⟩
    rcases List.mem_cons.1 hy with rfl | hy
    ·exact q2
    ·exact p5 y hy
   ·exfalso
    have e : orf.tk a i b = (((0, 0, ⟨#[]⟩), false), ⟨#[]⟩) := by unfold orf.tk; rw [if_neg hia]
    rw [e] at h1
    cases h1
/-- The bytes are these fields' key. -/
structure Enc (a : ByteArray) (l : List S47) (b : ByteArray) : Prop where
 fit : ord.fitL a 0 l = true
 len : l.length ≤ a.size
 wf : ∀ x ∈ l, Wf x
 key : bytesOf b = body a 0 l
/-- What Get tells. -/
theorem get_enc {a b : ByteArray} {l : List S47} (hk : kd a = true) (hb : b.size ≤ 1024) (h : Enc a l b) : order_Get.f a b = some (l, 0) := by
 obtain ⟨h16, hg⟩ := kd_good hk
 have e := items_back a hg l 17 0 b (by have := h.len; omega) (by have := h.len; omega) h.fit h.wf hb h.key
 unfold order_Get.f
 rw [kinds_kd, hk, Option.bind_some, if_pos rfl, if_neg (by omega), e, if_pos (by rw [List.all_eq_true]; intro y hy; obtain ⟨x, _, rfl⟩ := List.mem_map.1 hy; rfl), List.map_map]
 congr 2
 conv => rhs; rw [← List.map_id l]
 rfl
theorem get_any {a b : ByteArray} (hk : kd a = true) (hb : b.size ≤ 1024) : (∃ l, order_Get.f a b = some (l, 0) ∧ Enc a l b) ∨ (order_Get.f a b = some ([], 5) ∧ ∀ l, ¬ Enc a l b) := by
 obtain ⟨h16, hg⟩ := kd_good hk
 by_cases hall : (orf.items a 17 0 b).all (·.2) = true
 ·obtain ⟨l, p1, p2, p3, p4, p5⟩ := items_sound a hg 17 0 b (by omega) (by omega) hb hall
  refine .inl ⟨l, ?_, ⟨p3, by omega, p5, p2⟩⟩
  unfold order_Get.f
  rw [kinds_kd, hk, Option.bind_some, if_pos rfl, if_neg (by omega), if_pos hall, p1]
 ·have e : order_Get.f a b = some ([], 5) := by
   unfold order_Get.f
   rw [kinds_kd, hk, Option.bind_some, if_pos rfl, if_neg (by omega), if_neg hall]
  refine .inr ⟨e, fun l hl => ?_⟩
  rw [get_enc hk hb hl] at e
  injection e with e
  injection e with _ e
  cases e
theorem get_kd {a b : ByteArray} (hk : kd a = false) : order_Get.f a b = some ([], 2) := by
 unfold order_Get.f
 rw [kinds_kd, hk, Option.bind_some, if_neg (by decide)]
theorem get_big {a b : ByteArray} (hk : kd a = true) (hb : 1024 < b.size) : order_Get.f a b = some ([], 3) := by
 unfold order_Get.f
 rw [kinds_kd, hk, Option.bind_some, if_pos rfl, if_pos (by omega)]
theorem enc_put {a b : ByteArray} {l : List S47} (hk : kd a = true) (hb : b.size ≤ 1024) (h : Enc a l b) : putV a l = (b, 0) := by
 have hf : ord.fitB a (kd a) l = true := by
  unfold ord.fitB
  rw [hk, h.fit, decide_eq_true h.len]; rfl
 unfold putV fin
 rw [if_pos hk, if_pos hf, ← h.key, bytesOf_length, if_neg (by omega), str_bytes]
theorem body_rng (a : ByteArray) : ∀ (l : List S47) (i : Nat), (∀ x ∈ l, Wf x) → ∀ c ∈ body a i l, 0 ≤ c ∧ c ≤ 255
 | [], _, _ => by intro c hc; cases hc
 | x :: l, i, hw => by
  intro c hc
  rw [body] at hc
  rcases List.mem_append.1 hc with hc | hc
  ·exact fb_rng (hw x (by simp)) c hc
  ·exact body_rng a l (i + 1) (fun y hy => hw y (by simp [hy])) c hc
theorem put_enc {a b : ByteArray} {l : List S47} (hw : ∀ x ∈ l, Wf x) (h : putV a l = (b, 0)) : kd a = true ∧ b.size ≤ 1024 ∧ Enc a l b := by
 unfold putV at h
 by_cases hk : kd a = true
 ·rw [if_pos hk] at h
  by_cases hf : ord.fitB a (kd a) l = true
  ·rw [if_pos hf] at h
   unfold fin at h
   by_cases hl : (body a 0 l).length > 1024
   ·rw [if_pos hl] at h
    injection h with _ h
    cases h
   ·rw [if_neg hl] at h
    injection h with h _
    have hlen := fitB_len hf
    unfold ord.fitB at hf
    simp only [Bool.and_eq_true] at hf
    refine ⟨hk, by rw [← h, strOfNums_size]; omega, ⟨hf.2, hlen, hw, ?_⟩⟩
    rw [← h, bytes_str _ (body_rng a l 0 hw)]
  ·rw [if_neg hf] at h
   injection h with _ h
   cases h
 ·rw [if_neg hk] at h
  injection h with _ h
  cases h
end Go.Proofs.YtbghkjoejbfnbaaDoor.law12

