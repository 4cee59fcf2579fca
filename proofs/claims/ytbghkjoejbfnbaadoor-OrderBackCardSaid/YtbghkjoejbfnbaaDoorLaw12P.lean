/- What order.Get reads of a key: the fields whose bytes it is. Plain law. No conditions. -/
import Derived.Test.YtbghkjoejbfnbaaDoorMLa
import Derived.Test.YtbghkjoejbfnbaaDoorLaw12M
import Derived.Test.YtbghkjoejbfnbaaDoorPOrdG
import Derived.Test.YtbghkjoejbfnbaaDoorPHx13
noncomputable section
namespace Go.Proofs.YtbghkjoejbfnbaaDoor.law12
open Go.RowKit Go.Proofs.YtbghkjoejbfnbaaDoorW.PrintWords Go.Proofs.YtbghkjoejbfnbaaDoor Go.Proofs.YtbghkjoejbfnbaaDoor.PH
theorem fb_pos (c : Int) (x : S47) : 0 < (fb c x).length := by
  unfold fb
  split
  · simp
  · split
    · split <;> simp
    · simp
def itm (x : S47) : orf.Fd := ((x.f0, x.f1, x.f2), true)
theorem fld_itm (x : S47) : fld (itm x) = x := rfl
/-- What is written is read. -/
theorem items_back (a : ByteArray) (hg : ∀ i : Nat, i < a.size → good (bt a (i : Int))) : ∀ (l : List S47) (n i : Nat) (b : ByteArray), l.length ≤ n → i + l.length ≤ a.size → ord.fitL a i l = true → (∀ x ∈ l, Wf x) → b.size ≤ 1024 → bytesOf b = body a i l →
    orf.items a n i b = l.map itm
  | [], n, i, b, _, _, _, _, _, hb => by
    have hz : b.size = 0 := by rw [← bytesOf_length, hb]; rfl
    cases n with
    | zero => rfl
    | succ n => unfold orf.items; rw [if_pos hz]; rfl
  | x :: l, n, i, b, hn, hi, hf, hw, hs, hb => by
    obtain ⟨n, rfl⟩ : ∃ q, n = q + 1 := ⟨n - 1, by rw [List.length_cons] at hn; omega⟩
    rw [List.length_cons] at hn hi
    unfold ord.fitL at hf
    rw [Bool.and_eq_true] at hf
    rw [body] at hb
    have hp := fb_pos (bt a (i : Int)) x
    have hz : ¬ b.size = 0 := by rw [← bytesOf_length, hb, List.length_append]; omega
    have ht := take_back (hg i (by omega)) (hw x (by simp)) hf.1 hs hb
    have hbl : (body a (i + 1) l).length ≤ b.size := by rw [← bytesOf_length b, hb, List.length_append]; omega
    have hr : bytesOf (strOfNums (body a (i + 1) l)) = body a (i + 1) l := bytes_str _ (fun c hc => ord.bytes_range b c (by rw [hb]; exact List.mem_append_right _ hc))
    have e1 : (orf.tk a i b) = (itm x, strOfNums (body a (i + 1) l)) := by
      unfold orf.tk
      rw [if_pos (by omega), ht]
      rfl
    unfold orf.items
    rw [if_neg hz, e1, List.map_cons]
    dsimp only
    rw [if_pos (show (itm x).2 = true from rfl), items_back a hg l n (i + 1) _ (by omega) (by omega) hf.2 (fun y hy => hw y (by simp [hy])) (by rw [strOfNums_size]; omega) hr]
/-- What is read was written so. -/
theorem items_sound (a : ByteArray) (hg : ∀ i : Nat, i < a.size → good (bt a (i : Int))) : ∀ (n i : Nat) (b : ByteArray), i ≤ a.size → a.size < i + n → b.size ≤ 1024 → (orf.items a n i b).all (·.2) = true →
    ∃ l : List S47, (orf.items a n i b).map fld = l ∧ bytesOf b = body a i l ∧ ord.fitL a i l = true ∧ i + l.length ≤ a.size ∧ ∀ x ∈ l, Wf x
  | 0, i, b, hi, hn, hs, h => by omega
  | n + 1, i, b, hi, hn, hs, h => by
    by_cases hz : b.size = 0
    · refine ⟨[], by unfold orf.items; rw [if_pos hz]; rfl, ?_, rfl, by simpa using hi, by intro x hx; cases hx⟩
      exact List.length_eq_zero_iff.1 (by rw [bytesOf_length]; exact hz)
    · unfold orf.items at h ⊢
      rw [if_neg hz, List.all_cons, Bool.and_eq_true] at h
      rw [if_neg hz]
      obtain ⟨h1, h2⟩ := h
      by_cases hia : i < a.size
      · have e : orf.tk a i b = ((((ord.takeT (bt a i) b).1, (ord.takeT (bt a i) b).2.1, (ord.takeT (bt a i) b).2.2.1), (ord.takeT (bt a i) b).2.2.2.2), (ord.takeT (bt a i) b).2.2.2.1) := by
          unfold orf.tk; rw [if_pos hia]
        have h3 : (ord.takeT (bt a (i : Int)) b).2.2.2.2 = true := by rw [e] at h1; exact h1
        obtain ⟨x, q1, q2, q3, q4⟩ := take_sound (hg i hia) hs (by omega) h3
        have hsz := ord.takeT_size (bt a (i : Int)) b (by omega)
        generalize (ord.takeT (bt a (i : Int)) b).2.2.2.1 = t at q1 q4 hsz
        have e2 : orf.tk a i b = (itm x, t) := by rw [e, q1]; rfl
        rw [e2] at h2 ⊢
        dsimp only at h2 ⊢
        rw [if_pos (show (itm x).2 = true from rfl)] at h2 ⊢
        obtain ⟨l, p1, p2, p3, p4, p5⟩ := items_sound a hg n (i + 1) t (by omega) (by omega) (by omega) h2
        refine ⟨x :: l, by rw [List.map_cons, p1, fld_itm], by rw [q4, p2, body], by rw [ord.fitL, q3, p3]; rfl, by rw [List.length_cons]; omega, fun y hy => ?_⟩
        rcases List.mem_cons.1 hy with rfl | hy
        · exact q2
        · exact p5 y hy
      · exfalso
        have e : orf.tk a i b = (((0, 0, ⟨#[]⟩), false), ⟨#[]⟩) := by unfold orf.tk; rw [if_neg hia]
        rw [e] at h1
        cases h1
/-- The bytes are these fields' key. -/
structure Enc (a : ByteArray) (l : List S47) (b : ByteArray) : Prop where
  fit : ord.fitL a 0 l = true
  len : l.length ≤ a.size
  wf : ∀ x ∈ l, Wf x
  key : bytesOf b = body a 0 l
/-- What Get tells. -/
theorem get_enc {a b : ByteArray} {l : List S47} (hk : kd a = true) (hb : b.size ≤ 1024) (h : Enc a l b) : order_Get.f a b = some (l, 0) := by
  obtain ⟨h16, hg⟩ := kd_good hk
  have e := items_back a hg l 17 0 b (by have := h.len; omega) (by have := h.len; omega) h.fit h.wf hb h.key
  unfold order_Get.f
  rw [kinds_kd, hk, Option.bind_some, if_pos rfl, if_neg (by omega), e, if_pos (by rw [List.all_eq_true]; intro y hy; obtain ⟨x, _, rfl⟩ := List.mem_map.1 hy; rfl), List.map_map]
  congr 2
  conv => rhs; rw [← List.map_id l]
  rfl
theorem get_any {a b : ByteArray} (hk : kd a = true) (hb : b.size ≤ 1024) : (∃ l, order_Get.f a b = some (l, 0) ∧ Enc a l b) ∨ (order_Get.f a b = some ([], 5) ∧ ∀ l, ¬ Enc a l b) := by
  obtain ⟨h16, hg⟩ := kd_good hk
  by_cases hall : (orf.items a 17 0 b).all (·.2) = true
  · obtain ⟨l, p1, p2, p3, p4, p5⟩ := items_sound a hg 17 0 b (by omega) (by omega) hb hall
    refine .inl ⟨l, ?_, ⟨p3, by omega, p5, p2⟩⟩
    unfold order_Get.f
    rw [kinds_kd, hk, Option.bind_some, if_pos rfl, if_neg (by omega), if_pos hall, p1]
  · have e : order_Get.f a b = some ([], 5) := by
      unfold order_Get.f
      rw [kinds_kd, hk, Option.bind_some, if_pos rfl, if_neg (by omega), if_neg hall]
    refine .inr ⟨e, fun l hl => ?_⟩
    rw [get_enc hk hb hl] at e
    injection e with e
    injection e with _ e
    cases e
theorem get_kd {a b : ByteArray} (hk : kd a = false) : order_Get.f a b = some ([], 2) := by
  unfold order_Get.f
  rw [kinds_kd, hk, Option.bind_some, if_neg (by decide)]
theorem get_big {a b : ByteArray} (hk : kd a = true) (hb : 1024 < b.size) : order_Get.f a b = some ([], 3) := by
  unfold order_Get.f
  rw [kinds_kd, hk, Option.bind_some, if_pos rfl, if_pos (by omega)]
theorem enc_put {a b : ByteArray} {l : List S47} (hk : kd a = true) (hb : b.size ≤ 1024) (h : Enc a l b) : putV a l = (b, 0) := by
  have hf : ord.fitB a (kd a) l = true := by
    unfold ord.fitB
    rw [hk, h.fit, decide_eq_true h.len]; rfl
  unfold putV fin
  rw [if_pos hk, if_pos hf, ← h.key, bytesOf_length, if_neg (by omega), str_bytes]
theorem body_rng (a : ByteArray) : ∀ (l : List S47) (i : Nat), (∀ x ∈ l, Wf x) → ∀ c ∈ body a i l, 0 ≤ c ∧ c ≤ 255
  | [], _, _ => by intro c hc; cases hc
  | x :: l, i, hw => by
    intro c hc
    rw [body] at hc
    rcases List.mem_append.1 hc with hc | hc
    · exact fb_rng (hw x (by simp)) c hc
    · exact body_rng a l (i + 1) (fun y hy => hw y (by simp [hy])) c hc
theorem put_enc {a b : ByteArray} {l : List S47} (hw : ∀ x ∈ l, Wf x) (h : putV a l = (b, 0)) : kd a = true ∧ b.size ≤ 1024 ∧ Enc a l b := by
  unfold putV at h
  by_cases hk : kd a = true
  · rw [if_pos hk] at h
    by_cases hf : ord.fitB a (kd a) l = true
    · rw [if_pos hf] at h
      unfold fin at h
      by_cases hl : (body a 0 l).length > 1024
      · rw [if_pos hl] at h
        injection h with _ h
        cases h
      · rw [if_neg hl] at h
        injection h with h _
        have hlen := fitB_len hf
        unfold ord.fitB at hf
        simp only [Bool.and_eq_true] at hf
        refine ⟨hk, by rw [← h, strOfNums_size]; omega, ⟨hf.2, hlen, hw, ?_⟩⟩
        rw [← h, bytes_str _ (body_rng a l 0 hw)]
    · rw [if_neg hf] at h
      injection h with _ h
      cases h
  · rw [if_neg hk] at h
    injection h with _ h
    cases h
/-- Get of Put are the fields, and Put of Get is the key. -/
theorem back_holds (a : ByteArray) (l : List S47) (b : ByteArray) (hl : l.length ≤ 9223372036854775807) (hn : ∀ x ∈ l, Nb x) : quittancelaw12_OrderBack.f (l.length + 5000) a l b = some true := by
  have hgr : quittancelaw12_OrderBack.j0 (l.length + 5000) b true a l = some true := by
    rw [show l.length + 5000 = (l.length + 4999) + 1 by omega, quittancelaw12_OrderBack.j0, if_pos rfl, head_ok _ (by omega)]; rfl
  unfold quittancelaw12_OrderBack.f
  rw [great_is a l hl _ (by omega), Option.bind_some]
  by_cases hg : gr a l = true
  · rw [if_pos hg, hgr]
  · rw [if_neg hg]
    by_cases hb : (b.size : Int) > 1100
    · rw [decide_eq_true hb, hgr]
    · rw [decide_eq_false hb]
      obtain ⟨h40, ha, hx⟩ := gr_no (Bool.eq_false_iff.2 hg)
      have hw : ∀ x ∈ l, Wf x := fun x h => (hn x h).wf (hx x h)
      obtain ⟨K, hK⟩ : ∃ K, l.length + 5000 = K + 2 := ⟨l.length + 4998, by omega⟩
      have hKl : l.length + 4000 ≤ K := by omega
      rw [hK]
      have j1 : quittancelaw12_OrderBack.j1 (K + 1) b a l = some true := by
        rw [quittancelaw12_OrderBack.j1]
        by_cases hk : kd a = true
        · by_cases hbs : b.size ≤ 1024
          · rcases get_any hk hbs with ⟨m, e, hm⟩ | ⟨e, _⟩
            · rw [e, Option.bind_some, if_pos rfl, putF a m ha hm.wf _ (by omega), enc_put hk hbs hm, Option.bind_some, if_pos rfl, if_pos rfl, head_ok _ (by omega)]; rfl
            · rw [e, Option.bind_some, if_neg (by decide), if_pos (by rfl), head_ok _ (by omega)]; rfl
          · rw [get_big hk (by omega), Option.bind_some, if_neg (by decide), if_pos (by rfl), head_ok _ (by omega)]; rfl
        · rw [get_kd (Bool.eq_false_iff.2 hk), Option.bind_some, if_neg (by decide), if_pos (by rfl), head_ok _ (by omega)]; rfl
      rw [quittancelaw12_OrderBack.j0, if_neg (by decide), putF a l ha hw _ (by omega), Option.bind_some]
      by_cases h0 : (putV a l).2 = 0
      · rw [if_pos h0]
        obtain ⟨hk, hs, he⟩ := put_enc (b := (putV a l).1) hw (by rw [← h0])
        rw [get_enc hk hs he, Option.bind_some, if_pos rfl]
        obtain ⟨q, hq, hqi⟩ := same_is l l hl (K + 1) (by omega)
        dsimp only
        rw [hq, Option.bind_some, if_pos (hqi.2 rfl), j1]
      · rw [if_neg h0, j1]
theorem backWalk (s0 : ByteArray) (A0 : Option Addr) (c0 : Nat) (l0 : List S47) (b : ByteArray) (w : World) (HTab : Aside0 (Tab w)) (hc : l0.length ≤ c0) (hC : Kd.C k47 w A0 l0.length l0) (hn : ∀ x ∈ l0, Nb x) (hl : l0.length ≤ 9223372036854775807) :
    Calls Tryd.prog 5 #[.agg #[.string s0, .slice A0 l0.length c0], .string b] w fun e w' => e = .returned (.bool true) ∧ Below w.heap.size w w' :=
  quittancelaw12_OrderBack.calls (l0.length + 5000) s0 A0 c0 l0 b true w hC hc HTab (back_holds s0 l0 b hl hn)
end Go.Proofs.YtbghkjoejbfnbaaDoor.law12
