/- Splitting in plain Lean: unit by unit to the greatest rest; no unit where no rest is; a greater weight has no lesser slice; weights so many times as great. -/
import Derived.Test.YtlllgfkdapjomaaSplM
namespace Sp
variable {T : Int} {xs : List Int}
theorem set_ge (l : List Int) (i : Nat) (x : Int) (k : Nat) (hk : l.length ≤ k) : (l.set i x).getD k 0 = 0 := by
  rw [List.getD_eq_getElem?_getD, List.getElem?_eq_none (by simpa using hk)]
  rfl
/-- While units are given to the greatest rests. -/
structure G (T : Int) (xs out rr : List Int) (left : Int) : Prop where
  len : out.length = xs.length
  lenr : rr.length = xs.length
  tot : out.sum + left = T
  l0 : 0 ≤ left
  st : ∀ k, k < xs.length → (out.getD k 0 = q T xs k ∧ rr.getD k 0 = r T xs k) ∨ (out.getD k 0 = q T xs k + 1 ∧ rr.getD k 0 = -1)
  ord : ∀ i k, i < xs.length → k < xs.length → rr.getD i 0 = -1 → 0 ≤ rr.getD k 0 → (r T xs k < r T xs i ∨ (r T xs k = r T xs i ∧ i < k))
theorem G.start (h : Ok T xs) : G T xs (qs T xs) (rs T xs) (T - (qs T xs).sum) where
  len := qs_len
  lenr := rs_len
  tot := by omega
  l0 := by have := h.left0; omega
  st k hk := .inl ⟨qs_get hk, rs_get hk⟩
  ord i k hi hk e _ := by
    rw [rs_get hi] at e
    have := h.r0 i
    omega
variable {out rr : List Int} {left : Int} {b : Nat}
theorem G.un (h : G T xs out rr left) (hk : Ok T xs) (hl : 0 < left) : ∃ k, k < xs.length ∧ 0 ≤ rr.getD k 0 := by
  refine Classical.byContradiction fun hn => ?_
  have h2 := sum_le ((qs T xs).map (· + 1)) out (by simp [h.len]) (fun k hk' => by
    have hk' : k < xs.length := by simpa using hk'
    have e : ((qs T xs).map (· + 1)).getD k 0 = q T xs k + 1 := by
      have := qs_get (T := T) hk'
      rw [List.getD_eq_getElem?_getD, List.getElem?_eq_getElem (by simpa using hk')] at this
      rw [List.getD_eq_getElem?_getD, List.getElem?_map, List.getElem?_eq_getElem (by simpa using hk')]
      simpa using this
    rw [e]
    rcases h.st k hk' with ⟨_, e2⟩ | ⟨e2, _⟩
    · exact absurd ⟨k, hk', by rw [e2]; exact hk.r0 k⟩ hn
    · omega)
  rw [sum_inc, qs_len] at h2
  have := hk.left1
  have := h.tot
  omega
theorem G.step (h : G T xs out rr left) (hk : Ok T xs) (hl : 0 < left) (hb : b < xs.length) (hmax : ∀ i, i < xs.length → rr.getD i 0 ≤ rr.getD b 0) (hfst : ∀ i, i < b → rr.getD i 0 < rr.getD b 0) :
    G T xs (out.set b (out.getD b 0 + 1)) (rr.set b (-1)) (left - 1) := by
  obtain ⟨k0, hk0, hr0⟩ := h.un hk hl
  have hrb : 0 ≤ rr.getD b 0 := Int.le_trans hr0 (hmax k0 hk0)
  have hob : out.getD b 0 = q T xs b ∧ rr.getD b 0 = r T xs b := by
    rcases h.st b hb with h1 | ⟨_, h1⟩
    · exact h1
    · omega
  have go : ∀ k, k < xs.length → (out.set b (out.getD b 0 + 1)).getD k 0 = if k = b then out.getD b 0 + 1 else out.getD k 0 := fun k q => getD_set _ _ _ _ (by rw [h.len]; exact q)
  have gr : ∀ k, k < xs.length → (rr.set b (-1)).getD k 0 = if k = b then -1 else rr.getD k 0 := fun k q => getD_set _ _ _ _ (by rw [h.lenr]; exact q)
  refine ⟨by rw [List.length_set]; exact h.len, by rw [List.length_set]; exact h.lenr, ?_, by omega, fun k q => ?_, fun i k hi hk' e1 e2 => ?_⟩
  · rw [sum_set _ _ _ (by rw [h.len]; exact hb)]
    have := h.tot
    omega
  · rw [go k q, gr k q]
    by_cases e : k = b
    · subst e
      rw [if_pos rfl, if_pos rfl]
      exact .inr ⟨by omega, rfl⟩
    · rw [if_neg e, if_neg e]
      exact h.st k q
  · rw [gr i hi] at e1
    rw [gr k hk'] at e2
    have hkb : ¬ k = b := fun e => by rw [if_pos e] at e2; omega
    rw [if_neg hkb] at e2
    by_cases e : i = b
    · subst e
      have h1 : rr.getD k 0 = r T xs k := by
        rcases h.st k hk' with ⟨_, h1⟩ | ⟨_, h1⟩
        · exact h1
        · omega
      have h2 := hmax k hk'
      by_cases h3 : k < i
      · have := hfst k h3
        omega
      · omega
    · rw [if_neg e] at e1
      exact h.ord i k hi hk' e1 e2
theorem G.fin (h : G T xs out rr left) (hk : Ok T xs) (hl : ¬ 0 < left) : IsSplit T xs out where
  len := h.len
  sum := by have := h.tot; have := h.l0; omega
  one k hk' := by rcases h.st k hk' with ⟨h1, _⟩ | ⟨h1, _⟩ <;> omega
  ord i k hi hk' e1 e2 := by
    refine h.ord i k hi hk' ?_ ?_
    · rcases h.st i hi with ⟨h1, _⟩ | ⟨_, h1⟩
      · omega
      · exact h1
    · rcases h.st k hk' with ⟨_, h1⟩ | ⟨h1, _⟩
      · rw [h1]; exact hk.r0 k
      · omega
theorem sum_mul (c : Int) : ∀ l : List Int, (l.map (c * ·)).sum = c * l.sum
  | [] => by simp
  | a :: l => by simp [sum_mul c l, Int.mul_add]
theorem map_get (f : Int → Int) (l : List Int) (k : Nat) (hk : k < l.length) : (l.map f).getD k 0 = f (l.getD k 0) := by
  simp [List.getD_eq_getElem?_getD, List.getElem?_eq_getElem hk]
theorem eq_qr (T : Int) (xs : List Int) (k : Nat) : T * xs.getD k 0 = xs.sum * q T xs k + r T xs k := by
  have := Int.mul_ediv_add_emod (T * xs.getD k 0) xs.sum
  unfold q r
  omega
/-- Where no rest is, no unit more is. -/
theorem IsSplit.rest (h : IsSplit T xs out) (hk : Ok T xs) (i : Nat) (hi : i < xs.length) (e : out.getD i 0 = q T xs i + 1) : r T xs i ≠ 0 := fun h0 => by
  have hle : ∀ k, k < xs.length → T * xs.getD k 0 ≤ xs.sum * out.getD k 0 := fun k hk' => by
    rw [eq_qr]
    rcases h.one k hk' with e1 | e1
    · have h1 := h.ord i k hi hk' e e1
      have h2 := hk.r0 k
      rw [e1]
      omega
    · have h1 := hk.r1 k
      rw [e1, Int.mul_add]
      omega
  have hlt : T * xs.getD i 0 < xs.sum * out.getD i 0 := by
    rw [eq_qr, e, Int.mul_add, h0]
    have := hk.a0
    omega
  have := sum_lt (xs.map (T * ·)) (out.map (xs.sum * ·)) (by simp [h.len]) (fun k hk' => by
    have hk' : k < xs.length := by simpa using hk'
    rw [map_get _ _ _ hk', map_get _ _ _ (by rw [h.len]; exact hk')]
    exact hle k hk') i (by simpa using hi) (by
    rw [map_get _ _ _ hi, map_get _ _ _ (by rw [h.len]; exact hi)]
    exact hlt)
  rw [sum_mul, sum_mul, h.sum, Int.mul_comm] at this
  omega
theorem IsSplit.nn (h : IsSplit T xs out) (hk : Ok T xs) (i : Nat) (hi : i < xs.length) : 0 ≤ out.getD i 0 := by
  have := h.one i hi
  have := hk.q0 i
  omega
theorem IsSplit.zero (h : IsSplit T xs out) (hk : Ok T xs) (i : Nat) (hi : i < xs.length) (h0 : xs.getD i 0 = 0) : out.getD i 0 = 0 := by
  have e1 : q T xs i = 0 := by rw [q, h0]; simp
  have e2 : r T xs i = 0 := by rw [r, h0]; simp
  rcases h.one i hi with e | e
  · omega
  · exact absurd e2 (h.rest hk i hi e)
theorem IsSplit.mono (h : IsSplit T xs out) (hk : Ok T xs) (i k : Nat) (hi : i < xs.length) (hk' : k < xs.length) (hx : xs.getD k 0 < xs.getD i 0 ∨ (xs.getD k 0 = xs.getD i 0 ∧ i < k)) : out.getD k 0 ≤ out.getD i 0 := by
  have hq : q T xs k ≤ q T xs i := Int.ediv_le_ediv hk.a0 (Int.mul_le_mul_of_nonneg_left (by omega) hk.t0)
  have hi1 := h.one i hi
  have hk1 := h.one k hk'
  refine Classical.byContradiction fun hn => ?_
  have hqe : q T xs k = q T xs i := by omega
  have e1 : out.getD k 0 = q T xs k + 1 := by omega
  have e2 : out.getD i 0 = q T xs i := by omega
  have h1 := h.ord k i hk' hi e1 e2
  have a1 := eq_qr T xs i
  have a2 := eq_qr T xs k
  rw [hqe] at a2
  have a3 : T * xs.getD k 0 ≤ T * xs.getD i 0 := Int.mul_le_mul_of_nonneg_left (by omega) hk.t0
  rcases hx with hx | ⟨hx, hlt⟩
  · have a4 : T * xs.getD k 0 = T * xs.getD i 0 := by omega
    have a5 : T * (xs.getD i 0 - xs.getD k 0) = 0 := by rw [Int.mul_sub]; omega
    have hT : T = 0 := by
      rcases Int.mul_eq_zero.1 a5 with h | h
      · exact h
      · omega
    refine h.rest hk k hk' e1 ?_
    rw [r, hT]
    simp
  · rw [hx] at a2
    omega
/-- Weights so many times as great. -/
theorem scale_sum (c : Int) (xs : List Int) : (xs.map (c * ·)).sum = c * xs.sum := sum_mul c xs
theorem scale_get (c : Int) (xs : List Int) (k : Nat) : (xs.map (c * ·)).getD k 0 = c * xs.getD k 0 := by
  by_cases hk : k < xs.length
  · exact map_get _ _ _ hk
  · rw [List.getD_eq_getElem?_getD, List.getD_eq_getElem?_getD, List.getElem?_eq_none (by simpa using hk), List.getElem?_eq_none (by simpa using hk)]
    simp
theorem scale_q (c : Int) (hc : 0 < c) (k : Nat) : q T (xs.map (c * ·)) k = q T xs k := by
  rw [q, q, scale_sum, scale_get, show T * (c * xs.getD k 0) = c * (T * xs.getD k 0) by rw [← Int.mul_assoc, Int.mul_comm T c, Int.mul_assoc], Int.mul_ediv_mul_of_pos _ _ hc]
theorem scale_r (c : Int) (hc : 0 < c) (k : Nat) : r T (xs.map (c * ·)) k = c * r T xs k := by
  rw [r, r, scale_sum, scale_get, show T * (c * xs.getD k 0) = c * (T * xs.getD k 0) by rw [← Int.mul_assoc, Int.mul_comm T c, Int.mul_assoc], Int.mul_emod_mul_of_pos _ _ hc]
theorem IsSplit.scale (h : IsSplit T xs out) (c : Int) (hc : 0 < c) : IsSplit T (xs.map (c * ·)) out where
  len := by rw [h.len, List.length_map]
  sum := h.sum
  one k hk := by
    rw [scale_q c hc]
    exact h.one k (by simpa using hk)
  ord i k hi hk e1 e2 := by
    rw [scale_q c hc] at e1 e2
    rw [scale_r c hc, scale_r c hc]
    rcases h.ord i k (by simpa using hi) (by simpa using hk) e1 e2 with h1 | ⟨h1, h2⟩
    · exact .inl (Int.mul_lt_mul_of_pos_left h1 hc)
    · exact .inr ⟨by rw [h1], h2⟩
theorem Ok.unscale (c : Int) (hc : 0 < c) (h : Ok T (xs.map (c * ·))) : Ok T xs where
  t0 := h.t0
  t1 := h.t1
  n0 := by simpa using h.n0
  n1 := by simpa using h.n1
  w0 x hx := by
    have := h.w0 (c * x) (List.mem_map.2 ⟨x, hx, rfl⟩)
    exact Classical.byContradiction fun hn => by
      have := Int.mul_neg_of_pos_of_neg hc (show x < 0 by omega)
      omega
  a0 := by
    have := h.a0
    rw [scale_sum] at this
    exact Int.pos_of_mul_pos_right this hc
  a1 := by
    have h1 := h.a1
    have h0 := h.a0
    rw [scale_sum] at h1 h0
    have h2 : 0 < xs.sum := Int.pos_of_mul_pos_right h0 hc
    have h3 : 1 * xs.sum ≤ c * xs.sum := Int.mul_le_mul_of_nonneg_right (by omega) (by omega)
    omega
end Sp
