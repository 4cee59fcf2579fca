/- Stable sorting by blocks and exchanges, as arrays: plain laws. No conditions. Stable sorting by blocks: which blocks are sorted. Plain laws. No conditions. -/
import Derived.Sort.LotA
namespace St
open Go.Sort
variable {α : Type} [Inhabited α] {lt : α → α → Bool}
/-- So many of two runs have been exchanged. -/
def Xch (a b i : Nat) (d d' : Array α) : Prop :=
 d'.size = d.size ∧ ∀ k, d'[k]! = if a ≤ k ∧ k < a + i then d[b + (k - a)]! else if b ≤ k ∧ k < b + i then d[a + (k - b)]! else d[k]!
theorem Xch.refl (a b : Nat) (d : Array α) : Xch a b 0 d d := ⟨rfl, fun k => by rw [if_neg (by omega), if_neg (by omega)]⟩
theorem Xch.step {a b i n : Nat} {d d' : Array α} (h : Xch a b i d d') (hi : i < n) (hab : a + n ≤ b) (hb : b + n ≤ d.size) : Xch a b (i + 1) d (swp d' (a + i) (b + i)) := by
 refine ⟨by rw [size_swp]; exact h.1, fun k => ?_⟩
 rw [swp_get d' (by rw [h.1]; omega) (by rw [h.1]; omega), h.2, h.2, h.2]
 by_cases h1 : k = b + i
 ·subst h1
  rw [if_pos rfl, if_neg (by omega), if_neg (by omega), if_neg (by omega), if_pos (by omega)]
  congr 1; omega
 rw [if_neg h1]
 by_cases h2 : k = a + i
 ·subst h2
  rw [if_pos rfl, if_neg (by omega), if_neg (by omega), if_pos (by omega)]
  congr 1; omega
 rw [if_neg h2]
 by_cases h3 : a ≤ k ∧ k < a + i
 ·rw [if_pos h3, if_pos (by omega)]
 rw [if_neg h3, if_neg (show ¬ (a ≤ k ∧ k < a + (i + 1)) by omega)]
 by_cases h4 : b ≤ k ∧ k < b + i
 ·rw [if_pos h4, if_pos (by omega)]
 ·rw [if_neg h4, if_neg (by omega)]
/-- What stood from m on stands first. -/
def Rot (a m b : Nat) (d d' : Array α) : Prop :=
 d'.size = d.size ∧ ∀ k, d'[k]! = if a ≤ k ∧ k < a + (b - m) then d[m + (k - a)]! else if a + (b - m) ≤ k ∧ k < b then d[a + (k - (a + (b - m)))]! else d[k]!
theorem Rot.nil1 (a b : Nat) (d : Array α) : Rot a a b d d := ⟨rfl, fun k => by
 by_cases h : a ≤ k ∧ k < a + (b - a)
 ·rw [if_pos h]; congr 1; omega
 ·rw [if_neg h]
  by_cases h2 : a + (b - a) ≤ k ∧ k < b
  ·omega
  ·rw [if_neg h2]⟩
theorem Rot.nil2 (a b : Nat) (d : Array α) : Rot a b b d d := ⟨rfl, fun k => by
 rw [if_neg (by omega)]
 by_cases h2 : a + (b - b) ≤ k ∧ k < b
 ·rw [if_pos h2]; congr 1; omega
 ·rw [if_neg h2]⟩
/-- The last exchange. -/
theorem Rot.last {m i : Nat} {d d' : Array α} (him : i ≤ m) (h : Xch (m - i) m i d d') : Rot (m - i) m (m + i) d d' := by
 refine ⟨h.1, fun k => ?_⟩
 rw [h.2]
 by_cases h1 : m - i ≤ k ∧ k < m - i + i
 ·rw [if_pos h1, if_pos (by omega)]
 rw [if_neg h1, if_neg (show ¬ (m - i ≤ k ∧ k < m - i + (m + i - m)) by omega)]
 by_cases h2 : m ≤ k ∧ k < m + i
 ·rw [if_pos h2, if_pos (by omega)]; congr 1; omega
 ·rw [if_neg h2, if_neg (by omega)]
theorem Rot.more {m i j : Nat} {d d1 d' : Array α} (him : i ≤ m) (hij : j < i) (h : Xch (m - i) m j d d1) (hr : Rot (m - (i - j)) m (m + j) d1 d') : Rot (m - i) m (m + j) d d' := by
 refine ⟨hr.1.trans h.1, fun k => ?_⟩
 rw [hr.2]
 by_cases h1 : m - (i - j) ≤ k ∧ k < m - (i - j) + (m + j - m)
 ·rw [if_pos h1, h.2, if_neg (by omega), if_pos (by omega)]
  by_cases h2 : m - i ≤ k ∧ k < m - i + (m + j - m)
  ·omega
  ·rw [if_neg h2, if_pos (by omega)]; congr 1; omega
 rw [if_neg h1]
 by_cases h2 : m - (i - j) + (m + j - m) ≤ k ∧ k < m + j
 ·rw [if_pos h2, h.2, if_neg (by omega), if_neg (by omega), if_neg (by omega), if_pos (by omega)]
  congr 1; omega
 rw [if_neg h2, h.2]
 by_cases h3 : m - i ≤ k ∧ k < m - i + j
 ·rw [if_pos h3, if_pos (by omega)]
 ·rw [if_neg h3, if_neg (by omega), if_neg (by omega), if_neg (by omega)]
theorem Rot.less {m i j : Nat} {d d1 d' : Array α} (him : i ≤ m) (hij : i < j) (h : Xch (m - i) (m + j - i) i d d1) (hr : Rot (m - i) m (m + (j - i)) d1 d') : Rot (m - i) m (m + j) d d' := by
 refine ⟨hr.1.trans h.1, fun k => ?_⟩
 rw [hr.2]
 by_cases h1 : m - i ≤ k ∧ k < m - i + (m + (j - i) - m)
 ·rw [if_pos h1, h.2, if_neg (by omega), if_pos (show m - i ≤ k ∧ k < m - i + (m + j - m) by omega)]
  by_cases h2 : m + j - i ≤ m + (k - (m - i)) ∧ m + (k - (m - i)) < m + j - i + i
  ·omega
  ·rw [if_neg h2]
 rw [if_neg h1]
 by_cases h2 : m - i + (m + (j - i) - m) ≤ k ∧ k < m + (j - i)
 ·rw [if_pos h2, h.2, if_pos (by omega)]
  by_cases h3 : m - i ≤ k ∧ k < m - i + (m + j - m)
  ·rw [if_pos h3]; congr 1; omega
  ·omega
 rw [if_neg h2, h.2, if_neg (by omega)]
 by_cases h3 : m + j - i ≤ k ∧ k < m + j - i + i
 ·rw [if_pos h3]
  by_cases h4 : m - i ≤ k ∧ k < m - i + (m + j - m)
  ·omega
  ·rw [if_neg h4, if_pos (by omega)]; congr 1; omega
 ·rw [if_neg h3, if_neg (by omega), if_neg (by omega)]
/-- One moved up, step by step. -/
theorem Rot.up {a k : Nat} {d d' : Array α} (h : Rot a (a + 1) (k + 1) d d') (hak : a ≤ k) (hk : k + 1 < d.size) : Rot a (a + 1) (k + 2) d (swp d' k (k + 1)) := by
 refine ⟨by rw [size_swp]; exact h.1, fun p => ?_⟩
 rw [swp_get d' (by rw [h.1]; omega) (by rw [h.1]; omega), h.2, h.2, h.2]
 by_cases h1 : p = k + 1
 ·subst h1
  rw [if_pos rfl]
  by_cases h2 : a ≤ k ∧ k < a + (k + 1 - (a + 1))
  ·omega
  ·rw [if_neg h2, if_pos (by omega), if_neg (by omega), if_pos (by omega)]; congr 1; omega
 rw [if_neg h1]
 by_cases h2 : p = k
 ·subst h2
  rw [if_pos rfl, if_neg (by omega), if_neg (by omega), if_pos (by omega)]; congr 1; omega
 rw [if_neg h2]
 by_cases h3 : a ≤ p ∧ p < a + (k + 1 - (a + 1))
 ·rw [if_pos h3, if_pos (by omega)]
 ·rw [if_neg h3, if_neg (by omega), if_neg (by omega), if_neg (by omega)]
/-- One moved down, step by step. -/
theorem Rot.down {m k : Nat} {d d' : Array α} (h : Rot (k + 1) m (m + 1) d d') (hkm : k + 1 ≤ m) (hm : m < d.size) : Rot k m (m + 1) d (swp d' (k + 1) k) := by
 refine ⟨by rw [size_swp]; exact h.1, fun p => ?_⟩
 rw [swp_get d' (by rw [h.1]; omega) (by rw [h.1]; omega), h.2, h.2, h.2]
 by_cases h1 : p = k
 ·subst h1
  rw [if_pos rfl, if_pos (by omega), if_pos (by omega)]; congr 1; omega
 rw [if_neg h1]
 by_cases h2 : p = k + 1
 ·subst h2
  rw [if_pos rfl, if_neg (by omega), if_neg (by omega), if_neg (by omega), if_pos (by omega)]; congr 1; omega
 rw [if_neg h2]
 by_cases h3 : k + 1 ≤ p ∧ p < k + 1 + (m + 1 - m)
 ·omega
 rw [if_neg h3]
 by_cases h4 : k + 1 + (m + 1 - m) ≤ p ∧ p < m + 1
 ·rw [if_pos h4, if_neg (by omega), if_pos (by omega)]; congr 1; omega
 ·rw [if_neg h4, if_neg (by omega), if_neg (by omega)]
/-- Two sorted runs, the first not above the second. -/
theorem sorted_join {a c b : Nat} {d : Array α} (h1 : SortedIn lt a c d) (h2 : SortedIn lt c b d) (h : ∀ i k, a ≤ i → i < c → c ≤ k → k < b → lt d[k]! d[i]! = false) : SortedIn lt a b d := fun i j hi hij hj => by
 by_cases hc : j < c
 ·exact h1 i j hi hij hc
 ·by_cases hc2 : i < c
  ·exact h i j hi hc2 (by omega) hj
  ·exact h2 i j (by omega) hij hj
theorem SortedIn.le (hS : SWO lt) {a b : Nat} {d : Array α} (h : SortedIn lt a b d) {i j : Nat} (hi : a ≤ i) (hij : i ≤ j) (hj : j < b) : lt d[j]! d[i]! = false := by
 rcases Nat.lt_or_ge i j with q | q
 ·exact h i j hi q hj
 ·obtain rfl : i = j := by omega
  exact hS.irrefl _
/-- What a search has found: the runs' parts that change places. -/
structure Cut (lt : α → α → Bool) (a m b s e : Nat) (d : Array α) : Prop where
 as : a ≤ s
 sm : s ≤ m
 me : m ≤ e
 eb : e ≤ b
 lo : s = a ∨ e = b ∨ lt d[e]! d[s - 1]! = false
 hi : e = m ∨ s = m ∨ lt d[e - 1]! d[s]! = true
/-- Behind the exchange: four runs, the first two not above the last two. -/
theorem Cut.parts (hS : SWO lt) {a m b s e : Nat} {d d1 : Array α} (c : Cut lt a m b s e d) (h1 : SortedIn lt a m d) (h2 : SortedIn lt m b d) (hr : Rot s m e d d1) :
  SortedIn lt a s d1 ∧ SortedIn lt s (s + (e - m)) d1 ∧ SortedIn lt (s + (e - m)) e d1 ∧ SortedIn lt e b d1 ∧ ∀ i k, a ≤ i → i < s + (e - m) → s + (e - m) ≤ k → k < b → lt d1[k]! d1[i]! = false := by
 obtain ⟨as, sm, me, eb, lo, hi⟩ := c
 refine ⟨fun i j p q r => ?_, fun i j p q r => ?_, fun i j p q r => ?_, fun i j p q r => ?_, fun i k p q r t => ?_⟩
 ·rw [hr.2, hr.2, if_neg (by omega), if_neg (by omega), if_neg (by omega), if_neg (by omega)]
  exact h1 i j p q (by omega)
 ·rw [hr.2, hr.2, if_pos (by omega), if_pos (by omega)]
  exact h2 _ _ (by omega) (by omega) (by omega)
 ·rw [hr.2, hr.2, if_neg (by omega), if_pos (by omega), if_neg (by omega), if_pos (by omega)]
  exact h1 _ _ (by omega) (by omega) (by omega)
 ·rw [hr.2, hr.2, if_neg (by omega), if_neg (by omega), if_neg (by omega), if_neg (by omega)]
  exact h2 i j (by omega) q r
 ·rw [hr.2 k, hr.2 i, if_neg (show ¬ (s ≤ k ∧ k < s + (e - m)) by omega)]
  by_cases hk : k < e
  ·rw [if_pos (show s + (e - m) ≤ k ∧ k < e by omega)]
   by_cases hi2 : i < s
   ·rw [if_neg (by omega), if_neg (by omega)]
    exact h1 _ _ p (by omega) (by omega)
   ·rw [if_pos (by omega)]
    rcases hi with q2 | q2 | q2
    ·omega
    ·omega
    ·have u1 : lt d[e - 1]! d[m + (i - s)]! = false := SortedIn.le hS h2 (by omega) (by omega) (by omega)
     have u2 : lt d[s + (k - (s + (e - m)))]! d[s]! = false := SortedIn.le hS h1 as (by omega) (by omega)
     have u3 : lt d[s]! d[e - 1]! = false := hS.asymmA q2
     exact hS.ntrans _ _ _ (hS.ntrans _ _ _ u2 u3) u1
  ·rw [if_neg (by omega)]
   by_cases hi2 : i < s
   ·rw [if_neg (by omega), if_neg (by omega)]
    rcases lo with q2 | q2 | q2
    ·omega
    ·omega
    ·have u1 : lt d[s - 1]! d[i]! = false := SortedIn.le hS h1 p (by omega) (by omega)
     have u2 : lt d[k]! d[e]! = false := SortedIn.le hS h2 me (by omega) t
     exact hS.ntrans _ _ _ (hS.ntrans _ _ _ u2 q2) u1
   ·rw [if_pos (by omega)]
    exact h2 _ _ (by omega) (by omega) t
theorem sorted_one (lt : α → α → Bool) {a b : Nat} (h : b ≤ a + 1) (d : Array α) : SortedIn lt a b d := fun i j p q r => by omega
/-- A part that another part's permutation leaves. -/
theorem sorted_far {a b c e : Nat} {d d' : Array α} (h : SortedIn lt a b d) (hp : PermIn c e d d') (hd : b ≤ c ∨ e ≤ a) : SortedIn lt a b d' := fun i j p q r => by
 rw [hp.2.1 i (by omega), hp.2.1 j (by omega)]
 exact h i j p q r
/-- The halves, each sorted: the whole is. -/
theorem halves {a c b : Nat} {d1 d2 d3 : Array α} (hb : b ≤ d1.size) (hcb : c ≤ b) (hx : ∀ i k, a ≤ i → i < c → c ≤ k → k < b → lt d1[k]! d1[i]! = false)
  (p2 : PermIn a c d1 d2) (s2 : SortedIn lt a c d2) (p3 : PermIn c b d2 d3) (s3 : SortedIn lt c b d3) : SortedIn lt a b d3 := by
 refine sorted_join (sorted_far s2 p3 (.inl (Nat.le_refl _))) s3 (fun i k q1 q2 q3 q4 => ?_)
 rw [p3.2.1 i (.inl q2)]
 refine permIn_all d2 d3 c b (fun y => lt y d2[i]! = false) (by rw [p2.1]; exact hb) p3 (fun k2 r1 r2 => ?_) k q3 q4
 rw [p2.2.1 k2 (.inr r1)]
 exact permIn_all d1 d2 a c (fun y => lt d1[k2]! y = false) (by omega) p2 (fun i2 r3 r4 => hx i2 k2 r3 r4 r1 r2) i q1 q2
omit [Inhabited α] in
theorem pre_true (hS : SWO lt) {x y z : α} (hle : lt y x = false) (h : lt y z = true) : lt x z = true := by
 cases q : lt x z with
 | true => rfl
 | false => rw [hS.ntrans _ _ _ hle q] at h; cases h
omit [Inhabited α] in
theorem post_true (hS : SWO lt) {x y z : α} (hle : lt y x = false) (h : lt z x = true) : lt z y = true := by
 cases q : lt z y with
 | true => rfl
 | false => rw [hS.ntrans _ _ _ q hle] at h; cases h
/-- One is put into a run behind it. -/
theorem up_done (hS : SWO lt) {a m b i : Nat} {d d' : Array α} (ham : m = a + 1) (hi : m ≤ i) (hib : i ≤ b) (h2 : SortedIn lt m b d) (lo : ∀ h, m ≤ h → h < i → lt d[h]! d[a]! = true) (hi2 : ∀ h, i ≤ h → h < b → lt d[h]! d[a]! = false)
  (hr : Rot a (a + 1) i d d') : SortedIn lt a b d' := by
 subst ham
 have c : Cut lt a (a + 1) b a i d := ⟨Nat.le_refl _, by omega, hi, hib, .inl rfl, by
  by_cases e : i = a + 1
  ·exact .inl e
  ·exact .inr (.inr (lo (i - 1) (by omega) (by omega)))⟩
 obtain ⟨_, p2, _, p4, p5⟩ := c.parts hS (sorted_one lt (by omega) d) h2 hr
 have e : a + (i - (a + 1)) = i - 1 := by omega
 rw [e] at p2 p5
 refine sorted_join p2 (sorted_join (c := i) (sorted_one lt (by omega) d') p4 (fun p q r1 r2 r3 r4 => ?_)) (fun p q r1 r2 r3 r4 => p5 p q r1 r2 r3 r4)
 obtain rfl : p = i - 1 := by omega
 rw [hr.2 q, hr.2 (i - 1), if_neg (by omega), if_neg (by omega), if_neg (by omega), if_pos (by omega)]
 rw [show a + (i - 1 - (a + (i - (a + 1)))) = a by omega]
 exact hi2 q r3 r4
/-- One is put into a run ahead of it. -/
theorem down_done (hS : SWO lt) {a m b i : Nat} {d d' : Array α} (hmb : b = m + 1) (hi : a ≤ i) (him : i ≤ m) (h1 : SortedIn lt a m d) (lo : ∀ h, a ≤ h → h < i → lt d[m]! d[h]! = false) (hi2 : ∀ h, i ≤ h → h < m → lt d[m]! d[h]! = true)
  (hr : Rot i m (m + 1) d d') : SortedIn lt a b d' := by
 subst hmb
 have c : Cut lt a m (m + 1) i (m + 1) d := ⟨hi, him, by omega, Nat.le_refl _, .inr (.inl rfl), by
  by_cases e : i = m
  ·exact .inr (.inl e)
  ·exact .inr (.inr (hi2 i (Nat.le_refl _) (by omega)))⟩
 obtain ⟨p1, _, p3, _, p5⟩ := c.parts hS h1 (sorted_one lt (by omega) d) hr
 have e : i + (m + 1 - m) = i + 1 := by omega
 rw [e] at p3 p5
 refine sorted_join (sorted_join p1 (sorted_one lt (by omega) d') (fun p q r1 r2 r3 r4 => ?_)) p3 (fun p q r1 r2 r3 r4 => p5 p q r1 r2 r3 r4)
 obtain rfl : q = i := by omega
 rw [hr.2 q, hr.2 p, if_pos (by omega), if_neg (by omega), if_neg (by omega), show m + (q - q) = m by omega]
 exact lo p r1 r2
/-- The two halves, behind the exchange: what each is to be merged of. -/
theorem halves_in (hS : SWO lt) {a m b mid s e : Nat} {d d1 : Array α} (hm : a < m ∧ m < b) (hmid : mid = (a + b) / 2) (hse : s + e = mid + m) (c : Cut lt a m b s e d) (h1 : SortedIn lt a m d) (h2 : SortedIn lt m b d) (hr : Rot s m e d d1) :
  s ≤ mid ∧ mid ≤ e ∧ a < mid ∧ mid < b ∧ SortedIn lt a s d1 ∧ SortedIn lt s mid d1 ∧ SortedIn lt mid e d1 ∧ SortedIn lt e b d1 ∧ ∀ i k, a ≤ i → i < mid → mid ≤ k → k < b → lt d1[k]! d1[i]! = false := by
 obtain ⟨p1, p2, p3, p4, p5⟩ := c.parts hS h1 h2 hr
 have := c.sm
 have := c.me
 have e1 : s + (e - m) = mid := by omega
 rw [e1] at p2 p3 p5
 exact ⟨by omega, by omega, by omega, by omega, p1, p2, p3, p4, p5⟩
/-- Blocks of a size are sorted. -/
def Blk (lt : α → α → Bool) (z n : Nat) (d : Array α) : Prop := ∀ t, SortedIn lt (t * z) (min (t * z + z) n) d
theorem Blk.whole {z n : Nat} {d : Array α} (h : Blk lt z n d) (hn : n ≤ z) : SortedIn lt 0 n d := by
 have := h 0
 rwa [Nat.zero_mul, Nat.zero_add, Nat.min_eq_right hn] at this
end St

namespace St
open Go.Sort
variable {α : Type} [Inhabited α] {lt : α → α → Bool}
omit [Inhabited α] in
theorem mul_lt {s t c : Nat} (h : s < t) : s * c + c ≤ t * c := by
 have := Nat.mul_le_mul_right c (show s + 1 ≤ t from h)
 rwa [Nat.add_mul, Nat.one_mul] at this
/-- So many blocks are sorted. -/
def One (lt : α → α → Bool) (c t : Nat) (d : Array α) : Prop := ∀ s, s < t → SortedIn lt (s * c) (s * c + c) d
theorem One.zero (lt : α → α → Bool) (c : Nat) (d : Array α) : One lt c 0 d := fun s h => by omega
theorem One.next {c t a : Nat} {d d' : Array α} (h : One lt c t d) (ha : t * c = a) (hp : PermIn a (a + c) d d') (hs : SortedIn lt a (a + c) d') : One lt c (t + 1) d' := fun s q => by
 by_cases e : s < t
 ·have := mul_lt (c := c) e
  exact sorted_far (h s e) hp (.inl (by omega))
 ·obtain rfl : s = t := by omega
  rw [ha]
  exact hs
theorem One.last {c t a z : Nat} {d d' : Array α} (h : One lt c t d) (ha : t * c = a) (haz : a ≤ z) (hz : z < a + c) (hp : PermIn a z d d') (hs : SortedIn lt a z d') : Blk lt c z d' := fun s => by
 by_cases e : s < t
 ·have := mul_lt (c := c) e
  rw [Nat.min_eq_left (by omega)]
  exact sorted_far (h s e) hp (.inl (by omega))
 ·by_cases e2 : s = t
  ·subst e2
   rw [ha, Nat.min_eq_right (by omega)]
   exact hs
  ·have := mul_lt (c := c) (show t < s by omega)
   rw [Nat.min_eq_right (by omega)]
   exact fun i j q1 q2 q3 => by omega
/-- So many pairs of blocks are one; the others are as they were. -/
structure Two (lt : α → α → Bool) (c z t : Nat) (d : Array α) : Prop where
 one : One lt (2 * c) t d
 all : ∀ s, 2 * t ≤ s → SortedIn lt (s * c) (min (s * c + c) z) d
theorem Two.zero {c z : Nat} {d : Array α} (h : Blk lt c z d) : Two lt c z 0 d := ⟨One.zero _ _ _, fun s _ => h s⟩
omit [Inhabited α] in
theorem two_mul_ {c t a : Nat} (ha : t * (2 * c) = a) : 2 * t * c = a ∧ (2 * t + 1) * c = a + c := by
 have : 2 * t * c = t * (2 * c) := by rw [Nat.mul_comm 2 t, Nat.mul_assoc]
 rw [Nat.add_mul, Nat.one_mul]
 omega
theorem Two.left {c z t a : Nat} {d : Array α} (h : Two lt c z t d) (ha : t * (2 * c) = a) (hz : a + c ≤ z) : SortedIn lt a (a + c) d := by
 have e := two_mul_ ha
 have := h.all (2 * t) (Nat.le_refl _)
 rwa [e.1, Nat.min_eq_left hz] at this
theorem Two.right {c z t a b : Nat} {d : Array α} (h : Two lt c z t d) (ha : t * (2 * c) = a) (hb : b = min (a + c + c) z) : SortedIn lt (a + c) b d := by
 have e := two_mul_ ha
 have := h.all (2 * t + 1) (by omega)
 rwa [e.2, ← hb] at this
theorem Two.alone {c z t a : Nat} {d : Array α} (h : Two lt c z t d) (ha : t * (2 * c) = a) (hz : z ≤ a + c) : SortedIn lt a z d := by
 have e := two_mul_ ha
 have := h.all (2 * t) (Nat.le_refl _)
 rwa [e.1, Nat.min_eq_right hz] at this
theorem Two.next {c z t a : Nat} {d d' : Array α} (h : Two lt c z t d) (ha : t * (2 * c) = a) (hp : PermIn a (a + 2 * c) d d') (hs : SortedIn lt a (a + 2 * c) d') : Two lt c z (t + 1) d' := by
 refine ⟨h.one.next ha hp hs, fun s q => sorted_far (h.all s (by omega)) hp (.inr ?_)⟩
 have e := two_mul_ ha
 have := Nat.mul_le_mul_right c (show 2 * t + 2 ≤ s by omega)
 have e2 : (2 * t + 2) * c = a + 2 * c := by rw [Nat.add_mul, e.1]
 omega
theorem Two.last {c z t a : Nat} {d d' : Array α} (h : Two lt c z t d) (ha : t * (2 * c) = a) (haz : a ≤ z) (hz : z < a + 2 * c) (hp : PermIn a z d d') (hs : SortedIn lt a z d') : Blk lt (2 * c) z d' := h.one.last ha haz hz hp hs
end St

