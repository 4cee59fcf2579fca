/- Stable sorting by blocks: which blocks are sorted. Plain laws. No conditions. -/
import Derived.Test.YtlllgfkdapjomaaStabMath
namespace St
open Go.Sort
variable {α : Type} [Inhabited α] {lt : α → α → Bool}
omit [Inhabited α] in
theorem mul_lt {s t c : Nat} (h : s < t) : s * c + c ≤ t * c := by
  have := Nat.mul_le_mul_right c (show s + 1 ≤ t from h)
  rwa [Nat.add_mul, Nat.one_mul] at this
/-- So many blocks are sorted. -/
def One (lt : α → α → Bool) (c t : Nat) (d : Array α) : Prop := ∀ s, s < t → SortedIn lt (s * c) (s * c + c) d
theorem One.zero (lt : α → α → Bool) (c : Nat) (d : Array α) : One lt c 0 d := fun s h => by omega
theorem One.next {c t a : Nat} {d d' : Array α} (h : One lt c t d) (ha : t * c = a) (hp : PermIn a (a + c) d d') (hs : SortedIn lt a (a + c) d') : One lt c (t + 1) d' := fun s q => by
  by_cases e : s < t
  · have := mul_lt (c := c) e
    exact sorted_far (h s e) hp (.inl (by omega))
  · obtain rfl : s = t := by omega
    rw [ha]
    exact hs
theorem One.last {c t a z : Nat} {d d' : Array α} (h : One lt c t d) (ha : t * c = a) (haz : a ≤ z) (hz : z < a + c) (hp : PermIn a z d d') (hs : SortedIn lt a z d') : Blk lt c z d' := fun s => by
  by_cases e : s < t
  · have := mul_lt (c := c) e
    rw [Nat.min_eq_left (by omega)]
    exact sorted_far (h s e) hp (.inl (by omega))
  · by_cases e2 : s = t
    · subst e2
      rw [ha, Nat.min_eq_right (by omega)]
      exact hs
    · have := mul_lt (c := c) (show t < s by omega)
      rw [Nat.min_eq_right (by omega)]
      exact fun i j q1 q2 q3 => by omega
/-- So many pairs of blocks are one; the others are as they were. -/
structure Two (lt : α → α → Bool) (c z t : Nat) (d : Array α) : Prop where
  one : One lt (2 * c) t d
  all : ∀ s, 2 * t ≤ s → SortedIn lt (s * c) (min (s * c + c) z) d
theorem Two.zero {c z : Nat} {d : Array α} (h : Blk lt c z d) : Two lt c z 0 d := ⟨One.zero _ _ _, fun s _ => h s⟩
omit [Inhabited α] in
theorem two_mul_ {c t a : Nat} (ha : t * (2 * c) = a) : 2 * t * c = a ∧ (2 * t + 1) * c = a + c := by
  have : 2 * t * c = t * (2 * c) := by rw [Nat.mul_comm 2 t, Nat.mul_assoc]
  rw [Nat.add_mul, Nat.one_mul]
  omega
theorem Two.left {c z t a : Nat} {d : Array α} (h : Two lt c z t d) (ha : t * (2 * c) = a) (hz : a + c ≤ z) : SortedIn lt a (a + c) d := by
  have e := two_mul_ ha
  have := h.all (2 * t) (Nat.le_refl _)
  rwa [e.1, Nat.min_eq_left hz] at this
theorem Two.right {c z t a b : Nat} {d : Array α} (h : Two lt c z t d) (ha : t * (2 * c) = a) (hb : b = min (a + c + c) z) : SortedIn lt (a + c) b d := by
  have e := two_mul_ ha
  have := h.all (2 * t + 1) (by omega)
  rwa [e.2, ← hb] at this
theorem Two.alone {c z t a : Nat} {d : Array α} (h : Two lt c z t d) (ha : t * (2 * c) = a) (hz : z ≤ a + c) : SortedIn lt a z d := by
  have e := two_mul_ ha
  have := h.all (2 * t) (Nat.le_refl _)
  rwa [e.1, Nat.min_eq_right hz] at this
theorem Two.next {c z t a : Nat} {d d' : Array α} (h : Two lt c z t d) (ha : t * (2 * c) = a) (hp : PermIn a (a + 2 * c) d d') (hs : SortedIn lt a (a + 2 * c) d') : Two lt c z (t + 1) d' := by
  refine ⟨h.one.next ha hp hs, fun s q => sorted_far (h.all s (by omega)) hp (.inr ?_)⟩
  have e := two_mul_ ha
  have := Nat.mul_le_mul_right c (show 2 * t + 2 ≤ s by omega)
  have e2 : (2 * t + 2) * c = a + 2 * c := by rw [Nat.add_mul, e.1]
  omega
theorem Two.last {c z t a : Nat} {d d' : Array α} (h : Two lt c z t d) (ha : t * (2 * c) = a) (haz : a ≤ z) (hz : z < a + 2 * c) (hp : PermIn a z d d') (hs : SortedIn lt a z d') : Blk lt (2 * c) z d' := h.one.last ha haz hz hp hs
end St
