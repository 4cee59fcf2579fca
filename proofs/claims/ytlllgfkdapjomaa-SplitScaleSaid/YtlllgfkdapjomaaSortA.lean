/- The row that is sorted: what its cells hold, and what a store turns. No conditions. -/
import Derived.Test.YtlllgfkdapjomaaStabMath
import Derived.Test.YtlllgfkdapjomaaBase
import Derived.Test.YtlllgfkdapjomaaWWords
namespace St
/-- A slice, its rest, its place. -/
structure Sh where
  q : Int
  r : Int
  p : Int
instance : Inhabited Sh := ⟨⟨0, 0, 0⟩⟩
end St
namespace Go.Proofs.Ytlllgfkdapjomaa.srt
open Go.RowKit Go.Proofs.Ytlllgfkdapjomaa.base St
open Go.Sort (swp PermIn SortedIn SWO swp_get size_swp permIn_trans permIn_refl swp_permIn permIn_mono permIn_all)
open Go.Proofs.YtlllgfkdapjomaaW.PrintWords
abbrev TSh : TypeId := 45
/-- The row holds these; all else is as it was. -/
structure SR (w0 : World) (b : Nat) (d : Array Sh) (W : World) : Prop where
  row : ∃ c : Array Value, W.heap[b]? = some (.cells c TSh (0, 0)) ∧ d.size * 3 ≤ c.size ∧ ∀ i, i < d.size → c[i * 3]? = some (.int .i64 d[i]!.q) ∧ c[i * 3 + 1]? = some (.int .i64 d[i]!.r) ∧ c[i * 3 + 2]? = some (.int .i64 d[i]!.p)
  os : W.os = w0.os
  tape : W.tape = w0.tape
  output : W.output = w0.output
  size : w0.heap.size ≤ W.heap.size
  block : ∀ k, k < w0.heap.size → k ≠ b → W.heap[k]? = w0.heap[k]?
  bd : ∀ i, i < d.size → 0 ≤ d[i]!.p ∧ d[i]!.p ≤ 5000
variable {w0 W V : World} {b : Nat} {d : Array Sh}
theorem SR.lt (h : SR w0 b d W) : b < W.heap.size := by
  obtain ⟨c, hc, _⟩ := h.row
  exact (Array.getElem?_eq_some_iff.1 hc).1
theorem SR.cell (h : SR w0 b d W) {i : Nat} (hi : i < d.size) : W.cell? ⟨b, i * 3, none⟩ = some (.int .i64 d[i]!.q) ∧ W.cell? ⟨b, i * 3 + 1, none⟩ = some (.int .i64 d[i]!.r) ∧ W.cell? ⟨b, i * 3 + 2, none⟩ = some (.int .i64 d[i]!.p) := by
  obtain ⟨c, hc, _, hx⟩ := h.row
  obtain ⟨h0, h1, h2⟩ := hx i hi
  exact ⟨(blk_cell hc _).trans h0, (blk_cell hc _).trans h1, (blk_cell hc _).trans h2⟩
theorem SR.frozen (h : SR w0 b d W) (i : Nat) : W.frozen? ⟨b, i, none⟩ = false := by
  obtain ⟨c, hc, _⟩ := h.row
  exact blk_frozen hc i
theorem SR.below (h : SR w0 b d W) (hB : Below W.heap.size W V) : SR w0 b d V := by
  obtain ⟨c, hc, hs, hx⟩ := h.row
  exact ⟨⟨c, (hB.block b h.lt).trans hc, hs, hx⟩, hB.os.trans h.os, hB.tape.trans h.tape, hB.output.trans h.output, Nat.le_trans h.size hB.size, fun k hk hne => (hB.block k (Nat.lt_of_lt_of_le hk h.size)).trans (h.block k hk hne), h.bd⟩
theorem SR.drew (h : SR w0 b d W) : SR w0 b d W.drew := h.below (Below.refl _ _).drew
theorem get_set (d : Array Sh) {x : Nat} (hx : x < d.size) (s : Sh) (k : Nat) : (d.setIfInBounds x s)[k]! = if k = x then s else d[k]! := by
  by_cases hk : k < d.size
  · rw [getElem!_pos _ k (by simpa using hk), getElem!_pos d k hk, Array.getElem_setIfInBounds]
    by_cases e : k = x
    · subst e; simp
    · rw [if_neg (Ne.symm e), if_neg e]
  · rw [getElem!_neg _ k (by simpa using hk), getElem!_neg d k hk, if_neg (by omega)]
def set3 (W : World) (b x : Nat) (s : Sh) : World := ((W.setCell ⟨b, x * 3, none⟩ (.int .i64 s.q)).setCell ⟨b, x * 3 + 1, none⟩ (.int .i64 s.r)).setCell ⟨b, x * 3 + 2, none⟩ (.int .i64 s.p)
theorem SR.set (h : SR w0 b d W) {x : Nat} (hx : x < d.size) (s : Sh) (hs : 0 ≤ s.p ∧ s.p ≤ 5000) : SR w0 b (d.setIfInBounds x s) (set3 W b x s) := by
  obtain ⟨c, hc, hz, hcell⟩ := h.row
  have hh : (set3 W b x s).heap[b]? = some (.cells (((c.setIfInBounds (x * 3) (.int .i64 s.q)).setIfInBounds (x * 3 + 1) (.int .i64 s.r)).setIfInBounds (x * 3 + 2) (.int .i64 s.p)) TSh (0, 0)) :=
    blk_set (blk_set (blk_set hc _ _) _ _) _ _
  refine ⟨⟨_, hh, by simpa using hz, fun i hi => ?_⟩, h.os, h.tape, h.output, ?_, fun k hk hne => ?_, fun i hi => ?_⟩
  · simp only [Array.size_setIfInBounds] at hi
    rw [get_set d hx]
    simp only [Array.getElem?_setIfInBounds, Array.size_setIfInBounds]
    by_cases e : i = x
    · subst e
      have e1 : (if i = i then s else d[i]!) = s := if_pos rfl
      rw [e1]
      refine ⟨?_, ?_, ?_⟩
      · rw [if_neg (by omega), if_neg (by omega), if_pos rfl, if_pos (by omega)]
      · rw [if_neg (by omega), if_pos rfl, if_pos (by omega)]
      · rw [if_pos rfl, if_pos (by omega)]
    · rw [if_neg e]
      obtain ⟨h0, h1, h2⟩ := hcell i hi
      refine ⟨?_, ?_, ?_⟩
      · rw [if_neg (by omega), if_neg (by omega), if_neg (by omega)]; exact h0
      · rw [if_neg (by omega), if_neg (by omega), if_neg (by omega)]; exact h1
      · rw [if_neg (by omega), if_neg (by omega), if_neg (by omega)]; exact h2
  · have := h.size
    simpa [set3] using this
  · exact (Below.heap_setCell _ _ _ k hne).trans ((Below.heap_setCell _ _ _ k hne).trans ((Below.heap_setCell _ _ _ k hne).trans (h.block k hk hne)))
  · simp only [Array.size_setIfInBounds] at hi
    rw [get_set d hx]
    by_cases e : i = x
    · rw [if_pos e]; exact hs
    · rw [if_neg e]; exact h.bd i hi
/-- Two change places. -/
theorem SR.swap (h : SR w0 b d W) {x y : Nat} (hx : x < d.size) (hy : y < d.size) : SR w0 b (swp d x y) (set3 (set3 W b x d[y]!) b y d[x]!) :=
  (h.set hx d[y]! (h.bd y hy)).set (by simpa using hy) d[x]! (h.bd x hx)
end Go.Proofs.Ytlllgfkdapjomaa.srt
