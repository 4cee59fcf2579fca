/- A slice of changes that came in, read: its cells. No conditions. -/
import Derived.Test.YtibkbimhedoafaaDoorSubRow
import Derived.Test.YtibkbimhedoafaaDoorMNet
import Derived.Deep.Slices
import Derived.OpenShut
namespace Go.Proofs.YtibkbimhedoafaaDoor.subrow
open Go.RowKit Go.Proofs.YtibkbimhedoafaaDoor.psub Sb Go.WideShapes Go.Joins Go.Deep Go.Proofs.YtibkbimhedoafaaDoor.law23
theorem cT : Tryd.prog.cellsOf 61 = 3 := by kernel_rfl
theorem cO : Tryd.prog.cellsOf 28 = 2 := by kernel_rfl
theorem c8 : Tryd.prog.cellsOf 5 = 1 := by kernel_rfl
theorem list2 {α : Type} {l : List α} (h : l.length = 2) : ∃ c0 c1, l = [c0, c1] := by
  match l, h with
  | [a, b], _ => exact ⟨a, b, rfl⟩
theorem list3 {α : Type} {l : List α} (h : l.length = 3) : ∃ c0 c1 c2, l = [c0, c1, c2] := by
  match l, h with
  | [a, b, c], _ => exact ⟨a, b, c, rfl⟩
theorem turn_cells {H : Type} {enc : TypeId × Value → H} {W : World} {base fuel : Nat} {spare : Nat → Bool} {held : Bool} {cs : List Value} {y : DataW H × List MemPlace}
    (h : DataW.trod enc Tryd.prog W base spare held fuel 61 cs = some y) (hl : cs.length = 3) : ∃ t : Tn, cs = [.int .u8 t.d, .int .u64 t.p, .int .i64 t.q] ∧ 0 ≤ t.d ∧ t.d ≤ 255 := by
  obtain ⟨xs, n, rfl, _, _, hlen, hg⟩ := DataW.trod_struct Tryd.underlying61 h
  obtain ⟨y0, y1, rfl⟩ := list2 (by simpa using hlen)
  obtain ⟨c0, c1, c2, rfl⟩ := list3 hl
  have g0 : DataW.trod enc Tryd.prog W base spare held n 5 [c0] = some y0 := by simpa [c8] using hg 0 _ rfl
  have g1 : DataW.trod enc Tryd.prog W base spare held n 28 [c1, c2] = some y1 := by simpa [cO, c8] using hg 1 _ rfl
  clear hg h
  obtain ⟨a0, e0, _, w0⟩ := DataW.trod_int Tryd.underlying5 g0
  obtain ⟨zs, m, _, _, _, hlen3, hg3⟩ := DataW.trod_struct Tryd.underlying28 g1
  have l3 : zs.length = 2 := by simpa using hlen3
  have k0 : DataW.trod enc Tryd.prog W base spare held m 22 [c1] = some (zs[0]'(by omega)) := by simpa [cU, cL, l3] using hg3 0 _ rfl
  have k1 : DataW.trod enc Tryd.prog W base spare held m 2 [c2] = some (zs[1]'(by omega)) := by simpa [cU, cL, l3] using hg3 1 _ rfl
  obtain ⟨a1, e1, _, _⟩ := DataW.trod_int Tryd.underlying22 k0
  obtain ⟨a2, e2, _, _⟩ := DataW.trod_int Tryd.underlying2 k1
  simp only [List.cons.injEq, and_true] at e0 e1 e2
  subst e0 e1 e2
  have hb : 0 ≤ a0 ∧ a0 ≤ 255 := bounds_u8 w0
  exact ⟨⟨a0, a1, a2⟩, rfl, hb.1, hb.2⟩
theorem add_off (a : Addr) (j : Nat) (h : j ≠ 0) : a.add j = ⟨a.block, a.off + j, none⟩ := by unfold Addr.add; rw [if_neg h]
set_option maxRecDepth 100000 in
theorem turns_open {H : Type} {enc : TypeId × Value → H} {W : World} {r : Reach} {base b0 : Nat} {spare : Nat → Bool} {held : Bool} {v : Value} {d : DataW H} {p : List MemPlace}
    (hv : Value.okWide Tryd.prog W r b0 58 v) (h : DataW.Trod enc Tryd.prog W base spare held 58 v d p) :
    ∃ (A : Option Addr) (n c : Nat) (ts : Int → Tn), v = .slice A n c ∧ n ≤ 9223372036854775807 ∧ ∀ i : Int, 0 ≤ i → i < n → ∃ ad, A = some ad ∧ Ts W ad i (ts i) := by
  obtain ⟨a, len, cap, rfl⟩ := okWide_slice Tryd.underlying58 hv
  obtain ⟨fuel, hf⟩ := h
  rcases open_slice Tryd.underlying58 hf with ⟨hcs, _⟩ | ⟨a', len', cap', m, n, D, Pl, hcs, hb, hl, hm, hmm, _, hx⟩
  · have : (Value.slice a len cap).cells.toList = [.slice none 0 0] := hcs
    simp [Value.cells] at this
    obtain ⟨rfl, rfl, rfl⟩ := this
    exact ⟨none, 0, 0, fun _ => ⟨0, 0, 0⟩, rfl, by omega, fun i h0 h1 => by simp at h1; omega⟩
  · have : (Value.slice a len cap).cells.toList = [.slice (some a') len' cap'] := hcs
    simp [Value.cells] at this
    obtain ⟨rfl, rfl, rfl⟩ := this
    have hlm : len ≤ m := by rw [hmm]; split <;> omega
    have key : ∀ i : Int, 0 ≤ i → i < len → ∃ t : Tn, Ts W a' i t := fun i h0 h1 => by
      obtain ⟨cs', hc, ht⟩ := hx i.toNat (by omega)
      rw [cT] at hc
      obtain ⟨_, hlen, hcell⟩ := World.cells?_some hc
      obtain ⟨t, rfl, hd0, hd1⟩ := turn_cells ht hlen
      have q0 := hcell 0 (by omega)
      have q1 := hcell 1 (by omega)
      have q2 := hcell 2 (by omega)
      rw [add_off _ 1 (by decide)] at q1
      rw [add_off _ 2 (by decide)] at q2
      exact ⟨t, by simpa [Addr.add] using q0, by simpa using q1, by simpa using q2, hd0, hd1⟩
    refine ⟨some a', len, cap, fun i => if h : 0 ≤ i ∧ i < len then (key i h.1 h.2).choose else ⟨0, 0, 0⟩, rfl, by unfold maxLen at hm; omega, fun i h0 h1 => ⟨a', rfl, ?_⟩⟩
    show Ts W a' i (if h : 0 ≤ i ∧ i < len then (key i h.1 h.2).choose else ⟨0, 0, 0⟩)
    rw [dif_pos ⟨h0, h1⟩]
    exact (key i h0 h1).choose_spec
end Go.Proofs.YtibkbimhedoafaaDoor.subrow
