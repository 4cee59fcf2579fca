/- A subscription that came in, read: its cells. No conditions. -/
import Derived.Test.YtibkbimhedoafaaDoorMSubA
import Derived.WalkKit
import Derived.ProofKit
import Derived.OpenShut
import Derived.Lib.SmallJoins
namespace Go.Proofs.YtibkbimhedoafaaDoor.subrow
open Go.ChangeShapes Go.WideShapes Go.ChangeAt Go.RowKit Go.Joins Sb
open Go.Proofs.YtibkbimhedoafaaDoor.psub (sc)
theorem list10 {α : Type} {l : List α} (h : l.length = 10) : ∃ c0 c1 c2 c3 c4 c5 c6 c7 c8 c9, l = [c0, c1, c2, c3, c4, c5, c6, c7, c8, c9] := by
  match l, h with
  | [c0, c1, c2, c3, c4, c5, c6, c7, c8, c9], _ => exact ⟨c0, c1, c2, c3, c4, c5, c6, c7, c8, c9, rfl⟩
theorem list8 {α : Type} {l : List α} (h : l.length = 8) : ∃ c0 c1 c2 c3 c4 c5 c6 c7, l = [c0, c1, c2, c3, c4, c5, c6, c7] := by
  match l, h with
  | [c0, c1, c2, c3, c4, c5, c6, c7], _ => exact ⟨c0, c1, c2, c3, c4, c5, c6, c7, rfl⟩
theorem cS : Tryd.prog.cellsOf 26 = 10 := by kernel_rfl
theorem cC : Tryd.prog.cellsOf 24 = 3 := by kernel_rfl
theorem cU : Tryd.prog.cellsOf 22 = 1 := by kernel_rfl
theorem cI : Tryd.prog.cellsOf 3 = 1 := by kernel_rfl
theorem cL : Tryd.prog.cellsOf 2 = 1 := by kernel_rfl
theorem sub_cells {H : Type} {enc : TypeId × Value → H} {W : World} {base fuel : Nat} {spare : Nat → Bool} {held : Bool} {cs : List Value} {y : DataW H × List MemPlace}
    (h : DataW.trod enc Tryd.prog W base spare held fuel 26 cs = some y) (hl : cs.length = 10) : ∃ x : Su, cs = (sc x).toList := by
  obtain ⟨xs, n, rfl, _, _, hlen, hg⟩ := DataW.trod_struct Tryd.underlying26 h
  obtain ⟨y0, y1, y2, y3, y4, y5, y6, y7, rfl⟩ := list8 (by simpa using hlen)
  obtain ⟨c0, c1, c2, c3, c4, c5, c6, c7, c8, c9, rfl⟩ := list10 hl
  have g0 : DataW.trod enc Tryd.prog W base spare held n 22 [c0] = some y0 := by simpa [cU] using hg 0 _ rfl
  have g1 : DataW.trod enc Tryd.prog W base spare held n 22 [c1] = some y1 := by simpa [cU] using hg 1 _ rfl
  have g2 : DataW.trod enc Tryd.prog W base spare held n 22 [c2] = some y2 := by simpa [cU] using hg 2 _ rfl
  have g3 : DataW.trod enc Tryd.prog W base spare held n 24 [c3, c4, c5] = some y3 := by simpa [cC] using hg 3 _ rfl
  have g4 : DataW.trod enc Tryd.prog W base spare held n 2 [c6] = some y4 := by simpa [cL] using hg 4 _ rfl
  have g5 : DataW.trod enc Tryd.prog W base spare held n 3 [c7] = some y5 := by simpa [cI] using hg 5 _ rfl
  have g6 : DataW.trod enc Tryd.prog W base spare held n 3 [c8] = some y6 := by simpa [cI] using hg 6 _ rfl
  have g7 : DataW.trod enc Tryd.prog W base spare held n 3 [c9] = some y7 := by simpa [cI] using hg 7 _ rfl
  clear hg h
  obtain ⟨a0, e0, _, _⟩ := DataW.trod_int Tryd.underlying22 g0
  obtain ⟨a1, e1, _, _⟩ := DataW.trod_int Tryd.underlying22 g1
  obtain ⟨a2, e2, _, _⟩ := DataW.trod_int Tryd.underlying22 g2
  obtain ⟨zs, m, _, _, _, hlen3, hg3⟩ := DataW.trod_struct Tryd.underlying24 g3
  have l3 : zs.length = 3 := by simpa using hlen3
  have k0 : DataW.trod enc Tryd.prog W base spare held m 3 [c3] = some (zs[0]'(by omega)) := by simpa [cI, l3] using hg3 0 _ rfl
  have k1 : DataW.trod enc Tryd.prog W base spare held m 3 [c4] = some (zs[1]'(by omega)) := by simpa [cI, l3] using hg3 1 _ rfl
  have k2 : DataW.trod enc Tryd.prog W base spare held m 3 [c5] = some (zs[2]'(by omega)) := by simpa [cI, l3] using hg3 2 _ rfl
  obtain ⟨a3, e3, _, _⟩ := DataW.trod_int Tryd.underlying3 k0
  obtain ⟨a4, e4, _, _⟩ := DataW.trod_int Tryd.underlying3 k1
  obtain ⟨a5, e5, _, _⟩ := DataW.trod_int Tryd.underlying3 k2
  obtain ⟨a6, e6, _, _⟩ := DataW.trod_int Tryd.underlying2 g4
  obtain ⟨a7, e7, _, _⟩ := DataW.trod_int Tryd.underlying3 g5
  obtain ⟨a8, e8, _, _⟩ := DataW.trod_int Tryd.underlying3 g6
  obtain ⟨a9, e9, _, _⟩ := DataW.trod_int Tryd.underlying3 g7
  simp only [List.cons.injEq, and_true] at e0 e1 e2 e3 e4 e5 e6 e7 e8 e9
  subst e0 e1 e2 e3 e4 e5 e6 e7 e8 e9
  exact ⟨⟨a0, a1, a2, a3, a4, a5, a6, a7, a8, a9⟩, rfl⟩
set_option maxRecDepth 100000 in
theorem sub_open {H : Type} {enc : TypeId × Value → H} {W : World} {r : Reach} {base b0 : Nat} {spare : Nat → Bool} {held : Bool} {v : Value} {d : DataW H} {p : List MemPlace}
    (hv : Value.okWide Tryd.prog W r b0 26 v) (h : DataW.Trod enc Tryd.prog W base spare held 26 v d p) : ∃ x : Su, v = .agg (sc x) := by
  obtain ⟨cs, rfl, hsz⟩ := okWide_struct Tryd.underlying26 hv
  obtain ⟨fuel, hf⟩ := h
  have hl : cs.toList.length = 10 := by rw [Array.length_toList]; exact hsz.trans cS
  have hf' : DataW.trod enc Tryd.prog W base spare held fuel 26 cs.toList = some (d, p) := hf
  obtain ⟨x, hx⟩ := sub_cells hf' hl
  exact ⟨x, by rw [Array.toList_inj.1 hx]⟩
end Go.Proofs.YtibkbimhedoafaaDoor.subrow
