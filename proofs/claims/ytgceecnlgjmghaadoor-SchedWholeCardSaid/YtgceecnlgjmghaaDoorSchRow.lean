/- Schedules, acts, terms and lists of numbers that came in, read: their cells. No conditions. -/
import Derived.Test.YtgceecnlgjmghaaDoorMSc1
import Derived.WalkKit
import Derived.ProofKit
import Derived.OpenShut
import Derived.Deep.Slices
import Derived.Lib.SmallJoins
namespace Go.Proofs.YtgceecnlgjmghaaDoor.schrow
open Go.ChangeShapes Go.WideShapes Go.ChangeAt Go.RowKit Go.Joins Go.Deep Go.Proofs.YtgceecnlgjmghaaDoorW.PrintWords Go.Proofs.YtgceecnlgjmghaaDoor.sch
theorem add_add (a : Addr) (x y : Nat) : (a.add x).add y = a.add (x + y) := by
 unfold Addr.add
 by_cases hx : x = 0
 ·subst hx
  by_cases hy : y = 0
  ·subst hy; simp
  ·simp [hy]
 ·by_cases hy : y = 0
  ·subst hy; simp [hx]
  ·simp [hx, hy, Nat.add_assoc]
theorem row_open {α : Type} {R : α → List Value → Prop} {H : Type} {enc : TypeId × Value → H} {W : World} {base sz : Nat} {spare : Nat → Bool} {held : Bool} {t e : TypeId}
  (hu : Tryd.prog.underlying t = some (.slice e)) (hc : Tryd.prog.cellsOf e = sz) (hx : ∀ {n : Nat} {cs : List Value} {y : DataW H × List MemPlace}, DataW.trod enc Tryd.prog W base spare held n e cs = some y → cs.length = sz → ∃ x, R x cs)
  {fuel : Nat} {cs : List Value} {y : DataW H × List MemPlace} (h : DataW.trod enc Tryd.prog W base spare held fuel t cs = some y) :
  ∃ (A : Option Addr) (c : Nat) (l : List α), cs = [.slice A l.length c] ∧ l.length ≤ c ∧ ReadsRow R sz W A l.length l := by
 rcases open_slice hu h with ⟨rfl, _⟩ | ⟨a, len, cap, m, n, D, Pl, rfl, hb, hl, hm, hmm, _, hel⟩
 ·exact ⟨none, 0, [], rfl, Nat.le_refl _, rfl, by simp, fun h => absurd h (by simp)⟩
 ·have hlm : len ≤ m := by rw [hmm]; split <;> omega
  have key : ∀ i, i < len → ∃ x : α, ∃ cs', cs'.length = sz ∧ R x cs' ∧ ∀ j u, cs'[j]? = some u → W.cell? (a.add (i * sz + j)) = some u := fun i hi => by
   obtain ⟨cs', h1, h2⟩ := hel i (by omega)
   rw [hc] at h1
   obtain ⟨_, h3, h4⟩ := World.cells?_some h1
   obtain ⟨x, hx'⟩ := hx h2 h3
   refine ⟨x, cs', h3, hx', fun j u hu => ?_⟩
   have hj : j < sz := by have := (List.getElem?_eq_some_iff.1 hu).1; omega
   have := h4 j hj
   rw [add_add, hu] at this
   exact this
  let l : List α := (List.finRange len).map fun i => (key i.1 i.2).choose
  have hll : l.length = len := by simp [l]
  refine ⟨some a, cap, l, by rw [hll], by omega, rfl, by rw [hll]; unfold maxLen at hm; omega, fun _ => ⟨a, rfl, fun j p hj => ?_⟩⟩
  have hjl : j < len := by have := (List.getElem?_eq_some_iff.1 hj).1; omega
  have hp : p = (key j hjl).choose := by
   have := (List.getElem?_eq_some_iff.1 hj).2
   rw [← this]
   simp [l]
  rw [hp]
  exact (key j hjl).choose_spec
theorem list2 {α : Type} {l : List α} (h : l.length = 2) : ∃ c0 c1, l = [c0, c1] := by
 match l, h with
 | [a, b], _ => exact ⟨a, b, rfl⟩
theorem list3 {α : Type} {l : List α} (h : l.length = 3) : ∃ c0 c1 c2, l = [c0, c1, c2] := by
 match l, h with
 | [a, b, c], _ => exact ⟨a, b, c, rfl⟩
theorem list4 {α : Type} {l : List α} (h : l.length = 4) : ∃ c0 c1 c2 c3, l = [c0, c1, c2, c3] := by
 match l, h with
 | [a, b, c, d], _ => exact ⟨a, b, c, d, rfl⟩
theorem list5 {α : Type} {l : List α} (h : l.length = 5) : ∃ c0 c1 c2 c3 c4, l = [c0, c1, c2, c3, c4] := by
 match l, h with
 | [a, b, c, d, e], _ => exact ⟨a, b, c, d, e, rfl⟩
theorem cB : Tryd.prog.cellsOf 4 = 1 := by kernel_rfl
theorem cU : Tryd.prog.cellsOf 22 = 1 := by kernel_rfl
theorem c8 : Tryd.prog.cellsOf 5 = 1 := by kernel_rfl
theorem cI : Tryd.prog.cellsOf 3 = 1 := by kernel_rfl
theorem cL : Tryd.prog.cellsOf 2 = 1 := by kernel_rfl
theorem cSl : Tryd.prog.cellsOf 61 = 3 := by kernel_rfl
theorem cSc : Tryd.prog.cellsOf 25 = 5 := by kernel_rfl
theorem cRow : Tryd.prog.cellsOf 23 = 1 := by kernel_rfl
section
variable {H : Type} {enc : TypeId × Value → H} {W : World} {base b0 : Nat} {r : Reach} {spare : Nat → Bool} {held : Bool} {fuel : Nat} {cs : List Value} {y : DataW H × List MemPlace} {v : Value} {d : DataW H} {p : List MemPlace}
theorem slc_cells (h : DataW.trod enc Tryd.prog W base spare held fuel 61 cs = some y) (hl : cs.length = 3) : ∃ x : Sl, PH.k61.K W x cs := by
 obtain ⟨xs, n, rfl, _, _, hlen, hg⟩ := DataW.trod_struct Tryd.underlying61 h
 obtain ⟨y0, y1, y2, rfl⟩ := list3 (by simpa using hlen)
 obtain ⟨c0, c1, c2, rfl⟩ := list3 hl
 have g0 : DataW.trod enc Tryd.prog W base spare held n 3 [c0] = some y0 := by simpa [cI] using hg 0 _ rfl
 have g1 : DataW.trod enc Tryd.prog W base spare held n 2 [c1] = some y1 := by simpa [cL] using hg 1 _ rfl
 have g2 : DataW.trod enc Tryd.prog W base spare held n 4 [c2] = some y2 := by simpa [cB] using hg 2 _ rfl
 obtain ⟨a0, e0, _, _⟩ := DataW.trod_int Tryd.underlying3 g0
 obtain ⟨a1, e1, _, _⟩ := DataW.trod_int Tryd.underlying2 g1
 obtain ⟨a2, e2, _⟩ := DataW.trod_bool Tryd.underlying4 g2
 simp only [List.cons.injEq, and_true] at e0 e1 e2
 subst e0 e1 e2
 exact ⟨⟨a0, a1, a2⟩, PH.k61_mk _ _⟩
theorem sch_cells (h : DataW.trod enc Tryd.prog W base spare held fuel 25 cs = some y) (hl : cs.length = 5) :
  ∃ (a0 a1 a2 a3 : Int) (A : Option Addr) (c : Nat) (l : List Sl), cs = [.int .u64 a0, .int .u64 a1, .int .i64 a2, .int .u8 a3, .slice A l.length c] ∧ l.length ≤ c ∧ Csl W A l := by
 obtain ⟨xs, n, rfl, _, _, hlen, hg⟩ := DataW.trod_struct Tryd.underlying25 h
 obtain ⟨y0, y1, y2, y3, y4, rfl⟩ := list5 (by simpa using hlen)
 obtain ⟨c0, c1, c2, c3, c4, rfl⟩ := list5 hl
 have g0 : DataW.trod enc Tryd.prog W base spare held n 22 [c0] = some y0 := by simpa [cU] using hg 0 _ rfl
 have g1 : DataW.trod enc Tryd.prog W base spare held n 22 [c1] = some y1 := by simpa [cU] using hg 1 _ rfl
 have g2 : DataW.trod enc Tryd.prog W base spare held n 3 [c2] = some y2 := by simpa [cI] using hg 2 _ rfl
 have g3 : DataW.trod enc Tryd.prog W base spare held n 5 [c3] = some y3 := by simpa [c8] using hg 3 _ rfl
 have g4 : DataW.trod enc Tryd.prog W base spare held n 23 [c4] = some y4 := by simpa [cRow] using hg 4 _ rfl
 obtain ⟨a0, e0, _, _⟩ := DataW.trod_int Tryd.underlying22 g0
 obtain ⟨a1, e1, _, _⟩ := DataW.trod_int Tryd.underlying22 g1
 obtain ⟨a2, e2, _, _⟩ := DataW.trod_int Tryd.underlying3 g2
 obtain ⟨a3, e3, _, _⟩ := DataW.trod_int Tryd.underlying5 g3
 obtain ⟨A, c, l, e4, hc, hr⟩ := row_open (R := PH.k61.K W) Tryd.underlying23 cSl slc_cells g4
 simp only [List.cons.injEq, and_true] at e0 e1 e2 e3 e4
 subst e0 e1 e2 e3 e4
 exact ⟨a0, a1, a2, a3, A, c, l, rfl, hc, hr⟩
set_option maxRecDepth 100000 in
theorem sched_open (hv : Value.okWide Tryd.prog W r b0 25 v) (h : DataW.Trod enc Tryd.prog W base spare held 25 v d p) :
  ∃ (a0 a1 a2 a3 : Int) (A : Option Addr) (c : Nat) (l : List Sl), v = .agg #[.int .u64 a0, .int .u64 a1, .int .i64 a2, .int .u8 a3, .slice A l.length c] ∧ l.length ≤ c ∧ Csl W A l := by
 obtain ⟨cs, rfl, hsz⟩ := okWide_struct Tryd.underlying25 hv
 obtain ⟨fuel, hf⟩ := h
 have hl : cs.toList.length = 5 := by rw [Array.length_toList]; exact hsz.trans cSc
 have hf' : DataW.trod enc Tryd.prog W base spare held fuel 25 cs.toList = some (d, p) := hf
 obtain ⟨a0, a1, a2, a3, A, c, l, hx, hc, hC⟩ := sch_cells hf' hl
 exact ⟨a0, a1, a2, a3, A, c, l, by rw [← Array.toList_inj.1 (show cs.toList = (#[_, _, _, _, _] : Array Value).toList from hx)], hc, hC⟩
theorem cAs : Tryd.prog.cellsOf 27 = 3 := by kernel_rfl
theorem ask_cells (h : DataW.trod enc Tryd.prog W base spare held fuel 27 cs = some y) (hl : cs.length = 3) : ∃ a m n : Int, cs = [.int .i64 a, .int .i64 m, .int .i64 n] := by
 obtain ⟨xs, n, rfl, _, _, hlen, hg⟩ := DataW.trod_struct Tryd.underlying27 h
 obtain ⟨y0, y1, y2, rfl⟩ := list3 (by simpa using hlen)
 obtain ⟨c0, c1, c2, rfl⟩ := list3 hl
 have g0 : DataW.trod enc Tryd.prog W base spare held n 3 [c0] = some y0 := by simpa [cI] using hg 0 _ rfl
 have g1 : DataW.trod enc Tryd.prog W base spare held n 3 [c1] = some y1 := by simpa [cI] using hg 1 _ rfl
 have g2 : DataW.trod enc Tryd.prog W base spare held n 2 [c2] = some y2 := by simpa [cL] using hg 2 _ rfl
 obtain ⟨a0, e0, _, _⟩ := DataW.trod_int Tryd.underlying3 g0
 obtain ⟨a1, e1, _, _⟩ := DataW.trod_int Tryd.underlying3 g1
 obtain ⟨a2, e2, _, _⟩ := DataW.trod_int Tryd.underlying2 g2
 simp only [List.cons.injEq, and_true] at e0 e1 e2
 subst e0 e1 e2
 exact ⟨a0, a1, a2, rfl⟩
theorem cAct : Tryd.prog.cellsOf 59 = 4 := by kernel_rfl
theorem act_cells (h : DataW.trod enc Tryd.prog W base spare held fuel 59 cs = some y) (hl : cs.length = 4) : ∃ x : Int × Int × Int × Int, (cs = [.int .u8 x.1, .int .i64 x.2.1, .int .i64 x.2.2.1, .int .i64 x.2.2.2] ∧ 0 ≤ x.1) := by
 obtain ⟨xs, n, rfl, _, _, hlen, hg⟩ := DataW.trod_struct Tryd.underlying59 h
 obtain ⟨y0, y1, rfl⟩ := list2 (by simpa using hlen)
 obtain ⟨c0, c1, c2, c3, rfl⟩ := list4 hl
 ·have g0 : DataW.trod enc Tryd.prog W base spare held n 5 [c0] = some y0 := by simpa [c8] using hg 0 _ rfl
  have g1 : DataW.trod enc Tryd.prog W base spare held n 27 [c1, c2, c3] = some y1 := by simpa [cAs, c8] using hg 1 _ rfl
  obtain ⟨a0, e0, _, w0⟩ := DataW.trod_int Tryd.underlying5 g0
  obtain ⟨a, m, k, e1⟩ := ask_cells g1 rfl
  simp only [List.cons.injEq, and_true] at e0 e1
  obtain ⟨rfl, rfl, rfl⟩ := e1
  subst e0
  exact ⟨(a0, a, m, k), rfl, (bounds_u8 w0).1⟩
set_option maxRecDepth 100000 in
theorem acts_open (hv : Value.okWide Tryd.prog W r b0 57 v) (h : DataW.Trod enc Tryd.prog W base spare held 57 v d p) :
  ∃ (A : Option Addr) (c : Nat) (l : List (Int × Int × Int × Int)), v = .slice A l.length c ∧ l.length ≤ c ∧ ReadsRow (fun x cs => cs = [.int .u8 x.1, .int .i64 x.2.1, .int .i64 x.2.2.1, .int .i64 x.2.2.2] ∧ 0 ≤ x.1) 4 W A l.length l := by
 obtain ⟨a, len, cap, rfl⟩ := okWide_slice Tryd.underlying57 hv
 obtain ⟨fuel, hf⟩ := h
 have hf' : DataW.trod enc Tryd.prog W base spare held fuel 57 [.slice a len cap] = some (d, p) := hf
 obtain ⟨A, c, l, e, hc, hr⟩ := row_open Tryd.underlying57 cAct act_cells hf'
 exact ⟨A, c, l, by simpa using e, hc, hr⟩
theorem int_cells (h : DataW.trod enc Tryd.prog W base spare held fuel 2 cs = some y) (_ : cs.length = 1) : ∃ x : Int, (Kd.int .i64).K W x cs ∧ -9223372036854775808 ≤ x ∧ x ≤ 9223372036854775807 := by
 obtain ⟨a0, rfl, _, w0⟩ := DataW.trod_int Tryd.underlying2 h
 exact ⟨a0, rfl, (bounds_i64 w0).1, (bounds_i64 w0).2⟩
set_option maxRecDepth 100000 in
theorem ints_open (hv : Value.okWide Tryd.prog W r b0 48 v) (h : DataW.Trod enc Tryd.prog W base spare held 48 v d p) :
  ∃ (A : Option Addr) (c : Nat) (l : List Int), v = .slice A l.length c ∧ l.length ≤ c ∧ Kd.C (Kd.int .i64) W A l.length l ∧ ∀ x ∈ l, -9223372036854775808 ≤ x ∧ x ≤ 9223372036854775807 := by
 obtain ⟨a, len, cap, rfl⟩ := okWide_slice Tryd.underlying48 hv
 obtain ⟨fuel, hf⟩ := h
 have hf' : DataW.trod enc Tryd.prog W base spare held fuel 48 [.slice a len cap] = some (d, p) := hf
 obtain ⟨A, c, l, e, hc, hr⟩ := row_open Tryd.underlying48 cL int_cells hf'
 refine ⟨A, c, l, by simpa using e, hc, ⟨hr.1, hr.2.1, fun h0 => ?_⟩, fun x hx => ?_⟩
 ·obtain ⟨ad, e1, e2⟩ := hr.2.2 h0
  exact ⟨ad, e1, fun j p hj => by obtain ⟨c', q1, q2, q3⟩ := e2 j p hj; exact ⟨c', q1, q2.1, q3⟩⟩
 ·obtain ⟨j, hj, rfl⟩ := List.getElem_of_mem hx
  obtain ⟨ad, e1, e2⟩ := hr.2.2 (by omega)
  obtain ⟨c', q1, q2, q3⟩ := e2 j _ (List.getElem?_eq_getElem hj)
  exact q2.2
end
end Go.Proofs.YtgceecnlgjmghaaDoor.schrow
