/- Fields, and kinds with fields, that came in, read: their cells. No conditions. -/
import Derived.Test.YtbghkjoejbfnbaaDoorMLb
import Derived.WalkKit
import Derived.ProofKit
import Derived.OpenShut
import Derived.Deep.Slices
import Derived.Lib.SmallJoins
import Derived.ChangeArms
namespace Go.Proofs.YtbghkjoejbfnbaaDoor.ordrow
open Go.ChangeShapes Go.WideShapes Go.ChangeAt Go.RowKit Go.Joins Go.Deep Go.Proofs.YtbghkjoejbfnbaaDoorW.PrintWords Go.Proofs.YtbghkjoejbfnbaaDoor Go.Proofs.YtbghkjoejbfnbaaDoor.law12
theorem add_add (a : Addr) (x y : Nat) : (a.add x).add y = a.add (x + y) := by
  unfold Addr.add
  by_cases hx : x = 0
  · subst hx
    by_cases hy : y = 0
    · subst hy; simp
    · simp [hy]
  · by_cases hy : y = 0
    · subst hy; simp [hx]
    · simp [hx, hy, Nat.add_assoc]
theorem row_open {α : Type} {R : α → List Value → Prop} {H : Type} {enc : TypeId × Value → H} {W : World} {base sz : Nat} {spare : Nat → Bool} {held : Bool} {t e : TypeId}
    (hu : Tryd.prog.underlying t = some (.slice e)) (hc : Tryd.prog.cellsOf e = sz) (hx : ∀ {n : Nat} {cs : List Value} {y : DataW H × List MemPlace}, DataW.trod enc Tryd.prog W base spare held n e cs = some y → cs.length = sz → ∃ x, R x cs)
    {fuel : Nat} {cs : List Value} {y : DataW H × List MemPlace} (h : DataW.trod enc Tryd.prog W base spare held fuel t cs = some y) :
    ∃ (A : Option Addr) (c : Nat) (l : List α), cs = [.slice A l.length c] ∧ l.length ≤ c ∧ ReadsRow R sz W A l.length l := by
  rcases open_slice hu h with ⟨rfl, _⟩ | ⟨a, len, cap, m, n, D, Pl, rfl, hb, hl, hm, hmm, _, hel⟩
  · exact ⟨none, 0, [], rfl, Nat.le_refl _, rfl, by simp, fun h => absurd h (by simp)⟩
  · have hlm : len ≤ m := by rw [hmm]; split <;> omega
    have key : ∀ i, i < len → ∃ x : α, ∃ cs', cs'.length = sz ∧ R x cs' ∧ ∀ j u, cs'[j]? = some u → W.cell? (a.add (i * sz + j)) = some u := fun i hi => by
      obtain ⟨cs', h1, h2⟩ := hel i (by omega)
      rw [hc] at h1
      obtain ⟨_, h3, h4⟩ := World.cells?_some h1
      obtain ⟨x, hx'⟩ := hx h2 h3
      refine ⟨x, cs', h3, hx', fun j u hu => ?_⟩
      have hj : j < sz := by have := (List.getElem?_eq_some_iff.1 hu).1; omega
      have := h4 j hj
      rw [add_add, hu] at this
      exact this
    let l : List α := (List.finRange len).map fun i => (key i.1 i.2).choose
    have hll : l.length = len := by simp [l]
    refine ⟨some a, cap, l, by rw [hll], by omega, rfl, by rw [hll]; unfold maxLen at hm; omega, fun _ => ⟨a, rfl, fun j p hj => ?_⟩⟩
    have hjl : j < len := by have := (List.getElem?_eq_some_iff.1 hj).1; omega
    have hp : p = (key j hjl).choose := by
      have := (List.getElem?_eq_some_iff.1 hj).2
      rw [← this]
      simp [l]
    rw [hp]
    exact (key j hjl).choose_spec
theorem list2 {α : Type} {l : List α} (h : l.length = 2) : ∃ c0 c1, l = [c0, c1] := by
  match l, h with
  | [a, b], _ => exact ⟨a, b, rfl⟩
theorem list3 {α : Type} {l : List α} (h : l.length = 3) : ∃ c0 c1 c2, l = [c0, c1, c2] := by
  match l, h with
  | [a, b, c], _ => exact ⟨a, b, c, rfl⟩
theorem cU : Tryd.prog.cellsOf 45 = 1 := by kernel_rfl
theorem cL : Tryd.prog.cellsOf 2 = 1 := by kernel_rfl
theorem cS : Tryd.prog.cellsOf 9 = 1 := by kernel_rfl
theorem cF : Tryd.prog.cellsOf 47 = 3 := by kernel_rfl
theorem cRow : Tryd.prog.cellsOf 22 = 1 := by kernel_rfl
section
variable {H : Type} {enc : TypeId × Value → H} {W : World} {base b0 : Nat} {r : Reach} {spare : Nat → Bool} {held : Bool} {fuel : Nat} {cs : List Value} {y : DataW H × List MemPlace} {v : Value} {d : DataW H} {p : List MemPlace}
/-- A field as it lies, its numbers within their kinds. -/
def RF (W : World) (x : PH.S47) (cs : List Value) : Prop := PH.k47.K W x cs ∧ Nb x
theorem fld_cells (h : DataW.trod enc Tryd.prog W base spare held fuel 47 cs = some y) (hl : cs.length = 3) : ∃ x, RF W x cs := by
  obtain ⟨xs, n, rfl, _, _, hlen, hg⟩ := DataW.trod_struct Tryd.underlying47 h
  obtain ⟨y0, y1, y2, rfl⟩ := list3 (by simpa using hlen)
  obtain ⟨c0, c1, c2, rfl⟩ := list3 hl
  have g0 : DataW.trod enc Tryd.prog W base spare held n 45 [c0] = some y0 := by simpa [cU] using hg 0 _ rfl
  have g1 : DataW.trod enc Tryd.prog W base spare held n 2 [c1] = some y1 := by simpa [cU, cL] using hg 1 _ rfl
  have g2 : DataW.trod enc Tryd.prog W base spare held n 9 [c2] = some y2 := by simpa [cU, cL, cS] using hg 2 _ rfl
  obtain ⟨a0, e0, _, w0⟩ := DataW.trod_int Tryd.underlying45 g0
  obtain ⟨a1, e1, _, w1⟩ := DataW.trod_int Tryd.underlying2 g1
  obtain ⟨a2, e2, _, _⟩ := DataW.trod_string Tryd.underlying9 g2
  simp only [List.cons.injEq, and_true] at e0 e1 e2
  subst e0 e1 e2
  have b0 := bounds_u64 w0
  have b1 := bounds_i64 w1
  exact ⟨⟨a0, a1, a2⟩, PH.k47_mk _ _, ⟨b0.1, by have := b0.2; dsimp only; omega, b1.1, by have := b1.2; dsimp only; omega⟩⟩
theorem rf_split {A : Option Addr} {n : Nat} {l : List PH.S47} (hr : ReadsRow (RF W) 3 W A n l) : Kd.C PH.k47 W A n l ∧ (∀ x ∈ l, Nb x) ∧ l.length ≤ 9223372036854775807 := by
  refine ⟨⟨hr.1, hr.2.1, fun h0 => ?_⟩, fun x hx => ?_, by have := hr.1; have := hr.2.1; omega⟩
  · obtain ⟨ad, e1, e2⟩ := hr.2.2 h0
    exact ⟨ad, e1, fun j p hj => by obtain ⟨c', q1, q2, q3⟩ := e2 j p hj; exact ⟨c', q1, q2.1, q3⟩⟩
  · obtain ⟨j, hj, rfl⟩ := List.getElem_of_mem hx
    obtain ⟨ad, e1, e2⟩ := hr.2.2 (by have := hr.1; omega)
    obtain ⟨c', q1, q2, q3⟩ := e2 j _ (List.getElem?_eq_getElem hj)
    exact q2.2
set_option maxRecDepth 100000 in
theorem fields_open (hv : Value.okWide Tryd.prog W r b0 22 v) (h : DataW.Trod enc Tryd.prog W base spare held 22 v d p) :
    ∃ (A : Option Addr) (c : Nat) (l : List PH.S47), v = .slice A l.length c ∧ l.length ≤ c ∧ Kd.C PH.k47 W A l.length l ∧ (∀ x ∈ l, Nb x) ∧ l.length ≤ 9223372036854775807 := by
  obtain ⟨a, len, cap, rfl⟩ := okWide_slice Tryd.underlying22 hv
  obtain ⟨fuel, hf⟩ := h
  have hf' : DataW.trod enc Tryd.prog W base spare held fuel 22 [.slice a len cap] = some (d, p) := hf
  obtain ⟨A, c, l, e, hc, hr⟩ := row_open (R := RF W) Tryd.underlying22 cF fld_cells hf'
  obtain ⟨h1, h2, h3⟩ := rf_split hr
  exact ⟨A, c, l, by simpa using e, hc, h1, h2, h3⟩
theorem cKey : Tryd.prog.cellsOf 24 = 2 := by kernel_rfl
set_option maxRecDepth 100000 in
theorem key_open (hv : Value.okWide Tryd.prog W r b0 24 v) (h : DataW.Trod enc Tryd.prog W base spare held 24 v d p) :
    ∃ (s : ByteArray) (A : Option Addr) (c : Nat) (l : List PH.S47), v = .agg #[.string s, .slice A l.length c] ∧ l.length ≤ c ∧ Kd.C PH.k47 W A l.length l ∧ (∀ x ∈ l, Nb x) ∧ l.length ≤ 9223372036854775807 := by
  obtain ⟨cs, rfl, hsz⟩ := okWide_struct Tryd.underlying24 hv
  obtain ⟨fuel, hf⟩ := h
  have hl : cs.toList.length = 2 := by rw [Array.length_toList]; exact hsz.trans cKey
  have hf' : DataW.trod enc Tryd.prog W base spare held fuel 24 cs.toList = some (d, p) := hf
  obtain ⟨xs, n, hx, _, _, hlen, hg⟩ := DataW.trod_struct Tryd.underlying24 hf'
  obtain ⟨y0, y1, rfl⟩ := list2 (by simpa using hlen)
  obtain ⟨c0, c1, hcs⟩ := list2 hl
  rw [hcs] at hg
  have g0 : DataW.trod enc Tryd.prog W base spare held n 9 [c0] = some y0 := by simpa [cS] using hg 0 _ rfl
  have g1 : DataW.trod enc Tryd.prog W base spare held n 22 [c1] = some y1 := by simpa [cS, cRow] using hg 1 _ rfl
  obtain ⟨a0, e0, _, _⟩ := DataW.trod_string Tryd.underlying9 g0
  obtain ⟨A, c, l, e1, hc, hr⟩ := row_open (R := RF W) Tryd.underlying22 cF fld_cells g1
  obtain ⟨h1, h2, h3⟩ := rf_split hr
  simp only [List.cons.injEq, and_true] at e0 e1
  subst e0 e1
  exact ⟨a0, A, c, l, by rw [← Array.toList_inj.1 (show cs.toList = (#[_, _] : Array Value).toList from hcs)], hc, h1, h2, h3⟩
end
end Go.Proofs.YtbghkjoejbfnbaaDoor.ordrow
