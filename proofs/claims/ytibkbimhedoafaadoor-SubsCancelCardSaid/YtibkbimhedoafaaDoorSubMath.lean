/- A subscription's periods, as numbers: plain arithmetic. No conditions. -/
import Derived.Test.YtibkbimhedoafaaDoorMAnch
namespace Sb
open An Cv
/-- A subscription. -/
structure Su where
  id : Int
  cu : Int
  pl : Int
  st : Int
  an : Int
  ev : Int
  pr : Int
  bi : Int
  si : Int
  en : Int
noncomputable section
/-- Where a period that ends ahead of a bound begins, if it is whole. -/
def fst0 (x : Su) (n : Int) : Int := if okA (ofD n - x.ev) x.an = true then at_ (ofD n - x.ev) x.an else 1
def fr (x : Su) (i : Int) : Int := B x.st x.an x.ev i
def nx (x : Su) (i : Int) : Int := B x.st x.an x.ev (i + 1)
def ee (x : Su) (i : Int) : Int := if x.en = 0 then nx x i else (if x.en < nx x i then x.en else nx x i)
def wh (x : Su) (i : Int) : Int := nx x i - fst0 x (nx x i)
def tp (x : Su) : Int := top x.st x.an x.ev
def okC (x : Su) : Bool := ok x.st x.an x.ev
/-- The indices from one on. -/
def ix (k : Int) (m : Nat) : List Int := (List.range m).map fun (j : Nat) => k + (j : Int)
end
theorem ix_len (k : Int) (m : Nat) : (ix k m).length = m := by simp [ix]
theorem ix_succ (k : Int) (m : Nat) : ix k (m + 1) = ix k m ++ [k + m] := by simp [ix, List.range_succ]
theorem ix_zero (k : Int) : ix k 0 = [] := rfl
theorem fst0_bd (x : Su) (n : Int) : 1 ≤ fst0 x n ∧ fst0 x n ≤ 3652059 := by
  unfold fst0
  split
  · rename_i q
    have := okA_t q
    exact at_bd this.1.1 this.1.2 this.2.1
  · omega
structure In (x : Su) (i : Int) : Prop where
  c : okC x = true
  lo : 0 ≤ i
  hi : i + 1 ≤ tp x
theorem In.bd {x : Su} {i : Int} (h : In x i) : 1 ≤ fr x i ∧ fr x i < nx x i ∧ nx x i ≤ 3652059 := by
  have h1 := B_bd h.c h.lo (show i ≤ top x.st x.an x.ev by have := h.hi; unfold tp at this; omega)
  have h2 := B_bd h.c (show 0 ≤ i + 1 by have := h.lo; omega) h.hi
  have h3 := B_lt h.c h.lo h.hi
  unfold fr nx; omega
theorem tp_bd {x : Su} (h : okC x = true) : 0 ≤ tp x ∧ tp x ≤ 119988 := by
  have := top_bd h
  unfold tp; omega
theorem tp_of {x : Su} (h : okC x = true) {k : Int} (h0 : 0 ≤ k) : (k ≤ tp x → bV x.st x.an x.ev k = B x.st x.an x.ev k ∧ bE x.st x.an x.ev k = 0) ∧ (¬ k ≤ tp x → bE x.st x.an x.ev k = 7 ∧ bV x.st x.an x.ev k = 0) := by
  have hb : bOk x.st x.an x.ev k = true := by unfold bOk; simp; exact ⟨h, h0⟩
  unfold tp
  exact ⟨fun q => by simp [bV, bE, hb, q], fun q => by simp [bV, bE, hb]; omega⟩
end Sb
