/- The order of split.Split's shares: the closure that compares, walked. No conditions but that places are small. -/
import Derived.Test.YtlllgfkdapjomaaSortC
namespace St
open Go.Sort (SWO)
/-- Which share goes ahead. -/
def cmpV (x y : Sh) : Int := if y.r < x.r then -1 else if x.r < y.r then 1 else x.p - y.p
def lt (x y : Sh) : Bool := decide (cmpV x y < 0)
theorem lt_iff (x y : Sh) : lt x y = true ↔ (y.r < x.r ∨ (x.r = y.r ∧ x.p < y.p)) := by
  unfold lt cmpV
  rw [decide_eq_true_iff]
  split
  · omega
  · split <;> omega
theorem lt_no (x y : Sh) : lt x y = false ↔ ¬ (y.r < x.r ∨ (x.r = y.r ∧ x.p < y.p)) := by
  rw [← lt_iff, Bool.not_eq_true]
theorem swo : SWO lt where
  irrefl x := by rw [lt_no]; omega
  trans x y z h1 h2 := by rw [lt_iff] at *; omega
  ntrans x y z h1 h2 := by rw [lt_no] at *; omega
theorem lt_def (x y : Sh) : lt x y = decide (cmpV x y < 0) := rfl
end St
namespace Go.Proofs.Ytlllgfkdapjomaa.srt
open Go.RowKit Go.Proofs.Ytlllgfkdapjomaa.base St
open Go.Sort (swp PermIn SortedIn SWO swp_get size_swp permIn_trans permIn_refl swp_permIn permIn_mono permIn_all)
open Go.Proofs.YtlllgfkdapjomaaW.PrintWords
set_option linter.unusedSimpArgs false
attribute [local go_sem] Oper.semAt_some
theorem mid_w (i j : Nat) (hn : i + j ≤ 20000) : wrap64 (IntKind.u64.wrap (wrap64 ((i : Int) + (j : Int))) / 2) = (((i + j) / 2 : Nat) : Int) := by
  have e : wrap64 ((i : Int) + (j : Int)) = ((i + j : Nat) : Int) := by unfold wrap64; omega
  have e2 : IntKind.u64.wrap ((i + j : Nat) : Int) = ((i + j : Nat) : Int) := by simp [IntKind.wrap, IntKind.bits, IntKind.signed]; omega
  rw [e, e2]
  unfold wrap64
  omega
abbrev av (x : Sh) : Value := .agg #[.int .i64 x.q, .int .i64 x.r, .int .i64 x.p]
abbrev fv : Value := .func (.func 18) #[] #[]
theorem cmp_is (x y : Sh) (w : World) (hx : 0 ≤ x.p ∧ x.p ≤ 5000) (hy : 0 ≤ y.p ∧ y.p ≤ 5000) :
    Calls Try.prog 18 #[av x, av y] w fun e w' => e = .returned (.int .i64 (cmpV x y)) ∧ Below w.heap.size w w' := by
  have r1 : wrap64 (x.p - y.p) = x.p - y.p := by unfold wrap64; omega
  clear hx hy
  have hB : ∀ o1 o2 : Obj, Below w.heap.size w ((w.alloc o1).alloc o2) := fun o1 o2 => below_alloc (below_alloc (Below.refl _ _) _) _
  have HB := Lib.hid hB
  clear hB
  unfold cmpV
  by_cases h1 : y.r < x.r
  · rw [if_pos h1]
    go_enter Try.func18, Try.ntmps18
    go_wp2
    go_ret
    exact ⟨rfl, HB.out _ _⟩
  · rw [if_neg h1]
    by_cases h2 : x.r < y.r
    · rw [if_pos h2]
      go_enter Try.func18, Try.ntmps18
      go_wp2
      go_ret
      exact ⟨rfl, HB.out _ _⟩
    · rw [if_neg h2]
      go_enter Try.func18, Try.ntmps18
      go_wp2
      go_ret
      exact ⟨rfl, HB.out _ _⟩
end Go.Proofs.Ytlllgfkdapjomaa.srt
