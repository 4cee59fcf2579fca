/- split.Split's closure that takes units off what is left, walked. No conditions. -/
import Derived.Test.YtlllgfkdapjomaaSplB
import Derived.Test.YtlllgfkdapjomaaSortI
namespace Go.Proofs.Ytlllgfkdapjomaa.spl
open Go.RowKit Go.Proofs.Ytlllgfkdapjomaa.base
open Go.Proofs.YtlllgfkdapjomaaW.PrintWords
set_option linter.unusedSimpArgs false
attribute [local go_sem] Oper.semAt_some
def Lb (g : Nat) (l : Int) (W : World) : Prop := W.heap[g]? = some (.cells #[.int .i64 l] 2 (0, 0))
abbrev tk (g : Nat) : Value := .func (.func 16) #[] #[.pointer (some ⟨g, 0, none⟩)]
theorem take_is (w : World) (g : Nat) (n l : Int) (h : Lb g l w) :
    Calls Try.prog 16 #[.int .i64 n, .pointer (some ⟨g, 0, none⟩)] w fun e w' => e = .returned (.int .i64 n) ∧ w' = w.setCell ⟨g, 0, none⟩ (.int .i64 (wrap64 (l - n))) := by
  have c0 : w.cell? ⟨g, 0, none⟩ = some (.int .i64 l) := (blk_cell h 0).trans rfl
  have f0 := blk_frozen h 0
  clear h
  go_enter Try.func16, Try.ntmps16
  go_wp2
  go_ret
  exact ⟨rfl, rfl⟩
end Go.Proofs.Ytlllgfkdapjomaa.spl
