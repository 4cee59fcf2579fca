/- What MulDiv, Add and Sum of package arith, and quittanceref07's, answer, in the printed form. No conditions but that numbers are of 64 bits. -/
import Derived.Test.YtlllgfkdapjomaaMAr
import Derived.Test.YtlllgfkdapjomaaWWords
import Derived.Test.YtlllgfkdapjomaaWMore
namespace Go.Proofs.Ytlllgfkdapjomaa.PH
open Go.RowKit Go.Proofs.YtlllgfkdapjomaaW.PrintWords

def arith_MulDiv.f (a0 a1 a2 : Int) : Option (Int × Int × Bool) := if Ar.fits a0 = true ∧ Ar.fits a1 = true ∧ Ar.fits a2 = true then some (Ar.mdQ a0 a1 a2, Ar.mdR a0 a1 a2, Ar.mdI a0 a1 a2) else none
theorem arith_MulDiv.calls (a0 a1 a2 : Int) (r1 r2 : Int) (r3 : Bool) (w : World) (h : arith_MulDiv.f a0 a1 a2 = some (r1, r2, r3)) :
    Calls Try.prog 13 #[.int .i64 a0, .int .i64 a1, .int .i64 a2] w fun e w' => e = .returned (.tuple #[.int .i64 r1, .int .i64 r2, .bool r3]) ∧ Below w.heap.size w w' := by
  unfold arith_MulDiv.f at h
  split at h
  · rename_i hf
    simp only [Option.some.injEq, Prod.mk.injEq] at h
    obtain ⟨rfl, rfl, rfl⟩ := h
    exact arith.mulDiv_any a0 a1 a2 w hf.1 hf.2.1 hf.2.2
  · cases h
def quittanceref07_MulDiv.f (a0 a1 a2 : Int) : Option (Int × Int × Bool) := if Ar.fits a0 = true ∧ Ar.fits a1 = true ∧ Ar.fits a2 = true then some (Ar.mdQ a0 a1 a2, Ar.mdR a0 a1 a2, Ar.mdI a0 a1 a2) else none
theorem quittanceref07_MulDiv.calls (a0 a1 a2 : Int) (r1 r2 : Int) (r3 : Bool) (w : World) (h : quittanceref07_MulDiv.f a0 a1 a2 = some (r1, r2, r3)) :
    Calls Try.prog 31 #[.int .i64 a0, .int .i64 a1, .int .i64 a2] w fun e w' => e = .returned (.tuple #[.int .i64 r1, .int .i64 r2, .bool r3]) ∧ Below w.heap.size w w' := by
  unfold quittanceref07_MulDiv.f at h
  split at h
  · rename_i hf
    simp only [Option.some.injEq, Prod.mk.injEq] at h
    obtain ⟨rfl, rfl, rfl⟩ := h
    exact ref07.mulDiv_any a0 a1 a2 w hf.1 hf.2.1 hf.2.2
  · cases h
def arith_Mul.f (a0 a1 : Int) : Option (Int × Bool) := if Ar.fits a0 = true ∧ Ar.fits a1 = true then some (Ar.fitV (a0 * a1), Ar.fits (a0 * a1)) else none
theorem arith_Mul.calls (a0 a1 : Int) (r1 : Int) (r2 : Bool) (w : World) (h : arith_Mul.f a0 a1 = some (r1, r2)) :
    Calls Try.prog 14 #[.int .i64 a0, .int .i64 a1] w fun e w' => e = .returned (.tuple #[.int .i64 r1, .bool r2]) ∧ Below w.heap.size w w' := by
  unfold arith_Mul.f at h
  split at h
  · rename_i hf
    simp only [Option.some.injEq, Prod.mk.injEq] at h
    obtain ⟨rfl, rfl⟩ := h
    exact arith.mul_any a0 a1 w hf.1 hf.2
  · cases h
end Go.Proofs.Ytlllgfkdapjomaa.PH
