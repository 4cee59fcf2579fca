/- arith.Sum in the printed form: of a list that is not empty, its numbers in their bounds. No conditions. -/
import Derived.Test.YtlllgfkdapjomaaWWords
import Derived.Test.YtlllgfkdapjomaaWMore
import Derived.Test.YtlllgfkdapjomaaMAr
namespace Go.Proofs.Ytlllgfkdapjomaa.PH
open Go.RowKit Go.Proofs.YtlllgfkdapjomaaW.PrintWords Go.Proofs.Ytlllgfkdapjomaa.arith
def arith_Sum.f (l0 : List Int) : Option (Int × Bool) := if l0 ≠ [] ∧ l0.length ≤ 1000000 ∧ (∀ z ∈ l0, Ar.fits z = true) then some (Ar.fitV l0.sum, Ar.fits l0.sum) else none
theorem arith_Sum.calls (A0 : Option Addr) (c0 : Nat) (l0 : List Int) (r1 : Int) (r2 : Bool) (w : World) (hr0 : Kd.C (Kd.int .i64) w A0 l0.length l0) (_ : l0.length ≤ c0) (h : arith_Sum.f l0 = some (r1, r2)) :
    Calls Try.prog 12 #[.slice A0 l0.length c0] w fun e w' => e = .returned (.tuple #[.int .i64 r1, .bool r2]) ∧ Below w.heap.size w w' := by
  unfold arith_Sum.f at h
  split at h
  · rename_i hq
    obtain ⟨hne, hlen, hfit⟩ := hq
    simp only [Option.some.injEq, Prod.mk.injEq] at h
    obtain ⟨rfl, rfl⟩ := h
    have hpos : 0 < l0.length := List.length_pos_iff.2 hne
    have cell : ∀ j : Nat, j < l0.length → ∃ ad, A0 = some ad ∧ w.cell? (ad.add j) = some (.int .i64 (l0.getD j 0)) := fun j hj => by
      obtain ⟨ad, c, e, hcl, hK, hu⟩ := Kd.C_get hr0 0 (j : Int) (by omega) (by omega)
      have hK' : c = [.int .i64 (l0.getD j 0)] := hK
      subst hK'
      exact ⟨ad, e, by simpa [Kd.int, Kd.scalar] using hu 0 _ rfl⟩
    obtain ⟨ad, rfl, h0⟩ := cell 0 hpos
    have hsp : ad.spot = none := by
      rw [show ad.add 0 = ad from by simp [Addr.add]] at h0
      unfold World.cell? at h0
      cases hs : ad.spot with
      | none => rfl
      | some q =>
        rw [hs] at h0
        split at h0 <;> simp at h0
    obtain ⟨b, off, sp⟩ := ad
    simp only at hsp
    subst hsp
    have hs : l0.sum = sumK l0 l0.length := by unfold sumK; rw [List.take_length]
    rw [hs]
    refine sum_any l0 b off c0 w hlen (fun j hj => ?_) (fun j hj => ?_)
    · obtain ⟨ad, e, hc⟩ := cell j hj
      cases e
      by_cases hj0 : j = 0
      · subst hj0
        simpa [Addr.add] using hc
      · simpa [Addr.add, hj0] using hc
    · rw [List.getD_eq_getElem?_getD, List.getElem?_eq_getElem hj]
      exact hfit _ (List.getElem_mem hj)
  · cases h
end Go.Proofs.Ytlllgfkdapjomaa.PH
