/- Small facts for contracts in the printed form. The table of the days ahead of months holds its numbers. No conditions else. What package civil's functions and quittanceref08's answer, in the printed form. The table of the days ahead of months holds its numbers, where package civil is called. What quittanceref08.Days answers, in the printed form of a function that makes memory (a print over the quiet form falls where a region that draws its order follows). No conditions. What MulDiv, Add and Sum of package arith, and quittanceref07's, answer, in the printed form. No conditions but that numbers are of 64 bits. arith.Sum in the printed form: of a list that is not empty, its numbers in their bounds. No conditions. -/
import Derived.Test.YtgceecnlgjmghaaDoorMCiv
import Derived.Test.YtgceecnlgjmghaaDoorWWords
import Derived.Test.YtgceecnlgjmghaaDoorWMore
import Derived.Test.YtgceecnlgjmghaaDoorMAr
namespace Go.Proofs.YtgceecnlgjmghaaDoor.PH
open Go.RowKit Go.Proofs.YtgceecnlgjmghaaDoorW.PrintWords

/-- The table of the days ahead of months holds its numbers. -/
def Tab (w : World) : Prop := civ.Tab w
theorem tab_lt {w : World} (h : civ.Tab w) : 2 < w.heap.size := World.block_lt_of_cell? w ⟨2, 0, none⟩ (h 0 (by omega))
theorem tab_below {n : Nat} {w w' : World} (h : civ.Tab w) (hb : Below n w w') (hn : 2 < n) : civ.Tab w' := fun i hi =>
 (hb.cell (p := ⟨2, i, none⟩) hn).trans (h i hi)
theorem Tab.b {w w' : World} (h : Aside0 (Tab w)) (hb : Below w.heap.size w w') : Aside0 (Tab w') := ⟨tab_below h.out hb (tab_lt h.out)⟩
theorem Tab.d {w w' : World} (h : Aside0 (Tab w)) (hd : Drawn0 w w') : Aside0 (Tab w') := Tab.b h hd.below
theorem quiet_of {P : Program} {f : FuncId} {args : Array Value} {w : World} {v : Value} (h : Calls P f args w fun e w' => e = .returned v ∧ w = w') : Calls P f args w fun e w' => e = .returned v ∧ Drawn0 w w' :=
 h.mono fun _ _ ⟨a, b⟩ => ⟨a, b ▸ Drawn0.refl _⟩
end Go.Proofs.YtgceecnlgjmghaaDoor.PH

namespace Go.Proofs.YtgceecnlgjmghaaDoor.PH
open Go.RowKit Go.Proofs.YtgceecnlgjmghaaDoorW.PrintWords

noncomputable def civil_Of.f (a0 : Int) : Option (Int × Int) := some (Cv.ofV a0, Cv.dE a0)
theorem civil_Of.calls (a0 : Int) (r1 r2 : Int) (w : World) (HTab : Aside0 (Tab w)) (h : civil_Of.f a0 = some (r1, r2)) :
  Calls Tryd.prog 79 #[.int .i64 a0] w fun e w' => e = .returned (.tuple #[.int .i64 r1, .int .i64 r2]) ∧ Drawn0 w w' := by
 simp only [civil_Of.f, Option.some.injEq, Prod.mk.injEq] at h
 obtain ⟨rfl, rfl⟩ := h
 exact quiet_of (civ.of_any a0 w HTab.out)
def civil_Days.f (a0 : Int) : Option (Int × Int × Int) := some (Cv.fstV a0, Cv.lstV a0, Cv.mE a0)
theorem civil_Days.calls (a0 : Int) (r1 r2 r3 : Int) (w : World) (HTab : Aside0 (Tab w)) (h : civil_Days.f a0 = some (r1, r2, r3)) :
  Calls Tryd.prog 80 #[.int .i64 a0] w fun e w' => e = .returned (.tuple #[.int .i64 r1, .int .i64 r2, .int .i64 r3]) ∧ Drawn0 w w' := by
 simp only [civil_Days.f, Option.some.injEq, Prod.mk.injEq] at h
 obtain ⟨rfl, rfl, rfl⟩ := h
 exact quiet_of (civ.days_any a0 w HTab.out)
noncomputable def quittanceref08_Of.f (a0 : Int) : Option (Int × Int) := some (Cv.ofV a0, Cv.dE a0)
theorem quittanceref08_Of.calls (a0 : Int) (r1 r2 : Int) (w : World) (h : quittanceref08_Of.f a0 = some (r1, r2)) :
  Calls Tryd.prog 29 #[.int .i64 a0] w fun e w' => e = .returned (.tuple #[.int .i64 r1, .int .i64 r2]) ∧ Drawn0 w w' := by
 simp only [quittanceref08_Of.f, Option.some.injEq, Prod.mk.injEq] at h
 obtain ⟨rfl, rfl⟩ := h
 exact quiet_of (ref08.of_any a0 w)
def quittanceref08_Days.f (a0 : Int) : Option (Int × Int × Int) := some (Cv.fstV a0, Cv.lstV a0, Cv.mE a0)
theorem quittanceref08_Days.calls (a0 : Int) (r1 r2 r3 : Int) (w : World) (h : quittanceref08_Days.f a0 = some (r1, r2, r3)) :
  Calls Tryd.prog 69 #[.int .i64 a0] w fun e w' => e = .returned (.tuple #[.int .i64 r1, .int .i64 r2, .int .i64 r3]) ∧ Drawn0 w w' := by
 simp only [quittanceref08_Days.f, Option.some.injEq, Prod.mk.injEq] at h
 obtain ⟨rfl, rfl, rfl⟩ := h
 exact quiet_of (ref08.days_any a0 w)
noncomputable def quittanceref08_Date.f (a0 : Int) : Option (Int × Int × Int × Int) := some (Cv.dtY a0, Cv.dtM a0, Cv.dtD a0, Cv.dE a0)
theorem quittanceref08_Date.calls (a0 : Int) (r1 r2 r3 r4 : Int) (w : World) (h : quittanceref08_Date.f a0 = some (r1, r2, r3, r4)) :
  Calls Tryd.prog 57 #[.int .i64 a0] w fun e w' => e = .returned (.tuple #[.int .i64 r1, .int .i64 r2, .int .i64 r3, .int .i64 r4]) ∧ Drawn0 w w' := by
 simp only [quittanceref08_Date.f, Option.some.injEq, Prod.mk.injEq] at h
 obtain ⟨rfl, rfl, rfl, rfl⟩ := h
 exact quiet_of (ref08.date_any a0 w)
def quittanceref08_Day.f (a0 a1 a2 : Int) : Option (Int × Int) := some (Cv.dayV a0 a1 a2, Cv.dayE a0 a1 a2)
theorem quittanceref08_Day.calls (a0 a1 a2 : Int) (r1 r2 : Int) (w : World) (h : quittanceref08_Day.f a0 a1 a2 = some (r1, r2)) :
  Calls Tryd.prog 58 #[.int .i64 a0, .int .i64 a1, .int .i64 a2] w fun e w' => e = .returned (.tuple #[.int .i64 r1, .int .i64 r2]) ∧ Drawn0 w w' := by
 simp only [quittanceref08_Day.f, Option.some.injEq, Prod.mk.injEq] at h
 obtain ⟨rfl, rfl⟩ := h
 exact quiet_of (ref08.day_any a0 a1 a2 w)
def quittanceref08_Month.f (a0 a1 : Int) : Option (Int × Int) := some (Cv.monV a0 a1, Cv.monE a0 a1)
theorem quittanceref08_Month.calls (a0 a1 : Int) (r1 r2 : Int) (w : World) (h : quittanceref08_Month.f a0 a1 = some (r1, r2)) :
  Calls Tryd.prog 30 #[.int .i64 a0, .int .i64 a1] w fun e w' => e = .returned (.tuple #[.int .i64 r1, .int .i64 r2]) ∧ Drawn0 w w' := by
 simp only [quittanceref08_Month.f, Option.some.injEq, Prod.mk.injEq] at h
 obtain ⟨rfl, rfl⟩ := h
 exact quiet_of (ref08.month_any a0 a1 w)
def quittanceref08_Long.f (a0 a1 : Int) : Option Int := some (Cv.lng a0 a1)
theorem quittanceref08_Long.calls (a0 a1 : Int) (r : Int) (w : World) (h : quittanceref08_Long.f a0 a1 = some r) :
  Calls Tryd.prog 70 #[.int .i64 a0, .int .i64 a1] w fun e w' => e = .returned (.int .i64 r) ∧ Drawn0 w w' := by
 simp only [quittanceref08_Long.f, Option.some.injEq] at h
 obtain rfl := h
 exact quiet_of (ref08.long_any a0 a1 w)
def quittanceref08_Leap.f (a0 : Int) : Option Bool := some (Cv.lp a0)
theorem quittanceref08_Leap.calls (a0 : Int) (r : Bool) (w : World) (h : quittanceref08_Leap.f a0 = some r) :
  Calls Tryd.prog 88 #[.int .i64 a0] w fun e w' => e = .returned (.bool r) ∧ Drawn0 w w' := by
 simp only [quittanceref08_Leap.f, Option.some.injEq] at h
 obtain rfl := h
 exact quiet_of (ref08.leap_any a0 w)
end Go.Proofs.YtgceecnlgjmghaaDoor.PH

namespace Go.Proofs.YtgceecnlgjmghaaDoor.PH
open Go.RowKit Go.Proofs.YtgceecnlgjmghaaDoorW.PrintWords

def quittanceref08_DaysB.f (a0 : Int) : Option (Int × Int × Int) := some (Cv.fstV a0, Cv.lstV a0, Cv.mE a0)
theorem quittanceref08_DaysB.calls (a0 : Int) (r1 r2 r3 : Int) (w : World) (h : quittanceref08_DaysB.f a0 = some (r1, r2, r3)) :
  Calls Tryd.prog 69 #[.int .i64 a0] w fun e w' => e = .returned (.tuple #[.int .i64 r1, .int .i64 r2, .int .i64 r3]) ∧ Below w.heap.size w w' := by
 simp only [quittanceref08_DaysB.f, Option.some.injEq, Prod.mk.injEq] at h
 obtain ⟨rfl, rfl, rfl⟩ := h
 exact (ref08.days_any a0 w).mono fun _ _ ⟨a, b⟩ => ⟨a, b ▸ Below.refl _ _⟩
end Go.Proofs.YtgceecnlgjmghaaDoor.PH

namespace Go.Proofs.YtgceecnlgjmghaaDoor.PH
open Go.RowKit Go.Proofs.YtgceecnlgjmghaaDoorW.PrintWords

def arith_MulDiv.f (a0 a1 a2 : Int) : Option (Int × Int × Bool) := if Ar.fits a0 = true ∧ Ar.fits a1 = true ∧ Ar.fits a2 = true then some (Ar.mdQ a0 a1 a2, Ar.mdR a0 a1 a2, Ar.mdI a0 a1 a2) else none
theorem arith_MulDiv.calls (a0 a1 a2 : Int) (r1 r2 : Int) (r3 : Bool) (w : World) (h : arith_MulDiv.f a0 a1 a2 = some (r1, r2, r3)) :
  Calls Tryd.prog 66 #[.int .i64 a0, .int .i64 a1, .int .i64 a2] w fun e w' => e = .returned (.tuple #[.int .i64 r1, .int .i64 r2, .bool r3]) ∧ Below w.heap.size w w' := by
 unfold arith_MulDiv.f at h
 split at h
 ·rename_i hf
  simp only [Option.some.injEq, Prod.mk.injEq] at h
  obtain ⟨rfl, rfl, rfl⟩ := h
  exact arith.mulDiv_any a0 a1 a2 w hf.1 hf.2.1 hf.2.2
 ·cases h
def quittanceref07_MulDiv.f (a0 a1 a2 : Int) : Option (Int × Int × Bool) := if Ar.fits a0 = true ∧ Ar.fits a1 = true ∧ Ar.fits a2 = true then some (Ar.mdQ a0 a1 a2, Ar.mdR a0 a1 a2, Ar.mdI a0 a1 a2) else none
theorem quittanceref07_MulDiv.calls (a0 a1 a2 : Int) (r1 r2 : Int) (r3 : Bool) (w : World) (h : quittanceref07_MulDiv.f a0 a1 a2 = some (r1, r2, r3)) :
  Calls Tryd.prog 89 #[.int .i64 a0, .int .i64 a1, .int .i64 a2] w fun e w' => e = .returned (.tuple #[.int .i64 r1, .int .i64 r2, .bool r3]) ∧ Below w.heap.size w w' := by
 unfold quittanceref07_MulDiv.f at h
 split at h
 ·rename_i hf
  simp only [Option.some.injEq, Prod.mk.injEq] at h
  obtain ⟨rfl, rfl, rfl⟩ := h
  exact ref07.mulDiv_any a0 a1 a2 w hf.1 hf.2.1 hf.2.2
 ·cases h
def arith_Mul.f (a0 a1 : Int) : Option (Int × Bool) := if Ar.fits a0 = true ∧ Ar.fits a1 = true then some (Ar.fitV (a0 * a1), Ar.fits (a0 * a1)) else none
end Go.Proofs.YtgceecnlgjmghaaDoor.PH

namespace Go.Proofs.YtgceecnlgjmghaaDoor.PH
open Go.RowKit Go.Proofs.YtgceecnlgjmghaaDoorW.PrintWords Go.Proofs.YtgceecnlgjmghaaDoor.arith
def arith_Sum.f (l0 : List Int) : Option (Int × Bool) := if l0 ≠ [] ∧ l0.length ≤ 1000000 ∧ (∀ z ∈ l0, Ar.fits z = true) then some (Ar.fitV l0.sum, Ar.fits l0.sum) else none
theorem arith_Sum.calls (A0 : Option Addr) (c0 : Nat) (l0 : List Int) (r1 : Int) (r2 : Bool) (w : World) (hr0 : Kd.C (Kd.int .i64) w A0 l0.length l0) (_ : l0.length ≤ c0) (h : arith_Sum.f l0 = some (r1, r2)) :
  Calls Tryd.prog 28 #[.slice A0 l0.length c0] w fun e w' => e = .returned (.tuple #[.int .i64 r1, .bool r2]) ∧ Below w.heap.size w w' := by
 unfold arith_Sum.f at h
 split at h
 ·rename_i hq
  obtain ⟨hne, hlen, hfit⟩ := hq
  simp only [Option.some.injEq, Prod.mk.injEq] at h
  obtain ⟨rfl, rfl⟩ := h
  have hpos : 0 < l0.length := List.length_pos_iff.2 hne
  have cell : ∀ j : Nat, j < l0.length → ∃ ad, A0 = some ad ∧ w.cell? (ad.add j) = some (.int .i64 (l0.getD j 0)) := fun j hj => by
   obtain ⟨ad, c, e, hcl, hK, hu⟩ := Kd.C_get hr0 0 (j : Int) (by omega) (by omega)
   have hK' : c = [.int .i64 (l0.getD j 0)] := hK
   subst hK'
   exact ⟨ad, e, by simpa [Kd.int, Kd.scalar] using hu 0 _ rfl⟩
  obtain ⟨ad, rfl, h0⟩ := cell 0 hpos
  have hsp : ad.spot = none := by
   rw [show ad.add 0 = ad from by simp [Addr.add]] at h0
   unfold World.cell? at h0
   cases hs : ad.spot with
   | none => rfl
   | some q =>
    rw [hs] at h0
    split at h0 <;> simp at h0
  obtain ⟨b, off, sp⟩ := ad
  simp only at hsp
  subst hsp
  have hs : l0.sum = sumK l0 l0.length := by unfold sumK; rw [List.take_length]
  rw [hs]
  refine sum_any l0 b off c0 w hlen (fun j hj => ?_) (fun j hj => ?_)
  ·obtain ⟨ad, e, hc⟩ := cell j hj
   cases e
   by_cases hj0 : j = 0
   ·subst hj0
    simpa [Addr.add] using hc
   ·simpa [Addr.add, hj0] using hc
  ·rw [List.getD_eq_getElem?_getD, List.getElem?_eq_getElem hj]
   exact hfit _ (List.getElem_mem hj)
 ·cases h
end Go.Proofs.YtgceecnlgjmghaaDoor.PH

