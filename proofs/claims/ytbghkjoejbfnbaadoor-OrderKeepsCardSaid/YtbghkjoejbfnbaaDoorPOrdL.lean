/- Functions of the library that package order calls, in the printed form. The length of the longest text of bytealg's is some number. -/
import Derived.Test.YtbghkjoejbfnbaaDoorOShelf
import Derived.Test.YtbghkjoejbfnbaaDoorWWords
import Derived.Test.YtbghkjoejbfnbaaDoorWMore
namespace Go.Proofs.YtbghkjoejbfnbaaDoor.PH
open Go.RowKit Go.Proofs.YtbghkjoejbfnbaaDoorW.PrintWords
/-- The library's own bound is some number. -/
def Tab (w : World) : Prop := ∃ m : Int, w.cell? ⟨0, 0, none⟩ = some (.int .i64 m)
theorem Tab.below {w w' : World} (h : Tab w) (hb : Below w.heap.size w w') : Tab w' := by
  obtain ⟨m, hm⟩ := h
  exact ⟨m, (hb.cell (World.block_lt_of_cell? w _ hm)).trans hm⟩
theorem Tab.b {w w' : World} (h : Aside0 (Tab w)) (hb : Below w.heap.size w w') : Aside0 (Tab w') := ⟨h.out.below hb⟩
theorem Tab.d {w w' : World} (h : Aside0 (Tab w)) (hd : Drawn0 w w') : Aside0 (Tab w') := Tab.b h hd.below
theorem quiet_of {P : Program} {f : FuncId} {args : Array Value} {w : World} {v : Value} (h : Calls P f args w fun e w' => e = .returned v ∧ w' = w) : Calls P f args w fun e w' => e = .returned v ∧ Drawn0 w w' :=
  h.mono fun _ _ ⟨a, b⟩ => ⟨a, b ▸ Drawn0.refl _⟩
def nis : ByteArray := ⟨#[110, 105, 115]⟩
def strings_Trim.f (a0 a1 : ByteArray) : Option ByteArray := if a0.size ≤ 9223372036854775807 ∧ a1 = nis then some ⟨(Lib.trimS a0.data.toList [110, 105, 115]).toArray⟩ else none
theorem strings_Trim.calls (a0 a1 r : ByteArray) (w : World) (h : strings_Trim.f a0 a1 = some r) :
    Calls Tryd.prog 26 #[.string a0, .string a1] w fun e w' => e = .returned (.string r) ∧ Below w.heap.size w w' := by
  unfold strings_Trim.f at h
  split at h
  · rename_i hc
    obtain ⟨h1, rfl⟩ := hc
    obtain rfl := Option.some.inj h
    exact Go.Proofs.Any.strings_Trim_laid osh.lays160 (by kernel_rfl) a0 nis w h1 (by decide) (Go.Proofs.ascii_of_all (by decide))
  · cases h
def strings_ReplaceAll.f (a0 a1 a2 : ByteArray) : Option ByteArray := if a0.size < 4294967281 ∧ 1 ≤ a1.size ∧ a0.size + Lib.countB a0 a1 * a2.size ≤ 140737488355328 then some ⟨(Lib.replaceAll a0.data.toList a1.data.toList a2.data.toList).toArray⟩ else none
theorem strings_ReplaceAll.calls (a0 a1 a2 r : ByteArray) (w : World) (HTab : Aside0 (Tab w)) (h : strings_ReplaceAll.f a0 a1 a2 = some r) :
    Calls Tryd.prog 41 #[.string a0, .string a1, .string a2] w fun e w' => e = .returned (.string r) ∧ Below w.heap.size w w' := by
  unfold strings_ReplaceAll.f at h
  split at h
  · rename_i hc
    obtain rfl := Option.some.inj h
    obtain ⟨m, hm⟩ := HTab.out
    exact osh.strings_ReplaceAll a0 a1 a2 m w hc.1 hm hc.2.1 hc.2.2
  · cases h
def strings_IndexByte.f (a0 : ByteArray) (a1 : Int) : Option Int := some (Lib.indexByte a0.data.toList a1.toNat.toUInt8)
theorem strings_IndexByte.calls (a0 : ByteArray) (a1 r : Int) (w : World) (h : strings_IndexByte.f a0 a1 = some r) :
    Calls Tryd.prog 73 #[.string a0, .int .u8 a1] w fun e w' => e = .returned (.int .i64 r) ∧ Drawn0 w w' := by
  obtain rfl := Option.some.inj h
  exact quiet_of (osh.strings_IndexByte a0 a1 w)
def strings_Compare.f (a0 a1 : ByteArray) : Option Int := some (Lib.compareBytes a0.data.toList a1.data.toList)
theorem strings_Compare.calls (a0 a1 : ByteArray) (r : Int) (w : World) (h : strings_Compare.f a0 a1 = some r) :
    Calls Tryd.prog 36 #[.string a0, .string a1] w fun e w' => e = .returned (.int .i64 r) ∧ Drawn0 w w' := by
  obtain rfl := Option.some.inj h
  exact quiet_of (osh.strings_Compare a0 a1 w)
def bits_Len64.f (a0 : Int) : Option Int := if 0 ≤ a0 ∧ a0 ≤ 18446744073709551615 then some (Lib.bitLen a0.toNat) else none
theorem bits_Len64.calls (a0 r : Int) (w : World) (h : bits_Len64.f a0 = some r) :
    Calls Tryd.prog 56 #[.int .u64 a0] w fun e w' => e = .returned (.int .i64 r) ∧ Drawn0 w w' := by
  unfold bits_Len64.f at h
  split at h
  · rename_i hc
    obtain rfl := Option.some.inj h
    exact quiet_of (osh.bits_Len64 a0 w hc.1 hc.2)
  · cases h
end Go.Proofs.YtbghkjoejbfnbaaDoor.PH
