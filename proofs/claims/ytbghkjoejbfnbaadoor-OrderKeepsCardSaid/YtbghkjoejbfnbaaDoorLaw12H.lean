/- The head of the statements on order: at literals. No conditions. -/
import Derived.Test.YtbghkjoejbfnbaaDoorPHx5
noncomputable section
namespace Go.Proofs.YtbghkjoejbfnbaaDoor.law12
open Go.RowKit Go.Proofs.YtbghkjoejbfnbaaDoorW.PrintWords Go.Proofs.YtbghkjoejbfnbaaDoor Go.Proofs.YtbghkjoejbfnbaaDoor.PH
theorem up {α : Type} {f : Nat → Option α} (hm : ∀ k, LeO (f k) (f (k + 1))) {r : α} {n : Nat} (h : f n = some r) : ∀ m, n ≤ m → f m = some r := by
  intro m hm'
  obtain ⟨d, rfl⟩ : ∃ d, m = n + d := ⟨m - n, by omega⟩
  clear hm'
  induction d with
  | zero => exact h
  | succ d ih => exact hm _ _ ih
abbrev nisB : ByteArray := ⟨#[110, 105, 115]⟩
abbrev hL : List S47 := [(⟨258, 0, (⟨#[]⟩ : ByteArray)⟩), (⟨0, (-1), (⟨#[]⟩ : ByteArray)⟩), (⟨0, 0, (⟨#[97, 0]⟩ : ByteArray)⟩)]
abbrev hB : ByteArray := ⟨#[2, 1, 2, 127, 97, 0, 255, 0, 0]⟩
theorem a1 : order_Above.f (⟨#[97, 255]⟩ : ByteArray) = some (⟨#[98]⟩, true) := by kernel_rfl
theorem a2 : order_Above.f (⟨#[255]⟩ : ByteArray) = some (⟨#[]⟩, false) := by kernel_rfl
theorem k1 : order_Kinds.f nisB = some true := by rw [orf.kinds_some]; kernel_rfl
theorem k2 : order_Kinds.f (⟨#[110]⟩ : ByteArray) = some true := by rw [orf.kinds_some]; kernel_rfl
theorem k3 : order_Kinds.f (⟨#[120]⟩ : ByteArray) = some false := by rw [orf.kinds_some]; kernel_rfl
theorem k4 : order_Kinds.f (⟨#[105]⟩ : ByteArray) = some true := by rw [orf.kinds_some]; kernel_rfl
theorem g1 : (orf.items ⟨#[110]⟩ 17 0 ⟨#[1, 0]⟩) = [((0, 0, ⟨#[]⟩), false)] := by kernel_rfl
theorem g2 : (orf.items nisB 17 0 hB) = [((258, 0, ⟨#[]⟩), true), ((0, -1, ⟨#[]⟩), true), ((0, 0, ⟨#[97, 0]⟩), true)] := by kernel_rfl
theorem G1 : order_Get.f (⟨#[110]⟩ : ByteArray) (⟨#[1, 0]⟩ : ByteArray) = some ([], 5) := by
  unfold order_Get.f
  rw [k2, Option.bind_some, if_pos rfl, if_neg (by decide), g1]
  rfl
theorem G2 : order_Get.f nisB hB = some (hL, 0) := by
  unfold order_Get.f
  rw [k1, Option.bind_some, if_pos rfl, if_neg (by decide), g2]
  rfl
theorem f1 : ord.fitB nisB true hL = true := by kernel_rfl
theorem l1 : order_Put.l0 60 nisB [] hL 3 0 = some (hB, 0) := by kernel_rfl
theorem p1 : order_Put.f 60 nisB hL = some (hB, 0) := by
  unfold order_Put.f order_Fit.f
  rw [k1, Option.bind_some, if_pos rfl, Option.bind_some, if_pos (by decide), f1, Option.bind_some, if_pos rfl]
  exact l1
theorem f2 : ord.fitB (⟨#[105]⟩ : ByteArray) true [(⟨0, (-257), (⟨#[]⟩ : ByteArray)⟩ : S47)] = true := by kernel_rfl
theorem l2 : order_Put.l0 60 (⟨#[105]⟩ : ByteArray) [] [(⟨0, (-257), (⟨#[]⟩ : ByteArray)⟩ : S47)] 1 0 = some (⟨#[125, 254, 255]⟩, 0) := by kernel_rfl
theorem p2 : order_Put.f 60 (⟨#[105]⟩ : ByteArray) [(⟨0, (-257), (⟨#[]⟩ : ByteArray)⟩ : S47)] = some (⟨#[125, 254, 255]⟩, 0) := by
  unfold order_Put.f order_Fit.f
  rw [k4, Option.bind_some, if_pos rfl, Option.bind_some, if_pos (by decide), f2, Option.bind_some, if_pos rfl]
  exact l2
theorem s1 : quittanceref12_Same.f 60 hL hL = some true := by kernel_rfl
theorem c1 : ord.cL hL (hL.take 1) = 1 := by kernel_rfl
theorem head60 : quittancelaw12_head.f 60 = some true := by
  unfold quittancelaw12_head.f
  have e1 : hB.toList = ([2, 1, 2, 127, 97, 0, 255, 0, 0] : List UInt8) := by rw [Lib.toList_data]
  have e2 : (⟨#[125, 254, 255]⟩ : ByteArray).toList = ([125, 254, 255] : List UInt8) := by rw [Lib.toList_data]
  have e3 : (⟨#[98]⟩ : ByteArray).toList = ([98] : List UInt8) := by rw [Lib.toList_data]
  have hcmp : order_Compare.f hL (hL.take 1) = some 1 := by unfold order_Compare.f; rw [c1]
  simp only [Option.bind_some]
  rw [show order_Put.f 60 (⟨#[110, 105, 115]⟩ : ByteArray) [(⟨258, 0, (⟨#[]⟩ : ByteArray)⟩ : S47), (⟨0, (-1), (⟨#[]⟩ : ByteArray)⟩ : S47), (⟨0, 0, (⟨#[97, 0]⟩ : ByteArray)⟩ : S47)] = some (hB, 0) from p1]
  simp only [Option.bind_some]
  rw [show order_Get.f (⟨#[110, 105, 115]⟩ : ByteArray) hB = some (hL, 0) from G2]
  simp only [Option.bind_some]
  rw [p2]
  simp only [Option.bind_some]
  rw [G1]
  simp only [Option.bind_some]
  rw [a1]
  simp only [Option.bind_some]
  rw [a2]
  simp only [Option.bind_some]
  rw [if_pos e1, if_pos True.intro, if_pos True.intro, show quittanceref12_Same.f 60 hL _ = some true from s1, Option.bind_some, if_pos rfl, if_pos e2, if_pos True.intro, if_pos e3, if_pos True.intro, if_neg (by decide), k3, Option.bind_some, if_neg (by decide), if_pos (by decide)]
  rw [show order_Compare.f _ (List.take 1 _) = some 1 from hcmp]
  rfl
theorem head_ok (k : Nat) (hk : 60 ≤ k) : quittancelaw12_head.f k = some true := up quittancelaw12_head.mono head60 k hk
end Go.Proofs.YtbghkjoejbfnbaaDoor.law12
