/- The bytes of a number field: the program's and the document's. Plain law. No conditions. -/
import Derived.Test.YtbghkjoejbfnbaaDoorLaw12G
noncomputable section
namespace Go.Proofs.YtbghkjoejbfnbaaDoor.law12
open Go.RowKit Go.Proofs.YtbghkjoejbfnbaaDoorW.PrintWords Go.Proofs.YtbghkjoejbfnbaaDoor Go.Proofs.YtbghkjoejbfnbaaDoor.PH
theorem be8 (n : Nat) (h : n < 18446744073709551616) : (be n).length ≤ 8 :=
  be_len 8 n (by have : (256 : Nat) ^ 8 = 18446744073709551616 := by decide
                 omega)
theorem xor_zero (n : Nat) : (be n).map (fun c => Go.bits .xor .u8 c 0) = be n := by
  conv => rhs; rw [← List.map_id (be n)]
  exact List.map_congr_left (fun c hc => by
    have := be_rng n c hc
    rw [ord.xor_tb 0 c (.inl rfl) this.1 this.2]
    rfl)
theorem xor_ff (n : Nat) : (be n).map (fun c => Go.bits .xor .u8 c 255) = (be n).map (fun c => 255 - c) :=
  List.map_congr_left (fun c hc => by
    have := be_rng n c hc
    rw [ord.xor_tb 255 c (.inr rfl) this.1 this.2]
    rfl)
theorem put_n (n : Nat) (h : n < 18446744073709551616) (i : Int) (s : ByteArray) (acc : List Int) (k : Nat) (hk : 10 ≤ k) (ha : acc.length ≤ 80000) :
    order_put.f k acc 110 (n : Int) i s = some (acc ++ (((be n).length : Int) :: be n)) := by
  have h8 := be8 n h
  unfold order_put.f
  rw [if_pos rfl, size_be n h, Option.bind_some, if_pos (by omega), digits_f n h 0 _ k hk (by simp; omega), Option.bind_some, xor_zero, show ((be n).length : Int) % 256 = ((be n).length : Int) by omega]
  simp
theorem short_f (n : Nat) (h : n < 18446744073709551616) (k : Nat) (hk : 30 ≤ k) : quittanceref12_short.f k (n : Int) = some (strOfNums (be n)) := by
  unfold quittanceref12_short.f
  have h9 : quittanceref12_short.l0 (8 + 1) (n : Int) (⟨#[]⟩ : ByteArray) = some (strOfNums (be n) ++ ⟨#[]⟩) :=
    short_l0 8 n _ (by have : (256 : Nat) ^ 8 = 18446744073709551616 := by decide
                       omega) (by decide) (by decide) h
  have e : strOfNums (be n) ++ (⟨#[]⟩ : ByteArray) = strOfNums (be n) := by
    have := str_app (be n) []
    rw [List.append_nil] at this
    exact this.symm
  rw [e] at h9
  exact up (f := fun k => quittanceref12_short.l0 k (n : Int) (⟨#[]⟩ : ByteArray)) (fun k => quittanceref12_short.mono (n : Int) k) h9 k (by omega)
theorem ref_n (n : Nat) (h : n < 18446744073709551616) (i : Int) (s : ByteArray) (k : Nat) (hk : 30 ≤ k) :
    quittanceref12_bytes.f k 110 (n : Int) i s = some (strOfNums (((be n).length : Int) :: be n)) := by
  have h8 := be8 n h
  unfold quittanceref12_bytes.f quittanceref12_one.f
  rw [if_pos rfl, short_f n h k hk, Option.bind_some, Option.bind_some, if_pos (by rw [strOfNums_size, strOfNums_size]; simp; omega), strOfNums_size, show ((be n).length : Int) % 256 = ((be n).length : Int) by omega, ← str_app]
  rfl
theorem put_ip (m : Nat) (h : m < 9223372036854775808) (n : Int) (s : ByteArray) (acc : List Int) (k : Nat) (hk : 10 ≤ k) (ha : acc.length ≤ 80000) :
    order_put.f k acc 105 n (m : Int) s = some (acc ++ ((128 + ((be m).length : Int)) :: be m)) := by
  have h8 := be8 m (by omega)
  have ew : IntKind.u64.wrap (m : Int) = (m : Int) := by rw [ord.u64w]; omega
  have e1 : wrap64 (128 + ((be m).length : Int)) % 256 = 128 + ((be m).length : Int) := by unfold wrap64; omega
  unfold order_put.f
  rw [if_neg (by decide), if_pos rfl, if_pos (by omega), ew, size_be m (by omega), Option.bind_some, if_pos (by omega), digits_f m (by omega) 0 _ k hk (by simp; omega), Option.bind_some, xor_zero, e1]
  simp
theorem ref_ip (m : Nat) (h : m < 9223372036854775808) (n : Int) (s : ByteArray) (k : Nat) (hk : 30 ≤ k) :
    quittanceref12_bytes.f k 105 n (m : Int) s = some (strOfNums ((128 + ((be m).length : Int)) :: be m)) := by
  have h8 := be8 m (by omega)
  have ew : IntKind.u64.wrap (m : Int) = (m : Int) := by rw [ord.u64w]; omega
  have e1 : wrap64 (128 + ((be m).length : Int)) % 256 = 128 + ((be m).length : Int) := by unfold wrap64; omega
  unfold quittanceref12_bytes.f quittanceref12_one.f
  rw [if_neg (by decide), if_pos rfl, if_pos (by omega), ew, short_f m (by omega) k hk, Option.bind_some, Option.bind_some, if_pos (by rw [strOfNums_size, strOfNums_size]; simp; omega), strOfNums_size, e1, ← str_app]
  rfl
end Go.Proofs.YtbghkjoejbfnbaaDoor.law12
