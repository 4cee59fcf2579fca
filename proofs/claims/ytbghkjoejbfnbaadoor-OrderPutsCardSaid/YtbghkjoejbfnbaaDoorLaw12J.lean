/- ^i of a number below 0. Plain law. No conditions. -/
import Derived.Test.YtbghkjoejbfnbaaDoorLaw12I
import Derived.Laws.DeepNot64
noncomputable section
namespace Go.Proofs.YtbghkjoejbfnbaaDoor.law12
open Go.RowKit Go.Proofs.YtbghkjoejbfnbaaDoorW.PrintWords Go.Proofs.YtbghkjoejbfnbaaDoor Go.Proofs.YtbghkjoejbfnbaaDoor.PH
theorem not_neg (m : Nat) (hm : m < 9223372036854775808) : Go.bits .xor .i64 (-1) (-(m : Int) - 1) = (m : Int) := by
  show IntKind.i64.wrap ((BitVec.ofInt 64 (-1) ^^^ BitVec.ofInt 64 (-(m : Int) - 1)).toNat : Int) = _
  have h1 : BitVec.ofInt 64 (-1) = BitVec.allOnes 64 := by decide
  have h2 : (BitVec.ofInt 64 (-(m : Int) - 1)).toNat = 18446744073709551616 - 1 - m := by
    rw [BitVec.toNat_ofInt]
    omega
  rw [h1, BitVec.allOnes_xor, BitVec.toNat_not, h2]
  simp [IntKind.wrap, IntKind.bits, IntKind.signed]
  omega
theorem bt_str (l : List Int) (hl : ∀ c ∈ l, 0 ≤ c ∧ c ≤ 255) (i : Nat) (h : i < l.length) : bt (strOfNums l) (i : Int) = l[i] := by
  have hs : i < (strOfNums l).size := by rw [strOfNums_size]; exact h
  rw [← bt_at (strOfNums l) (i : Int) (by simpa using hs)]
  have e : (strOfNums l)[i]'hs = UInt8.ofNat l[i].toNat := by
    show (strOfNums l).data[i]'hs = _
    simp [strOfNums]
  simp only [Int.toNat_natCast]
  rw [e]
  have := hl l[i] (List.getElem_mem h)
  generalize l[i] = c at this
  rw [UInt8.toNat_ofNat']
  omega
theorem neg_l0 (l : List Int) (hl : ∀ c ∈ l, 0 ≤ c ∧ c ≤ 255) (hn : l.length ≤ 100) : ∀ (n i k : Nat) (acc : ByteArray), l.length - i = n → i ≤ l.length → n < k → acc.size + n ≤ 1000 →
    quittanceref12_bytes.l0 k (strOfNums l) acc (i : Int) = some (acc ++ strOfNums ((l.drop i).map (fun c => 255 - c)))
  | 0, i, k, acc, h, hi, hk, _ => by
    obtain ⟨k, rfl⟩ : ∃ j, k = j + 1 := ⟨k - 1, by omega⟩
    rw [quittanceref12_bytes.l0, if_neg (by rw [strOfNums_size]; omega), show l.drop i = [] from List.drop_eq_nil_of_le (by omega)]
    congr 1
    exact (ByteArray.append_empty (b := acc)).symm
  | n + 1, i, k, acc, h, hi, hk, ha => by
    obtain ⟨k, rfl⟩ : ∃ j, k = j + 1 := ⟨k - 1, by omega⟩
    have hil : i < l.length := by omega
    have ew : wrap64 ((i : Int) + 1) = ((i + 1 : Nat) : Int) := by unfold wrap64; omega
    have hr := hl l[i] (List.getElem_mem hil)
    have e1 : wrap64 (255 - wrap64 l[i]) % 256 = 255 - l[i] := by unfold wrap64; omega
    rw [quittanceref12_bytes.l0, if_pos (by rw [strOfNums_size]; omega), if_pos (by omega), bt_str l hl i hil]
    unfold quittanceref12_one.f
    have hs : (acc ++ strOfNums [255 - l[i]]).size = acc.size + 1 := by rw [ByteArray.size_append, strOfNums_size]; rfl
    rw [Option.bind_some, e1, if_pos (by rw [strOfNums_size]; simp; omega), ew, neg_l0 l hl hn n (i + 1) k _ (by omega) (by omega) (by omega) (by rw [hs]; omega), List.drop_eq_getElem_cons hil, List.map_cons, ByteArray.append_assoc, ← str_app]
    rfl
theorem put_in (m : Nat) (h : m < 9223372036854775808) (n : Int) (s : ByteArray) (acc : List Int) (k : Nat) (hk : 10 ≤ k) (ha : acc.length ≤ 80000) :
    order_put.f k acc 105 n (-(m : Int) - 1) s = some (acc ++ ((127 - ((be m).length : Int)) :: (be m).map (fun c => 255 - c))) := by
  have h8 := be8 m (by omega)
  have ew : IntKind.u64.wrap (m : Int) = (m : Int) := by rw [ord.u64w]; omega
  have e1 : wrap64 (127 - ((be m).length : Int)) % 256 = 127 - ((be m).length : Int) := by unfold wrap64; omega
  unfold order_put.f
  rw [if_neg (by decide), if_pos rfl, if_neg (by omega), not_neg m h, ew, size_be m (by omega), Option.bind_some, if_pos (by omega), digits_f m (by omega) 255 _ k hk (by simp; omega), Option.bind_some, xor_ff, e1]
  simp
theorem ref_in (m : Nat) (h : m < 9223372036854775808) (n : Int) (s : ByteArray) (k : Nat) (hk : 30 ≤ k) :
    quittanceref12_bytes.f k 105 n (-(m : Int) - 1) s = some (strOfNums ((127 - ((be m).length : Int)) :: (be m).map (fun c => 255 - c))) := by
  have h8 := be8 m (by omega)
  have ew : IntKind.u64.wrap (wrap64 (-(wrap64 (-(m : Int) - 1 + 1)))) = (m : Int) := by
    have e : wrap64 (-(m : Int) - 1 + 1) = -(m : Int) := by unfold wrap64; omega
    rw [e]
    have e' : wrap64 (- -(m : Int)) = (m : Int) := by unfold wrap64; omega
    rw [e', ord.u64w]; omega
  have e1 : wrap64 (127 - ((be m).length : Int)) % 256 = 127 - ((be m).length : Int) := by unfold wrap64; omega
  unfold quittanceref12_bytes.f quittanceref12_one.f
  rw [if_neg (by decide), if_pos rfl, if_neg (by omega), ew, short_f m (by omega) k hk, Option.bind_some, Option.bind_some, strOfNums_size, e1]
  have := neg_l0 (be m) (be_rng m) (by omega) (be m).length 0 k (strOfNums [127 - ((be m).length : Int)]) rfl (by omega) (by omega) (by rw [strOfNums_size]; simp; omega)
  rw [List.drop_zero, ← str_app] at this
  exact this
end Go.Proofs.YtbghkjoejbfnbaaDoor.law12
