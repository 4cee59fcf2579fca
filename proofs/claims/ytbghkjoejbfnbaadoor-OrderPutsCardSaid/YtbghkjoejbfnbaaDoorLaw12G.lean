/- How many bytes a number takes; its bytes from the highest. Plain law. No conditions. -/
import Derived.Test.YtbghkjoejbfnbaaDoorLaw12F
import Derived.Test.YtbghkjoejbfnbaaDoorPHx4
noncomputable section
namespace Go.Proofs.YtbghkjoejbfnbaaDoor.law12
open Go.RowKit Go.Proofs.YtbghkjoejbfnbaaDoorW.PrintWords Go.Proofs.YtbghkjoejbfnbaaDoorW.PrintMore Go.Proofs.YtbghkjoejbfnbaaDoor Go.Proofs.YtbghkjoejbfnbaaDoor.PH
theorem bitLen_be : ∀ n : Nat, n < 18446744073709551616 → (Lib.bitLen n + 7) / 8 = (be n).length := by
  intro n
  induction n using Nat.strongRecOn with
  | _ n ih =>
    intro h
    rcases Nat.eq_zero_or_pos n with rfl | hp
    · rw [be_zero]; decide
    · rw [be_pos n hp, List.length_append, List.length_singleton]
      by_cases c : 256 ≤ n
      · have := ih (n / 256) (by omega) (by omega)
        rw [Lib.bitLen_shift8 n c h]
        omega
      · have h8 := Lib.bitLen_le8 ⟨n, by omega⟩
        have h1 := Lib.bitLen_half n (by omega) (by omega)
        rw [show n / 256 = 0 by omega, be_zero]
        simp only [List.length_nil]
        dsimp only at h8
        omega
theorem size_be (n : Nat) (h : n < 18446744073709551616) : order_size.f (n : Int) = some ((be n).length : Int) := by
  unfold order_size.f bits_Len64.f
  have hb := bitLen_be n h
  have h8 := be_len 8 n (by have : (256 : Nat) ^ 8 = 18446744073709551616 := by decide
                            omega)
  rw [if_pos ⟨by omega, by omega⟩, Option.bind_some, Int.toNat_natCast]
  congr 1
  generalize Lib.bitLen n = x at hb
  have e1 : wrap64 ((x : Int) + 7) = ((x + 7 : Nat) : Int) := by unfold wrap64; omega
  rw [e1, Int.tdiv_eq_ediv_of_nonneg (by omega)]
  unfold wrap64
  omega
/-- A number's last s bytes, the highest first. -/
def dgs (n : Nat) : Nat → List Int
  | 0 => []
  | s + 1 => ((n / 256 ^ s % 256 : Nat) : Int) :: dgs n s
theorem dgs_snoc (n : Nat) : ∀ s, dgs n (s + 1) = dgs (n / 256) s ++ [((n % 256 : Nat) : Int)]
  | 0 => by simp [dgs]
  | s + 1 => by
    rw [dgs, dgs_snoc n s, dgs, Nat.div_div_eq_div_mul, Nat.pow_succ, Nat.mul_comm 256]
    rfl
theorem be_dgs : ∀ n : Nat, be n = dgs n (be n).length := by
  intro n
  induction n using Nat.strongRecOn with
  | _ n ih =>
    rcases Nat.eq_zero_or_pos n with rfl | hp
    · rw [be_zero]; rfl
    · rw [be_pos n hp, List.length_append, List.length_singleton, dgs_snoc, ← ih (n / 256) (by omega)]
theorem digits_l0 (n : Nat) (turn : Int) : ∀ (s k : Nat) (acc : List Int), s ≤ 8 → s + 1 ≤ k → acc.length + s ≤ 100000 →
    order_digits.l0 k acc (n : Int) turn ((s : Int) - 1) = some (acc ++ (dgs n s).map (fun c => Go.bits .xor .u8 c turn))
  | 0, k, acc, _, hk, _ => by
    obtain ⟨k, rfl⟩ : ∃ j, k = j + 1 := ⟨k - 1, by omega⟩
    unfold order_digits.l0
    rw [if_neg (by omega)]
    simp [dgs]
  | s + 1, k, acc, hs, hk, ha => by
    obtain ⟨k, rfl⟩ : ∃ j, k = j + 1 := ⟨k - 1, by omega⟩
    have e0 : ((s + 1 : Nat) : Int) - 1 = (s : Int) := by omega
    have e1 : wrap64 (8 * (s : Int)) = 8 * (s : Int) := by unfold wrap64; omega
    have e2 : wrap64 ((s : Int) - 1) = (s : Int) - 1 := by unfold wrap64; omega
    have e3 : shr .u64 (n : Int) (8 * (s : Int)) % 256 = ((n / 256 ^ s % 256 : Nat) : Int) := by
      unfold shr
      have hm : min (8 * (s : Int)).toNat IntKind.u64.bits = 8 * s := by
        have : IntKind.u64.bits = 64 := rfl
        omega
      have h2 : (2 : Nat) ^ (8 * s) = 256 ^ s := by rw [Nat.pow_mul]
      have hp : (2 : Int) ^ (8 * s) = (((256 : Nat) ^ s : Nat) : Int) := by rw [← h2]; push_cast; rfl
      rw [hm, hp]
      clear hm hp h2 e0 e1 e2
      generalize 256 ^ s = q
      first | rfl | (push_cast; rfl) | simp
    rw [order_digits.l0, e0, if_pos (by omega), e1, if_pos (by omega), if_pos (by omega), e2, e3, digits_l0 n turn s k _ (by omega) (by omega) (by simp; omega), dgs]
    simp
theorem digits_f (n : Nat) (h : n < 18446744073709551616) (turn : Int) (acc : List Int) (k : Nat) (hk : 10 ≤ k) (ha : acc.length ≤ 90000) : order_digits.f k acc (n : Int) turn = some (acc ++ (be n).map (fun c => Go.bits .xor .u8 c turn)) := by
  have h8 := be_len 8 n (by have : (256 : Nat) ^ 8 = 18446744073709551616 := by decide
                            omega)
  unfold order_digits.f
  rw [size_be n h, Option.bind_some]
  have e : wrap64 (((be n).length : Int) - 1) = ((be n).length : Int) - 1 := by unfold wrap64; omega
  rw [e, digits_l0 n turn (be n).length k acc h8 (by omega) (by omega), ← be_dgs]
end Go.Proofs.YtbghkjoejbfnbaaDoor.law12
