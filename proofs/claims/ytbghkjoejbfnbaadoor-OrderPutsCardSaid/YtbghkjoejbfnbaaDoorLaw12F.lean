/- Numbers as bytes, the highest first: what the program and the document write. Plain law. No conditions. -/
import Derived.Test.YtbghkjoejbfnbaaDoorLaw12C
import Derived.Test.YtbghkjoejbfnbaaDoorPOrdT
noncomputable section
namespace Go.Proofs.YtbghkjoejbfnbaaDoor.law12
open Go.RowKit Go.Proofs.YtbghkjoejbfnbaaDoorW.PrintWords Go.Proofs.YtbghkjoejbfnbaaDoor Go.Proofs.YtbghkjoejbfnbaaDoor.PH
/-- A number's bytes, the highest first; none of 0. -/
def be (n : Nat) : List Int := if _h : n = 0 then [] else be (n / 256) ++ [((n % 256 : Nat) : Int)]
termination_by n
decreasing_by omega
theorem be_zero : be 0 = [] := by rw [be]; simp
theorem be_pos (n : Nat) (h : 0 < n) : be n = be (n / 256) ++ [((n % 256 : Nat) : Int)] := by rw [be, dif_neg (by omega)]
theorem be_len : ∀ (s n : Nat), n < 256 ^ s → (be n).length ≤ s
  | 0, n, h => by
    obtain rfl : n = 0 := by simpa using h
    rw [be_zero]; exact Nat.le_refl _
  | s + 1, n, h => by
    rcases Nat.eq_zero_or_pos n with rfl | hn
    · rw [be_zero]; exact Nat.zero_le _
    · rw [be_pos n hn, List.length_append]
      have := be_len s (n / 256) (Nat.div_lt_of_lt_mul (by rw [Nat.pow_succ] at h; omega))
      simp only [List.length_singleton]
      omega
theorem be_lt (s n : Nat) (h : 256 ^ s ≤ n) : s < (be n).length := by
  induction s generalizing n with
  | zero =>
    rw [be_pos n (by rw [Nat.pow_zero] at h; omega), List.length_append]
    simp
  | succ s ih =>
    have hp : 0 < n := Nat.lt_of_lt_of_le (Nat.pow_pos (by decide)) h
    rw [be_pos n hp, List.length_append]
    have : s < (be (n / 256)).length := ih (n / 256) ((Nat.le_div_iff_mul_le (by decide)).2 (by rw [Nat.pow_succ] at h; omega))
    simp only [List.length_singleton]
    omega
theorem be_rng : ∀ n, ∀ c ∈ be n, 0 ≤ c ∧ c ≤ 255 := by
  intro n
  induction n using Nat.strongRecOn with
  | _ n ih =>
    intro c hc
    rcases Nat.eq_zero_or_pos n with rfl | hn
    · rw [be_zero] at hc; cases hc
    · rw [be_pos n hn] at hc
      rcases List.mem_append.1 hc with h | h
      · exact ih (n / 256) (by omega) c h
      · have : c = ((n % 256 : Nat) : Int) := by simpa using h
        omega
theorem str_app (l m : List Int) : strOfNums (l ++ m) = strOfNums l ++ strOfNums m := by
  have : ∀ a b : ByteArray, a.data.toList = b.data.toList → a = b := by
    intro a b h
    cases a; cases b
    congr
    exact Array.toList_inj.1 h
  apply this
  rw [ByteArray.data_append, Array.toList_append, strOfNums_data, strOfNums_data, strOfNums_data, List.map_append]
/-- The document's bytes of a number. -/
theorem short_l0 : ∀ (k n : Nat) (acc : ByteArray), n < 256 ^ k → k ≤ 20 → acc.size + k ≤ 1000 → n < 18446744073709551616 → quittanceref12_short.l0 (k + 1) (n : Int) acc = some (strOfNums (be n) ++ acc) := by
  intro k
  have hz : ∀ (k : Nat) (acc : ByteArray), quittanceref12_short.l0 (k + 1) ((0 : Nat) : Int) acc = some (strOfNums (be 0) ++ acc) := by
    intro k acc
    unfold quittanceref12_short.l0
    rw [if_neg (by decide), be_zero]
    congr 1
  induction k with
  | zero =>
    intro n acc h _ _ _
    obtain rfl : n = 0 := by rw [Nat.pow_zero] at h; omega
    exact hz 0 acc
  | succ k ih =>
    intro n acc h hk ha hn
    rcases Nat.eq_zero_or_pos n with rfl | hp
    · exact hz _ acc
    · have e1 : Int.tmod (n : Int) 256 % 256 = ((n % 256 : Nat) : Int) := by
        rw [Int.tmod_eq_emod_of_nonneg (by omega)]; omega
      have e2 : IntKind.u64.wrap (Int.tdiv (n : Int) 256) = ((n / 256 : Nat) : Int) := by
        rw [Int.tdiv_eq_ediv_of_nonneg (by omega), ord.u64w]; omega
      rw [quittanceref12_short.l0, if_pos (by omega), Option.bind_some, e1, e2, if_pos (by rw [strOfNums_size]; simp; omega)]
      have hs : (strOfNums [((n % 256 : Nat) : Int)] ++ acc).size = acc.size + 1 := by rw [ByteArray.size_append, strOfNums_size]; simp; omega
      rw [ih (n / 256) (strOfNums [((n % 256 : Nat) : Int)] ++ acc) (Nat.div_lt_of_lt_mul (by rw [Nat.pow_succ] at h; omega)) (by omega) (by rw [hs]; omega) (by omega), be_pos n hp, str_app, ByteArray.append_assoc]
end Go.Proofs.YtbghkjoejbfnbaaDoor.law12
