/- order.take answers on every key that is short enough. Plain law. No conditions. -/
import Derived.Test.YtbghkjoejbfnbaaDoorPOrdU
namespace Go.Proofs.YtbghkjoejbfnbaaDoor.ord
open Go.RowKit Go.Proofs.YtbghkjoejbfnbaaDoorW.PrintWords Go.Proofs.YtbghkjoejbfnbaaDoor.base Go.Shelf
theorem indexByte_bd : ∀ (l : List UInt8) (c : UInt8), -1 ≤ Lib.indexByte l c ∧ Lib.indexByte l c < l.length + (if l = [] then 0 else 0) ∧ (l = [] → Lib.indexByte l c = -1)
  | [], c => by simp [Lib.indexByte]
  | b :: l, c => by
    obtain ⟨h1, h2, _⟩ := indexByte_bd l c
    simp only [Lib.indexByte]
    refine ⟨?_, ?_, fun h => by cases h⟩
    · split
      · omega
      · split
        · omega
        · omega
    · simp only [List.length_cons] at *
      split
      · simp
      · split
        · simp; omega
        · simp at h2 ⊢; omega
theorem text_l0 : ∀ (n : Nat) (b : ByteArray) (acc : List Int) (k : Nat), b.size ≤ n → n ≤ 100000 → 2 * n + 4 ≤ k → acc.length + b.size ≤ 100000 → ∃ r, PH.order_text.l0 k b acc = some r ∧ r.2.2.2.1.size ≤ b.size := by
  intro n
  induction n using Nat.strongRecOn with
  | _ n ih =>
    intro b acc k hb hn hk ha
    obtain ⟨k, rfl⟩ : ∃ k', k = k' + 2 := ⟨k - 2, by omega⟩
    obtain ⟨t, ht⟩ : ∃ t, Lib.indexByte b.data.toList 0 = t := ⟨_, rfl⟩
    have hbd := indexByte_bd b.data.toList 0
    rw [ht] at hbd
    have hsz : (b.data.toList.length : Int) = (b.size : Int) := by rw [Array.length_toList]; rfl
    have hw1 : -1 ≤ t ∧ t < 100000 := by
      have := hbd.2.1
      rw [ite_self] at this
      omega
    have w1 : wrap64 (t + 1) = t + 1 := by unfold wrap64; omega
    have w2 : wrap64 (t + 2) = t + 2 := by unfold wrap64; omega
    unfold PH.order_text.l0 PH.strings_IndexByte.f
    rw [show ((0 : Int).toNat.toUInt8) = (0 : UInt8) from rfl, ht, Option.bind_some, w1]
    have bad : ∃ r, PH.order_text.j1 (k + 1) b acc t true = some r ∧ r.2.2.2.1.size ≤ b.size := by
      unfold PH.order_text.j1
      rw [if_pos rfl]
      exact ⟨_, rfl, Nat.zero_le _⟩
    split
    · exact bad
    · split
      · exact bad
      · rename_i h0 h1
        have good : ∀ z, ∃ r, PH.order_text.j1 (k + 1) b acc t z = some r ∧ r.2.2.2.1.size ≤ b.size := by
          intro z
          cases z with
          | true => exact bad
          | false =>
            have hx : (b.extract 0 t.toNat).size = t.toNat := by rw [ByteArray.size_extract]; omega
            unfold PH.order_text.j1
            rw [if_neg (by decide), if_pos (by omega), if_pos (by omega), if_pos (by omega), Option.bind_some, w1, w2, if_pos (by omega), if_pos (by omega)]
            split
            · rw [if_pos (by omega), if_pos (by omega)]
              exact ⟨_, rfl, by rw [ByteArray.size_extract]; omega⟩
            · rw [if_pos (by rw [List.length_append, bytesOf_length, hx]; omega), if_pos (by omega), if_pos (by omega)]
              have hy : (b.extract (t + 2).toNat b.size).size = b.size - (t + 2).toNat := by rw [ByteArray.size_extract]; omega
              have ha' : (acc ++ bytesOf (b.extract 0 t.toNat) ++ [0]).length + (b.extract (t + 2).toNat b.size).size ≤ 100000 := by
                rw [hy, List.length_append, List.length_append, bytesOf_length, hx]
                simp only [List.length_cons, List.length_nil]
                omega
              obtain ⟨r, h1, h2⟩ := ih (b.size - (t + 2).toNat) (by omega) (b.extract (t + 2).toNat b.size) (acc ++ bytesOf (b.extract 0 t.toNat) ++ [0]) k (by omega) (by omega) (by omega) ha'
              exact ⟨r, h1, by omega⟩
        rw [if_pos (by omega), if_pos (by omega)]
        split
        · exact good _
        · exact good _
theorem text_total (b : ByteArray) (hs : b.size ≤ 2000) : ∃ r, PH.order_text.f 5000 b = some r ∧ r.2.2.2.1.size ≤ b.size := text_l0 2000 b [] 5000 hs (by decide) (by decide) (by simp; omega)
theorem nR_size (b : ByteArray) (k : Int) : (nR b k).size ≤ b.size := by
  unfold nR
  split
  · rw [ByteArray.size_extract]; omega
  · exact Nat.zero_le _
theorem take_total (kind : Int) (b : ByteArray) (hs : b.size ≤ 2000) : ∃ r, takeF kind b = some r ∧ r.2.2.2.1.size ≤ b.size := by
  unfold takeF
  split
  · exact text_total b hs
  · split
    · exact ⟨_, rfl, nR_size _ _⟩
    · split
      · exact ⟨_, rfl, nR_size _ _⟩
      · exact ⟨_, rfl, nR_size _ _⟩
/-- The field taken off bytes. -/
def takeT (kind : Int) (b : ByteArray) : Int × Int × ByteArray × ByteArray × Bool := (takeF kind b).getD (0, 0, ⟨#[]⟩, ⟨#[]⟩, false)
theorem take_does (w : World) (kind : Int) (b : ByteArray) (hk : kind = 110 ∨ kind = 105 ∨ kind = 115) (hs : b.size ≤ 2000) (h0 : 0 < b.size) :
    Calls Tryd.prog 51 #[.int .u8 kind, .string b] w fun e w' => e = .returned (.tuple #[.agg #[.int .u64 (takeT kind b).1, .int .i64 (takeT kind b).2.1, .string (takeT kind b).2.2.1], .string (takeT kind b).2.2.2.1, .bool (takeT kind b).2.2.2.2]) ∧ Below w.heap.size w w' := by
  obtain ⟨⟨r1, r2, r3, r4, r5⟩, hr, _⟩ := take_total kind b hs
  have e : takeT kind b = (r1, r2, r3, r4, r5) := by unfold takeT; rw [hr]; rfl
  rw [e]
  exact take_any w kind b r1 r2 r3 r4 r5 hk hs h0 hr
theorem takeT_size (kind : Int) (b : ByteArray) (hs : b.size ≤ 2000) : (takeT kind b).2.2.2.1.size ≤ b.size := by
  obtain ⟨r, hr, h⟩ := take_total kind b hs
  have e : takeT kind b = r := by unfold takeT; rw [hr]; rfl
  rw [e]; exact h
end Go.Proofs.YtbghkjoejbfnbaaDoor.ord
