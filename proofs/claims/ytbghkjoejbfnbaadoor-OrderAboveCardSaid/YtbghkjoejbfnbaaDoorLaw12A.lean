/- OrderAbove holds. Plain law. No conditions. -/
import Derived.Test.YtbghkjoejbfnbaaDoorPHx17
import Derived.Test.YtbghkjoejbfnbaaDoorLaw12L
import Derived.Test.YtbghkjoejbfnbaaDoorLaw12H
noncomputable section
namespace Go.Proofs.YtbghkjoejbfnbaaDoor.law12
open Go.RowKit Go.Proofs.YtbghkjoejbfnbaaDoorW.PrintWords Go.Proofs.YtbghkjoejbfnbaaDoor Go.Proofs.YtbghkjoejbfnbaaDoor.PH
theorem b_inj {a b : ByteArray} (h : a.data.toList = b.data.toList) : a = b := by
  cases a; cases b
  congr
  exact Array.toList_inj.1 h
theorem nums_data (l : List UInt8) : (l.map fun b => (b.toNat : Int)).map (fun n => UInt8.ofNat n.toNat) = l := by
  rw [List.map_map]
  conv => rhs; rw [← List.map_id l]
  exact List.map_congr_left (fun b _ => by simp)
theorem abv_data (s : ByteArray) (n : Nat) (hn : n < s.size) :
    (ord.abv s (n + 1)).1.data.toList = s.data.toList.take n ++ [s[n]'hn + 1] ∧ (ord.abv s (n + 1)).2 = true := by
  unfold ord.abv
  rw [if_neg (by omega), Nat.add_sub_cancel]
  refine ⟨?_, rfl⟩
  have e := bt_at s (n : Int) (show (n : Int).toNat < s.size by simpa using hn)
  simp only [Int.toNat_natCast] at e
  rw [strOfNums_data, List.map_append, bytesOf, ← List.map_take, nums_data]
  congr 1
  rw [← e]
  simp only [List.map_cons, List.map_nil]
  congr 1
  try (apply UInt8.toNat_inj.1)
  try (rw [UInt8.toNat_add])
  try simp
theorem above_l0 (s : ByteArray) (hs : s.size ≤ 300) : ∀ (n k : Nat), n ≤ s.size → n < k → quittanceref12_Above.l0 k s (n : Int) = some (ord.abv s (ord.stripN s n))
  | 0, k, _, hk => by
    obtain ⟨k, rfl⟩ : ∃ j, k = j + 1 := ⟨k - 1, by omega⟩
    unfold quittanceref12_Above.l0
    rw [if_neg (by decide), if_pos (show ((0 : Nat) : Int) = 0 from rfl)]
    rfl
  | n + 1, k, hn, hk => by
    obtain ⟨k, rfl⟩ : ∃ j, k = j + 1 := ⟨k - 1, by omega⟩
    have ew : wrap64 (((n + 1 : Nat) : Int) - 1) = (n : Int) := by unfold wrap64; omega
    unfold quittanceref12_Above.l0
    rw [if_pos (by omega), ew, if_pos (by omega), if_pos (by omega)]
    by_cases hb : bt s (n : Int) = 255
    · rw [if_pos hb, above_l0 s hs n k (by omega) (by omega)]
      conv => rhs; unfold ord.stripN
      rw [if_pos hb]
    · have hr := bt_range s (n : Int)
      have e1 : ord.stripN s (n + 1) = n + 1 := by unfold ord.stripN; rw [if_neg hb]
      rw [if_neg hb, if_neg (by omega), if_pos (by omega), e1]
      unfold quittanceref12_one.f
      rw [Option.bind_some, if_pos (by rw [ByteArray.size_extract, strOfNums_size]; simp; omega)]
      unfold ord.abv
      rw [if_neg (by omega), Nat.add_sub_cancel]
      congr 2
      apply b_inj
      have ev : wrap64 (wrap64 (bt s (n : Int)) + 1) % 256 = bt s (n : Int) + 1 := by unfold wrap64; omega
      rw [ByteArray.data_append, Array.toList_append, ev, strOfNums_data, strOfNums_data, List.map_append, Lib.extract_from_zero, bytesOf, ← List.map_take, nums_data]
      simp
theorem begins_is (t s : ByteArray) : quittancelaw12_begins.f t s = some (s.data.toList.isPrefixOf t.data.toList) := by
  unfold quittancelaw12_begins.f
  have hl : ∀ x : ByteArray, x.data.toList.length = x.size := fun x => by rw [Array.length_toList]; rfl
  by_cases h : (t.size : Int) ≥ (s.size : Int)
  · rw [if_pos h, if_pos (by omega), if_pos (by omega), Lib.toList_data, Lib.toList_data, Lib.extract_from_zero]
    congr 1
    rw [Bool.eq_iff_iff, beq_iff_eq, List.isPrefixOf_iff_prefix, List.prefix_iff_eq_take, hl]
    simp only [Int.toNat_natCast]
    exact eq_comm
  · rw [if_neg h]
    congr 1
    symm
    rw [Bool.eq_false_iff]
    intro hp
    have := (List.isPrefixOf_iff_prefix.1 hp).length_le
    rw [hl, hl] at this
    omega
/-- The law on texts. -/
theorem above_law (s t : ByteArray) : s.data.toList.isPrefixOf t.data.toList = (!(Op.bytesLess t.data.toList s.data.toList) && (!(ord.abv s (ord.stripN s s.size)).2 || Op.bytesLess t.data.toList (ord.abv s (ord.stripN s s.size)).1.data.toList)) := by
  obtain ⟨f, hf, he⟩ := strip_shape s s.size (Nat.le_refl _)
  rw [List.take_of_length_le (by rw [Array.length_toList]; exact Nat.le_refl _)] at he
  have hsp := ord.stripN_spec s s.size
  obtain ⟨n, hn⟩ : ∃ n, ord.stripN s s.size = n := ⟨_, rfl⟩
  rw [hn] at he hsp ⊢
  cases n with
  | zero =>
    rw [List.take_zero, List.nil_append] at he
    rw [he, pre_ff f _ hf]
    simp [ord.abv]
  | succ n =>
    have hn1 : n < s.size := by omega
    have hb : bt s (n : Int) ≠ 255 := by have := hsp.2 (by omega); simpa using this
    obtain ⟨h1, h2⟩ := abv_data s n hn1
    rw [h1, h2]
    have hl : n < s.data.toList.length := by rw [Array.length_toList]; exact hn1
    have e2 : s.data.toList[n] = s[n]'hn1 := by simp; rfl
    rw [List.take_succ_eq_append_getElem hl, e2, List.append_assoc] at he
    have hc : s[n]'hn1 ≠ 255 := by
      intro q
      apply hb
      have e := bt_at s (n : Int) (show (n : Int).toNat < s.size by simpa using hn1)
      simp only [Int.toNat_natCast] at e
      rw [← e, q]
      rfl
    have := pre_up (s.data.toList.take n) f t.data.toList (s[n]'hn1) hc hf
    rw [show s.data.toList.take n ++ s[n]'hn1 :: f = s.data.toList from he.symm] at this
    rw [this]
    simp
theorem above_holds (a0 a1 : ByteArray) : quittancelaw12_OrderAbove.f 400 a0 a1 = some true := by
  have hgreat : quittancelaw12_OrderAbove.j0 400 a0 a1 true = some true := by
    rw [quittancelaw12_OrderAbove.j0, if_pos rfl, head_ok _ (by decide), Option.bind_some]
  unfold quittancelaw12_OrderAbove.f
  by_cases h0 : (a0.size : Int) > 300
  · rw [if_pos h0]; exact hgreat
  · rw [if_neg h0]
    by_cases h1 : (a1.size : Int) > 300
    · rw [decide_eq_true h1]; exact hgreat
    · rw [decide_eq_false h1]
      rw [quittancelaw12_OrderAbove.j0]
      unfold order_Above.f quittanceref12_Above.f
      rw [if_neg (by decide), if_pos (by omega), Option.bind_some, above_l0 a0 (by omega) a0.size 399 (Nat.le_refl _) (by omega), Option.bind_some, if_pos rfl]
      have hl := above_law a0 a1
      generalize ord.abv a0 (ord.stripN a0 a0.size) = q at hl ⊢
      obtain ⟨up, is⟩ := q
      dsimp only at hl ⊢
      have hne : (is != is) = false := by cases is <;> rfl
      rw [hne]
      rw [quittancelaw12_OrderAbove.j1, if_neg (by decide), begins_is, Option.bind_some, hl, Lib.toList_data, Lib.toList_data, Lib.toList_data, head_ok _ (by decide), Option.bind_some]
      cases Op.bytesLess a1.data.toList a0.data.toList <;> cases is <;> cases Op.bytesLess a1.data.toList up.data.toList <;> rfl
theorem aboveWalk (a0 a1 : ByteArray) (w : World) (HTab : Aside0 (Tab w)) : Calls Tryd.prog 7 #[.string a0, .string a1] w fun e w' => e = .returned (.bool true) ∧ Below w.heap.size w w' :=
  quittancelaw12_OrderAbove.calls 400 a0 a1 true w HTab (above_holds a0 a1)
end Go.Proofs.YtbghkjoejbfnbaaDoor.law12
