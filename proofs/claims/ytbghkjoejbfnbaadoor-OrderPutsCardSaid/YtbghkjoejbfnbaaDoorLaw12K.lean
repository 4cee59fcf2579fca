/- The bytes of a text field: the program's and the document's. Plain law. No conditions. -/
import Derived.Test.YtbghkjoejbfnbaaDoorLaw12J
import Derived.Test.YtbghkjoejbfnbaaDoorLaw12D
import Derived.Test.YtbghkjoejbfnbaaDoorPHx7
import Derived.Lib.Replace
import Derived.Lib.IndexBytes
noncomputable section
namespace Go.Proofs.YtbghkjoejbfnbaaDoor.law12
open Go.RowKit Go.Proofs.YtbghkjoejbfnbaaDoorW.PrintWords Go.Proofs.YtbghkjoejbfnbaaDoor Go.Proofs.YtbghkjoejbfnbaaDoor.PH
theorem str_bytes (s : ByteArray) : strOfNums (bytesOf s) = s := by
  apply b_inj'
  rw [strOfNums_data, bytesOf, List.map_map]
  conv => rhs; rw [← List.map_id s.data.toList]
  exact List.map_congr_left (fun b _ => by simp)
theorem bytes_str (l : List Int) (hl : ∀ c ∈ l, 0 ≤ c ∧ c ≤ 255) : bytesOf (strOfNums l) = l := by
  rw [bytesOf, strOfNums_data, List.map_map]
  conv => rhs; rw [← List.map_id l]
  exact List.map_congr_left (fun c hc => by
    have := hl c hc
    simp only [Function.comp_apply, UInt8.toNat_ofNat', id]
    omega)
theorem bytes_app (a b : ByteArray) : bytesOf (a ++ b) = bytesOf a ++ bytesOf b := by
  rw [bytesOf, ByteArray.data_append, Array.toList_append, List.map_append]; rfl
theorem bytes_ext (a : ByteArray) (i j : Nat) : bytesOf (a.extract i j) = ((bytesOf a).take j).drop i := by
  rw [bytesOf, bytesOf, ByteArray.data_extract, Array.toList_extract, List.extract_eq_take_drop, ← List.map_take, ← List.map_drop, List.drop_take]
theorem bytes_inj {a b : ByteArray} (h : bytesOf a = bytesOf b) : a = b := by rw [← str_bytes a, ← str_bytes b, h]
theorem bt_bytes (s : ByteArray) (i : Nat) (h : i < (bytesOf s).length) : bt s (i : Int) = (bytesOf s)[i] := by
  conv => lhs; rw [← str_bytes s]
  exact bt_str (bytesOf s) (ord.bytes_range s) i h
/-- A text's bytes, each 0 marked. -/
def esc : List Int → List Int
  | [] => []
  | c :: l => if c = 0 then 0 :: 255 :: esc l else c :: esc l
theorem esc_len : ∀ l, (esc l).length ≤ 2 * l.length
  | [] => Nat.le_refl _
  | c :: l => by
    have := esc_len l
    unfold esc
    split <;> simp <;> omega
theorem esc_rng : ∀ l, (∀ c ∈ l, 0 ≤ c ∧ c ≤ 255) → ∀ c ∈ esc l, 0 ≤ c ∧ c ≤ 255
  | [], _ => by intro c hc; cases hc
  | a :: l, h => by
    intro c hc
    have ih := esc_rng l (fun x hx => h x (by simp [hx])) c
    unfold esc at hc
    split at hc
    · simp only [List.mem_cons] at hc
      rcases hc with rfl | rfl | hc
      · decide
      · decide
      · exact ih hc
    · simp only [List.mem_cons] at hc
      rcases hc with rfl | hc
      · exact h _ (by simp)
      · exact ih hc
theorem rep_ne (b : UInt8) (l : List UInt8) (h : b ≠ 0) : ∀ k, Lib.replaceK [0] [0, 255] k (b :: l) = b :: Lib.replaceK [0] [0, 255] k l
  | 0 => rfl
  | k + 1 => by
    have hp : List.isPrefixOf [(0 : UInt8)] (b :: l) = false := by
      simp only [List.isPrefixOf]
      rw [Bool.and_eq_false_iff]
      exact .inl (beq_eq_false_iff_ne.2 (Ne.symm h))
    have hi : Lib.index (b :: l) [0] = if Lib.index l [0] == -1 then -1 else Lib.index l [0] + 1 := by
      conv => lhs; unfold Lib.index
      rw [hp]; rfl
    have hg := Lib.index_ge l [0]
    unfold Lib.replaceK
    rw [hi]
    by_cases c : Lib.index l [0] = -1
    · rw [c]; rfl
    · have c1 : (Lib.index l [0] == -1) = false := by simpa using c
      rw [c1]
      have c2 : (Lib.index l [0] + 1 == -1) = false := by rw [beq_eq_false_iff_ne]; omega
      have c3 : (Lib.index l [0] + 1).toNat = (Lib.index l [0]).toNat + 1 := by omega
      simp only [Bool.false_eq_true, if_false, c2, c3, List.take_succ_cons, List.length_singleton, List.cons_append]
      rfl
theorem rep_eq (l : List UInt8) (k : Nat) : Lib.replaceK [0] [0, 255] (k + 1) (0 :: l) = 0 :: 255 :: Lib.replaceK [0] [0, 255] k l := by
  have hi : Lib.index (0 :: l) [0] = ((0 : Nat) : Int) := by
    unfold Lib.index
    rw [if_pos (by simp [List.isPrefixOf])]; rfl
  rw [Lib.replaceK_hit _ _ _ _ 0 hi]
  rfl
theorem rep_esc : ∀ l : List UInt8, (Lib.replaceK [0] [0, 255] (Lib.count l [0]) l).map (fun b => (b.toNat : Int)) = esc (l.map (fun b => (b.toNat : Int)))
  | [] => by
    have : ∀ k, Lib.replaceK [0] [0, 255] k [] = [] := fun k => by cases k <;> rfl
    rw [this]; rfl
  | b :: l => by
    by_cases h : b = 0
    · subst h
      rw [Lib.count_cons_eq, Nat.add_comm, rep_eq, List.map_cons, List.map_cons, rep_esc l, List.map_cons, esc, if_pos (by rfl)]
      rfl
    · have hz : ((b.toNat : Int)) ≠ 0 := fun e => h (UInt8.toNat_inj.1 (by simpa using e))
      rw [Lib.count_cons_ne b 0 l h, rep_ne b l h, List.map_cons, rep_esc l, List.map_cons, esc, if_neg hz]
theorem repAll_esc (s : ByteArray) : bytesOf ⟨(Lib.replaceAll s.data.toList [0] [0, 255]).toArray⟩ = esc (bytesOf s) := by
  rw [bytesOf, bytesOf, ← rep_esc]
  unfold Lib.replaceAll Lib.replace Lib.replaceNum
  rw [if_neg (by decide), if_pos (.inl (by decide))]
theorem put_s (s : ByteArray) (hs : s.size ≤ 1200) (n i : Int) (acc : List Int) (k : Nat) (ha : acc.length ≤ 80000) :
    order_put.f k acc 115 n i s = some (acc ++ (esc (bytesOf s) ++ [0, 0])) := by
  have hl : s.data.toList.length = s.size := by rw [Array.length_toList]; rfl
  have hc := Lib.count_le s.data.toList [0]
  have he := esc_len (bytesOf s)
  rw [bytesOf_length] at he
  unfold order_put.f strings_ReplaceAll.f
  have hr : bytesOf ⟨(Lib.replaceAll s.data.toList (⟨#[0]⟩ : ByteArray).data.toList (⟨#[0, 255]⟩ : ByteArray).data.toList).toArray⟩ = esc (bytesOf s) := repAll_esc s
  have h2 : (⟨#[0, 255]⟩ : ByteArray).size = 2 := rfl
  have h1 : Lib.countB s ⟨#[0]⟩ = Lib.count s.data.toList [0] := rfl
  rw [if_neg (by decide), if_neg (by decide), if_pos (⟨by omega, by decide, by rw [h2, h1]; omega⟩)]
  · rw [Option.bind_some]
    have hsz : (⟨(Lib.replaceAll s.data.toList (⟨#[0]⟩ : ByteArray).data.toList (⟨#[0, 255]⟩ : ByteArray).data.toList).toArray⟩ : ByteArray).size = (esc (bytesOf s)).length := by rw [← hr, bytesOf_length]
    rw [hsz, hr, if_pos (by omega), Option.bind_some, Option.bind_some, if_pos (by simp; omega), List.append_assoc]
theorem str_one (s : ByteArray) (i : Nat) (h : i < s.size) : bytesOf (s.extract i (i + 1)) = [bt s (i : Int)] := by
  have hl : i < (bytesOf s).length := by rw [bytesOf_length]; exact h
  rw [bytes_ext, bt_bytes s i hl, List.take_succ_eq_append_getElem hl]
  rw [List.drop_append_of_le_length (by rw [List.length_take]; omega), List.drop_eq_nil_of_le (by rw [List.length_take]; omega), List.nil_append]
theorem ref_s_l1 (s : ByteArray) (hs : s.size ≤ 2000) (n i : Int) : ∀ (m j k : Nat) (acc : ByteArray), s.size - j = m → j ≤ s.size → m < k → acc.size + 2 * m ≤ 100000 →
    ∃ r, quittanceref12_bytes.l1 k acc (j : Int) n i s = some r ∧ bytesOf r = bytesOf acc ++ (esc ((bytesOf s).drop j) ++ [0, 0])
  | 0, j, k, acc, hm, hj, hk, ha => by
    obtain ⟨k, rfl⟩ : ∃ q, k = q + 1 := ⟨k - 1, by omega⟩
    refine ⟨acc ++ ⟨#[0, 0]⟩, ?_, ?_⟩
    · rw [quittanceref12_bytes.l1, if_neg (by omega), if_pos (by omega)]
    · rw [bytes_app, show (bytesOf s).drop j = [] from List.drop_eq_nil_of_le (by rw [bytesOf_length]; omega)]
      rfl
  | m + 1, j, k, acc, hm, hj, hk, ha => by
    obtain ⟨k, rfl⟩ : ∃ q, k = q + 1 := ⟨k - 1, by omega⟩
    have hjs : j < s.size := by omega
    have hjl : j < (bytesOf s).length := by rw [bytesOf_length]; exact hjs
    have ew : wrap64 ((j : Int) + 1) = ((j + 1 : Nat) : Int) := by unfold wrap64; omega
    have hsz : (s.extract j (j + 1)).size = 1 := by rw [ByteArray.size_extract]; omega
    have hsz2 : (acc ++ s.extract j (j + 1)).size = acc.size + 1 := by rw [ByteArray.size_append, hsz]
    have hsz3 : (acc ++ s.extract j (j + 1) ++ ⟨#[255]⟩).size = acc.size + 2 := by rw [ByteArray.size_append, hsz2]; rfl
    have hb := str_one s j hjs
    rw [quittanceref12_bytes.l1, if_pos (by omega), if_pos (by omega), ew, if_pos (by omega), if_pos (by omega), Int.toNat_natCast, Int.toNat_natCast, if_pos (by omega), List.drop_eq_getElem_cons hjl, ← bt_bytes s j hjl, esc]
    by_cases c : bt s (j : Int) = 0
    · rw [if_pos c, if_pos (by omega), if_pos c]
      obtain ⟨r, h1, h2⟩ := ref_s_l1 s hs n i m (j + 1) k (acc ++ s.extract j (j + 1) ++ ⟨#[255]⟩) (by omega) (by omega) (by omega) (by rw [hsz3]; omega)
      refine ⟨r, h1, ?_⟩
      rw [h2, bytes_app, bytes_app, hb, c]
      have : bytesOf (⟨#[255]⟩ : ByteArray) = [255] := rfl
      rw [this]
      simp
    · rw [if_neg c, if_neg c]
      obtain ⟨r, h1, h2⟩ := ref_s_l1 s hs n i m (j + 1) k (acc ++ s.extract j (j + 1)) (by omega) (by omega) (by omega) (by rw [hsz2]; omega)
      refine ⟨r, h1, ?_⟩
      rw [h2, bytes_app, hb]
      simp
theorem ref_s (s : ByteArray) (hs : s.size ≤ 2000) (n i : Int) (k : Nat) (hk : 3000 ≤ k) : quittanceref12_bytes.f k 115 n i s = some (strOfNums (esc (bytesOf s) ++ [0, 0])) := by
  unfold quittanceref12_bytes.f
  rw [if_neg (by decide), if_neg (by decide)]
  have e0 : (⟨#[]⟩ : ByteArray).size = 0 := rfl
  obtain ⟨r, h1, h2⟩ := ref_s_l1 s hs n i s.size 0 k ⟨#[]⟩ rfl (by omega) (by omega) (by omega)
  rw [show ((0 : Nat) : Int) = 0 from rfl] at h1
  rw [h1, ← str_bytes r, h2, List.drop_zero]
  rfl
/-- What a field's numbers may be. -/
structure Wf (x : S47) : Prop where
  n0 : 0 ≤ x.f0
  n1 : x.f0 < 18446744073709551616
  i0 : -9223372036854775808 ≤ x.f1
  i1 : x.f1 < 9223372036854775808
  s : x.f2.size ≤ 1200
/-- A field's bytes. -/
def fb (c : Int) (x : S47) : List Int :=
  if c = 110 then ((be x.f0.toNat).length : Int) :: be x.f0.toNat
  else if c = 105 then (if 0 ≤ x.f1 then (128 + ((be x.f1.toNat).length : Int)) :: be x.f1.toNat else (127 - ((be (-x.f1 - 1).toNat).length : Int)) :: (be (-x.f1 - 1).toNat).map (fun c => 255 - c))
  else esc (bytesOf x.f2) ++ [0, 0]
theorem put_is {c : Int} (hc : good c) {x : S47} (hx : Wf x) (acc : List Int) (k : Nat) (hk : 10 ≤ k) (ha : acc.length ≤ 80000) :
    order_put.f k acc c x.f0 x.f1 x.f2 = some (acc ++ fb c x) := by
  obtain ⟨h0, h1, h2, h3, h4⟩ := hx
  unfold fb
  rcases hc with rfl | rfl | rfl
  · rw [if_pos rfl]
    have := put_n x.f0.toNat (by omega) x.f1 x.f2 acc k hk ha
    rwa [show ((x.f0.toNat : Nat) : Int) = x.f0 by omega] at this
  · rw [if_neg (by decide), if_pos rfl]
    by_cases c : 0 ≤ x.f1
    · rw [if_pos c]
      have := put_ip x.f1.toNat (by omega) x.f0 x.f2 acc k hk ha
      rwa [show ((x.f1.toNat : Nat) : Int) = x.f1 by omega] at this
    · rw [if_neg c]
      have := put_in (-x.f1 - 1).toNat (by omega) x.f0 x.f2 acc k hk ha
      rwa [show (-(((-x.f1 - 1).toNat : Nat) : Int) - 1) = x.f1 by omega] at this
  · rw [if_neg (by decide), if_neg (by decide)]
    exact put_s x.f2 h4 _ _ acc k ha
theorem ref_is {c : Int} (hc : good c) {x : S47} (hx : Wf x) (k : Nat) (hk : 3000 ≤ k) :
    quittanceref12_bytes.f k c x.f0 x.f1 x.f2 = some (strOfNums (fb c x)) := by
  obtain ⟨h0, h1, h2, h3, h4⟩ := hx
  unfold fb
  rcases hc with rfl | rfl | rfl
  · rw [if_pos rfl]
    have := ref_n x.f0.toNat (by omega) x.f1 x.f2 k (by omega)
    rwa [show ((x.f0.toNat : Nat) : Int) = x.f0 by omega] at this
  · rw [if_neg (by decide), if_pos rfl]
    by_cases c : 0 ≤ x.f1
    · rw [if_pos c]
      have := ref_ip x.f1.toNat (by omega) x.f0 x.f2 k (by omega)
      rwa [show ((x.f1.toNat : Nat) : Int) = x.f1 by omega] at this
    · rw [if_neg c]
      have := ref_in (-x.f1 - 1).toNat (by omega) x.f0 x.f2 k (by omega)
      rwa [show (-(((-x.f1 - 1).toNat : Nat) : Int) - 1) = x.f1 by omega] at this
  · rw [if_neg (by decide), if_neg (by decide)]
    exact ref_s x.f2 (by omega) _ _ k hk
theorem map_rng (l : List Int) (h : ∀ c ∈ l, 0 ≤ c ∧ c ≤ 255) : ∀ c ∈ l.map (fun c => 255 - c), 0 ≤ c ∧ c ≤ 255 := by
  intro c hc
  obtain ⟨d, hd, rfl⟩ := List.mem_map.1 hc
  have := h d hd
  omega
theorem fb_rng {c : Int} {x : S47} (hx : Wf x) : ∀ b ∈ fb c x, 0 ≤ b ∧ b ≤ 255 := by
  obtain ⟨h0, h1, h2, h3, h4⟩ := hx
  unfold fb
  intro b hb
  split at hb
  · have := be8 x.f0.toNat (by omega)
    rcases List.mem_cons.1 hb with rfl | hb
    · omega
    · exact be_rng _ b hb
  · split at hb
    · split at hb
      · have := be8 x.f1.toNat (by omega)
        rcases List.mem_cons.1 hb with rfl | hb
        · omega
        · exact be_rng _ b hb
      · have := be8 (-x.f1 - 1).toNat (by omega)
        rcases List.mem_cons.1 hb with rfl | hb
        · omega
        · exact map_rng _ (be_rng _) b hb
    · rcases List.mem_append.1 hb with hb | hb
      · exact esc_rng _ (ord.bytes_range _) b hb
      · simp at hb
        omega
theorem fb_len {c : Int} {x : S47} (hx : Wf x) : (fb c x).length ≤ 2402 := by
  obtain ⟨h0, h1, h2, h3, h4⟩ := hx
  unfold fb
  split
  · have := be8 x.f0.toNat (by omega)
    simp only [List.length_cons]
    omega
  · split
    · split
      · have := be8 x.f1.toNat (by omega)
        simp only [List.length_cons]
        omega
      · have := be8 (-x.f1 - 1).toNat (by omega)
        simp only [List.length_cons, List.length_map]
        omega
    · have := esc_len (bytesOf x.f2)
      rw [bytesOf_length] at this
      simp only [List.length_append, List.length_cons, List.length_nil]
      omega
end Go.Proofs.YtbghkjoejbfnbaaDoor.law12
