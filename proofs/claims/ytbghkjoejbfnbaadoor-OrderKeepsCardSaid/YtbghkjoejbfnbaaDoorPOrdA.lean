/- order.Above, in the printed form. No conditions. -/
import Derived.Test.YtbghkjoejbfnbaaDoorPHx0
import Derived.Test.YtbghkjoejbfnbaaDoorWMore
import Derived.WalkKit
import Derived.ProofKit
import Derived.Lib.Hide
namespace Go.Proofs.YtbghkjoejbfnbaaDoor.ord
open Go.RowKit Go.Proofs.YtbghkjoejbfnbaaDoorW.PrintWords
/-- How many bytes stand ahead of the last bytes that are ff. -/
def stripN (s : ByteArray) : Nat → Nat
  | 0 => 0
  | n + 1 => if bt s (n : Int) = 255 then stripN s n else n + 1
def abv (s : ByteArray) (k : Nat) : ByteArray × Bool := if k = 0 then (⟨#[]⟩, false) else (strOfNums ((bytesOf s).take (k - 1) ++ [bt s ((k - 1 : Nat) : Int) + 1]), true)
theorem stripN_spec (s : ByteArray) : ∀ n, stripN s n ≤ n ∧ (stripN s n ≠ 0 → bt s ((stripN s n - 1 : Nat) : Int) ≠ 255)
  | 0 => ⟨Nat.le_refl _, fun h => absurd rfl h⟩
  | n + 1 => by
    unfold stripN
    by_cases h : bt s (n : Int) = 255
    · rw [if_pos h]
      have := stripN_spec s n
      exact ⟨by omega, this.2⟩
    · rw [if_neg h]
      exact ⟨Nat.le_refl _, fun _ => by simpa using h⟩
/-- A row of bytes of the call's own: the first n of them. -/
structure Bts (W : World) (g : Nat) (xs : List Int) : Prop where
  cell : ∀ j, j < xs.length → W.cell? ⟨g, j, none⟩ = some (.int .u8 (xs.getD j 0))
  frz : ∀ j, j < xs.length → W.frozen? ⟨g, j, none⟩ = false
theorem row_at (s : ByteArray) (cap j : Nat) (hj : j < s.size) : (bytesRow s cap)[j]? = some (.int .u8 ((bytesOf s).getD j 0)) := by
  have h1 : j < (s.data.map (fun b => Value.int .u8 b.toNat)).size := by simpa using hj
  have hd : j < s.data.size := hj
  unfold bytesRow
  rw [Array.getElem?_append_left h1, Array.getElem?_map, Array.getElem?_eq_getElem hd]
  unfold bytesOf
  rw [List.getD_eq_getElem?_getD, List.getElem?_map, Array.getElem?_toList, Array.getElem?_eq_getElem hd]
  rfl
theorem bytes_conv (w : World) (s : ByteArray) : ∃ cap C, s.size ≤ cap ∧ (convert 9 48 (.string s)).run Tryd.prog w = .ok (.slice (some ⟨w.heap.size, 0, none⟩) s.size cap) (w.drew.alloc (.cells C 5 (C.size, C.size + 1))) ∧
    Bts (w.alloc (.cells C 5 (C.size, C.size + 1))) w.heap.size (bytesOf s) := by
  refine ⟨grownCap w s.size 0 5, bytesRow s (grownCap w s.size 0 5), grownCap_ge _ _ _ _, run_bytes_of_string w _ _ _ s Tryd.underlying9 Tryd.underlying48 Tryd.underlying5, ?_⟩
  have hsz : s.size ≤ (bytesRow s (grownCap w s.size 0 5)).size := by
    unfold bytesRow
    simp only [Array.size_append, Array.size_map]
    have : s.data.size = s.size := rfl
    omega
  have hr := fun j hj => row_at s (grownCap w s.size 0 5) j hj
  generalize bytesRow s (grownCap w s.size 0 5) = C at hsz hr ⊢
  have hb : (w.alloc (.cells C 5 (C.size, C.size + 1))).heap[w.heap.size]? = some (.cells C 5 (C.size, C.size + 1)) := by show (w.heap.push _)[w.heap.size]? = _; simp
  generalize w.alloc (.cells C 5 (C.size, C.size + 1)) = V at hb ⊢
  refine ⟨fun j hj => ?_, fun j hj => ?_⟩
  · rw [bytesOf_length] at hj
    rw [← hr j hj]
    simp [World.cell?, hb]
  · rw [bytesOf_length] at hj
    simp [World.frozen?, hb]
    omega
set_option maxRecDepth 100000 in
set_option maxHeartbeats 1000000 in
theorem above_is (w : World) (s : ByteArray) (hs : s.size ≤ 140737488351232) :
    Calls Tryd.prog 22 #[.string s] w fun e w' => e = .returned (.tuple #[.string (abv s (stripN s s.size)).1, .bool (abv s (stripN s s.size)).2]) ∧ Below w.heap.size w w' := by
  obtain ⟨cap, C, hcap, hconv, hbts⟩ := bytes_conv w s
  have HS := Lib.hid (And.intro hs hcap)
  clear hs hcap
  go_enter Tryd.func22, Tryd.ntmps22
  go_wp2
  have hB := (Below.refl w.heap.size w).alloc (Nat.le_refl _) (.cells C 5 (C.size, C.size + 1))
  clear hconv
  generalize w.alloc (.cells C 5 (C.size, C.size + 1)) = V at hbts hB ⊢
  have HV := Lib.hid hbts
  have HB := Lib.hid hB
  clear hbts hB
  go_loopg [4] (s.size + 1) (fun kq v4 wr => ∃ n : Nat, v4 = .slice (some ⟨w.heap.size, 0, none⟩) n cap ∧ Aside0 (n ≤ s.size ∧ n + 1 ≤ kq ∧ stripN s n = stripN s s.size) ∧ Drawn0 V wr)
  case atStart => exact ⟨s.size, rfl, ⟨by omega⟩, by repeat (first | exact Drawn0.refl _ | apply Drawn0.step)⟩
  case round =>
    obtain ⟨n, rfl, ⟨HI⟩, ⟨m1, rfl⟩⟩ := hrel
    replace HI := Lib.hid HI
    cases n with
    | zero =>
      have hz : stripN s s.size = 0 := HI.out.2.2.symm
      go_wp2
      rw [hz]
      exact bodyPost_ret (v := .tuple #[.string ⟨#[]⟩, .bool false]) (by simp [results, Tryd.results22, go_sem]) rfl ⟨rfl, pw_below_drewN HB.out m1⟩
    | succ k =>
      have c0 := HV.out.cell k (by rw [bytesOf_length]; have := HI.out; omega)
      have e0 : (bytesOf s).getD k 0 = bt s (k : Int) := rd_bytesOf s (k : Int)
      rw [e0] at c0
      have ew : wrap64 (k : Int) = (k : Int) := by have := HI.out; have := HS.out; unfold wrap64; omega
      have hk1 : k ≤ cap := by have := HI.out; have := HS.out; omega
      have EW := Lib.hid ew
      by_cases hb : bt s (k : Int) = 255
      · rw [hb] at c0
        have HH := Lib.hid hb
        clear hb
        go_wp2
        have est : stripN s (k + 1) = stripN s k := by unfold stripN; rw [if_pos HH.out]; cases k <;> rfl
        obtain ⟨k1, rfl⟩ : ∃ k1, gk = k1 + 1 := ⟨gk - 1, by have := HI.out; omega⟩
        go_roundg k1
        case measure => omega
        case rel => exact ⟨k, rfl, ⟨by have := HI.out; rw [est] at this; omega⟩, by repeat (first | exact Drawn0.refl _ | exact ⟨m1, rfl⟩ | apply Drawn0.step)⟩
      · have HH := Lib.hid hb
        have hbq : (bt s (k : Int) == 255) = false := by simpa using hb
        have f0 := HV.out.frz k (by rw [bytesOf_length]; have := HI.out; omega)
        clear hb
        go_upto_region 7 with fail
        have hx : (bt s (k : Int) + 1) % 256 = bt s (k : Int) + 1 := by
          have := bt_range s (k : Int)
          have := HH.out
          omega
        rw [hx]
        have hcell : ∀ j, j < k + 1 → ((V.drewN m1).setCell ⟨w.heap.size, k, none⟩ (.int .u8 (bt s (k : Int) + 1))).cell? ⟨w.heap.size, 0 + j, none⟩ = some (.int .u8 (((bytesOf s).take k ++ [bt s (k : Int) + 1]).getD j 0)) := fun j hj => by
          have hl : ((bytesOf s).take k).length = k := by rw [List.length_take, bytesOf_length]; have := HI.out; omega
          have hd : ∀ p, (V.drewN m1).cell? p = V.cell? p := fun p => rfl
          rw [Nat.zero_add]
          by_cases hjk : j = k
          · subst hjk
            rw [World.cell?_setCell_same (h := (hd _).trans c0), List.getD_eq_getElem?_getD, List.getElem?_append_right (by omega), hl, Nat.sub_self]
            rfl
          · rw [World.cell?_setCell_other _ _ _ _ (by intro q; apply hjk; injection q with _ q2 _; exact q2.symm), hd, HV.out.cell j (by rw [bytesOf_length]; have := HI.out; omega), List.getD_eq_getElem?_getD, List.getD_eq_getElem?_getD, List.getElem?_append_left (by omega), List.getElem?_take_of_lt (by omega)]
        have hback := run_convert_bytes_arg (P := Tryd.prog) _ 48 5 Tryd.underlying48 Tryd.underlying5 w.heap.size 0 (k + 1) cap _ (by rw [List.length_append, List.length_take, bytesOf_length]; have := HI.out; simp; omega) hcell 9 Tryd.underlying9
        have hB2 : Below w.heap.size w ((V.drewN m1).setCell ⟨w.heap.size, k, none⟩ (.int .u8 (bt s (k : Int) + 1))) := (pw_below_drewN HB.out m1).setCell (Nat.le_refl _) _
        clear hcell c0 f0 e0 ew
        generalize (V.drewN m1).setCell ⟨w.heap.size, k, none⟩ (.int .u8 (bt s (k : Int) + 1)) = V2 at hback hB2 ⊢
        have est : stripN s s.size = k + 1 := by
          rw [← HI.out.2.2]
          unfold stripN
          rw [if_neg HH.out]
        have HR := Lib.hid (And.intro est hB2)
        clear est hB2 hbq hx
        go_wp2
        rw [HR.out.1]
        exact bodyPost_ret (v := .tuple #[.string (strOfNums ((bytesOf s).take k ++ [bt s (k : Int) + 1])), .bool true]) (by simp [results, Tryd.results22, go_sem]) rfl ⟨rfl, HR.out.2⟩
end Go.Proofs.YtbghkjoejbfnbaaDoor.ord
namespace Go.Proofs.YtbghkjoejbfnbaaDoor.PH
open Go.RowKit Go.Proofs.YtbghkjoejbfnbaaDoorW.PrintWords
def order_Above.f (a0 : ByteArray) : Option (ByteArray × Bool) := if a0.size ≤ 140737488351232 then some (ord.abv a0 (ord.stripN a0 a0.size)) else none
theorem order_Above.calls (a0 r1 : ByteArray) (r2 : Bool) (w : World) (h : order_Above.f a0 = some (r1, r2)) :
    Calls Tryd.prog 22 #[.string a0] w fun e w' => e = .returned (.tuple #[.string r1, .bool r2]) ∧ Below w.heap.size w w' := by
  unfold order_Above.f at h
  split at h
  · rename_i hs
    have e := Option.some.inj h
    have := ord.above_is w a0 hs
    rw [e] at this
    exact this
  · cases h
end Go.Proofs.YtbghkjoejbfnbaaDoor.PH
