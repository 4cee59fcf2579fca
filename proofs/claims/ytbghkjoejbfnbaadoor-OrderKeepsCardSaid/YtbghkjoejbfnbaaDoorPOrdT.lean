/- order.take and the number that it reads, walked. No conditions. -/
import Derived.Test.YtbghkjoejbfnbaaDoorPOrdL
import Derived.Test.YtbghkjoejbfnbaaDoorPOrdA
import Derived.Test.YtbghkjoejbfnbaaDoorBase
import Derived.Deep.RegionHeld3
import Derived.BigQuiet
import Derived.Test.YtbghkjoejbfnbaaDoorWLast
import Derived.Laws.DeepStrings4
import Derived.RangeFuncBox
import Derived.Shelf.Abstract
import Derived.Shelf.RegionOpen
import Derived.OwnWalkIn
import Derived.TacticsInMore
import Derived.LoopNIn
import Derived.LoopIn
import Derived.Sort.CutIn
import Derived.Maps.AppendAt
import Derived.Maps.OwnIn
namespace Go.Proofs.YtbghkjoejbfnbaaDoor.ord
open Go.RowKit Go.Proofs.YtbghkjoejbfnbaaDoorW.PrintWords Go.Proofs.YtbghkjoejbfnbaaDoor.base Go.Shelf
/-- A number of some bytes, each taken from ff or not. -/
def tb (turn : Int) (c : Int) : Int := if turn = 0 then c else 255 - c
def numV (turn : Int) (l : List Int) : Int := l.foldl (fun n c => n * 256 + tb turn c) 0
theorem numV_snoc (turn : Int) (l : List Int) (c : Int) : numV turn (l ++ [c]) = numV turn l * 256 + tb turn c := by simp [numV]
def sub1 (b : ByteArray) (k : Nat) : ByteArray := b.extract 1 (1 + k)
theorem xor0 : ∀ c : Fin 256, bits .xor .u8 (c.1 : Int) 0 = (c.1 : Int) := by decide +kernel
theorem xor255 : ∀ c : Fin 256, bits .xor .u8 (c.1 : Int) 255 = 255 - (c.1 : Int) := by decide +kernel
theorem xor_tb (turn c : Int) (ht : turn = 0 ∨ turn = 255) (h0 : 0 ≤ c) (h1 : c ≤ 255) : bits .xor .u8 c turn = tb turn c := by
  obtain ⟨n, rfl⟩ : ∃ n : Nat, c = n := ⟨c.toNat, by omega⟩
  rcases ht with rfl | rfl
  · exact xor0 ⟨n, by omega⟩
  · exact xor255 ⟨n, by omega⟩
theorem tb_range (turn c : Int) (ht : turn = 0 ∨ turn = 255) (h0 : 0 ≤ c) (h1 : c ≤ 255) : 0 ≤ tb turn c ∧ tb turn c ≤ 255 := by
  unfold tb
  rcases ht with rfl | rfl
  · rw [if_pos rfl]; omega
  · rw [if_neg (by decide)]; omega
theorem u64w (x : Int) : IntKind.u64.wrap x = x % 18446744073709551616 := rfl
theorem or_add (N c : Int) (h0 : 0 ≤ N) (h1 : N < 72057594037927936) (h2 : 0 ≤ c) (h3 : c ≤ 255) : bits .or .u64 (IntKind.u64.wrap (N * 256)) (IntKind.u64.wrap c) = N * 256 + c := by
  obtain ⟨n, rfl⟩ : ∃ n : Nat, N = n := ⟨N.toNat, by omega⟩
  obtain ⟨m, rfl⟩ : ∃ m : Nat, c = m := ⟨c.toNat, by omega⟩
  have e1 : IntKind.u64.wrap ((n : Int) * 256) = ((n * 256 : Nat) : Int) := by rw [u64w]; omega
  have e2 : IntKind.u64.wrap (m : Int) = (m : Int) := by rw [u64w]; omega
  rw [e1, e2, bits_or_u64_nat _ _ (by omega) (by omega)]
  have := Nat.two_pow_add_eq_or_of_lt (i := 8) (b := m) (by omega) n
  rw [show n * 256 = 2 ^ 8 * n by omega, ← this]
  omega
theorem numV_bd (turn : Int) (ht : turn = 0 ∨ turn = 255) : ∀ (l : List Int) (n : Int) (B : Nat), (∀ c ∈ l, 0 ≤ c ∧ c ≤ 255) → 0 ≤ n → n < 256 ^ B → 0 ≤ l.foldl (fun n c => n * 256 + tb turn c) n ∧ l.foldl (fun n c => n * 256 + tb turn c) n < 256 ^ (B + l.length)
  | [], n, B, _, h0, h1 => ⟨h0, h1⟩
  | c :: l, n, B, hc, h0, h1 => by
    have a := tb_range turn c ht (hc c (by simp)).1 (hc c (by simp)).2
    have hp : (256 : Int) ^ (B + 1) = 256 ^ B * 256 := by rw [Int.pow_succ]
    have := numV_bd turn ht l (n * 256 + tb turn c) (B + 1) (fun c h => hc c (by simp [h])) (by omega) (by rw [hp]; omega)
    rw [List.length_cons, show B + (l.length + 1) = B + 1 + l.length by omega]
    exact this
theorem bytes_range (s : ByteArray) : ∀ c ∈ bytesOf s, 0 ≤ c ∧ c ≤ 255 := by
  intro c hc
  simp only [bytesOf, List.mem_map] at hc
  obtain ⟨b, _, rfl⟩ := hc
  have := b.toNat_lt
  omega
def sizeV (n : Int) : Int := wrap64 (Int.tdiv (wrap64 ((Lib.bitLen n.toNat : Int) + 7)) 8)
theorem size_is (n : Int) (w : World) (h0 : 0 ≤ n) (h1 : n ≤ 18446744073709551615) : Calls Tryd.prog 40 #[.int .u64 n] w fun e w' => e = .returned (.int .i64 (sizeV n)) ∧ w = w' := by
  go_enter Tryd.func40, Tryd.ntmps40
  go_wp2_with (go_at_call 56; refine (osh.bits_Len64 n w h0 h1).mono ?_; rintro e w' ⟨rfl, rfl⟩)
  go_ret
  exact ⟨rfl, rfl⟩
/-- What the reading of a number leaves. -/
structure NumK (W W' : World) (Br Bi : Nat) (rest : ByteArray) (is : Bool) : Prop where
  br : Boxed W' Br 9 (.string rest)
  bi : Boxed W' Bi 4 (.bool is)
  bel : ∀ m, m ≤ Br → m ≤ Bi → m ≤ W.heap.size → Below m W W'
  kept : ∀ g, g < W.heap.size → g ≠ Br → g ≠ Bi → W'.heap[g]? = W.heap[g]?
  size : W.heap.size ≤ W'.heap.size
set_option maxRecDepth 100000 in
set_option maxHeartbeats 1000000 in
theorem num_yes (W : World) (b rest : ByteArray) (is : Bool) (k : Nat) (turn : Int) (Bb Br Bi : Nat) (ht : turn = 0 ∨ turn = 255) (hk : k ≤ 8) (hb : k < b.size) (hs : b.size ≤ 2000)
    (cb : Boxed W Bb 9 (.string b)) (cr : Boxed W Br 9 (.string rest)) (ci : Boxed W Bi 4 (.bool is)) (h1 : Bb ≠ Br) (h2 : Bb ≠ Bi) (h3 : Br ≠ Bi) :
    Calls Tryd.prog 63 #[.int .i64 k, .int .u8 turn, .pointer (some ⟨Bb, 0, none⟩), .pointer (some ⟨Br, 0, none⟩), .pointer (some ⟨Bi, 0, none⟩)] W fun e W' => e = .returned (.int .u64 (numV turn (bytesOf (sub1 b k)))) ∧ NumK W W' Br Bi (b.extract (1 + k) b.size) (sizeV (numV turn (bytesOf (sub1 b k))) == (k : Int)) := by
  obtain ⟨cap, C, hcap, hconv, hbts⟩ := bytes_conv W (sub1 b k)
  have cb1 := cb.cell
  have hsz : (sub1 b k).size = k := by unfold sub1; rw [ByteArray.size_extract]; omega
  rw [hsz] at hconv hcap
  have HS := Lib.hid (And.intro ht (And.intro hk (And.intro hb hs)))
  have HB := Lib.hid (And.intro cb (And.intro cr ci))
  have HN := Lib.hid (And.intro h1 (And.intro h2 h3))
  have HZ := Lib.hid hsz
  have e1 : wrap64 (1 + (k : Int)) = ((1 + k : Nat) : Int) := by unfold wrap64; omega
  have E1 := Lib.hid e1
  have g1 : decide ((k : Int) > 8) = false := decide_eq_false (by omega)
  have g2 : decide (8 < k) = false := decide_eq_false (by omega)
  have g3 : decide (b.size ≤ k) = false := decide_eq_false (by omega)
  have g4 : 1 + k ≤ b.size := by omega
  have hsl : ∀ V : World, (Instr.slice 9 (.string b) (some (.int .i64 1)) (some (.int .i64 (1 + (k : Int)))) none).run Tryd.prog V = .ok (.string (sub1 b k)) V := fun V => by
    rw [run_slice_string_if V _ _ _ _ _ _ Tryd.underlying9, if_pos ⟨by omega, by omega⟩, if_pos ⟨by omega, by omega⟩, show (1 + (k : Int)).toNat = 1 + k by omega]
    rfl
  clear ht hk hb hs cb cr ci h1 h2 h3 hsz hcap
  go_enter Tryd.func63, Tryd.ntmps63
  go_wp2
  have hB := (Below.refl W.heap.size W).alloc (Nat.le_refl _) (.cells C 5 (C.size, C.size + 1))
  clear hconv hsl g1 g2 g3 g4 e1
  generalize W.alloc (.cells C 5 (C.size, C.size + 1)) = V at hbts hB ⊢
  have HV := Lib.hid hbts
  have HW := Lib.hid hB
  clear hbts hB
  obtain ⟨xs, hxs⟩ : ∃ q, bytesOf (sub1 b k) = q := ⟨_, rfl⟩
  have hxl : xs.length = k := by rw [← hxs, bytesOf_length]; exact HZ.out
  rw [hxs] at HV
  have HX := Lib.hid (And.intro hxs hxl)
  clear hxs hxl
  go_loopg [7, 28] (k + 1) (fun kq v7 v28 wr => ∃ i : Nat, v7 = .int .u64 (numV turn (xs.take i)) ∧ v28 = .int .i64 (i : Int) ∧ Aside0 (i ≤ k ∧ k + 1 ≤ kq + i) ∧ Drawn0 V wr)
  case atStart => exact ⟨0, rfl, rfl, ⟨by omega⟩, by repeat (first | exact Drawn0.refl _ | apply Drawn0.step)⟩
  case round =>
    obtain ⟨i, rfl, rfl, ⟨HI⟩, ⟨m1, rfl⟩⟩ := hrel
    replace HI := Lib.hid HI
    by_cases ci : i < k
    · obtain ⟨k2, rfl⟩ : ∃ k2, gk = k2 + 1 := ⟨gk - 1, by have := HI.out; omega⟩
      have c0 := HV.out.cell i (by have := HX.out; omega)
      obtain ⟨cc, hcc⟩ : ∃ q, xs.getD i 0 = q := ⟨_, rfl⟩
      rw [hcc] at c0
      have ew : wrap64 ((i : Int) + 1) = ((i + 1 : Nat) : Int) := by have := HS.out; unfold wrap64; omega
      have EW := Lib.hid ew
      have HCC := Lib.hid hcc
      clear ew hcc
      obtain ⟨N, hN⟩ : ∃ q, numV turn (xs.take i) = q := ⟨_, rfl⟩
      rw [hN]
      have HNN := Lib.hid hN
      clear hN
      go_wp2
      have hcr : 0 ≤ cc ∧ cc ≤ 255 := by
        have := bt_range (sub1 b k) (i : Int)
        have e : xs.getD i 0 = bt (sub1 b k) (i : Int) := by rw [← HX.out.1]; exact rd_bytesOf (sub1 b k) (i : Int)
        rw [HCC.out] at e
        omega
      have hNb : 0 ≤ N ∧ N < 72057594037927936 := by
        have q := numV_bd turn HS.out.1 (xs.take i) 0 0 (fun c hc => bytes_range (sub1 b k) c (HX.out.1 ▸ List.mem_of_mem_take hc)) (Int.le_refl _) (by decide)
        rw [show (xs.take i).foldl (fun n c => n * 256 + tb turn c) 0 = N from HNN.out] at q
        have hl : (xs.take i).length ≤ 7 := by rw [List.length_take]; have := HS.out.2.1; omega
        have hp : (256 : Nat) ^ (0 + (xs.take i).length) ≤ 256 ^ 7 := Nat.pow_le_pow_right (by decide) (by omega)
        have h7 : (256 : Nat) ^ 7 = 72057594037927936 := by decide
        have hc : (((256 : Nat) ^ (0 + (xs.take i).length) : Nat) : Int) = (256 : Int) ^ (0 + (xs.take i).length) := by push_cast; rfl
        omega
      have hst : numV turn (xs.take (i + 1)) = N * 256 + tb turn cc := by
        rw [List.take_succ_eq_append_getElem (by have := HX.out.2; omega), numV_snoc, HNN.out]
        have : xs[i]'(by have := HX.out.2; omega) = cc := by
          have := HCC.out
          rw [List.getD_eq_getElem?_getD, List.getElem?_eq_getElem (by have := HX.out.2; omega)] at this
          exact this
        rw [this]
      have htr := tb_range turn cc HS.out.1 hcr.1 hcr.2
      rw [xor_tb turn cc HS.out.1 hcr.1 hcr.2, or_add N _ hNb.1 hNb.2 htr.1 htr.2, ← hst]
      go_roundg k2
      case measure => have := HI.out; omega
      case rel => exact ⟨i + 1, rfl, by rw [EW.out], ⟨by have := HI.out; omega⟩, by repeat (first | exact Drawn0.refl _ | exact ⟨m1, rfl⟩ | apply Drawn0.step)⟩
    · obtain rfl : i = k := by have := HI.out; omega
      have hn : xs.take i = xs := List.take_of_length_le (by have := HX.out; omega)
      rw [hn, ← HX.out.1]
      have mvb : ∀ (g : Nat) (o : Obj), W.heap[g]? = some o → V.heap[g]? = some o := fun g o h => (HW.out.block g (by rcases Nat.lt_or_ge g W.heap.size with q | q; exact q; rw [Array.getElem?_eq_none q] at h; cases h)).trans h
      have hD : Drawn0 V (V.drewN m1) := ⟨m1, rfl⟩
      have HD := Lib.hid (And.intro (HW.out.trans (hD.below.mono HW.out.size)) (fun (g : Nat) (o : Obj) (h : W.heap[g]? = some o) => (show (V.drewN m1).heap[g]? = some o from mvb g o h)))
      clear hD mvb
      generalize V.drewN m1 = U at HD ⊢
      have b1 : Boxed U Bb 9 (.string b) := HD.out.2 _ _ HB.out.1
      have b2 : Boxed U Br 9 (.string rest) := HD.out.2 _ _ HB.out.2.1
      have b3 : Boxed U Bi 4 (.bool is) := HD.out.2 _ _ HB.out.2.2
      have c1 := b1.cell
      have c2 := b2.cell
      have c3 := b3.cell
      have f2 := b2.frozen
      have f3 := b3.frozen
      have B3 := Lib.hid (And.intro b1 (And.intro b2 b3))
      have c3' : ∀ v, (U.setCell ⟨Br, 0, none⟩ v).cell? ⟨Bi, 0, none⟩ = some (.bool is) := fun v => by
        have hne : (⟨Br, 0, none⟩ : Addr) ≠ ⟨Bi, 0, none⟩ := fun q => HN.out.2.2 (by injection q)
        rw [World.cell?_setCell_other _ _ _ _ hne]
        exact c3
      have f3' : ∀ v, (U.setCell ⟨Br, 0, none⟩ v).frozen? ⟨Bi, 0, none⟩ = false := fun v => by rw [World.frozen?_setCell]; exact f3
      have e1 := E1.out
      have hsl : ∀ V : World, (Instr.slice 9 (.string b) (some (.int .i64 (1 + (i : Int)))) none none).run Tryd.prog V = .ok (.string (b.extract (1 + i) b.size)) V := fun V => by
        have := HS.out.2.2.1
        rw [run_slice_string_l V _ _ Tryd.underlying9 _ _ (by omega) (by omega), show (1 + (i : Int)).toNat = 1 + i by omega]
      have hNb : 0 ≤ numV turn (bytesOf (sub1 b i)) ∧ numV turn (bytesOf (sub1 b i)) ≤ 18446744073709551615 := by
        have q := numV_bd turn HS.out.1 (bytesOf (sub1 b i)) 0 0 (bytes_range _) (Int.le_refl _) (by decide)
        have hl : (bytesOf (sub1 b i)).length ≤ 8 := by rw [bytesOf_length, HZ.out]; exact HS.out.2.1
        have hp : (256 : Nat) ^ (0 + (bytesOf (sub1 b i)).length) ≤ 256 ^ 8 := Nat.pow_le_pow_right (by decide) (by omega)
        have h7 : (256 : Nat) ^ 8 = 18446744073709551616 := by decide
        have hc : (((256 : Nat) ^ (0 + (bytesOf (sub1 b i)).length) : Nat) : Int) = (256 : Int) ^ (0 + (bytesOf (sub1 b i)).length) := by push_cast; rfl
        unfold numV
        omega
      have CS := Lib.hid (fun W => size_is _ W hNb.1 hNb.2)
      clear hNb
      have ei : IntKind.i64.wrap (1 + (i : Int)) = 1 + (i : Int) := (Go.Proofs.YtbghkjoejbfnbaaDoorW.PrintLast.i64_w _).trans (by have := E1.out; omega)
      have hsw : ∀ V : World, (Instr.slice 9 (.string b) (some (.int .i64 (IntKind.i64.wrap (1 + (i : Int))))) none none).run Tryd.prog V = .ok (.string (b.extract (1 + i) b.size)) V := fun V => by rw [ei]; exact hsl V
      clear b1 b2 b3 hn ci cb1
      obtain ⟨N, hNe⟩ : ∃ q, numV turn (bytesOf (sub1 b i)) = q := ⟨_, rfl⟩
      rw [hNe] at CS ⊢
      have HNe := Lib.hid hNe
      clear hNe
      go_upto_region 8 with fail
      go_region_with (go_at_call 40; refine (CS.out _).mono ?_; rintro e w' ⟨rfl, rfl⟩)
      all_goals
        go_wp2
        go_ret
        rw [HNe.out]
        refine ⟨rfl, ?_, ?_, fun m h1 h2 h3 => ?_, fun g hg h1 h2 => ?_, ?_⟩
        · exact (Below.heap_setCell _ ⟨Bi, 0, none⟩ _ Br HN.out.2.2).trans (B3.out.2.1.set _)
        · have q : Boxed (U.setCell ⟨Br, 0, none⟩ (.string (b.extract (1 + i) b.size))) Bi 4 (.bool is) := (Below.heap_setCell _ ⟨Br, 0, none⟩ _ Bi (fun e => HN.out.2.2 e.symm)).trans B3.out.2.2
          exact q.set _
        · exact (((HD.out.1.mono h3).setCell h1 _).setCell h2 _).drew
        · exact ((Below.heap_setCell _ ⟨Bi, 0, none⟩ _ g h2).trans (Below.heap_setCell _ ⟨Br, 0, none⟩ _ g h1)).trans (HD.out.1.block g hg)
        · exact ((((HD.out.1.mono (Nat.zero_le _)).setCell (Nat.zero_le _) _).setCell (Nat.zero_le _) _).drew).size
set_option maxRecDepth 100000 in
set_option maxHeartbeats 1000000 in
theorem num_no (W : World) (b : ByteArray) (k : Int) (turn : Int) (Bb Br Bi : Nat) (h : k < 0 ∨ 8 < k ∨ (b.size : Int) ≤ k) (cb : Boxed W Bb 9 (.string b)) :
    Calls Tryd.prog 63 #[.int .i64 k, .int .u8 turn, .pointer (some ⟨Bb, 0, none⟩), .pointer (some ⟨Br, 0, none⟩), .pointer (some ⟨Bi, 0, none⟩)] W fun e W' => e = .returned (.int .u64 0) ∧ W' = W := by
  have cb1 := cb.cell
  clear cb
  go_enter Tryd.func63, Tryd.ntmps63
  by_cases h1 : k < 0
  · have g1 : decide (k < 0) = true := decide_eq_true h1
    clear h
    go_wp2
    go_ret
    exact ⟨rfl, rfl⟩
  · have g1 : decide (k < 0) = false := decide_eq_false h1
    by_cases h2 : k > 8
    · have g2 : decide (k > 8) = true := decide_eq_true h2
      clear h
      go_wp2
      go_ret
      exact ⟨rfl, rfl⟩
    · have g2 : decide (k > 8) = false := decide_eq_false h2
      have g3 : decide (k ≥ (b.size : Int)) = true := decide_eq_true (by omega)
      clear h
      go_wp2
      go_ret
      exact ⟨rfl, rfl⟩
end Go.Proofs.YtbghkjoejbfnbaaDoor.ord
