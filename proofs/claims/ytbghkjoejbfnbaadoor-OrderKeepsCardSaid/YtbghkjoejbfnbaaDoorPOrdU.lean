/- order.take, walked. No conditions. -/
import Derived.Test.YtbghkjoejbfnbaaDoorPHx19
import Derived.Test.YtbghkjoejbfnbaaDoorPOrdT
import Derived.Test.YtbghkjoejbfnbaaDoorPHx19
namespace Go.Proofs.YtbghkjoejbfnbaaDoor.ord
open Go.RowKit Go.Proofs.YtbghkjoejbfnbaaDoorW.PrintWords Go.Proofs.YtbghkjoejbfnbaaDoor.base Go.Shelf
/-- May a number of k bytes stand there? -/
def okN (b : ByteArray) (k : Int) : Bool := decide (0 ≤ k) && decide (k ≤ 8) && decide (k < (b.size : Int))
def nV (b : ByteArray) (k turn : Int) : Int := if okN b k = true then numV turn (bytesOf (sub1 b k.toNat)) else 0
def nR (b : ByteArray) (k : Int) : ByteArray := if okN b k = true then b.extract (1 + k.toNat) b.size else ⟨#[]⟩
def nI (b : ByteArray) (k turn : Int) : Bool := if okN b k = true then (sizeV (nV b k turn) == k) else false
theorem okN_iff {b : ByteArray} {k : Int} : okN b k = true ↔ 0 ≤ k ∧ k ≤ 8 ∧ k < (b.size : Int) := by simp [okN, and_assoc]
/-- The number is read, or not. -/
theorem num_any (W : World) (b : ByteArray) (k : Int) (turn : Int) (Bb Br Bi : Nat) (ht : turn = 0 ∨ turn = 255) (hs : b.size ≤ 2000)
    (cb : Boxed W Bb 9 (.string b)) (cr : Boxed W Br 9 (.string ⟨#[]⟩)) (ci : Boxed W Bi 4 (.bool false)) (h1 : Bb ≠ Br) (h2 : Bb ≠ Bi) (h3 : Br ≠ Bi) :
    Calls Tryd.prog 63 #[.int .i64 k, .int .u8 turn, .pointer (some ⟨Bb, 0, none⟩), .pointer (some ⟨Br, 0, none⟩), .pointer (some ⟨Bi, 0, none⟩)] W fun e W' => e = .returned (.int .u64 (nV b k turn)) ∧ NumK W W' Br Bi (nR b k) (nI b k turn) := by
  by_cases hk : okN b k = true
  · obtain ⟨k0, k1, k2⟩ := okN_iff.1 hk
    obtain ⟨n, rfl⟩ : ∃ n : Nat, k = n := ⟨k.toNat, by omega⟩
    unfold nI nV nR
    simp only [if_pos hk, Int.toNat_natCast]
    exact num_yes W b _ _ n turn Bb Br Bi ht (by omega) (by omega) hs cb cr ci h1 h2 h3
  · have hn : k < 0 ∨ 8 < k ∨ (b.size : Int) ≤ k := by
      have : ¬ (0 ≤ k ∧ k ≤ 8 ∧ k < (b.size : Int)) := fun q => hk (okN_iff.2 q)
      omega
    unfold nI nV nR
    simp only [if_neg hk]
    refine (num_no W b k turn Bb Br Bi hn cb).mono ?_
    rintro e W' ⟨rfl, rfl⟩
    exact ⟨rfl, cr, ci, fun m _ _ _ => Below.refl _ _, fun _ _ _ _ => rfl, Nat.le_refl _⟩
abbrev F3 (W : World) (g : Nat) (x y : Int) (s : ByteArray) : Prop := W.heap[g]? = some (.cells #[.int .u64 x, .int .i64 y, .string s] 47 (0, 0))
/-- What take has in memory. -/
structure TK (w W : World) (g : Nat) (b : ByteArray) (x y : Int) (s : ByteArray) (r : ByteArray) (i : Bool) : Prop where
  bb : Boxed W g 9 (.string b)
  bf : F3 W (g + 1) x y s
  br : Boxed W (g + 2) 9 (.string r)
  bi : Boxed W (g + 3) 4 (.bool i)
  bel : Below g w W
theorem TK.num {w W V : World} {g : Nat} {b s r' : ByteArray} {x y : Int} {i' : Bool} (h : TK w W g b x y s ⟨#[]⟩ false) (q : NumK W V (g + 2) (g + 3) r' i') : TK w V g b x y s r' i' :=
  ⟨(q.kept g h.bb.lt (by omega) (by omega)).trans h.bb, (q.kept (g + 1) (blk_lt h.bf) (by omega) (by omega)).trans h.bf, q.br, q.bi, h.bel.trans (q.bel g (by omega) (by omega) (Nat.le_of_lt h.bb.lt))⟩
theorem TK.putf {w W : World} {g j : Nat} {b s r : ByteArray} {x y x' y' : Int} {i : Bool} {v : Value} (h : TK w W g b x y s r i) (hv : F3 (W.setCell ⟨g + 1, j, none⟩ v) (g + 1) x' y' s) : TK w (W.setCell ⟨g + 1, j, none⟩ v) g b x' y' s r i :=
  ⟨(Below.heap_setCell _ ⟨g + 1, j, none⟩ v g (by simp)).trans h.bb, hv, (Below.heap_setCell _ ⟨g + 1, j, none⟩ v (g + 2) (by simp)).trans h.br, (Below.heap_setCell _ ⟨g + 1, j, none⟩ v (g + 3) (by simp)).trans h.bi, h.bel.setCell (Nat.le_succ g) _⟩
theorem TK.fin {w W : World} {g : Nat} {b s r : ByteArray} {x y : Int} {i : Bool} (h : TK w W g b x y s r i) (i' : Bool) : TK w ((((((W.setCell ⟨g + 1, 0, none⟩ (.int .u64 x)).setCell ⟨g + 1, 1, none⟩ (.int .i64 y)).setCell ⟨g + 1, 2, none⟩ (.string s)).setCell ⟨g + 1 + 1, 0, none⟩ (.string r)).setCell ⟨g + 1 + 1 + 1, 0, none⟩ (.bool i')).drew) g b x y s r i' := by
  have h1 := ((h.putf (j := 0) (blk_put h.bf 0 (.int .u64 x) rfl)))
  have h2 := ((h1.putf (j := 1) (blk_put h1.bf 1 (.int .i64 y) rfl)))
  have h3 := ((h2.putf (j := 2) (blk_put h2.bf 2 (.string s) rfl)))
  refine ⟨?_, ?_, ?_, ?_, ?_⟩
  · exact blk_drew (blk_far (blk_far h3.bb (by simp; omega) _) (by simp; omega) _)
  · exact blk_drew (blk_far (blk_far h3.bf (by simp) _) (by simp) _)
  · exact blk_drew (blk_far (blk_put h3.br 0 _ rfl) (by simp) _)
  · exact blk_drew (blk_put (blk_far h3.bi (by simp) _) 0 _ rfl)
  · exact ((h3.bel.setCell (by simp; omega) _).setCell (by simp; omega) _).drew
/-- What Go's ^int64(n) makes. -/
abbrev notV (n : Int) : Int := bits BinOp.xor IntKind.i64 (if IntKind.i64.signed = true then -1 else 9223372036854775807) (wrap64 n)
theorem TK.all {w W : World} {g : Nat} {b s r s' r' : ByteArray} {x y x' y' : Int} {i i' : Bool} (h : TK w W g b x y s r i) : TK w ((((W.setCell ⟨g + 1, 0, none⟩ (.int .u64 x')).setCell ⟨g + 1, 1, none⟩ (.int .i64 y')).setCell ⟨g + 1, 2, none⟩ (.string s')).setCell ⟨g + 1 + 1, 0, none⟩ (.string r') |>.setCell ⟨g + 1 + 1 + 1, 0, none⟩ (.bool i')) g b x' y' s' r' i' := by
  have hf := blk_put (blk_put (blk_put h.bf 0 (.int .u64 x') rfl) 1 (.int .i64 y') rfl) 2 (.string s') rfl
  refine ⟨?_, ?_, ?_, ?_, ?_⟩
  · exact blk_far (blk_far (blk_far (blk_far (blk_far h.bb (by simp) _) (by simp) _) (by simp) _) (by simp; omega) _) (by simp; omega) _
  · exact blk_far (blk_far hf (by simp) _) (by simp) _
  · exact blk_far (blk_put (blk_far (blk_far (blk_far h.br (by simp) _) (by simp) _) (by simp) _) 0 _ rfl) (by simp) _
  · exact blk_put (blk_far (blk_far (blk_far (blk_far h.bi (by simp) _) (by simp) _) (by simp) _) (by simp) _) 0 _ rfl
  · exact ((((h.bel.setCell (by simp) _).setCell (by simp) _).setCell (by simp) _).setCell (by simp; omega) _).setCell (by simp; omega) _
theorem TK.below {w W V : World} {g : Nat} {b s r : ByteArray} {x y : Int} {i : Bool} (h : TK w W g b x y s r i) (q : Below W.heap.size W V) : TK w V g b x y s r i :=
  ⟨blk_below h.bb q, blk_below h.bf q, blk_below h.br q, blk_below h.bi q, h.bel.trans (q.mono (Nat.le_of_lt h.bb.lt))⟩
def TW (w : World) (b : ByteArray) : World := (((w.alloc (.cells #[.string b] 9)).alloc (.cells #[.int .u64 0, .int .i64 0, .string ⟨#[]⟩] 47)).alloc (.cells #[.string ⟨#[]⟩] 9)).alloc (.cells #[.bool false] 4)
theorem al (w : World) (o : Obj) (k : Nat) (hk : k < w.heap.size) (q : Obj) (h : w.heap[k]? = some q) : (w.alloc o).heap[k]? = some q := (((Below.refl w.heap.size w).alloc (Nat.le_refl _) o).block k hk).trans h
theorem aln (w : World) (o : Obj) (k : Nat) (hk : k = w.heap.size) : (w.alloc o).heap[k]? = some o := by subst hk; show (w.heap.push _)[w.heap.size]? = _; simp
theorem TK.start (w : World) (b : ByteArray) : TK w (TW w b) w.heap.size b 0 0 ⟨#[]⟩ ⟨#[]⟩ false := by
  have s1 : (w.alloc (.cells #[.string b] 9)).heap.size = w.heap.size + 1 := by simp
  have s2 : ((w.alloc (.cells #[.string b] 9)).alloc (.cells #[.int .u64 0, .int .i64 0, .string ⟨#[]⟩] 47)).heap.size = w.heap.size + 2 := by simp
  have s3 : (((w.alloc (.cells #[.string b] 9)).alloc (.cells #[.int .u64 0, .int .i64 0, .string ⟨#[]⟩] 47)).alloc (.cells #[.string ⟨#[]⟩] 9)).heap.size = w.heap.size + 3 := by simp
  unfold TW
  refine ⟨?_, ?_, ?_, ?_, ?_⟩
  · exact al _ _ _ (by rw [s3]; omega) _ (al _ _ _ (by rw [s2]; omega) _ (al _ _ _ (by rw [s1]; omega) _ (aln _ _ _ rfl)))
  · exact al _ _ _ (by rw [s3]; omega) _ (al _ _ _ (by rw [s2]; omega) _ (aln _ _ _ s1.symm))
  · exact al _ _ _ (by rw [s3]; omega) _ (aln _ _ _ s2.symm)
  · exact aln _ _ _ s3.symm
  · exact ((((Below.refl _ w).alloc (Nat.le_refl _) _).alloc (by rw [s1]; omega) _).alloc (by rw [s2]; omega) _).alloc (by rw [s3]; omega) _
set_option maxRecDepth 100000 in
set_option maxHeartbeats 1000000 in
theorem take_n (w : World) (b : ByteArray) (k : Int) (hs : b.size ≤ 2000) (h0 : 0 < b.size) (hk : bt b 0 = k) :
    Calls Tryd.prog 51 #[.int .u8 110, .string b] w fun e w' => e = .returned (.tuple #[.agg #[.int .u64 (nV b k 0), .int .i64 0, .string ⟨#[]⟩], .string (nR b k), .bool (nI b k 0)]) ∧ Below w.heap.size w w' := by
  have hbt : ∀ h : 0 < b.size, ((b[0]'h).toNat : Int) = k := fun h => (bt_at b 0 h).trans hk
  have hr := bt_range b 0
  rw [hk] at hr
  have hw : wrap64 k = k := by unfold wrap64; omega
  have hw' : IntKind.i64.wrap k = k := (Go.Proofs.YtbghkjoejbfnbaaDoorW.PrintLast.i64_w _).trans (by omega)
  have HS := Lib.hid (And.intro hs (And.intro h0 hk))
  clear hs hk hr
  go_enter Tryd.func51, Tryd.ntmps51
  go_upto_region 9 with fail
  have HK := TK.start w b
  unfold TW at HK
  generalize ((((w.alloc (Obj.cells #[Value.string b] 9)).alloc (Obj.cells #[Value.int IntKind.u64 0, Value.int IntKind.i64 0, Value.string ⟨#[]⟩] 47)).alloc (Obj.cells #[Value.string ⟨#[]⟩] 9)).alloc (Obj.cells #[Value.bool false] 4)) = U at HK ⊢
  replace HK := Lib.hid HK
  clear h0
  have c0v : ∀ V x y s r i, TK w V w.heap.size b x y s r i → V.cell? ⟨w.heap.size + 1, 0, none⟩ = some (.int .u64 x) := fun V x y s r i h => (blk_cell h.bf 0).trans rfl
  go_upto_region 13 with (go_at_call 63; (try rw [hw']); refine (num_any U b k 0 w.heap.size (w.heap.size + 1 + 1) (w.heap.size + 1 + 1 + 1) (by decide) HS.out.1 HK.out.bb HK.out.br HK.out.bi (by omega) (by omega) (by omega)).mono ?_; rintro e U1 ⟨rfl, HN⟩; have HK1 := Lib.hid (HK.out.num HN); clear HN HK; generalize hn : nV b k 0 = n at HK1 ⊢; generalize hR : nR b k = r at HK1 ⊢; generalize hi : nI b k 0 = i at HK1 ⊢; have HE1 := Lib.hid hn; have HE2 := Lib.hid hR; have HE3 := Lib.hid hi; clear hn hR hi; have c0 := c0v _ _ _ _ _ _ HK1.out; clear c0v; have d0 := blk_frozen HK1.out.bf 0)
  replace HK1 := Lib.hid (HK1.out.putf (j := 0) (x' := n) (y' := 0) (blk_put HK1.out.bf 0 _ rfl))
  generalize U1.setCell ⟨w.heap.size + 1, 0, none⟩ (Value.int IntKind.u64 n) = U2 at HK1 ⊢
  clear c0 d0
  have ca0 : U2.cell? ⟨w.heap.size + 1, 0, none⟩ = some (.int .u64 n) := (blk_cell HK1.out.bf 0).trans rfl
  have ca1 : U2.cell? ⟨w.heap.size + 1, 1, none⟩ = some (.int .i64 0) := (blk_cell HK1.out.bf 1).trans rfl
  have ca2 : U2.cell? ⟨w.heap.size + 1, 2, none⟩ = some (.string ⟨#[]⟩) := (blk_cell HK1.out.bf 2).trans rfl
  have ca3 : U2.cell? ⟨w.heap.size + 1 + 1, 0, none⟩ = some (.string r) := HK1.out.br.cell
  have ca4 : U2.cell? ⟨w.heap.size + 1 + 1 + 1, 0, none⟩ = some (.bool i) := HK1.out.bi.cell
  have fa0 : ∀ j, U2.frozen? ⟨w.heap.size + 1, j, none⟩ = false := fun j => blk_frozen HK1.out.bf j
  have fa3 := HK1.out.br.frozen
  have fa4 := HK1.out.bi.frozen
  cases i
  · go_region
    all_goals
      have HF := Lib.hid (HK1.out.fin false)
      clear ca0 ca1 ca2 ca3 ca4 fa0 fa3 fa4 HK1
      generalize ((((((U2.setCell ⟨w.heap.size + 1, 0, none⟩ (Value.int .u64 n)).setCell ⟨w.heap.size + 1, 1, none⟩ (Value.int .i64 0)).setCell ⟨w.heap.size + 1, 2, none⟩ (Value.string ⟨#[]⟩)).setCell ⟨w.heap.size + 1 + 1, 0, none⟩ (Value.string r)).setCell ⟨w.heap.size + 1 + 1 + 1, 0, none⟩ (Value.bool false))).drew = U9 at HF ⊢
      have ca0 : U9.cell? ⟨w.heap.size + 1, 0, none⟩ = some (.int .u64 n) := (blk_cell HF.out.bf 0).trans rfl
      have ca1 : U9.cell? ⟨w.heap.size + 1, 1, none⟩ = some (.int .i64 0) := (blk_cell HF.out.bf 1).trans rfl
      have ca2 : U9.cell? ⟨w.heap.size + 1, 2, none⟩ = some (.string ⟨#[]⟩) := (blk_cell HF.out.bf 2).trans rfl
      have ca3 : U9.cell? ⟨w.heap.size + 1 + 1, 0, none⟩ = some (.string r) := HF.out.br.cell
      have ca4 : U9.cell? ⟨w.heap.size + 1 + 1 + 1, 0, none⟩ = some (.bool false) := HF.out.bi.cell
      go_wp2
      exact bodyPost_ret (v := .tuple #[.agg #[.int .u64 n, .int .i64 0, .string ⟨#[]⟩], .string r, .bool false]) (by simp [results, Tryd.results51, go_sem, ca0, ca1, ca2, ca3, ca4]) rfl ⟨(by first | (rw [HE1.out, HE2.out, HE3.out]; done) | (rw [HE1.out, HE2.out, HE3.out]; rfl)), HF.out.bel⟩
  · go_region
    all_goals
      have HF := Lib.hid (HK1.out.fin true)
      clear ca0 ca1 ca2 ca3 ca4 fa0 fa3 fa4 HK1
      generalize ((((((U2.setCell ⟨w.heap.size + 1, 0, none⟩ (Value.int .u64 n)).setCell ⟨w.heap.size + 1, 1, none⟩ (Value.int .i64 0)).setCell ⟨w.heap.size + 1, 2, none⟩ (Value.string ⟨#[]⟩)).setCell ⟨w.heap.size + 1 + 1, 0, none⟩ (Value.string r)).setCell ⟨w.heap.size + 1 + 1 + 1, 0, none⟩ (Value.bool true))).drew = U9 at HF ⊢
      have ca0 : U9.cell? ⟨w.heap.size + 1, 0, none⟩ = some (.int .u64 n) := (blk_cell HF.out.bf 0).trans rfl
      have ca1 : U9.cell? ⟨w.heap.size + 1, 1, none⟩ = some (.int .i64 0) := (blk_cell HF.out.bf 1).trans rfl
      have ca2 : U9.cell? ⟨w.heap.size + 1, 2, none⟩ = some (.string ⟨#[]⟩) := (blk_cell HF.out.bf 2).trans rfl
      have ca3 : U9.cell? ⟨w.heap.size + 1 + 1, 0, none⟩ = some (.string r) := HF.out.br.cell
      have ca4 : U9.cell? ⟨w.heap.size + 1 + 1 + 1, 0, none⟩ = some (.bool true) := HF.out.bi.cell
      go_wp2
      exact bodyPost_ret (v := .tuple #[.agg #[.int .u64 n, .int .i64 0, .string ⟨#[]⟩], .string r, .bool true]) (by simp [results, Tryd.results51, go_sem, ca0, ca1, ca2, ca3, ca4]) rfl ⟨(by first | (rw [HE1.out, HE2.out, HE3.out]; done) | (rw [HE1.out, HE2.out, HE3.out]; rfl)), HF.out.bel⟩
set_option maxRecDepth 100000 in
set_option maxHeartbeats 1000000 in
theorem take_s (k : Nat) (w : World) (b : ByteArray) (r1 r2 : Int) (r3 r4 : ByteArray) (r5 : Bool) (h : PH.order_text.f k b = some (r1, r2, r3, r4, r5)) :
    Calls Tryd.prog 51 #[.int .u8 115, .string b] w fun e w' => e = .returned (.tuple #[.agg #[.int .u64 r1, .int .i64 r2, .string r3], .string r4, .bool r5]) ∧ Below w.heap.size w w' := by
  have HC := Lib.hid (fun V => PH.order_text.calls k b r1 r2 r3 r4 r5 V h)
  clear h
  go_enter Tryd.func51, Tryd.ntmps51
  go_upto_region 2 with fail
  have HK := TK.start w b
  unfold TW at HK
  generalize ((((w.alloc (Obj.cells #[Value.string b] 9)).alloc (Obj.cells #[Value.int IntKind.u64 0, Value.int IntKind.i64 0, Value.string ⟨#[]⟩] 47)).alloc (Obj.cells #[Value.string ⟨#[]⟩] 9)).alloc (Obj.cells #[Value.bool false] 4)) = U at HK ⊢
  replace HK := Lib.hid HK
  have cb : U.cell? ⟨w.heap.size, 0, none⟩ = some (.string b) := HK.out.bb.cell
  go_wp2_with (go_at_call 62; refine (HC.out _).mono ?_; rintro e U1 ⟨rfl, hB⟩; have HK1 := Lib.hid (HK.out.below hB); clear hB HK HC cb; have ca0 := (show U1.cell? ⟨w.heap.size + 1, 0, none⟩ = some (.int .u64 0) from (blk_cell HK1.out.bf 0).trans rfl); have ca1 := (show U1.cell? ⟨w.heap.size + 1, 1, none⟩ = some (.int .i64 0) from (blk_cell HK1.out.bf 1).trans rfl); have ca2 := (show U1.cell? ⟨w.heap.size + 1, 2, none⟩ = some (.string ⟨#[]⟩) from (blk_cell HK1.out.bf 2).trans rfl); have ca3 := (show U1.cell? ⟨w.heap.size + 1 + 1, 0, none⟩ = some (.string ⟨#[]⟩) from HK1.out.br.cell); have ca4 := (show U1.cell? ⟨w.heap.size + 1 + 1 + 1, 0, none⟩ = some (.bool false) from HK1.out.bi.cell); have fa0 := (show ∀ j, U1.frozen? ⟨w.heap.size + 1, j, none⟩ = false from fun j => blk_frozen HK1.out.bf j); have fa3 := HK1.out.br.frozen; have fa4 := HK1.out.bi.frozen)
  replace HK1 := Lib.hid (HK1.out.all (x' := r1) (y' := r2) (s' := r3) (r' := r4) (i' := r5))
  clear ca0 ca1 ca2 ca3 ca4 fa0 fa3 fa4
  generalize ((((U1.setCell ⟨w.heap.size + 1, 0, none⟩ (.int .u64 r1)).setCell ⟨w.heap.size + 1, 1, none⟩ (.int .i64 r2)).setCell ⟨w.heap.size + 1, 2, none⟩ (.string r3)).setCell ⟨w.heap.size + 1 + 1, 0, none⟩ (.string r4)).setCell ⟨w.heap.size + 1 + 1 + 1, 0, none⟩ (.bool r5) = U9 at HK1 ⊢
  have ca0 : U9.cell? ⟨w.heap.size + 1, 0, none⟩ = some (.int .u64 r1) := (blk_cell HK1.out.bf 0).trans rfl
  have ca1 : U9.cell? ⟨w.heap.size + 1, 1, none⟩ = some (.int .i64 r2) := (blk_cell HK1.out.bf 1).trans rfl
  have ca2 : U9.cell? ⟨w.heap.size + 1, 2, none⟩ = some (.string r3) := (blk_cell HK1.out.bf 2).trans rfl
  have ca3 : U9.cell? ⟨w.heap.size + 1 + 1, 0, none⟩ = some (.string r4) := HK1.out.br.cell
  have ca4 : U9.cell? ⟨w.heap.size + 1 + 1 + 1, 0, none⟩ = some (.bool r5) := HK1.out.bi.cell
  exact bodyPost_ret (v := .tuple #[.agg #[.int .u64 r1, .int .i64 r2, .string r3], .string r4, .bool r5]) (by simp [results, Tryd.results51, go_sem, ca0, ca1, ca2, ca3, ca4]) rfl ⟨rfl, HK1.out.bel⟩
set_option maxRecDepth 100000 in
set_option maxHeartbeats 1000000 in
theorem take_pos (w : World) (b : ByteArray) (k : Int) (hs : b.size ≤ 2000) (h0 : 0 < b.size) (hk : bt b 0 = k) (h1 : 128 ≤ k) :
    Calls Tryd.prog 51 #[.int .u8 105, .string b] w fun e w' => e = .returned (.tuple #[.agg #[.int .u64 0, .int .i64 (wrap64 (nV b (k - 128) 0)), .string ⟨#[]⟩], .string (nR b (k - 128)), .bool (nI b (k - 128) 0 && decide (nV b (k - 128) 0 < 9223372036854775808))]) ∧ Below w.heap.size w w' := by
  have hbt : ∀ h : 0 < b.size, ((b[0]'h).toNat : Int) = k := fun h => (bt_at b 0 h).trans hk
  have hr := bt_range b 0
  rw [hk] at hr
  have hw : wrap64 k = k := by unfold wrap64; omega
  have hw' : IntKind.i64.wrap k = k := (Go.Proofs.YtbghkjoejbfnbaaDoorW.PrintLast.i64_w _).trans (by omega)
  have hg : decide (k ≥ 128) = true := decide_eq_true h1
  have hg' : decide (128 ≤ k) = true := decide_eq_true h1
  have hv' : wrap64 (k - 128) = k - 128 := by unfold wrap64; omega
  have hv : IntKind.i64.wrap (k - 128) = k - 128 := (Go.Proofs.YtbghkjoejbfnbaaDoorW.PrintLast.i64_w _).trans hv'
  clear h1
  have HS := Lib.hid (And.intro hs (And.intro h0 hk))
  clear hs hk hr
  go_enter Tryd.func51, Tryd.ntmps51
  go_upto_region 11 with fail
  have HK := TK.start w b
  unfold TW at HK
  generalize ((((w.alloc (Obj.cells #[Value.string b] 9)).alloc (Obj.cells #[Value.int IntKind.u64 0, Value.int IntKind.i64 0, Value.string ⟨#[]⟩] 47)).alloc (Obj.cells #[Value.string ⟨#[]⟩] 9)).alloc (Obj.cells #[Value.bool false] 4)) = U at HK ⊢
  replace HK := Lib.hid HK
  clear h0
  have c0v : ∀ V x y s r i, TK w V w.heap.size b x y s r i → V.cell? ⟨w.heap.size + 1, 1, none⟩ = some (.int .i64 y) := fun V x y s r i h => (blk_cell h.bf 1).trans rfl
  go_upto_region 13 with (go_at_call 63; (try rw [hv]); refine (num_any U b (k - 128) 0 w.heap.size (w.heap.size + 1 + 1) (w.heap.size + 1 + 1 + 1) (by decide) HS.out.1 HK.out.bb HK.out.br HK.out.bi (by omega) (by omega) (by omega)).mono ?_; rintro e U1 ⟨rfl, HN⟩; have HK1 := Lib.hid (HK.out.num HN); clear HN HK; generalize hn : nV b (k - 128) 0 = n at HK1 ⊢; generalize hR : nR b (k - 128) = r at HK1 ⊢; generalize hi : nI b (k - 128) 0 = i at HK1 ⊢; have HE1 := Lib.hid hn; have HE2 := Lib.hid hR; have HE3 := Lib.hid hi; clear hn hR hi; have c0 := c0v _ _ _ _ _ _ HK1.out; clear c0v; have d0 := blk_frozen HK1.out.bf 1)
  replace HK1 := Lib.hid (HK1.out.putf (j := 1) (x' := 0) (y' := wrap64 n) (blk_put HK1.out.bf 1 _ rfl))
  generalize U1.setCell ⟨w.heap.size + 1, 1, none⟩ (Value.int IntKind.i64 (wrap64 n)) = U2 at HK1 ⊢
  clear c0 d0
  have ca0 : U2.cell? ⟨w.heap.size + 1, 0, none⟩ = some (.int .u64 0) := (blk_cell HK1.out.bf 0).trans rfl
  have ca1 : U2.cell? ⟨w.heap.size + 1, 1, none⟩ = some (.int .i64 (wrap64 n)) := (blk_cell HK1.out.bf 1).trans rfl
  have ca2 : U2.cell? ⟨w.heap.size + 1, 2, none⟩ = some (.string ⟨#[]⟩) := (blk_cell HK1.out.bf 2).trans rfl
  have ca3 : U2.cell? ⟨w.heap.size + 1 + 1, 0, none⟩ = some (.string r) := HK1.out.br.cell
  have ca4 : U2.cell? ⟨w.heap.size + 1 + 1 + 1, 0, none⟩ = some (.bool i) := HK1.out.bi.cell
  have fa0 : ∀ j, U2.frozen? ⟨w.heap.size + 1, j, none⟩ = false := fun j => blk_frozen HK1.out.bf j
  have fa3 := HK1.out.br.frozen
  have fa4 := HK1.out.bi.frozen
  cases i
  · go_region
    all_goals
      have HF := Lib.hid (HK1.out.fin false)
      clear ca0 ca1 ca2 ca3 ca4 fa0 fa3 fa4 HK1
      generalize ((((((U2.setCell ⟨w.heap.size + 1, 0, none⟩ (Value.int .u64 0)).setCell ⟨w.heap.size + 1, 1, none⟩ (Value.int .i64 (wrap64 n))).setCell ⟨w.heap.size + 1, 2, none⟩ (Value.string ⟨#[]⟩)).setCell ⟨w.heap.size + 1 + 1, 0, none⟩ (Value.string r)).setCell ⟨w.heap.size + 1 + 1 + 1, 0, none⟩ (Value.bool false))).drew = U9 at HF ⊢
      have ca0 : U9.cell? ⟨w.heap.size + 1, 0, none⟩ = some (.int .u64 0) := (blk_cell HF.out.bf 0).trans rfl
      have ca1 : U9.cell? ⟨w.heap.size + 1, 1, none⟩ = some (.int .i64 (wrap64 n)) := (blk_cell HF.out.bf 1).trans rfl
      have ca2 : U9.cell? ⟨w.heap.size + 1, 2, none⟩ = some (.string ⟨#[]⟩) := (blk_cell HF.out.bf 2).trans rfl
      have ca3 : U9.cell? ⟨w.heap.size + 1 + 1, 0, none⟩ = some (.string r) := HF.out.br.cell
      have ca4 : U9.cell? ⟨w.heap.size + 1 + 1 + 1, 0, none⟩ = some (.bool false) := HF.out.bi.cell
      go_wp2
      exact bodyPost_ret (v := .tuple #[.agg #[.int .u64 0, .int .i64 (wrap64 n), .string ⟨#[]⟩], .string r, .bool false]) (by simp [results, Tryd.results51, go_sem, ca0, ca1, ca2, ca3, ca4]) rfl ⟨(by first | (rw [HE1.out, HE2.out, HE3.out]; done) | (rw [HE1.out, HE2.out, HE3.out]; rfl)), HF.out.bel⟩
  · go_region
    all_goals
      have HF := Lib.hid (HK1.out.fin (decide (n < 9223372036854775808)))
      clear ca0 ca1 ca2 ca3 ca4 fa0 fa3 fa4 HK1
      generalize ((((((U2.setCell ⟨w.heap.size + 1, 0, none⟩ (Value.int .u64 0)).setCell ⟨w.heap.size + 1, 1, none⟩ (Value.int .i64 (wrap64 n))).setCell ⟨w.heap.size + 1, 2, none⟩ (Value.string ⟨#[]⟩)).setCell ⟨w.heap.size + 1 + 1, 0, none⟩ (Value.string r)).setCell ⟨w.heap.size + 1 + 1 + 1, 0, none⟩ (Value.bool (decide (n < 9223372036854775808))))).drew = U9 at HF ⊢
      have ca0 : U9.cell? ⟨w.heap.size + 1, 0, none⟩ = some (.int .u64 0) := (blk_cell HF.out.bf 0).trans rfl
      have ca1 : U9.cell? ⟨w.heap.size + 1, 1, none⟩ = some (.int .i64 (wrap64 n)) := (blk_cell HF.out.bf 1).trans rfl
      have ca2 : U9.cell? ⟨w.heap.size + 1, 2, none⟩ = some (.string ⟨#[]⟩) := (blk_cell HF.out.bf 2).trans rfl
      have ca3 : U9.cell? ⟨w.heap.size + 1 + 1, 0, none⟩ = some (.string r) := HF.out.br.cell
      have ca4 : U9.cell? ⟨w.heap.size + 1 + 1 + 1, 0, none⟩ = some (.bool (decide (n < 9223372036854775808))) := HF.out.bi.cell
      go_wp2
      exact bodyPost_ret (v := .tuple #[.agg #[.int .u64 0, .int .i64 (wrap64 n), .string ⟨#[]⟩], .string r, .bool (decide (n < 9223372036854775808))]) (by simp [results, Tryd.results51, go_sem, ca0, ca1, ca2, ca3, ca4]) rfl ⟨(by first | (rw [HE1.out, HE2.out, HE3.out]; done) | (rw [HE1.out, HE2.out, HE3.out]; rfl)), HF.out.bel⟩
set_option maxRecDepth 100000 in
set_option maxHeartbeats 1000000 in
theorem take_neg (w : World) (b : ByteArray) (k : Int) (hs : b.size ≤ 2000) (h0 : 0 < b.size) (hk : bt b 0 = k) (h1 : k < 128) :
    Calls Tryd.prog 51 #[.int .u8 105, .string b] w fun e w' => e = .returned (.tuple #[.agg #[.int .u64 0, .int .i64 (notV (nV b (127 - k) 255)), .string ⟨#[]⟩], .string (nR b (127 - k)), .bool (nI b (127 - k) 255 && decide (nV b (127 - k) 255 < 9223372036854775808))]) ∧ Below w.heap.size w w' := by
  have hbt : ∀ h : 0 < b.size, ((b[0]'h).toNat : Int) = k := fun h => (bt_at b 0 h).trans hk
  have hr := bt_range b 0
  rw [hk] at hr
  have hw : wrap64 k = k := by unfold wrap64; omega
  have hw' : IntKind.i64.wrap k = k := (Go.Proofs.YtbghkjoejbfnbaaDoorW.PrintLast.i64_w _).trans (by omega)
  have hg : decide (k ≥ 128) = false := decide_eq_false (by omega)
  have hg' : decide (128 ≤ k) = false := decide_eq_false (by omega)
  have hv' : wrap64 (127 - k) = 127 - k := by unfold wrap64; omega
  have hv : IntKind.i64.wrap (127 - k) = 127 - k := (Go.Proofs.YtbghkjoejbfnbaaDoorW.PrintLast.i64_w _).trans hv'
  clear h1
  have HS := Lib.hid (And.intro hs (And.intro h0 hk))
  clear hs hk hr
  go_enter Tryd.func51, Tryd.ntmps51
  go_upto_region 6 with fail
  have HK := TK.start w b
  unfold TW at HK
  generalize ((((w.alloc (Obj.cells #[Value.string b] 9)).alloc (Obj.cells #[Value.int IntKind.u64 0, Value.int IntKind.i64 0, Value.string ⟨#[]⟩] 47)).alloc (Obj.cells #[Value.string ⟨#[]⟩] 9)).alloc (Obj.cells #[Value.bool false] 4)) = U at HK ⊢
  replace HK := Lib.hid HK
  clear h0
  have c0v : ∀ V x y s r i, TK w V w.heap.size b x y s r i → V.cell? ⟨w.heap.size + 1, 1, none⟩ = some (.int .i64 y) := fun V x y s r i h => (blk_cell h.bf 1).trans rfl
  go_upto_region 13 with (go_at_call 63; (try rw [hv]); refine (num_any U b (127 - k) 255 w.heap.size (w.heap.size + 1 + 1) (w.heap.size + 1 + 1 + 1) (by decide) HS.out.1 HK.out.bb HK.out.br HK.out.bi (by omega) (by omega) (by omega)).mono ?_; rintro e U1 ⟨rfl, HN⟩; have HK1 := Lib.hid (HK.out.num HN); clear HN HK; generalize hn : nV b (127 - k) 255 = n at HK1 ⊢; generalize hR : nR b (127 - k) = r at HK1 ⊢; generalize hi : nI b (127 - k) 255 = i at HK1 ⊢; have HE1 := Lib.hid hn; have HE2 := Lib.hid hR; have HE3 := Lib.hid hi; clear hn hR hi; have c0 := c0v _ _ _ _ _ _ HK1.out; clear c0v; have d0 := blk_frozen HK1.out.bf 1)
  replace HK1 := Lib.hid (HK1.out.putf (j := 1) (x' := 0) (y' := notV n) (blk_put HK1.out.bf 1 _ rfl))
  generalize U1.setCell ⟨w.heap.size + 1, 1, none⟩ (Value.int IntKind.i64 (notV n)) = U2 at HK1 ⊢
  clear c0 d0
  have ca0 : U2.cell? ⟨w.heap.size + 1, 0, none⟩ = some (.int .u64 0) := (blk_cell HK1.out.bf 0).trans rfl
  have ca1 : U2.cell? ⟨w.heap.size + 1, 1, none⟩ = some (.int .i64 (notV n)) := (blk_cell HK1.out.bf 1).trans rfl
  have ca2 : U2.cell? ⟨w.heap.size + 1, 2, none⟩ = some (.string ⟨#[]⟩) := (blk_cell HK1.out.bf 2).trans rfl
  have ca3 : U2.cell? ⟨w.heap.size + 1 + 1, 0, none⟩ = some (.string r) := HK1.out.br.cell
  have ca4 : U2.cell? ⟨w.heap.size + 1 + 1 + 1, 0, none⟩ = some (.bool i) := HK1.out.bi.cell
  have fa0 : ∀ j, U2.frozen? ⟨w.heap.size + 1, j, none⟩ = false := fun j => blk_frozen HK1.out.bf j
  have fa3 := HK1.out.br.frozen
  have fa4 := HK1.out.bi.frozen
  cases i
  · go_region
    all_goals
      have HF := Lib.hid (HK1.out.fin false)
      clear ca0 ca1 ca2 ca3 ca4 fa0 fa3 fa4 HK1
      generalize ((((((U2.setCell ⟨w.heap.size + 1, 0, none⟩ (Value.int .u64 0)).setCell ⟨w.heap.size + 1, 1, none⟩ (Value.int .i64 (notV n))).setCell ⟨w.heap.size + 1, 2, none⟩ (Value.string ⟨#[]⟩)).setCell ⟨w.heap.size + 1 + 1, 0, none⟩ (Value.string r)).setCell ⟨w.heap.size + 1 + 1 + 1, 0, none⟩ (Value.bool false))).drew = U9 at HF ⊢
      have ca0 : U9.cell? ⟨w.heap.size + 1, 0, none⟩ = some (.int .u64 0) := (blk_cell HF.out.bf 0).trans rfl
      have ca1 : U9.cell? ⟨w.heap.size + 1, 1, none⟩ = some (.int .i64 (notV n)) := (blk_cell HF.out.bf 1).trans rfl
      have ca2 : U9.cell? ⟨w.heap.size + 1, 2, none⟩ = some (.string ⟨#[]⟩) := (blk_cell HF.out.bf 2).trans rfl
      have ca3 : U9.cell? ⟨w.heap.size + 1 + 1, 0, none⟩ = some (.string r) := HF.out.br.cell
      have ca4 : U9.cell? ⟨w.heap.size + 1 + 1 + 1, 0, none⟩ = some (.bool false) := HF.out.bi.cell
      go_wp2
      exact bodyPost_ret (v := .tuple #[.agg #[.int .u64 0, .int .i64 (notV n), .string ⟨#[]⟩], .string r, .bool false]) (by simp [results, Tryd.results51, go_sem, ca0, ca1, ca2, ca3, ca4]) rfl ⟨(by first | (rw [HE1.out, HE2.out, HE3.out]; done) | (rw [HE1.out, HE2.out, HE3.out]; rfl)), HF.out.bel⟩
  · go_region
    all_goals
      have HF := Lib.hid (HK1.out.fin (decide (n < 9223372036854775808)))
      clear ca0 ca1 ca2 ca3 ca4 fa0 fa3 fa4 HK1
      generalize ((((((U2.setCell ⟨w.heap.size + 1, 0, none⟩ (Value.int .u64 0)).setCell ⟨w.heap.size + 1, 1, none⟩ (Value.int .i64 (notV n))).setCell ⟨w.heap.size + 1, 2, none⟩ (Value.string ⟨#[]⟩)).setCell ⟨w.heap.size + 1 + 1, 0, none⟩ (Value.string r)).setCell ⟨w.heap.size + 1 + 1 + 1, 0, none⟩ (Value.bool (decide (n < 9223372036854775808))))).drew = U9 at HF ⊢
      have ca0 : U9.cell? ⟨w.heap.size + 1, 0, none⟩ = some (.int .u64 0) := (blk_cell HF.out.bf 0).trans rfl
      have ca1 : U9.cell? ⟨w.heap.size + 1, 1, none⟩ = some (.int .i64 (notV n)) := (blk_cell HF.out.bf 1).trans rfl
      have ca2 : U9.cell? ⟨w.heap.size + 1, 2, none⟩ = some (.string ⟨#[]⟩) := (blk_cell HF.out.bf 2).trans rfl
      have ca3 : U9.cell? ⟨w.heap.size + 1 + 1, 0, none⟩ = some (.string r) := HF.out.br.cell
      have ca4 : U9.cell? ⟨w.heap.size + 1 + 1 + 1, 0, none⟩ = some (.bool (decide (n < 9223372036854775808))) := HF.out.bi.cell
      go_wp2
      exact bodyPost_ret (v := .tuple #[.agg #[.int .u64 0, .int .i64 (notV n), .string ⟨#[]⟩], .string r, .bool (decide (n < 9223372036854775808))]) (by simp [results, Tryd.results51, go_sem, ca0, ca1, ca2, ca3, ca4]) rfl ⟨(by first | (rw [HE1.out, HE2.out, HE3.out]; done) | (rw [HE1.out, HE2.out, HE3.out]; rfl)), HF.out.bel⟩
/-- A field taken off bytes: what it is, what is left, whether it is one. -/
def takeF (kind : Int) (b : ByteArray) : Option (Int × Int × ByteArray × ByteArray × Bool) :=
  if kind = 115 then PH.order_text.f 5000 b
  else if kind = 110 then some (nV b (bt b 0) 0, 0, ⟨#[]⟩, nR b (bt b 0), nI b (bt b 0) 0)
  else if 128 ≤ bt b 0 then some (0, wrap64 (nV b (bt b 0 - 128) 0), ⟨#[]⟩, nR b (bt b 0 - 128), nI b (bt b 0 - 128) 0 && decide (nV b (bt b 0 - 128) 0 < 9223372036854775808))
  else some (0, notV (nV b (127 - bt b 0) 255), ⟨#[]⟩, nR b (127 - bt b 0), nI b (127 - bt b 0) 255 && decide (nV b (127 - bt b 0) 255 < 9223372036854775808))
theorem take_any (w : World) (kind : Int) (b : ByteArray) (r1 r2 : Int) (r3 r4 : ByteArray) (r5 : Bool) (hk : kind = 110 ∨ kind = 105 ∨ kind = 115) (hs : b.size ≤ 2000) (h0 : 0 < b.size) (h : takeF kind b = some (r1, r2, r3, r4, r5)) :
    Calls Tryd.prog 51 #[.int .u8 kind, .string b] w fun e w' => e = .returned (.tuple #[.agg #[.int .u64 r1, .int .i64 r2, .string r3], .string r4, .bool r5]) ∧ Below w.heap.size w w' := by
  unfold takeF at h
  rcases hk with rfl | rfl | rfl
  · rw [if_neg (by decide), if_pos rfl] at h
    obtain ⟨rfl, rfl, rfl, rfl, rfl⟩ : nV b (bt b 0) 0 = r1 ∧ (0 : Int) = r2 ∧ (⟨#[]⟩ : ByteArray) = r3 ∧ nR b (bt b 0) = r4 ∧ nI b (bt b 0) 0 = r5 := by simpa using h
    exact take_n w b _ hs h0 rfl
  · rw [if_neg (by decide), if_neg (by decide)] at h
    by_cases hg : 128 ≤ bt b 0
    · rw [if_pos hg] at h
      injection h with h
      injection h with q1 h
      injection h with q2 h
      injection h with q3 h
      injection h with q4 q5
      subst q1 q2 q3 q4 q5
      exact take_pos w b _ hs h0 rfl hg
    · rw [if_neg hg] at h
      injection h with h
      injection h with q1 h
      injection h with q2 h
      injection h with q3 h
      injection h with q4 q5
      subst q1 q2 q3 q4 q5
      exact take_neg w b _ hs h0 rfl (by omega)
  · rw [if_pos rfl] at h
    exact take_s _ w b _ _ _ _ _ h
end Go.Proofs.YtbghkjoejbfnbaaDoor.ord
