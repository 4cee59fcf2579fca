/- The fields of a key, one by one: order.fields and its loop, walked. No conditions. -/
import Derived.Test.YtbghkjoejbfnbaaDoorPOrdV
import Derived.Test.YtbghkjoejbfnbaaDoorRangeL
import Derived.Test.YtbghkjoejbfnbaaDoorWRepsOne
namespace Go.Proofs.YtbghkjoejbfnbaaDoor.orf
open Go.RowKit Go.Proofs.YtbghkjoejbfnbaaDoorW.PrintWords Go.Proofs.YtbghkjoejbfnbaaDoor.base Go.Proofs.YtbghkjoejbfnbaaDoor.ord Go.Shelf Go.Proofs.YtbghkjoejbfnbaaDoor.rl Go.Proofs.YtbghkjoejbfnbaaDoorW.PrintMore
attribute [local go_sem] Oper.semAt_some min2_int min_two
/-- A field and whether it is one. -/
abbrev Fd := (Int × Int × ByteArray) × Bool
def encF (x : Fd) : Array Value := #[.agg #[.int .u64 x.1.1, .int .i64 x.1.2.1, .string x.1.2.2], .bool x.2]
/-- The field at place i, and what is left. -/
def tk (kinds : ByteArray) (i : Nat) (b : ByteArray) : Fd × ByteArray :=
  if i < kinds.size then (((takeT (bt kinds i) b).1, (takeT (bt kinds i) b).2.1, (takeT (bt kinds i) b).2.2.1), (takeT (bt kinds i) b).2.2.2.2) |> fun f => (f, (takeT (bt kinds i) b).2.2.2.1)
  else (((0, 0, ⟨#[]⟩), false), ⟨#[]⟩)
/-- All that are read. -/
def items (kinds : ByteArray) : Nat → Nat → ByteArray → List Fd
  | 0, _, _ => []
  | k + 1, i, b => if b.size = 0 then [] else (tk kinds i b).1 :: (if (tk kinds i b).1.2 = true then items kinds k (i + 1) (tk kinds i b).2 else [])
/-- What a round keeps: where the key and the kinds lie. -/
structure Kf (Bk Bs : Nat) (W W' : World) : Prop where
  size : W.heap.size ≤ W'.heap.size
  bk : W'.heap[Bk]? = W.heap[Bk]?
  bs : W'.heap[Bs]? = W.heap[Bs]?
theorem Kf.trans {Bk Bs : Nat} {A B C : World} (h : Kf Bk Bs A B) (k : Kf Bk Bs B C) : Kf Bk Bs A C := ⟨Nat.le_trans h.size k.size, k.bk.trans h.bk, k.bs.trans h.bs⟩
theorem Kf.put {Bk Bs B : Nat} (W : World) (l : Nat) (o : Obj) (hl : B ≤ l) (h1 : Bk < B) (h2 : Bs < B) : Kf Bk Bs W (W.putObj l o) :=
  ⟨by simp, World.putObj_heap_other (by omega), World.putObj_heap_other (by omega)⟩
/-- What the loop holds. -/
structure FS (W0 : World) (Bk Bs : Nat) (b kinds : ByteArray) (t1 t2 : Int) (t3 : ByteArray) (W : World) : Prop where
  bk : Boxed W Bk 9 (.string b)
  bs : Boxed W Bs 9 (.string kinds)
  bf : W.heap[W0.heap.size]? = some (.cells #[.int .u64 t1, .int .i64 t2, .string t3] 47 (0, 0))
  lk : Bk < W0.heap.size
  ls : Bs < W0.heap.size
  bel : Below W0.heap.size W0 W
theorem FS.below {W0 : World} {Bk Bs : Nat} {b kinds : ByteArray} {t1 t2 : Int} {t3 : ByteArray} {W V : World} (h : FS W0 Bk Bs b kinds t1 t2 t3 W) (q : Below W.heap.size W V) : FS W0 Bk Bs b kinds t1 t2 t3 V :=
  ⟨blk_below h.bk q, blk_below h.bs q, blk_below h.bf q, h.lk, h.ls, h.bel.trans (q.mono h.bel.size)⟩
theorem FS.put {W0 : World} {Bk Bs : Nat} {b kinds : ByteArray} {t1 t2 : Int} {t3 : ByteArray} {W : World} (h : FS W0 Bk Bs b kinds t1 t2 t3 W) (s1 s2 : Int) (s3 : ByteArray) :
    FS W0 Bk Bs b kinds s1 s2 s3 (((W.setCell ⟨W0.heap.size, 0, none⟩ (.int .u64 s1)).setCell ⟨W0.heap.size, 1, none⟩ (.int .i64 s2)).setCell ⟨W0.heap.size, 2, none⟩ (.string s3)) := by
  have hk := h.lk
  have hs := h.ls
  exact ⟨blk_far (blk_far (blk_far h.bk (by simp; omega) _) (by simp; omega) _) (by simp; omega) _, blk_far (blk_far (blk_far h.bs (by simp; omega) _) (by simp; omega) _) (by simp; omega) _, blk_put (blk_put (blk_put h.bf 0 (.int .u64 s1) rfl) 1 (.int .i64 s2) rfl) 2 (.string s3) rfl, hk, hs, ((h.bel.setCell (by simp) _).setCell (by simp) _).setCell (by simp) _⟩
theorem items_step (kinds : ByteArray) (k : Nat) (b : ByteArray) (h0 : 0 < b.size) (hk : k ≤ 16) : items kinds (17 - k) k b = (tk kinds k b).1 :: (if (tk kinds k b).1.2 = true then items kinds (17 - (k + 1)) (k + 1) (tk kinds k b).2 else []) := by
  obtain ⟨m, hm⟩ : ∃ m, 17 - k = m + 1 := ⟨16 - k, by omega⟩
  rw [hm, show 17 - (k + 1) = m by omega]
  unfold items
  rw [if_neg (by omega)]
  cases m <;> rfl
theorem items_stop {kinds b : ByteArray} {k : Nat} {pre all : List Fd} {x : Fd} {r : ByteArray} (h0 : 0 < b.size) (hk : k ≤ 16) (he : pre ++ items kinds (17 - k) k b = all) (ht : tk kinds k b = (x, r)) (hx : x.2 = false) : pre ++ [x] = all := by
  rw [items_step kinds k b h0 hk, ht, hx] at he
  simpa using he
theorem items_on {kinds b : ByteArray} {k : Nat} {pre all : List Fd} {x : Fd} {r : ByteArray} (h0 : 0 < b.size) (hk : k ≤ 16) (he : pre ++ items kinds (17 - k) k b = all) (ht : tk kinds k b = (x, r)) (hx : x.2 = true) : (pre ++ [x]) ++ items kinds (17 - (k + 1)) (k + 1) r = all := by
  rw [items_step kinds k b h0 hk, ht, hx] at he
  simpa using he
theorem meas (k : Nat) (h : k ≤ 16) : (20 - intOf (Value.int .i64 (wrap64 ((k : Int) + 1)))).toNat < (20 - intOf (Value.int .i64 (k : Int))).toNat := by
  have ew : wrap64 ((k : Int) + 1) = ((k + 1 : Nat) : Int) := by unfold wrap64; omega
  rw [ew]
  simp only [intOf]
  omega
def KindsOk (kinds : ByteArray) : Prop := kinds.size ≤ 16 ∧ ∀ i : Nat, i < kinds.size → bt kinds i = 110 ∨ bt kinds i = 105 ∨ bt kinds i = 115
set_option maxRecDepth 100000 in
set_option maxHeartbeats 2000000 in
theorem fields_in (l Bk Bs : Nat) (kinds key : ByteArray) (hok : KindsOk kinds) (hkey : key.size ≤ 1024) (J Jx : List Fd → World → Prop)
    (hY : ∀ pre x W, J pre W → pre.length < 17 → YieldAt Fence.wide 1 Tryd.prog l (encF x) W fun e W' =>
      (e = .returned (.bool true) ∧ J (pre ++ [x]) W' ∧ Kf Bk Bs W W') ∨ (e = .returned (.bool false) ∧ Jx (pre ++ [x]) W'))
    (W : World) (hJ : Bears [Bk] J) (hks : Bk ≠ Bs)
    (cf : Boxed W Bk 9 (.string key)) (cn : Boxed W Bs 9 (.string kinds)) (h0 : J [] W) :
    CallsIn Fence.wide 2 Tryd.prog 50 #[.func (.yield l) #[] #[], .pointer (some ⟨Bk, 0, none⟩), .pointer (some ⟨Bs, 0, none⟩)] W fun e W' => (∃ v, e = .returned v) ∧
      ((∃ ys, ys = items kinds 17 0 key ∧ J ys W') ∨ (∃ pre, pre <+: items kinds 17 0 key ∧ Jx pre W')) := by
  refine callsIn_of_wp Tryd.func50 rfl trivial ?_ rfl
  simp only [Tryd.ntmps50, List.size_toArray, List.length_cons, List.length_nil, Nat.reduceAdd, Nat.reduceSub, Array.replicate_succ, Array.replicate_zero, List.push_toArray, List.append_toArray, List.nil_append, List.cons_append]
  have HY := Lib.hid hY
  have HJ := Lib.hid hJ
  have HO := Lib.hid hok
  have HKY := Lib.hid hkey
  have HF := Lib.hid cf
  have HN := Lib.hid cn
  have HNE := Lib.hid hks
  clear hY hJ hok hkey cf cn hks
  gi_wp2
  gi_loopw [4] (fun m wr => ∃ (k : Nat) (b : ByteArray) (pre : List Fd), m = .int .i64 (k : Int) ∧ k ≤ 16 ∧ b.size ≤ 1024 ∧ pre.length = k ∧ pre ++ items kinds (17 - k) k b = items kinds 17 0 key ∧ J pre wr ∧ Boxed wr Bk 9 (.string b) ∧ Boxed wr Bs 9 (.string kinds)) (fun m _ => (20 - intOf m).toNat)
  case atStart =>
    exact ⟨0, key, [], rfl, by omega, HKY.out, rfl, rfl, h0, HF.out, HN.out⟩
  case round =>
    obtain ⟨k, b, pre, rfl, hk, hb, hl, he, hJs, hbf, hbn⟩ := hrel
    have c1 := hbf.cell
    have c2 := hbn.cell
    have a1 : ∀ o, (wr.alloc o).cell? ⟨Bk, 0, none⟩ = some (.string b) := fun o => (hbf.alloc o).cell
    have a2 : ∀ o, (wr.alloc o).cell? ⟨Bs, 0, none⟩ = some (.string kinds) := fun o => (hbn.alloc o).cell
    have HR := Lib.hid (And.intro hk (And.intro hb (And.intro hl he)))
    have HB := Lib.hid (And.intro hJs (And.intro hbf hbn))
    clear hJs hbf hbn hk hb hl he
    by_cases hb0 : b.size = 0
    · obtain rfl : b = ⟨#[]⟩ := by
        cases b; congr
        exact Array.eq_empty_of_size_eq_zero hb0
      gi_wp2
      go_end0
      refine ⟨⟨_, rfl⟩, .inl ⟨_, ?_, HB.out.1⟩⟩
      have := HR.out.2.2.2
      rw [show items kinds (17 - k) k ⟨#[]⟩ = [] by cases h : 17 - k <;> simp [items, ByteArray.size], List.append_nil] at this
      exact this
    · have q3 : b.toList.isEmpty = false := by
        have e : b.toList = b.data.toList := Lib.toList_data b
        rw [e]; cases h : b.data.toList with
        | nil => exact absurd (show b.size = 0 by rw [← ByteArray.size_data, ← Array.length_toList, h]; rfl) hb0
        | cons => rfl
      have q2 : b ≠ (⟨#[]⟩ : ByteArray) := by rintro rfl; exact hb0 rfl
      have H0 := Lib.hid (show 0 < b.size by omega)
      clear hb0
      by_cases hk : k < kinds.size
      · have hbt : ∀ h : k < kinds.size, ((kinds[k]'h).toNat : Int) = bt kinds k := fun h => bt_at kinds k h
        have HKI := Lib.hid (HO.out.2 k hk)
        have hg := Lib.hid hk
        gi_upto_region 5 with fail
        have VB := Lib.hid (FS.mk (HB.out.2.1.alloc (.cells #[.int .u64 0, .int .i64 0, .string ⟨#[]⟩] 47)) (HB.out.2.2.alloc (.cells #[.int .u64 0, .int .i64 0, .string ⟨#[]⟩] 47)) (blk_new wr (.cells #[.int .u64 0, .int .i64 0, .string ⟨#[]⟩] 47)) HB.out.2.1.lt HB.out.2.2.lt ((Below.refl _ wr).alloc (Nat.le_refl _) _))
        clear a1 a2 c1 c2
        have hmo : Tryd.prog.follows .mixedOrders = true := by kernel_rfl
        generalize wr.alloc (.cells #[.int .u64 0, .int .i64 0, .string ⟨#[]⟩] 47) = V at VB ⊢
        have v1 := VB.out.bk.cell
        have v2 := VB.out.bs.cell
        obtain ⟨c, hc⟩ : ∃ q, bt kinds k = q := ⟨_, rfl⟩
        rw [hc] at hbt HKI
        have HCC := Lib.hid hc
        clear hc
        have VT := Lib.hid (fun V => take_does V c b HKI.out (by have := HR.out.2.1; omega) H0.out)
        obtain ⟨⟨t1, t2, t3, t4, t5⟩, ht⟩ : ∃ q, takeT c b = q := ⟨_, rfl⟩
        rw [ht] at VT
        replace VT := Lib.hid (fun V : World => (VT.out V : Calls Tryd.prog 51 #[.int .u8 c, .string b] V fun e w' => e = .returned (.tuple #[.agg #[.int .u64 t1, .int .i64 t2, .string t3], .string t4, .bool t5]) ∧ Below V.heap.size V w'))
        have HT := Lib.hid ht
        clear ht
        gi_region_with_o (refine ⟨trivial, (callsIn_wide.2 (VT.out _)).mono ?_⟩; rintro e w2 ⟨rfl, B2⟩; have V2 := Lib.hid (VB.out.below (show Below V.heap.size V w2 from ⟨B2.os, B2.tape, B2.output, B2.size, B2.block⟩)); clear B2; have d0 := (show w2.cell? ⟨wr.heap.size, 0, none⟩ = some (.int .u64 0) from (blk_cell V2.out.bf 0).trans rfl); have d1 := (show w2.cell? ⟨wr.heap.size, 1, none⟩ = some (.int .i64 0) from (blk_cell V2.out.bf 1).trans rfl); have d2 := (show w2.cell? ⟨wr.heap.size, 2, none⟩ = some (.string ⟨#[]⟩) from (blk_cell V2.out.bf 2).trans rfl); have df := (show ∀ j, w2.frozen? ⟨wr.heap.size, j, none⟩ = false from fun j => blk_frozen V2.out.bf j))
        all_goals
          replace V2 := Lib.hid (V2.out.put t1 t2 t3)
          clear d0 d1 d2 df
          generalize (((w2.setCell ⟨wr.heap.size, 0, none⟩ (.int .u64 t1)).setCell ⟨wr.heap.size, 1, none⟩ (.int .i64 t2)).setCell ⟨wr.heap.size, 2, none⟩ (.string t3)) = U at V2 ⊢
          have d0 := (show U.cell? ⟨wr.heap.size, 0, none⟩ = some (.int .u64 t1) from (blk_cell V2.out.bf 0).trans rfl)
          have d1 := (show U.cell? ⟨wr.heap.size, 1, none⟩ = some (.int .i64 t2) from (blk_cell V2.out.bf 1).trans rfl)
          have d2 := (show U.cell? ⟨wr.heap.size, 2, none⟩ = some (.string t3) from (blk_cell V2.out.bf 2).trans rfl)
          obtain ⟨fn, tmps, assign, body, hy, hR⟩ := HY.out _ ((t1, t2, t3), t5) U (HJ.out _ _ _ none HB.out.1 (grown_of_below V2.out.bel none) (by simp)) (by have := HR.out; omega)
          dsimp only [encF] at hy
          have TK := Lib.hid (show tk kinds k b = (((t1, t2, t3), t5), t4) by unfold tk; rw [if_pos hg.out, HCC.out, HT.out])
          have TS := Lib.hid (show t4.size ≤ 1024 by have h1 : t4.size ≤ b.size := (by have := takeT_size c b (by have := HR.out.2.1; omega); rw [HT.out] at this; exact this); have := HR.out.2.1; omega)
          cases t5
          · gi_wp2_with fail
            refine hR.mono ?_
            clear hR hy
            rintro e' W3 (⟨rfl, J3, k3⟩ | ⟨rfl, Jx3⟩)
            · gi_wp2
              refine bodyPost_ret (results_none rfl _ _ _) rfl ?_
              exact ⟨⟨_, rfl⟩, .inl ⟨_, items_stop H0.out HR.out.1 HR.out.2.2.2 TK.out rfl, J3⟩⟩
            · gi_wp2
              refine bodyPost_ret (results_none rfl _ _ _) rfl ?_
              exact ⟨⟨_, rfl⟩, .inr ⟨_, (items_stop H0.out HR.out.1 HR.out.2.2.2 TK.out rfl) ▸ List.prefix_refl _, Jx3⟩⟩
          · gi_wp2_with fail
            refine hR.mono ?_
            clear hR hy
            rintro e' W3 (⟨rfl, J3, k3⟩ | ⟨rfl, Jx3⟩)
            · have hb3 : Boxed W3 Bk 9 (.string b) := k3.bk.trans V2.out.bk
              have hs3 : Boxed W3 Bs 9 (.string kinds) := k3.bs.trans V2.out.bs
              have g1 := hb3.cell
              have g2 := hb3.frozen
              have H3 := Lib.hid (And.intro hb3 (And.intro hs3 J3))
              have ew : wrap64 ((k : Int) + 1) = ((k + 1 : Nat) : Int) := by have := HR.out.1; unfold wrap64; omega
              clear hb3 hs3 J3 k3
              gi_wp2
              go_roundw
              case rel =>
                refine ⟨k + 1, t4, _, by first | rfl | rw [ew], by have := hg.out; have := HO.out.1; omega, TS.out, by have := HR.out.2.2.1; simp [this], items_on H0.out HR.out.1 HR.out.2.2.2 TK.out rfl, HJ.out _ _ _ _ H3.out.2.2 (grownBy_setCell' _ _ _) (by simp), H3.out.1.set _, H3.out.2.1.kept (grownBy_setCell' _ _ _) (by have := HNE.out; simp; omega)⟩
              case measure => exact meas k HR.out.1
            · gi_wp2
              refine bodyPost_ret (results_none rfl _ _ _) rfl ?_
              exact ⟨⟨_, rfl⟩, .inr ⟨_, (items_on H0.out HR.out.1 HR.out.2.2.2 TK.out rfl) ▸ List.prefix_append _ _, Jx3⟩⟩
      · have TK := Lib.hid (show tk kinds k b = (((0, 0, ⟨#[]⟩), false), ⟨#[]⟩) by unfold tk; rw [if_neg hk])
        obtain ⟨fn, tmps, assign, body, hy, hR⟩ := HY.out _ ((0, 0, ⟨#[]⟩), false) (wr.alloc (.cells #[.int .u64 0, .int .i64 0, .string ⟨#[]⟩] 47)) (HJ.out _ _ _ none HB.out.1 (World.grownBy_alloc wr (.cells #[.int .u64 0, .int .i64 0, .string ⟨#[]⟩] 47) none) (by simp)) (by have := HR.out; omega)
        dsimp only [encF] at hy
        gi_wp2_with fail
        refine hR.mono ?_
        clear hR hy
        rintro e' W3 (⟨rfl, J3, k3⟩ | ⟨rfl, Jx3⟩)
        · gi_wp2
          refine bodyPost_ret (results_none rfl _ _ _) rfl ?_
          exact ⟨⟨_, rfl⟩, .inl ⟨_, items_stop H0.out HR.out.1 HR.out.2.2.2 TK.out rfl, J3⟩⟩
        · gi_wp2
          refine bodyPost_ret (results_none rfl _ _ _) rfl ?_
          exact ⟨⟨_, rfl⟩, .inr ⟨_, (items_stop H0.out HR.out.1 HR.out.2.2.2 TK.out rfl) ▸ List.prefix_refl _, Jx3⟩⟩
end Go.Proofs.YtbghkjoejbfnbaaDoor.orf
