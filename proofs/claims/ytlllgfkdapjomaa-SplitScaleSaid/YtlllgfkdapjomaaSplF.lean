/- slices.Repeat of one 1, walked (for split.Even). No conditions but that the number is small. -/
import Derived.Test.YtlllgfkdapjomaaSplE
import Derived.Laws.CopyOwn
import Derived.Deep.RegionLaw
namespace Go.Proofs.Ytlllgfkdapjomaa.spl
open Go.RowKit Go.Proofs.Ytlllgfkdapjomaa.base
open Go.Proofs.YtlllgfkdapjomaaW.PrintWords
set_option linter.unusedSimpArgs false
attribute [local go_sem] Oper.semAt_some
theorem mul_is (w : World) (n : Nat) (hn : n ≤ 4096) :
    Calls Try.prog 32 #[.int .u64 1, .int .u64 (n : Int)] w fun e w' => e = .returned (.tuple #[.int .u64 0, .int .u64 (n : Int)]) ∧ w' = w := by
  have e1 : ((1 * n / 18446744073709551616 : Nat) : Int) = 0 := by omega
  have e2 : ((1 * n % 18446744073709551616 : Nat) : Int) = (n : Int) := by omega
  have HM := Lib.hid (shelf.s_bits_Mul64 1 n (by omega) (by omega) w)
  rw [e1, e2] at HM
  clear e1 e2 hn
  go_enter Try.func32, Try.ntmps32
  go_wp2_with (go_at_call 42; refine HM.out.mono ?_; rintro e w' ⟨rfl, rfl⟩)
  go_ret2
  exact ⟨rfl, rfl⟩
set_option maxRecDepth 100000 in
set_option maxHeartbeats 4000000 in
theorem repeat_is (w : World) (A : Addr) (c : Nat) (n : Nat) (h0 : 1 ≤ n) (h1 : n ≤ 4096) (hc : w.cell? A = some (.int .i64 1)) :
    Calls Try.prog 21 #[.slice (some A) 1 c, .int .i64 (n : Int)] w fun e w' => ∃ g cap, e = .returned (.slice (some ⟨g, 0, none⟩) n cap) ∧ n ≤ cap ∧ Ri w' w.heap.size (.slice (some ⟨g, 0, none⟩) n cap) (List.replicate n 1) ∧ Below w.heap.size w w' := by
  have HM := Lib.hid (mul_is w n h1)
  have HN := Lib.hid (And.intro h0 h1)
  have HC := Lib.hid hc
  have g1 : decide ((n : Int) < 0) = false := decide_eq_false (by omega)
  clear hc
  go_enter Try.func21, Try.ntmps21
  go_wp2_with fail
  refine HM.out.mono ?_
  rintro e w1 ⟨rfl, rfl⟩
  have g2 : decide ((n : Int) > 9223372036854775807) = false := decide_eq_false (by omega)
  have g3 : decide (9223372036854775807 < (n : Int)) = false := decide_eq_false (by omega)
  go_upto_region 7 with (at_make; refine Kd.R_make (Kd.int .i64) (w0 := w1) w1.heap.size 2 rfl (N := 30) rfl 22 _ _ rfl (n : Int) rfl rfl Try.underlying22 (.int .i64 0) 8 infoI rfl (by decide) (by decide) 0 (ok := fun _ => True) (okp := fun _ => True) rfl (fun _ _ => trivial) trivial (by omega) ?mL ?mB ?mS ?_; (case mL => (have := HN.out; omega)); (case mB => exact Below.refl _ _); (case mS => exact Nat.le_refl _); intro v1 w2 ho hb hg hat; have HO := Lib.hid (And.intro ho (And.intro hb (And.intro hg hat))); clear ho hb hg hat)
  obtain ⟨g, cap, cur, rfl, hg, hh, hz, hcap, hcm, hb⟩ : ∃ g cap, ∃ cur : List Value, v1 = .slice (some ⟨g, 0, none⟩) n cap ∧ w1.heap.size ≤ g ∧ w2.heap[g]? = some (.cells cur.toArray 2 (0, 0)) ∧ cur.length = cap ∧ n ≤ cap ∧ cap ≤ maxLen ∧ Below w1.heap.size w1 w2 := by
    obtain ⟨ho, hb, hg, hat⟩ := HO.out
    have ho2 := Ri.own ho
    rcases ho2.2 with ⟨e1, h0'⟩ | ⟨g, cap, cur, e1, hg1, hh, hnc, hcm, hcs, _⟩
    · simp at h0'; omega
    · have e2 : (List.replicate ((n : Int)).toNat (0 : Int)).length = n := by simp
      rw [e2] at e1 hnc
      refine ⟨g, cap, cur.toList, e1, hg1, by simpa using hh, by simpa using hcs, hnc, hcm, hb⟩
  have HG := Lib.hid (And.intro hg (And.intro hh (And.intro hz (And.intro hcap (And.intro hcm hb)))))
  have HC2 := Lib.hid (show w2.cell? A = some (.int .i64 1) from (hb.cell (lt_of_cell HC.out)).trans HC.out)
  clear hg hh hz hcap hcm hb HO HC
  go_wp2_with ((with_reducible refine gate_builtin (b := .copy) (xs := #[.tmp 31, .tmp 32]) rfl ?_); go_loud (refine wpList_copy_splice rfl (.tmp 31) (.tmp 32) 22 22 rfl 2 Try.underlying22 (by kernel_rfl) (some ⟨g, 0, none⟩) (some A) n cap 1 c rfl rfl g 0 cur 2 HG.out.2.1 [.int .i64 1] ?cN ?cP ?cF ?cO w1.heap.size w1 HG.out.2.2.2.2.2 HG.out.1 ?_); (case cN => (have := HN.out; simp only [List.length_singleton]; exact (Nat.min_eq_left this.1).symm)); (case cP => (intro _; refine ⟨rfl, A, rfl, ?_⟩; intro j v hv; cases j with | zero => (cases hv; have := HC2.out; simpa [Addr.add] using this) | succ j => simp at hv)); (case cF => (have := HN.out; have := HG.out; simp only [List.length_singleton]; omega)); (case cO => (intro v hv; simp only [List.mem_singleton] at hv; subst hv; rfl)); intro w3 HR3 hB3; have HR := Lib.hid (And.intro HR3 hB3); clear HR3 hB3)
  go_loopg [8] (n + 1) (fun kq v8 w' => ∃ (i : Nat) (cu : List Value), v8 = .int .i64 (i : Int) ∧ Aside0 (1 ≤ i ∧ i ≤ n ∧ n + 1 ≤ kq + i) ∧ Aside0 (w'.heap[g]? = some (.cells cu.toArray 2 (0, 0)) ∧ cu.length = cap ∧ (∀ j, j < i → cu[j]? = some (.int .i64 1)) ∧ Below w1.heap.size w1 w'))
  case atStart =>
    refine ⟨1, splice cur 0 [.int .i64 1], rfl, ⟨by omega⟩, ⟨HR.out.1.out, ?_, fun j hj => ?_, HR.out.2⟩⟩
    · rw [length_splice _ _ _ (by have := HG.out; simp only [List.length_singleton]; omega)]
      exact HG.out.2.2.1
    · obtain rfl : j = 0 := by omega
      simp [splice]
  case round =>
    clear HR HM HC2
    obtain ⟨i, cu, rfl, HI, HW⟩ := hrel
    have hcap := HG.out.2.2.2.1
    by_cases hi : i < n
    · obtain ⟨k1, rfl⟩ : ∃ k1, gk = k1 + 1 := ⟨gk - 1, by have := HI.out; omega⟩
      have t1 : ((i : Int)).toNat = i := by omega
      have t2 : ((n : Int)).toNat = n := by omega
      have p1 : ¬ cap = i := by omega
      have p2 : ((0 : Int) ≤ (i : Int)) = True := eq_true (by omega)
      have p3 : ((i : Int) ≤ (n : Int)) = True := eq_true (by omega)
      have p4 : ((i : Int) ≤ (cap : Int)) = True := eq_true (by omega)
      have p5 : ((n : Int) ≤ (cap : Int)) = True := eq_true (by omega)
      have p6 : ((i : Int) < (n : Int)) = True := eq_true (by omega)
      have p7 : i ≤ n := by omega
      have p8 : i ≤ cap := by omega
      go_upto_region 9 with fail
      obtain ⟨m, hm⟩ : ∃ m, Nat.min i (n - i) = m := ⟨_, rfl⟩
      obtain ⟨cs, hcs⟩ : ∃ cs, cs = List.replicate m (Value.int .i64 1) := ⟨_, rfl⟩
      have hml : m ≤ i ∧ m ≤ n - i ∧ 1 ≤ m := by
        have h1 : Nat.min i (n - i) = min i (n - i) := rfl
        have := HI.out.1
        omega
      have HMM := Lib.hid hml
      have HCL := Lib.hid (show cs.length = m by rw [hcs]; simp)
      have HCS := Lib.hid hcs
      have HMi := Lib.hid hm
      clear hcs hml hm
      have HI2 := Lib.hid (show 1 ≤ i ∧ i ≤ n ∧ n + 1 ≤ k1 + 1 + i from HI.out)
      have t3 : wrap64 ((i : Int) + (cs.length : Int)) = ((i + m : Nat) : Int) := by rw [HCL.out]; have := HMM.out; have := HN.out; unfold wrap64; omega
      have t4 : IntKind.i64.wrap ((i : Int) + (cs.length : Int)) = ((i + m : Nat) : Int) := (Go.Proofs.YtlllgfkdapjomaaW.PrintLast.i64_w _).trans t3
      go_region_law (refine step_copy_splice ?e1 (.tmp 41) (.tmp 44) 22 22 ?e2 2 ?e3 ?e4 (some ⟨g, i, none⟩) (some ⟨g, 0, none⟩) (n - i) (cap - i) i cap ?e5 ?e6 g i cu 2 HW.out.1 cs (HCL.out.trans HMi.out.symm) ?cP ?cF ?cO w1.heap.size w1 (HW.out.2.2.2.drew) HG.out.1 ?_; (case e1 => with_reducible rfl); (case e2 => with_reducible rfl); (case e3 => exact Try.underlying22); (case e4 => kernel_rfl); (case e5 => go_simp); (case e6 => go_simp); (case cP => (intro _; refine ⟨rfl, ⟨g, 0, none⟩, rfl, ?_⟩; intro j v hv; have hj : j < m := (by have h := (List.getElem?_eq_some_iff.1 hv).1; rw [HCL.out] at h; exact h); have hv1 : v = .int .i64 1 := (by rw [HCS.out, List.getElem?_replicate, if_pos hj] at hv; injection hv with hv; exact hv.symm); rw [hv1, add_plain]; have h2 := HW.out.2.2.1 j (by have := HMM.out; omega); exact (blk_cell (w := wr.drew) HW.out.1 _).trans (by simpa using h2))); (case cF => (have := HW.out.2.1; have := HCL.out; have := HMM.out; omega)); (case cO => (intro v hv; rw [HCS.out] at hv; rw [(List.mem_replicate.1 hv).2]; rfl)); intro w4 hg4 hb4; have H4 := Lib.hid (And.intro hg4 hb4); clear hg4 hb4)
      go_wp2
      go_roundg k1
      case measure => exact Nat.lt_succ_self _
      refine ⟨i + m, splice cu i cs, by first | rfl | rw [t3] | rw [t4], ⟨?_⟩, ⟨H4.out.1.out, ?_, fun j hj => ?_, H4.out.2⟩⟩
      · have h1 := HI2.out
        have h2 := HMM.out
        clear t3 t4
        omega
      · rw [length_splice _ _ _ (by have := HW.out.2.1; have := HCL.out; have := HMM.out; clear t3 t4; omega)]
        exact HW.out.2.1
      · have hL := HCL.out
        have hW := HW.out
        have hM := HMM.out
        clear t3 t4
        have hil : i ≤ cu.length := by omega
        rw [splice, List.getElem?_append, List.length_take, Nat.min_eq_left hil]
        by_cases h1 : j < i
        · rw [if_pos h1, List.getElem?_take, if_pos h1]
          exact hW.2.2.1 j h1
        · rw [if_neg h1, List.getElem?_append, if_pos (by omega), HCS.out, List.getElem?_replicate, if_pos (by omega)]
    · have hin : i = n := by have := HI.out; omega
      subst hin
      go_wp2
      go_ret
      refine ⟨g, cap, rfl, hcap, Ri.of ?_, HW.out.2.2.2⟩
      obtain ⟨hh, hl, hx, _⟩ := HW.out
      refine ⟨by simp [encs], .inr ⟨g, cap, cu.toArray, by simp, HG.out.1, hh, by simpa using hcap, HG.out.2.2.2.2.1, by simpa using hl, ?_⟩⟩
      refine List.ext_getElem? fun j => ?_
      by_cases hj : j < i
      · have h1 := hx j hj
        have hjl : j < cu.length := by omega
        rw [List.getElem?_eq_getElem hjl] at h1
        simp only [Option.some.injEq] at h1
        simp [encs, List.getElem?_take, hj, h1, List.getElem?_eq_getElem hjl]
      · rw [List.getElem?_eq_none (by simp; omega), List.getElem?_eq_none (by simp [encs]; omega)]
end Go.Proofs.Ytlllgfkdapjomaa.spl
