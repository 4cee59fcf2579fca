/- split.Split, walked where it is not refused. No conditions but that numbers are of 64 bits. -/
import Derived.Test.YtlllgfkdapjomaaSplD
import Derived.Test.YtlllgfkdapjomaaSplM
import Derived.OwnWalk
import Derived.Deep.RegionWith
namespace Go.Proofs.Ytlllgfkdapjomaa.spl
open Go.RowKit Go.Proofs.Ytlllgfkdapjomaa.base St Go.Proofs.Ytlllgfkdapjomaa.srt
open Go.Proofs.YtlllgfkdapjomaaW.PrintWords
set_option linter.unusedSimpArgs false
attribute [local go_sem] Oper.semAt_some
theorem md_at {T : Int} {xs : List Int} (h : Sp.Ok T xs) (hf : ∀ x ∈ xs, Ar.fits x = true) (k : Nat) (hk : k < xs.length) : PH.arith_MulDiv.f T (xs.getD k 0) xs.sum = some (Sp.q T xs k, Sp.r T xs k, true) := by
  have h1 : Ar.fits T = true := by have := h.t0; have := h.t1; simp [Ar.fits]; omega
  have h2 : Ar.fits xs.sum = true := by have := h.a0; have := h.a1; simp [Ar.fits]; omega
  have h3 : Ar.fits (xs.getD k 0) = true := by
    rw [List.getD_eq_getElem?_getD, List.getElem?_eq_getElem hk]
    exact hf _ (List.getElem_mem hk)
  have h4 : Ar.fits (T * xs.getD k 0 / xs.sum) = true := by have := h.q0 k; have := h.q1 k; have := h.t1; unfold Sp.q at *; simp only [Ar.fits, Bool.and_eq_true, decide_eq_true_eq]; omega
  have h5 := h.a0
  unfold PH.arith_MulDiv.f
  rw [if_pos ⟨h1, h3, h2⟩]
  simp only [Ar.mdQ, Ar.mdR, Ar.mdI, Ar.fitV, h4, h5, Sp.q, Sp.r, and_self, if_true, decide_true, Bool.and_self]
theorem infoI : (Try.prog.info? 2).map (fun i => (i.zero, i.size, i.bytes)) = some (some (.int .i64 0), 1, 8) := by kernel_rfl
theorem Ri.cell {W : World} {base g n cap : Nat} {out : List Int} (h : Ri W base (.slice (some ⟨g, 0, none⟩) n cap) out) (hl : out.length = n) (i : Nat) (hi : i < n) : W.cell? ⟨g, i, none⟩ = some (.int .i64 (out.getD i 0)) ∧ W.frozen? ⟨g, i, none⟩ = false := by
  have h1 := h.own
  rw [hl] at h1
  have h2 := own_at_of (enc := Value.int .i64) (d := 0) h1 (i : Int) (by omega) (by omega)
  simpa [rdOf, List.getD_eq_getElem?_getD] using h2
/-- While the units are given out: what is left, what each has, the sorted shares. -/
structure M2 (w : World) (gl go n cap g : Nat) (d : Array Sh) (left : Int) (out : List Int) (W : World) : Prop where
  lb : Lb gl left W
  ro : Ri W w.heap.size (.slice (some ⟨go, 0, none⟩) n cap) out
  rw : ∃ c : Array Value, W.heap[g]? = some (.cells c TSh (0, 0)) ∧ ∀ i, i < d.size → c[i * 3]? = some (.int .i64 d[i]!.q) ∧ c[i * 3 + 1]? = some (.int .i64 d[i]!.r) ∧ c[i * 3 + 2]? = some (.int .i64 d[i]!.p)
  ne : go ≠ gl
  n1 : g ≠ gl
  n2 : g ≠ go
  gg : w.heap.size ≤ gl
  bel : Below w.heap.size w W
theorem M2.of {w W V V2 : World} {gl go n cap g : Nat} {vl : Value} {left : Int} {out : List Int} {sh : List Sh} {d : Array Sh} (h : M1 w gl go n cap vl left out sh W) (hB : Below W.heap.size W V) (hS : SR V g d V2) (hg : W.heap.size ≤ g) : M2 w gl go n cap g d left out V2 := by
  have hgl : gl < W.heap.size := (Array.getElem?_eq_some_iff.1 h.lb).1
  obtain ⟨cells, hgo⟩ := h.goL
  have hgo' : go < W.heap.size := (Array.getElem?_eq_some_iff.1 hgo).1
  have hB2 : Below W.heap.size W V2 := ⟨hS.os.trans hB.os, hS.tape.trans hB.tape, hS.output.trans hB.output, Nat.le_trans hB.size hS.size, fun k hk => (hS.block k (Nat.lt_of_lt_of_le hk hB.size) (by omega)).trans (hB.block k hk)⟩
  have h2 := h.below hB2
  obtain ⟨c, hc, _, hx⟩ := hS.row
  exact ⟨h2.lb, h2.ro, ⟨c, hc, hx⟩, h2.ne, by omega, by omega, h2.gg, h2.bel⟩
section
variable {w W V : World} {gl go n cap g : Nat} {left : Int} {out : List Int} {d : Array Sh}
theorem M2.below (h : M2 w gl go n cap g d left out W) (hB : Below W.heap.size W V) : M2 w gl go n cap g d left out V := by
  obtain ⟨c, hc, hx⟩ := h.rw
  exact ⟨(hB.block gl (Array.getElem?_eq_some_iff.1 h.lb).1).trans h.lb, Kd.R_below h.ro hB, ⟨c, (hB.block g (Array.getElem?_eq_some_iff.1 hc).1).trans hc, hx⟩, h.ne, h.n1, h.n2, h.gg, h.bel.trans (hB.mono h.bel.size)⟩
theorem M2.cell (h : M2 w gl go n cap g d left out W) {i : Nat} (hi : i < d.size) : W.cell? ⟨g, i * 3, none⟩ = some (.int .i64 d[i]!.q) ∧ W.cell? ⟨g, i * 3 + 1, none⟩ = some (.int .i64 d[i]!.r) ∧ W.cell? ⟨g, i * 3 + 2, none⟩ = some (.int .i64 d[i]!.p) := by
  obtain ⟨c, hc, hx⟩ := h.rw
  obtain ⟨h0, h1, h2⟩ := hx i hi
  exact ⟨(blk_cell hc _).trans h0, (blk_cell hc _).trans h1, (blk_cell hc _).trans h2⟩
theorem M2.own_go (_h : M2 w gl go n cap g d left out W) : (Value.slice (some ⟨go, 0, none⟩) n cap).ownBlock = some go := by simp [Value.ownBlock]
theorem M2.take (h : M2 w gl go n cap g d left out W) (x : Int) : M2 w gl go n cap g d x out (W.setCell ⟨gl, 0, none⟩ (.int .i64 x)) := by
  obtain ⟨c, hc, hx⟩ := h.rw
  refine ⟨?_, h.ro.move (fun k hk => ?_), ⟨c, (Below.heap_setCell _ _ _ _ h.n1).trans hc, hx⟩, h.ne, h.n1, h.n2, h.gg, h.bel.setCell h.gg _⟩
  · have := blk_set h.lb 0 (.int .i64 x)
    simpa [Lb] using this
  · rw [h.own_go] at hk
    injection hk with hk
    subst hk
    exact Below.heap_setCell _ _ _ _ h.ne
theorem M2.put (h : M2 w gl go n cap g d left out W) (i : Nat) (x : Int) : M2 w gl go n cap g d left (out.set i x) (W.setCell ⟨go, i, none⟩ (.int .i64 x)) := by
  obtain ⟨c, hc, hx⟩ := h.rw
  have hbase : w.heap.size ≤ go := own_base h.ro.own go h.own_go
  have hp := (Kd.R_putg h.ro (i : Int) x).1
  exact ⟨(Below.heap_setCell _ _ _ _ (Ne.symm h.ne)).trans h.lb, hp, ⟨c, (Below.heap_setCell _ _ _ _ h.n2).trans hc, hx⟩, h.ne, h.n1, h.n2, h.gg, h.bel.setCell hbase _⟩
end
set_option maxRecDepth 100000 in
set_option maxHeartbeats 4000000 in
theorem split_is (w : World) (T : Int) (A : Option Addr) (c : Nat) (xs : List Int) (hC : Kd.C (Kd.int .i64) w A xs.length xs) (hc : xs.length ≤ c) (hf : ∀ x ∈ xs, Ar.fits x = true) (h : Sp.Ok T xs) :
    Calls Try.prog 8 #[.int .i64 T, .slice A xs.length c] w fun e w' => ∃ v out, e = .returned (.tuple #[v, .int .i64 0]) ∧ Ri w' w.heap.size v out ∧ Sp.IsSplit T xs out ∧ Below w.heap.size w w' := by
  have HS := Lib.hid (sum_is w A c xs hC hc hf)
  have hok : Sp.okW xs := ⟨h.n0, h.n1, h.w0⟩
  have hfs : Ar.fits xs.sum = true := by have := h.a0; have := h.a1; simp [Ar.fits]; omega
  have es : Sp.sumV xs = xs.sum := by rw [Sp.sumV, if_pos hok, Ar.fitV, if_pos hfs]
  have eb : Sp.sumB xs = true := by have := h.a0; have := h.a1; simp [Sp.sumB, hok, Ar.fitV, hfs, h.a0, h.a1]
  rw [es, eb] at HS
  have HC := Lib.hid hC
  have HF := Lib.hid hf
  have HK := Lib.hid h
  obtain ⟨n, hnn⟩ : ∃ n, xs.length = n := ⟨_, rfl⟩
  have HL := Lib.hid hnn
  obtain ⟨all, ha⟩ : ∃ a, xs.sum = a := ⟨_, rfl⟩
  have HA := Lib.hid ha
  rw [ha, hnn] at HS
  rw [hnn]
  have g1 : decide (T < 0) = false := decide_eq_false (by have := h.t0; omega)
  have g2 : decide (T ≥ 4611686018427387904) = false := decide_eq_false (by have := h.t1; omega)
  have g3 : decide (4611686018427387904 ≤ T) = false := decide_eq_false (by have := h.t1; omega)
  have HN := Lib.hid (show 0 < n ∧ n ≤ 4096 from by have := h.n0; have := h.n1; omega)
  clear hC hc hf h hok hfs es eb ha hnn
  go_enter Try.func8, Try.ntmps8
  go_wp2_with fail
  refine HS.out.mono ?_
  rintro e w1 ⟨rfl, B1⟩
  have HB := Lib.hid B1
  clear B1
  go_wp2_with (at_make; refine Kd.R_make (Kd.int .i64) (w0 := w) w.heap.size 2 rfl (N := 38) rfl 22 _ _ rfl (n : Int) rfl rfl Try.underlying22 (.int .i64 0) 8 infoI rfl (by decide) (by decide) 0 (ok := fun _ => True) (okp := fun _ => True) rfl (fun _ _ => trivial) trivial (by omega) ?mL ?mB ?mS ?_; (case mL => (have := HN.out; omega)); (case mB => exact below_alloc HB.out _); (case mS => (have := HB.out.size; simp; omega)); intro v1 w2 ho hb hg hat; have HO := Lib.hid (And.intro ho (And.intro hb (And.intro hg hat))); clear ho hb hg hat)
  obtain ⟨go, cap, rfl, hgl, hM⟩ : ∃ go cap, v1 = .slice (some ⟨go, 0, none⟩) n cap ∧ go < w2.heap.size ∧ M1 w w1.heap.size go n cap (.slice none 0 0) T (List.replicate n 0) [] w2 := by
    obtain ⟨ho, hb, hg, b, hat1, hat2⟩ := HO.out
    obtain ⟨_, inner, ho2, _⟩ := id ho
    have hn := HN.out.1
    rcases ho2.2 with ⟨e1, h0⟩ | ⟨g, cap, cur, e1, hg1, hh, _⟩
    · simp at h0; omega
    · have e2 : (List.replicate ((n : Int)).toNat (0 : Int)).length = n := by simp
      rw [e2] at e1
      have e3 : v1.ownBlock = some g := by rw [e1]; simp [Value.ownBlock]
      have hge : w1.heap.size + 1 ≤ g := by rw [e3] at hat1; injection hat1 with hat1; subst hat1; simpa using hat2
      refine ⟨g, cap, e1, (Array.getElem?_eq_some_iff.1 hh).1, ⟨?_, ?_, Kd.R_nil _ _ _ _ _, by omega, HB.out.size, hb⟩⟩
      · exact blk_grown (blk_new w1 _) hg (by simp)
      · rw [← e1]
        simpa using ho
  have HM := Lib.hid hM
  clear HO hM HB HS
  go_loopg [10, 41] (n + 1) (fun kq v10 v41 w' => ∃ (i : Nat) (out : List Int), v41 = .int .i64 (i : Int) ∧ Aside0 (i ≤ n ∧ n + 1 ≤ kq + i) ∧ Aside0 (M1 w w1.heap.size go n cap v10 (T - ((Sp.qs T xs).take i).sum) out (Sp.shs T xs i) w') ∧ Aside0 (out.length = n ∧ ∀ k, k < i → out.getD k 0 = Sp.q T xs k))
  case atStart =>
    exact ⟨0, List.replicate n 0, rfl, ⟨by omega⟩, ⟨by simpa [Sp.shs] using HM.out⟩, ⟨by simp, fun k hk => absurd hk (Nat.not_lt_zero k)⟩⟩
  case round =>
    clear HM
    obtain ⟨i, out, rfl, HI, HM, HO⟩ := hrel
    by_cases hi : i < n
    · obtain ⟨k1, rfl⟩ : ∃ k1, gk = k1 + 1 := ⟨gk - 1, by have := HI.out; omega⟩
      obtain ⟨ad, rfl, hc⟩ := cell_at HC.out i (by rw [HL.out]; exact hi)
      have hc2 := (HM.out.bel.cell (World.block_lt_of_cell? w _ hc)).trans hc
      clear hc
      obtain ⟨x, hx⟩ : ∃ x, xs.getD i 0 = x := ⟨_, rfl⟩
      rw [hx] at hc2
      have HX := Lib.hid hx
      have E3 := Lib.hid (show wrap64 ((i : Int) + 1) = ((i + 1 : Nat) : Int) by unfold wrap64; have := HN.out; omega)
      have t1 : ((i : Int)).toNat = i := by omega
      have p5 : ((0 : Int) ≤ (i : Int)) = True := eq_true (by omega)
      have p6 : ((i : Int) < (n : Int)) = True := eq_true (by omega)
      clear hx
      go_wp2_with fail
      have hmd := md_at HK.out HF.out i (by rw [HL.out]; exact hi)
      rw [HX.out, HA.out] at hmd
      have hq0 := HK.out.q0 i
      have hq1 := HK.out.q1 i
      have hqT := HK.out.t1
      obtain ⟨q, hq⟩ : ∃ q, Sp.q T xs i = q := ⟨_, rfl⟩
      obtain ⟨r, hr⟩ : ∃ r, Sp.r T xs i = r := ⟨_, rfl⟩
      rw [hq] at hmd hq0 hq1
      rw [hr] at hmd
      have HQ := Lib.hid (show Sp.shk T xs i = ⟨q, r, i⟩ by rw [Sp.shk, hq, hr])
      have HQ2 := Lib.hid hq
      have HQ3 := Lib.hid (And.intro hq0 (And.intro hq1 hqT))
      clear hq hr hq0 hq1 hqT
      refine (PH.arith_MulDiv.calls T x all q r true _ hmd).mono ?_
      rintro e w2 ⟨rfl, B2⟩
      have HM2 := Lib.hid (HM.out.below B2)
      clear HM B2 hmd hc2
      obtain ⟨l, hl⟩ : ∃ l, Sp.shs T xs i = l := ⟨_, rfl⟩
      rw [hl] at HM2
      have HSL := Lib.hid hl
      have HLL := Lib.hid (show l.length ≤ 4096 by rw [← hl, Sp.shs_len]; have := HN.out; omega)
      clear hl
      go_wp2_with ((with_reducible refine gate_builtin (b := .append) (xs := #[.tmp 54, .tmp 59]) rfl ?_); at_builtin; refine Kd.R_append kSh (w0 := w) w.heap.size rfl (.tmp 54) (.tmp 59) 43 TSh (.agg #[.int .i64 0, .int .i64 0, .int .i64 0]) 24 rfl Try.underlying43 infoSh rfl (by decide) (by decide) _ l ⟨q, r, i⟩ [.int .i64 q, .int .i64 r, .int .i64 (i : Int)] (fun _ => True) (fun _ => False) rfl rfl ?aP (fun _ hk => hk.elim) (fun _ _ => trivial) ?aO ?aB ?aS ?aL ?_; (case aP => exact kSh_mkM _ _ _ ⟨q, r, i⟩); (case aO => exact HM2.out.rl); (case aB => exact HM2.out.bel); (case aS => exact HM2.out.bel.size); (case aL => (have := HLL.out; omega)); intro v1 w3 hR hb hg hat; have HM3 := Lib.hid (HM2.out.share hR hb hg); clear hR hb hg hat HM2)
      have EL := Lib.hid (show wrap64 (T - ((Sp.qs T xs).take i).sum - q) = T - ((Sp.qs T xs).take (i + 1)).sum from by
        rw [Sp.lf_succ (by rw [HL.out]; exact hi), HQ2.out]
        have h1 := HK.out.lf (i + 1)
        rw [Sp.lf_succ (by rw [HL.out]; exact hi), HQ2.out] at h1
        have h2 := HQ3.out
        unfold wrap64
        omega)
      refine (take_is w3 w1.heap.size q _ HM3.out.lb).mono ?_
      rintro e w4' ⟨rfl, rfl⟩
      have hM4 := HM3.out.take (wrap64 (T - ((Sp.qs T xs).take i).sum - q))
      rw [EL.out] at hM4 ⊢
      generalize w3.setCell ⟨w1.heap.size, 0, none⟩ (.int .i64 (T - ((Sp.qs T xs).take (i + 1)).sum)) = w4 at hM4 ⊢
      have HM4 := Lib.hid hM4
      obtain ⟨c0, f0⟩ := hM4.ro.cell HO.out.1 i hi
      clear hM4 HM3
      go_wp2
      go_roundg k1
      case measure => omega
      case rel =>
        refine ⟨i + 1, out.set i q, by rw [E3.out], ⟨by have := HI.out; omega⟩, ⟨?_⟩, ⟨by rw [List.length_set]; exact HO.out.1, fun k hk => ?_⟩⟩
        · have := HM4.out.put i q
          rw [Sp.shs_succ, HSL.out, HQ.out]
          exact this
        · rw [Sp.getD_set _ _ _ _ (by rw [HO.out.1]; omega)]
          by_cases e : k = i
          · rw [if_pos e, e, HQ2.out]
          · rw [if_neg e]
            exact HO.out.2 k (by omega)
    · have hin : i = n := by have := HI.out; omega
      rw [hin] at HM HO
      have HQO := Lib.hid (show out = Sp.qs T xs from Sp.ext_getD _ _ (by rw [HO.out.1, Sp.qs_len, HL.out]) (fun k hk => by
        have hk' : k < n := by rw [← HO.out.1]; exact hk
        rw [HO.out.2 k hk', Sp.qs_get (by rw [HL.out]; exact hk')]))
      obtain ⟨A2, c2, rfl, _, hC2⟩ := Kd.R_reads HM.out.rl
      have HX := Lib.hid (fun V (hB : Kd.C kSh V A2 (Sp.shs T xs n).length (Sp.shs T xs n)) => ordered_is V A2 c2 (Sp.shs T xs n) hB (by rw [Sp.shs_len]; exact HN.out.1) (by rw [Sp.shs_len]; have := HN.out.2; omega) (fun x hx => by
        obtain ⟨k, hk, rfl⟩ := List.mem_map.1 hx
        have := HN.out.2
        have : k < n := by simpa using hk
        simp only [Sp.shk]
        omega))
      have HC2 := Lib.hid hC2
      clear hC2
      rw [Sp.shs_len] at HX HC2 ⊢
      go_wp2_with fail
      refine (HX.out _ HC2.out).mono ?_
      rintro e w3 ⟨g, cap2, d, w2b, rfl, hg, hS, hB, hP, hS2⟩
      have hOr := Sp.Ord.of (T := T) (xs := xs) (d := d) (by rw [HL.out]; exact hP) (by rw [HL.out]; exact hS2)
      have HOr := Lib.hid hOr
      have hM2 := M2.of HM.out hB hS hg
      rw [HQO.out] at hM2
      have hI := Sp.Inv.start (d := d) HK.out
      rw [HL.out] at hI
      have HI2 := Lib.hid hI
      have HM2 := Lib.hid hM2
      have HD := Lib.hid (show d.size = n from hOr.size.trans HL.out)
      clear HM HO HX HC2 hg hS hB hP hS2 hOr hM2 hI HC
      go_wp2_with fail
      go_loopg [71] (n + 1) (fun kq v71 w' => ∃ (j : Nat) (left : Int) (out : List Int), v71 = .int .i64 (j : Int) ∧ Aside0 (j ≤ n ∧ n + 1 ≤ kq + j) ∧ Aside0 (M2 w w1.heap.size go n cap g d left out w') ∧ Aside0 (Sp.Inv T xs d j left out))
      case atStart =>
        exact ⟨0, _, _, rfl, ⟨by omega⟩, ⟨HM2.out⟩, ⟨HI2.out⟩⟩
      case round =>
        clear HM2 HI2 HI HQO hin hi
        obtain ⟨j, left, out, rfl, HJ, HM, HV⟩ := hrel
        by_cases hj : j < n
        · obtain ⟨k1, rfl⟩ : ∃ k1, gk = k1 + 1 := ⟨gk - 1, by have := HJ.out; omega⟩
          obtain ⟨c0, c1, c2⟩ := HM.out.cell (i := j) (by rw [HD.out]; exact hj)
          obtain ⟨s, hs⟩ : ∃ s, d[j]! = s := ⟨_, rfl⟩
          rw [hs] at c0 c1 c2
          have HSs := Lib.hid hs
          clear hs
          have E3 := Lib.hid (show wrap64 ((j : Int) + 1) = ((j + 1 : Nat) : Int) by unfold wrap64; have := HN.out; omega)
          have t1 : ((j : Int)).toNat = j := by omega
          have p5 : ((0 : Int) ≤ (j : Int)) = True := eq_true (by omega)
          have p6 : ((j : Int) < (n : Int)) = True := eq_true (by omega)
          have hO := HOr.out
          obtain ⟨P, hPd⟩ : ∃ P, Sp.pl d j = P := ⟨_, rfl⟩
          have hPn : P < n := by rw [← hPd, ← HL.out]; exact (hO.is j (by rw [HL.out]; exact hj)).1
          have hsp : s.p = (P : Int) := by rw [← HSs.out, (hO.is j (by rw [HL.out]; exact hj)).2, Sp.shk, hPd]
          have HP := Lib.hid hPd
          obtain ⟨sq, sr, sp⟩ := s
          simp only at hsp
          subst hsp
          clear hPd hO
          go_upto_region 18 with fail
          have hM3 := HM.out.below (below_alloc (Below.refl _ _) (.cells #[.int .i64 sq, .int .i64 sr, .int .i64 (P : Int)] TSh))
          have hbx := blk_new wr (.cells #[.int .i64 sq, .int .i64 sr, .int .i64 (P : Int)] TSh)
          have hn1 : wr.heap.size ≠ w1.heap.size := by have := (Array.getElem?_eq_some_iff.1 HM.out.lb).1; omega
          have hn2 : wr.heap.size ≠ go := by obtain ⟨cc, hc⟩ := own_typed HM.out.ro.own go (by simp [Value.ownBlock]); have := (Array.getElem?_eq_some_iff.1 hc).1; omega
          clear c0 c1 c2 HM
          generalize wr.alloc (.cells #[.int .i64 sq, .int .i64 sr, .int .i64 (P : Int)] TSh) = V at hM3 hbx ⊢
          generalize wr.heap.size = sa at hbx hn1 hn2 ⊢
          have HM := Lib.hid hM3
          have c0 : V.cell? ⟨w1.heap.size, 0, none⟩ = some (.int .i64 left) := (blk_cell hM3.lb 0).trans rfl
          clear hM3
          by_cases hlt : 0 < left
          · have g4 : decide (left > 0) = true := decide_eq_true hlt
            have g5 : decide (0 < left) = true := decide_eq_true hlt
            have EL := Lib.hid (show wrap64 (left - 1) = left - 1 by have h1 := HV.out.l1 HK.out; have h2 := HK.out.t1; unfold wrap64; omega)
            have hb := HV.out.bd HK.out P (by rw [HL.out]; exact hPn)
            obtain ⟨o, ho⟩ : ∃ o, out.getD P 0 = o := ⟨_, rfl⟩
            have EO := Lib.hid (show wrap64 (o + 1) = o + 1 by rw [ho] at hb; have h2 := HK.out.t1; unfold wrap64; omega)
            have HOo := Lib.hid ho
            clear hb
            go_upto_region 19 with fail
            have HMd := Lib.hid (HM.out.below (Below.refl _ V).drew)
            have hbd : V.drew.heap[sa]? = some (.cells #[.int .i64 sq, .int .i64 sr, .int .i64 (P : Int)] TSh (0, 0)) := hbx
            have hl0 := HMd.out.lb
            have d0 : V.drew.cell? ⟨sa, 2, none⟩ = some (.int .i64 (P : Int)) := (blk_cell hbd 2).trans rfl
            obtain ⟨d1, d2⟩ := HMd.out.ro.cell (HV.out.len.trans HL.out) P hPn
            rw [ho] at d1
            have q1 : ((P : Int)).toNat = P := by omega
            have q2 : ((0 : Int) ≤ (P : Int)) = True := eq_true (by omega)
            have q3 : ((P : Int) < (n : Int)) = True := eq_true (by omega)
            have HT := Lib.hid (fun V (q : Lb w1.heap.size left V) => take_is V w1.heap.size 1 left q)
            clear c0 ho
            go_region_with (go_at_call 16; refine (HT.out _ ?_).mono ?_; exact hl0; rintro e w5' ⟨rfl, rfl⟩; have K5 := HMd.out.take (wrap64 (left - 1)); have B5 := (Below.heap_setCell V.drew ⟨w1.heap.size, 0, none⟩ (.int .i64 (wrap64 (left - 1))) sa hn1).trans hbd; revert K5 B5; rw [EL.out]; generalize V.drew.setCell ⟨w1.heap.size, 0, none⟩ (.int .i64 (left - 1)) = w5; intro K5 B5; have e0 : w5.cell? ⟨sa, 2, none⟩ = some (.int .i64 (P : Int)) := (blk_cell B5 2).trans rfl; obtain ⟨e1, e2⟩ := K5.ro.cell (HV.out.len.trans HL.out) P hPn; rw [HOo.out] at e1)
            all_goals go_wp2
            all_goals (
              go_roundg k1
              case measure => omega
              case rel =>
                refine ⟨j + 1, left - 1, out.set P (out.getD P 0 + 1), by rw [E3.out], ⟨by have := HJ.out; omega⟩, ⟨?_⟩, ⟨?_⟩⟩
                · have := K5.put P (o + 1)
                  rw [HOo.out, EO.out]
                  exact this
                · have := HV.out.yes HOr.out (by rw [HL.out]; exact hj) (by omega)
                  rw [HP.out] at this
                  exact this)
          · have g4 : decide (left > 0) = false := decide_eq_false hlt
            have g5 : decide (0 < left) = false := decide_eq_false hlt
            go_wp2
            go_roundg k1
            case measure => omega
            case rel =>
              exact ⟨j + 1, left, out, by rw [E3.out], ⟨by have := HJ.out; omega⟩, ⟨HM.out⟩, ⟨HV.out.no (by omega)⟩⟩
        · have hjn : j = n := by have := HJ.out; omega
          rw [hjn] at HV
          go_wp2
          go_ret2
          exact ⟨_, out, rfl, HM.out.ro, (HL.out ▸ HV.out).fin HK.out HOr.out, HM.out.bel⟩
end Go.Proofs.Ytlllgfkdapjomaa.spl
