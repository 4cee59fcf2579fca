/- slices.symMergeCmpFunc at split.share, walked: two sorted runs become one. No conditions. -/
import Derived.Test.YtlllgfkdapjomaaSortE
import Derived.Test.YtlllgfkdapjomaaWLast
namespace Go.Proofs.Ytlllgfkdapjomaa.srt
open Go.RowKit Go.Proofs.Ytlllgfkdapjomaa.base St
open Go.Sort (swp PermIn SortedIn SWO swp_get size_swp permIn_trans permIn_refl swp_permIn permIn_mono permIn_all)
open Go.Proofs.YtlllgfkdapjomaaW.PrintWords
set_option linter.unusedSimpArgs false
attribute [local go_sem] Oper.semAt_some
theorem mono_no {a m b p c c' : Nat} {d : Array Sh} (h1 : SortedIn St.lt a m d) (h2 : SortedIn St.lt m b d) (hc : a ≤ c') (hcc : c' ≤ c) (hm : c < m) (hp : m ≤ p - c) (hpb : p - c' < b) (h : St.lt d[p - c]! d[c]! = false) : St.lt d[p - c']! d[c']! = false :=
  swo.ntrans _ _ _ (SortedIn.le swo h2 hp (by omega) hpb) (swo.ntrans _ _ _ h (SortedIn.le swo h1 hc hcc hm))
theorem mono_yes {a m b p c c' : Nat} {d : Array Sh} (h1 : SortedIn St.lt a m d) (h2 : SortedIn St.lt m b d) (hc : a ≤ c) (hcc : c ≤ c') (hm : c' < m) (hp : m ≤ p - c') (hpb : p - c < b) (h : St.lt d[p - c]! d[c]! = true) : St.lt d[p - c']! d[c']! = true :=
  pre_true swo (SortedIn.le swo h2 hp (by omega) hpb) (post_true swo (SortedIn.le swo h1 hc hcc hm) h)
set_option maxRecDepth 100000 in
set_option maxHeartbeats 8000000 in
theorem sym_right (w0 w : World) (k cap a m b z : Nat) (d : Array Sh) (S : SR w0 k d w) (hz : d.size = z) (ham : a < m) (hmb : m < b) (hb : b ≤ z) (hsz : z ≤ 5000) (h1 : SortedIn St.lt a m d) (h2 : SortedIn St.lt m b d) (mid nn : Nat) (hmid : (a + b) / 2 = mid) (hnn : mid + m = nn) (hway : mid < m) (_hma : m ≠ a + 1) (hbm : b ≠ m + 1) (IH : ∀ (a' m' b' : Nat) (d' : Array Sh) (w' : World), b' - a' < b - a → SR w0 k d' w' → d'.size = z → a' < m' → m' < b' → b' ≤ z → SortedIn St.lt a' m' d' → SortedIn St.lt m' b' d' →
      Calls Try.prog 45 #[.slice (some ⟨k, 0, none⟩) z cap, .int .i64 a', .int .i64 m', .int .i64 b', fv] w' fun e w2 => e = .returned (.tuple #[]) ∧ ∃ d2, SR w0 k d2 w2 ∧ PermIn a' b' d' d2 ∧ SortedIn St.lt a' b' d2) :
    Calls Try.prog 45 #[.slice (some ⟨k, 0, none⟩) z cap, .int .i64 a, .int .i64 m, .int .i64 b, fv] w fun e w' => e = .returned (.tuple #[]) ∧ ∃ d', SR w0 k d' w' ∧ PermIn a b d d' ∧ SortedIn St.lt a b d' := by
  have S0 := Lib.hid S
  have HB := Lib.hid (And.intro ham (And.intro hmb (And.intro hb (And.intro hsz hz))))
  have H1 := Lib.hid h1
  have H2 := Lib.hid h2
  have HIH := Lib.hid IH
  obtain ⟨ma, hma2⟩ : ∃ x, m - a = x := ⟨_, rfl⟩
  obtain ⟨mb, hmb2⟩ : ∃ x, b - m = x := ⟨_, rfl⟩
  obtain ⟨pp, hpp⟩ : ∃ x, nn - 1 = x := ⟨_, rfl⟩
  obtain ⟨ss, hss⟩ : ∃ x, nn - b = x := ⟨_, rfl⟩
  have HN := Lib.hid (And.intro hmid (And.intro hnn (And.intro hpp (And.intro hss hway))))
  have r0 : wrap64 ((m : Int) - (a : Int)) = (ma : Int) := by unfold wrap64; omega
  have r1 : wrap64 ((b : Int) - (m : Int)) = (mb : Int) := by clear r0; unfold wrap64; omega
  have r2 : wrap64 (IntKind.u64.wrap (wrap64 ((a : Int) + (b : Int))) / 2) = (mid : Int) := by clear r0 r1; rw [mid_w a b (by omega), hmid]
  have r3 : wrap64 ((mid : Int) + (m : Int)) = (nn : Int) := by clear r0 r1 r2; unfold wrap64; omega
  have r4 : wrap64 ((nn : Int) - 1) = (pp : Int) := by clear r0 r1 r2 r3; unfold wrap64; omega
  have r5 : wrap64 ((nn : Int) - (b : Int)) = (ss : Int) := by clear r0 r1 r2 r3 r4; unfold wrap64; omega
  have RQ := Lib.hid (And.intro r0 (And.intro r1 (And.intro r2 (And.intro r3 (And.intro r4 r5)))))
  clear r0 r1 r2 r3 r4 r5
  have hwD : decide (mid < m) = true := decide_eq_true (by omega)
  have q0 : ¬ (ma : Int) = 1 := by omega
  have q2 : ((ma : Int) == 1) = false := by simpa using q0
  have q3 : ¬ (mb : Int) = 1 := by omega
  have q4 : ((mb : Int) == 1) = false := by simpa using q3
  clear S hz ham hmb hb hsz h1 h2 hma2 hmb2 hpp hbm IH hmid hnn hss _hma
  have r0 := RQ.out.1
  have r1 := RQ.out.2.1
  have r2 := RQ.out.2.2.1
  have r3 := RQ.out.2.2.2.1
  have r4 := RQ.out.2.2.2.2.1
  have r5 := RQ.out.2.2.2.2.2
  go_enter Try.func45, Try.ntmps45
  go_wp2_with fail
  simp only [r2, r3, r4, r5, hwD]
  clear hwD
  clear q0 q2 q3 q4 RQ r0 r1 r2 r3 r4 r5
  go_loopg [20, 21] (b + 1) (fun kq v10 v11 wr => ∃ (i j : Nat), v10 = .int .i64 (i : Int) ∧ v11 = .int .i64 (j : Int) ∧ Aside0 (ss ≤ i ∧ i ≤ j ∧ j ≤ mid ∧ j - i + 1 ≤ kq) ∧ Aside0 (SR w0 k d wr ∧ (∀ h, ss ≤ h → h < i → St.lt d[pp - h]! d[h]! = false) ∧ (∀ h, j ≤ h → h < mid → St.lt d[pp - h]! d[h]! = true)))
  case atStart => exact ⟨ss, mid, rfl, rfl, ⟨by have := HB.out; have := HN.out; omega⟩, ⟨S0.out, fun h q1 q2 => by omega, fun h q1 q2 => by omega⟩⟩
  case round =>
    clear S0
    obtain ⟨i, j, rfl, rfl, HK, HS⟩ := hrel
    have hb := HB.out
    have hk := HK.out
    have hn := HN.out
    by_cases hij : i < j
    · obtain ⟨k1, rfl⟩ : ∃ k1, gk = k1 + 1 := ⟨gk - 1, by omega⟩
      obtain ⟨h, hh⟩ : ∃ h, (i + j) / 2 = h := ⟨_, rfl⟩
      have hih : i ≤ h ∧ h < j := by omega
      obtain ⟨u, hu⟩ : ∃ u, pp - h = u := ⟨_, rfl⟩
      obtain ⟨su, hsu⟩ : ∃ s, d[u]! = s := ⟨_, rfl⟩
      obtain ⟨sv, hsv⟩ : ∃ s, d[h]! = s := ⟨_, rfl⟩
      have hud : u < d.size := by omega
      have hvd : h < d.size := by omega
      have bu := HS.out.1.bd u hud
      have bv := HS.out.1.bd h hvd
      rw [hsu] at bu
      rw [hsv] at bv
      have HC := Lib.hid (fun w => cmp_is su sv w bu bv)
      have u0 : ∀ V : World, SR w0 k d V → V.cell? ⟨k, u * 3, none⟩ = some (.int .i64 su.q) := fun V h => by have q := (h.cell hud).1; rw [hsu] at q; exact q
      have u1 : ∀ V : World, SR w0 k d V → V.cell? ⟨k, u * 3 + 1, none⟩ = some (.int .i64 su.r) := fun V h => by have q := (h.cell hud).2.1; rw [hsu] at q; exact q
      have u2 : ∀ V : World, SR w0 k d V → V.cell? ⟨k, u * 3 + 2, none⟩ = some (.int .i64 su.p) := fun V h => by have q := (h.cell hud).2.2; rw [hsu] at q; exact q
      have v0 : ∀ V : World, SR w0 k d V → V.cell? ⟨k, h * 3, none⟩ = some (.int .i64 sv.q) := fun V h => by have q := (h.cell hvd).1; rw [hsv] at q; exact q
      have v1 : ∀ V : World, SR w0 k d V → V.cell? ⟨k, h * 3 + 1, none⟩ = some (.int .i64 sv.r) := fun V h => by have q := (h.cell hvd).2.1; rw [hsv] at q; exact q
      have v2 : ∀ V : World, SR w0 k d V → V.cell? ⟨k, h * 3 + 2, none⟩ = some (.int .i64 sv.p) := fun V h => by have q := (h.cell hvd).2.2; rw [hsv] at q; exact q
      have EH := Lib.hid (show wrap64 (IntKind.u64.wrap (wrap64 ((i : Int) + (j : Int))) / 2) = (h : Int) by rw [mid_w i j (by omega), hh])
      have R7 := Lib.hid (show wrap64 ((pp : Int) - (h : Int)) = (u : Int) by unfold wrap64; omega)
      have th : ((h : Int)).toNat = h := by omega
      have ph : ((0 : Int) ≤ (h : Int)) = True := eq_true (by omega)
      have lh : ((h : Int) < (z : Int)) = True := eq_true (by omega)
      have tu : ((u : Int)).toNat = u := by omega
      have pu : ((0 : Int) ≤ (u : Int)) = True := eq_true (by omega)
      have lu : ((u : Int) < (z : Int)) = True := eq_true (by omega)
      have HU := Lib.hid hu
      clear hb hk hn hu
      have r7 := R7.out
      have r9 : IntKind.i64.wrap ((pp : Int) - (h : Int)) = (u : Int) := (Go.Proofs.YtlllgfkdapjomaaW.PrintLast.i64_w _).trans R7.out
      go_upto_region 35 with fail
      rw [EH.out]
      clear hh
      by_cases hlt : cmpV su sv < 0
      · have c1 : decide (cmpV su sv < 0) = true := decide_eq_true hlt
        have KD := Lib.hid HS.out.1.drew
        have KW := Lib.hid HS.out.1
        go_region_held3 (fun w' => SR w0 k d w')
            (first | with_reducible exact KD.out | with_reducible exact K5 | (go_split_ands; with_reducible (repeat (first | assumption | exact K5 | refine SR.drew ?_))))
            (first | (go_at_call 18; go_split_ands; refine (HC.out _).mono ?_; rintro e w5 ⟨rfl, B5⟩; have K5 := SR.below (by assumption) B5))
        all_goals go_wp2
        go_roundg k1
        case measure => omega
        case rel =>
          have hb := HB.out
          have hk := HK.out
          have hn := HN.out
          have hu := HU.out
          clear r7 r9
          refine ⟨i, h, rfl, rfl, ⟨by omega⟩, ⟨K5, HS.out.2.1, fun g q1 q2 => ?_⟩⟩
          have hl : St.lt d[pp - h]! d[h]! = true := by rw [hu, hsu, hsv, lt_def]; exact c1
          exact mono_yes H1.out H2.out (by omega) q1 (by omega) (by omega) (by omega) hl
      · have c1 : decide (cmpV su sv < 0) = false := decide_eq_false hlt
        have KD := Lib.hid HS.out.1.drew
        have KW := Lib.hid HS.out.1
        go_region_held3 (fun w' => SR w0 k d w')
            (first | with_reducible exact KD.out | with_reducible exact K5 | (go_split_ands; with_reducible (repeat (first | assumption | exact K5 | refine SR.drew ?_))))
            (first | (go_at_call 18; go_split_ands; refine (HC.out _).mono ?_; rintro e w5 ⟨rfl, B5⟩; have K5 := SR.below (by assumption) B5))
        have E1 := Lib.hid (show wrap64 ((h : Int) + 1) = ((h + 1 : Nat) : Int) by clear r7 r9; unfold wrap64; have := HB.out; omega)
        all_goals go_wp2
        go_roundg k1
        case measure => omega
        case rel =>
          have hb := HB.out
          have hk := HK.out
          have hn := HN.out
          have hu := HU.out
          clear r7 r9
          refine ⟨h + 1, j, by rw [E1.out], rfl, ⟨by omega⟩, ⟨K5, fun g q1 q2 => ?_, HS.out.2.2⟩⟩
          have hl : St.lt d[pp - h]! d[h]! = false := by rw [hu, hsu, hsv, lt_def]; exact c1
          exact mono_no H1.out H2.out (by omega) (by omega) (by omega) (by omega) (by omega) hl
    · obtain rfl : i = j := by omega
      obtain ⟨e, he⟩ : ∃ e, nn - i = e := ⟨_, rfl⟩
      have R8 := Lib.hid (show wrap64 ((nn : Int) - (i : Int)) = (e : Int) by unfold wrap64; omega)
      have hcut : Cut St.lt a m b i e d := by
        refine ⟨by omega, by omega, by omega, by omega, ?_, ?_⟩
        · by_cases q : i = ss
          · exact .inr (.inl (by omega))
          · refine .inr (.inr ?_)
            have := HS.out.2.1 (i - 1) (by omega) (by omega)
            rw [show pp - (i - 1) = e by omega] at this
            exact this
        · by_cases q : i = mid
          · exact .inl (by omega)
          · refine .inr (.inr ?_)
            have := HS.out.2.2 i (Nat.le_refl _) (by omega)
            rw [show pp - i = e - 1 by omega] at this
            exact this
      have HCU := Lib.hid (And.intro hcut (show i + e = mid + m by omega))
      have HZ := Lib.hid HS.out.1
      have hsm := hcut.sm
      have hme := hcut.me
      clear hk HS HK hcut
      have r8 := R8.out
      clear hn he hb
      go_upto_region 39 with fail
      rw [r8]
      clear r8
      have hb := HB.out
      have he : i + e = mid + m := HCU.out.2
      have hn := hb
      by_cases hr1 : i < m
      · by_cases hr2 : m < e
        · have HR0 := Lib.hid (fun w (h : SR w0 k d w) => rotate_is w0 w k cap i m e z d fv h hb.2.2.2.2 hr1 hr2 (by have := HCU.out.1.eb; omega) hb.2.2.2.1)
          clear hb hn he hsm hme
          go_wp2_with fail
          refine (HR0.out _ HZ.out).mono ?_
          rintro e1 w1 ⟨rfl, d1, S1, X1, P1⟩
          have HR := Lib.hid (show SR w0 k d1 w1 ∧ Rot i m e d d1 ∧ PermIn a b d d1 from ⟨S1, X1, permIn_mono d d1 i e a b HCU.out.1.as HCU.out.1.eb (by have := HB.out; omega) P1⟩)
          clear S1 X1 P1 HR0 HZ
          have hp := halves_in swo ⟨HB.out.1, HB.out.2.1⟩ HN.out.1.symm HCU.out.2 HCU.out.1 H1.out H2.out HR.out.2.1
          have HP := Lib.hid hp
          have hl1 := hp.1
          have hl2 := hp.2.1
          clear hp
          have hs1 : d1.size = z := HR.out.2.2.1.trans HB.out.2.2.2.2
          by_cases hq1 : a < i
          · by_cases hq2 : i < mid
            · have HL0 := Lib.hid (HIH.out a i mid d1 _ (by have := HB.out; have := HP.out; omega) HR.out.1 hs1 hq1 hq2 (by have := HB.out; have := HP.out; omega) HP.out.2.2.2.2.1 HP.out.2.2.2.2.2.1)
              clear hs1 hl1 hl2
              go_wp2_with fail
              refine HL0.out.mono ?_
              rintro e2 w2 ⟨rfl, d2, S2, P2, Q2⟩
              have HL := Lib.hid (show SR w0 k d2 w2 ∧ PermIn a mid d1 d2 ∧ SortedIn St.lt a mid d2 from ⟨S2, P2, Q2⟩)
              clear S2 P2 Q2 HL0
              have hs2 : d2.size = z := HL.out.2.1.1.trans (HR.out.2.2.1.trans HB.out.2.2.2.2)
              have HF2 := Lib.hid (And.intro (sorted_far HP.out.2.2.2.2.2.2.1 HL.out.2.1 (.inr (Nat.le_refl _))) (sorted_far HP.out.2.2.2.2.2.2.2.1 HL.out.2.1 (.inr (by have := HP.out; omega))))
              by_cases hv1 : mid < e
              · by_cases hv2 : e < b
                · have HG0 := Lib.hid (HIH.out mid e b d2 _ (by have := HB.out; have := HP.out; omega) HL.out.1 hs2 hv1 hv2 HB.out.2.2.1 HF2.out.1 HF2.out.2)
                  clear hs2
                  go_wp2_with fail
                  refine HG0.out.mono ?_
                  rintro e3 w3 ⟨rfl, d3, S3, P3, Q3⟩
                  have HG := Lib.hid (show SR w0 k d3 w3 ∧ PermIn mid b d2 d3 ∧ SortedIn St.lt mid b d3 from ⟨S3, P3, Q3⟩)
                  clear S3 P3 Q3 HG0
                  go_wp2
                  go_end0
                  have hb := HB.out
                  have hp := HP.out
                  exact ⟨rfl, d3, HG.out.1, permIn_trans _ _ _ a b HR.out.2.2 (permIn_trans _ _ _ a b (permIn_mono _ _ a mid a b (Nat.le_refl _) (by omega) (by rw [HR.out.2.2.1]; omega) HL.out.2.1) (permIn_mono _ _ mid b a b (by omega) (Nat.le_refl _) (by rw [HL.out.2.1.1, HR.out.2.2.1]; omega) HG.out.2.1)), halves (by rw [HR.out.2.2.1]; omega) (by omega) hp.2.2.2.2.2.2.2.2 HL.out.2.1 HL.out.2.2 HG.out.2.1 HG.out.2.2⟩
                · have HG := Lib.hid (show SR w0 k d2 _ ∧ PermIn mid b d2 d2 ∧ SortedIn St.lt mid b d2 from ⟨HL.out.1, permIn_refl _ mid b, by have q := HF2.out.1; rw [show e = b by have := HCU.out.1.eb; omega] at q; exact q⟩)
                  clear hs2
                  go_wp2
                  go_end0
                  have hb := HB.out
                  have hp := HP.out
                  exact ⟨rfl, d2, HG.out.1, permIn_trans _ _ _ a b HR.out.2.2 (permIn_trans _ _ _ a b (permIn_mono _ _ a mid a b (Nat.le_refl _) (by omega) (by rw [HR.out.2.2.1]; omega) HL.out.2.1) (permIn_mono _ _ mid b a b (by omega) (Nat.le_refl _) (by rw [HL.out.2.1.1, HR.out.2.2.1]; omega) HG.out.2.1)), halves (by rw [HR.out.2.2.1]; omega) (by omega) hp.2.2.2.2.2.2.2.2 HL.out.2.1 HL.out.2.2 HG.out.2.1 HG.out.2.2⟩
              · have HG := Lib.hid (show SR w0 k d2 _ ∧ PermIn mid b d2 d2 ∧ SortedIn St.lt mid b d2 from ⟨HL.out.1, permIn_refl _ mid b, by have q := HF2.out.2; rw [show e = mid by have := HP.out; omega] at q; exact q⟩)
                clear hs2
                go_wp2
                go_end0
                have hb := HB.out
                have hp := HP.out
                exact ⟨rfl, d2, HG.out.1, permIn_trans _ _ _ a b HR.out.2.2 (permIn_trans _ _ _ a b (permIn_mono _ _ a mid a b (Nat.le_refl _) (by omega) (by rw [HR.out.2.2.1]; omega) HL.out.2.1) (permIn_mono _ _ mid b a b (by omega) (Nat.le_refl _) (by rw [HL.out.2.1.1, HR.out.2.2.1]; omega) HG.out.2.1)), halves (by rw [HR.out.2.2.1]; omega) (by omega) hp.2.2.2.2.2.2.2.2 HL.out.2.1 HL.out.2.2 HG.out.2.1 HG.out.2.2⟩
            · have HL := Lib.hid (show SR w0 k d1 _ ∧ PermIn a mid d1 d1 ∧ SortedIn St.lt a mid d1 from ⟨HR.out.1, permIn_refl _ a mid, by have q := HP.out.2.2.2.2.1; rw [show i = mid by omega] at q; exact q⟩)
              clear hs1 hl1 hl2
              have hs2 : d1.size = z := HL.out.2.1.1.trans (HR.out.2.2.1.trans HB.out.2.2.2.2)
              have HF2 := Lib.hid (And.intro (sorted_far HP.out.2.2.2.2.2.2.1 HL.out.2.1 (.inr (Nat.le_refl _))) (sorted_far HP.out.2.2.2.2.2.2.2.1 HL.out.2.1 (.inr (by have := HP.out; omega))))
              by_cases hv1 : mid < e
              · by_cases hv2 : e < b
                · have HG0 := Lib.hid (HIH.out mid e b d1 _ (by have := HB.out; have := HP.out; omega) HL.out.1 hs2 hv1 hv2 HB.out.2.2.1 HF2.out.1 HF2.out.2)
                  clear hs2
                  go_wp2_with fail
                  refine HG0.out.mono ?_
                  rintro e3 w3 ⟨rfl, d3, S3, P3, Q3⟩
                  have HG := Lib.hid (show SR w0 k d3 w3 ∧ PermIn mid b d1 d3 ∧ SortedIn St.lt mid b d3 from ⟨S3, P3, Q3⟩)
                  clear S3 P3 Q3 HG0
                  go_wp2
                  go_end0
                  have hb := HB.out
                  have hp := HP.out
                  exact ⟨rfl, d3, HG.out.1, permIn_trans _ _ _ a b HR.out.2.2 (permIn_trans _ _ _ a b (permIn_mono _ _ a mid a b (Nat.le_refl _) (by omega) (by rw [HR.out.2.2.1]; omega) HL.out.2.1) (permIn_mono _ _ mid b a b (by omega) (Nat.le_refl _) (by rw [HL.out.2.1.1, HR.out.2.2.1]; omega) HG.out.2.1)), halves (by rw [HR.out.2.2.1]; omega) (by omega) hp.2.2.2.2.2.2.2.2 HL.out.2.1 HL.out.2.2 HG.out.2.1 HG.out.2.2⟩
                · have HG := Lib.hid (show SR w0 k d1 _ ∧ PermIn mid b d1 d1 ∧ SortedIn St.lt mid b d1 from ⟨HL.out.1, permIn_refl _ mid b, by have q := HF2.out.1; rw [show e = b by have := HCU.out.1.eb; omega] at q; exact q⟩)
                  clear hs2
                  go_wp2
                  go_end0
                  have hb := HB.out
                  have hp := HP.out
                  exact ⟨rfl, d1, HG.out.1, permIn_trans _ _ _ a b HR.out.2.2 (permIn_trans _ _ _ a b (permIn_mono _ _ a mid a b (Nat.le_refl _) (by omega) (by rw [HR.out.2.2.1]; omega) HL.out.2.1) (permIn_mono _ _ mid b a b (by omega) (Nat.le_refl _) (by rw [HL.out.2.1.1, HR.out.2.2.1]; omega) HG.out.2.1)), halves (by rw [HR.out.2.2.1]; omega) (by omega) hp.2.2.2.2.2.2.2.2 HL.out.2.1 HL.out.2.2 HG.out.2.1 HG.out.2.2⟩
              · have HG := Lib.hid (show SR w0 k d1 _ ∧ PermIn mid b d1 d1 ∧ SortedIn St.lt mid b d1 from ⟨HL.out.1, permIn_refl _ mid b, by have q := HF2.out.2; rw [show e = mid by have := HP.out; omega] at q; exact q⟩)
                clear hs2
                go_wp2
                go_end0
                have hb := HB.out
                have hp := HP.out
                exact ⟨rfl, d1, HG.out.1, permIn_trans _ _ _ a b HR.out.2.2 (permIn_trans _ _ _ a b (permIn_mono _ _ a mid a b (Nat.le_refl _) (by omega) (by rw [HR.out.2.2.1]; omega) HL.out.2.1) (permIn_mono _ _ mid b a b (by omega) (Nat.le_refl _) (by rw [HL.out.2.1.1, HR.out.2.2.1]; omega) HG.out.2.1)), halves (by rw [HR.out.2.2.1]; omega) (by omega) hp.2.2.2.2.2.2.2.2 HL.out.2.1 HL.out.2.2 HG.out.2.1 HG.out.2.2⟩
          · have HL := Lib.hid (show SR w0 k d1 _ ∧ PermIn a mid d1 d1 ∧ SortedIn St.lt a mid d1 from ⟨HR.out.1, permIn_refl _ a mid, by have q := HP.out.2.2.2.2.2.1; rw [show i = a by have := HCU.out.1.as; omega] at q; exact q⟩)
            clear hs1 hl1 hl2
            have hs2 : d1.size = z := HL.out.2.1.1.trans (HR.out.2.2.1.trans HB.out.2.2.2.2)
            have HF2 := Lib.hid (And.intro (sorted_far HP.out.2.2.2.2.2.2.1 HL.out.2.1 (.inr (Nat.le_refl _))) (sorted_far HP.out.2.2.2.2.2.2.2.1 HL.out.2.1 (.inr (by have := HP.out; omega))))
            by_cases hv1 : mid < e
            · by_cases hv2 : e < b
              · have HG0 := Lib.hid (HIH.out mid e b d1 _ (by have := HB.out; have := HP.out; omega) HL.out.1 hs2 hv1 hv2 HB.out.2.2.1 HF2.out.1 HF2.out.2)
                clear hs2
                go_wp2_with fail
                refine HG0.out.mono ?_
                rintro e3 w3 ⟨rfl, d3, S3, P3, Q3⟩
                have HG := Lib.hid (show SR w0 k d3 w3 ∧ PermIn mid b d1 d3 ∧ SortedIn St.lt mid b d3 from ⟨S3, P3, Q3⟩)
                clear S3 P3 Q3 HG0
                go_wp2
                go_end0
                have hb := HB.out
                have hp := HP.out
                exact ⟨rfl, d3, HG.out.1, permIn_trans _ _ _ a b HR.out.2.2 (permIn_trans _ _ _ a b (permIn_mono _ _ a mid a b (Nat.le_refl _) (by omega) (by rw [HR.out.2.2.1]; omega) HL.out.2.1) (permIn_mono _ _ mid b a b (by omega) (Nat.le_refl _) (by rw [HL.out.2.1.1, HR.out.2.2.1]; omega) HG.out.2.1)), halves (by rw [HR.out.2.2.1]; omega) (by omega) hp.2.2.2.2.2.2.2.2 HL.out.2.1 HL.out.2.2 HG.out.2.1 HG.out.2.2⟩
              · have HG := Lib.hid (show SR w0 k d1 _ ∧ PermIn mid b d1 d1 ∧ SortedIn St.lt mid b d1 from ⟨HL.out.1, permIn_refl _ mid b, by have q := HF2.out.1; rw [show e = b by have := HCU.out.1.eb; omega] at q; exact q⟩)
                clear hs2
                go_wp2
                go_end0
                have hb := HB.out
                have hp := HP.out
                exact ⟨rfl, d1, HG.out.1, permIn_trans _ _ _ a b HR.out.2.2 (permIn_trans _ _ _ a b (permIn_mono _ _ a mid a b (Nat.le_refl _) (by omega) (by rw [HR.out.2.2.1]; omega) HL.out.2.1) (permIn_mono _ _ mid b a b (by omega) (Nat.le_refl _) (by rw [HL.out.2.1.1, HR.out.2.2.1]; omega) HG.out.2.1)), halves (by rw [HR.out.2.2.1]; omega) (by omega) hp.2.2.2.2.2.2.2.2 HL.out.2.1 HL.out.2.2 HG.out.2.1 HG.out.2.2⟩
            · have HG := Lib.hid (show SR w0 k d1 _ ∧ PermIn mid b d1 d1 ∧ SortedIn St.lt mid b d1 from ⟨HL.out.1, permIn_refl _ mid b, by have q := HF2.out.2; rw [show e = mid by have := HP.out; omega] at q; exact q⟩)
              clear hs2
              go_wp2
              go_end0
              have hb := HB.out
              have hp := HP.out
              exact ⟨rfl, d1, HG.out.1, permIn_trans _ _ _ a b HR.out.2.2 (permIn_trans _ _ _ a b (permIn_mono _ _ a mid a b (Nat.le_refl _) (by omega) (by rw [HR.out.2.2.1]; omega) HL.out.2.1) (permIn_mono _ _ mid b a b (by omega) (Nat.le_refl _) (by rw [HL.out.2.1.1, HR.out.2.2.1]; omega) HG.out.2.1)), halves (by rw [HR.out.2.2.1]; omega) (by omega) hp.2.2.2.2.2.2.2.2 HL.out.2.1 HL.out.2.2 HG.out.2.1 HG.out.2.2⟩
        · have HR := Lib.hid (show SR w0 k d wr ∧ Rot i m e d d ∧ PermIn a b d d from ⟨HZ.out, by rw [show e = m by omega]; exact Rot.nil2 i m d, permIn_refl d a b⟩)
          clear hb hn he hsm hme HZ
          have hp := halves_in swo ⟨HB.out.1, HB.out.2.1⟩ HN.out.1.symm HCU.out.2 HCU.out.1 H1.out H2.out HR.out.2.1
          have HP := Lib.hid hp
          have hl1 := hp.1
          have hl2 := hp.2.1
          clear hp
          have hs1 : d.size = z := HR.out.2.2.1.trans HB.out.2.2.2.2
          by_cases hq1 : a < i
          · by_cases hq2 : i < mid
            · have HL0 := Lib.hid (HIH.out a i mid d _ (by have := HB.out; have := HP.out; omega) HR.out.1 hs1 hq1 hq2 (by have := HB.out; have := HP.out; omega) HP.out.2.2.2.2.1 HP.out.2.2.2.2.2.1)
              clear hs1 hl1 hl2
              go_wp2_with fail
              refine HL0.out.mono ?_
              rintro e2 w2 ⟨rfl, d2, S2, P2, Q2⟩
              have HL := Lib.hid (show SR w0 k d2 w2 ∧ PermIn a mid d d2 ∧ SortedIn St.lt a mid d2 from ⟨S2, P2, Q2⟩)
              clear S2 P2 Q2 HL0
              have hs2 : d2.size = z := HL.out.2.1.1.trans (HR.out.2.2.1.trans HB.out.2.2.2.2)
              have HF2 := Lib.hid (And.intro (sorted_far HP.out.2.2.2.2.2.2.1 HL.out.2.1 (.inr (Nat.le_refl _))) (sorted_far HP.out.2.2.2.2.2.2.2.1 HL.out.2.1 (.inr (by have := HP.out; omega))))
              by_cases hv1 : mid < e
              · by_cases hv2 : e < b
                · have HG0 := Lib.hid (HIH.out mid e b d2 _ (by have := HB.out; have := HP.out; omega) HL.out.1 hs2 hv1 hv2 HB.out.2.2.1 HF2.out.1 HF2.out.2)
                  clear hs2
                  go_wp2_with fail
                  refine HG0.out.mono ?_
                  rintro e3 w3 ⟨rfl, d3, S3, P3, Q3⟩
                  have HG := Lib.hid (show SR w0 k d3 w3 ∧ PermIn mid b d2 d3 ∧ SortedIn St.lt mid b d3 from ⟨S3, P3, Q3⟩)
                  clear S3 P3 Q3 HG0
                  go_wp2
                  go_end0
                  have hb := HB.out
                  have hp := HP.out
                  exact ⟨rfl, d3, HG.out.1, permIn_trans _ _ _ a b HR.out.2.2 (permIn_trans _ _ _ a b (permIn_mono _ _ a mid a b (Nat.le_refl _) (by omega) (by rw [HR.out.2.2.1]; omega) HL.out.2.1) (permIn_mono _ _ mid b a b (by omega) (Nat.le_refl _) (by rw [HL.out.2.1.1, HR.out.2.2.1]; omega) HG.out.2.1)), halves (by rw [HR.out.2.2.1]; omega) (by omega) hp.2.2.2.2.2.2.2.2 HL.out.2.1 HL.out.2.2 HG.out.2.1 HG.out.2.2⟩
                · have HG := Lib.hid (show SR w0 k d2 _ ∧ PermIn mid b d2 d2 ∧ SortedIn St.lt mid b d2 from ⟨HL.out.1, permIn_refl _ mid b, by have q := HF2.out.1; rw [show e = b by have := HCU.out.1.eb; omega] at q; exact q⟩)
                  clear hs2
                  go_wp2
                  go_end0
                  have hb := HB.out
                  have hp := HP.out
                  exact ⟨rfl, d2, HG.out.1, permIn_trans _ _ _ a b HR.out.2.2 (permIn_trans _ _ _ a b (permIn_mono _ _ a mid a b (Nat.le_refl _) (by omega) (by rw [HR.out.2.2.1]; omega) HL.out.2.1) (permIn_mono _ _ mid b a b (by omega) (Nat.le_refl _) (by rw [HL.out.2.1.1, HR.out.2.2.1]; omega) HG.out.2.1)), halves (by rw [HR.out.2.2.1]; omega) (by omega) hp.2.2.2.2.2.2.2.2 HL.out.2.1 HL.out.2.2 HG.out.2.1 HG.out.2.2⟩
              · have HG := Lib.hid (show SR w0 k d2 _ ∧ PermIn mid b d2 d2 ∧ SortedIn St.lt mid b d2 from ⟨HL.out.1, permIn_refl _ mid b, by have q := HF2.out.2; rw [show e = mid by have := HP.out; omega] at q; exact q⟩)
                clear hs2
                go_wp2
                go_end0
                have hb := HB.out
                have hp := HP.out
                exact ⟨rfl, d2, HG.out.1, permIn_trans _ _ _ a b HR.out.2.2 (permIn_trans _ _ _ a b (permIn_mono _ _ a mid a b (Nat.le_refl _) (by omega) (by rw [HR.out.2.2.1]; omega) HL.out.2.1) (permIn_mono _ _ mid b a b (by omega) (Nat.le_refl _) (by rw [HL.out.2.1.1, HR.out.2.2.1]; omega) HG.out.2.1)), halves (by rw [HR.out.2.2.1]; omega) (by omega) hp.2.2.2.2.2.2.2.2 HL.out.2.1 HL.out.2.2 HG.out.2.1 HG.out.2.2⟩
            · have HL := Lib.hid (show SR w0 k d _ ∧ PermIn a mid d d ∧ SortedIn St.lt a mid d from ⟨HR.out.1, permIn_refl _ a mid, by have q := HP.out.2.2.2.2.1; rw [show i = mid by omega] at q; exact q⟩)
              clear hs1 hl1 hl2
              have hs2 : d.size = z := HL.out.2.1.1.trans (HR.out.2.2.1.trans HB.out.2.2.2.2)
              have HF2 := Lib.hid (And.intro (sorted_far HP.out.2.2.2.2.2.2.1 HL.out.2.1 (.inr (Nat.le_refl _))) (sorted_far HP.out.2.2.2.2.2.2.2.1 HL.out.2.1 (.inr (by have := HP.out; omega))))
              by_cases hv1 : mid < e
              · by_cases hv2 : e < b
                · have HG0 := Lib.hid (HIH.out mid e b d _ (by have := HB.out; have := HP.out; omega) HL.out.1 hs2 hv1 hv2 HB.out.2.2.1 HF2.out.1 HF2.out.2)
                  clear hs2
                  go_wp2_with fail
                  refine HG0.out.mono ?_
                  rintro e3 w3 ⟨rfl, d3, S3, P3, Q3⟩
                  have HG := Lib.hid (show SR w0 k d3 w3 ∧ PermIn mid b d d3 ∧ SortedIn St.lt mid b d3 from ⟨S3, P3, Q3⟩)
                  clear S3 P3 Q3 HG0
                  go_wp2
                  go_end0
                  have hb := HB.out
                  have hp := HP.out
                  exact ⟨rfl, d3, HG.out.1, permIn_trans _ _ _ a b HR.out.2.2 (permIn_trans _ _ _ a b (permIn_mono _ _ a mid a b (Nat.le_refl _) (by omega) (by rw [HR.out.2.2.1]; omega) HL.out.2.1) (permIn_mono _ _ mid b a b (by omega) (Nat.le_refl _) (by rw [HL.out.2.1.1, HR.out.2.2.1]; omega) HG.out.2.1)), halves (by rw [HR.out.2.2.1]; omega) (by omega) hp.2.2.2.2.2.2.2.2 HL.out.2.1 HL.out.2.2 HG.out.2.1 HG.out.2.2⟩
                · have HG := Lib.hid (show SR w0 k d _ ∧ PermIn mid b d d ∧ SortedIn St.lt mid b d from ⟨HL.out.1, permIn_refl _ mid b, by have q := HF2.out.1; rw [show e = b by have := HCU.out.1.eb; omega] at q; exact q⟩)
                  clear hs2
                  go_wp2
                  go_end0
                  have hb := HB.out
                  have hp := HP.out
                  exact ⟨rfl, d, HG.out.1, permIn_trans _ _ _ a b HR.out.2.2 (permIn_trans _ _ _ a b (permIn_mono _ _ a mid a b (Nat.le_refl _) (by omega) (by rw [HR.out.2.2.1]; omega) HL.out.2.1) (permIn_mono _ _ mid b a b (by omega) (Nat.le_refl _) (by rw [HL.out.2.1.1, HR.out.2.2.1]; omega) HG.out.2.1)), halves (by rw [HR.out.2.2.1]; omega) (by omega) hp.2.2.2.2.2.2.2.2 HL.out.2.1 HL.out.2.2 HG.out.2.1 HG.out.2.2⟩
              · have HG := Lib.hid (show SR w0 k d _ ∧ PermIn mid b d d ∧ SortedIn St.lt mid b d from ⟨HL.out.1, permIn_refl _ mid b, by have q := HF2.out.2; rw [show e = mid by have := HP.out; omega] at q; exact q⟩)
                clear hs2
                go_wp2
                go_end0
                have hb := HB.out
                have hp := HP.out
                exact ⟨rfl, d, HG.out.1, permIn_trans _ _ _ a b HR.out.2.2 (permIn_trans _ _ _ a b (permIn_mono _ _ a mid a b (Nat.le_refl _) (by omega) (by rw [HR.out.2.2.1]; omega) HL.out.2.1) (permIn_mono _ _ mid b a b (by omega) (Nat.le_refl _) (by rw [HL.out.2.1.1, HR.out.2.2.1]; omega) HG.out.2.1)), halves (by rw [HR.out.2.2.1]; omega) (by omega) hp.2.2.2.2.2.2.2.2 HL.out.2.1 HL.out.2.2 HG.out.2.1 HG.out.2.2⟩
          · have HL := Lib.hid (show SR w0 k d _ ∧ PermIn a mid d d ∧ SortedIn St.lt a mid d from ⟨HR.out.1, permIn_refl _ a mid, by have q := HP.out.2.2.2.2.2.1; rw [show i = a by have := HCU.out.1.as; omega] at q; exact q⟩)
            clear hs1 hl1 hl2
            have hs2 : d.size = z := HL.out.2.1.1.trans (HR.out.2.2.1.trans HB.out.2.2.2.2)
            have HF2 := Lib.hid (And.intro (sorted_far HP.out.2.2.2.2.2.2.1 HL.out.2.1 (.inr (Nat.le_refl _))) (sorted_far HP.out.2.2.2.2.2.2.2.1 HL.out.2.1 (.inr (by have := HP.out; omega))))
            by_cases hv1 : mid < e
            · by_cases hv2 : e < b
              · have HG0 := Lib.hid (HIH.out mid e b d _ (by have := HB.out; have := HP.out; omega) HL.out.1 hs2 hv1 hv2 HB.out.2.2.1 HF2.out.1 HF2.out.2)
                clear hs2
                go_wp2_with fail
                refine HG0.out.mono ?_
                rintro e3 w3 ⟨rfl, d3, S3, P3, Q3⟩
                have HG := Lib.hid (show SR w0 k d3 w3 ∧ PermIn mid b d d3 ∧ SortedIn St.lt mid b d3 from ⟨S3, P3, Q3⟩)
                clear S3 P3 Q3 HG0
                go_wp2
                go_end0
                have hb := HB.out
                have hp := HP.out
                exact ⟨rfl, d3, HG.out.1, permIn_trans _ _ _ a b HR.out.2.2 (permIn_trans _ _ _ a b (permIn_mono _ _ a mid a b (Nat.le_refl _) (by omega) (by rw [HR.out.2.2.1]; omega) HL.out.2.1) (permIn_mono _ _ mid b a b (by omega) (Nat.le_refl _) (by rw [HL.out.2.1.1, HR.out.2.2.1]; omega) HG.out.2.1)), halves (by rw [HR.out.2.2.1]; omega) (by omega) hp.2.2.2.2.2.2.2.2 HL.out.2.1 HL.out.2.2 HG.out.2.1 HG.out.2.2⟩
              · have HG := Lib.hid (show SR w0 k d _ ∧ PermIn mid b d d ∧ SortedIn St.lt mid b d from ⟨HL.out.1, permIn_refl _ mid b, by have q := HF2.out.1; rw [show e = b by have := HCU.out.1.eb; omega] at q; exact q⟩)
                clear hs2
                go_wp2
                go_end0
                have hb := HB.out
                have hp := HP.out
                exact ⟨rfl, d, HG.out.1, permIn_trans _ _ _ a b HR.out.2.2 (permIn_trans _ _ _ a b (permIn_mono _ _ a mid a b (Nat.le_refl _) (by omega) (by rw [HR.out.2.2.1]; omega) HL.out.2.1) (permIn_mono _ _ mid b a b (by omega) (Nat.le_refl _) (by rw [HL.out.2.1.1, HR.out.2.2.1]; omega) HG.out.2.1)), halves (by rw [HR.out.2.2.1]; omega) (by omega) hp.2.2.2.2.2.2.2.2 HL.out.2.1 HL.out.2.2 HG.out.2.1 HG.out.2.2⟩
            · have HG := Lib.hid (show SR w0 k d _ ∧ PermIn mid b d d ∧ SortedIn St.lt mid b d from ⟨HL.out.1, permIn_refl _ mid b, by have q := HF2.out.2; rw [show e = mid by have := HP.out; omega] at q; exact q⟩)
              clear hs2
              go_wp2
              go_end0
              have hb := HB.out
              have hp := HP.out
              exact ⟨rfl, d, HG.out.1, permIn_trans _ _ _ a b HR.out.2.2 (permIn_trans _ _ _ a b (permIn_mono _ _ a mid a b (Nat.le_refl _) (by omega) (by rw [HR.out.2.2.1]; omega) HL.out.2.1) (permIn_mono _ _ mid b a b (by omega) (Nat.le_refl _) (by rw [HL.out.2.1.1, HR.out.2.2.1]; omega) HG.out.2.1)), halves (by rw [HR.out.2.2.1]; omega) (by omega) hp.2.2.2.2.2.2.2.2 HL.out.2.1 HL.out.2.2 HG.out.2.1 HG.out.2.2⟩
      · have HR := Lib.hid (show SR w0 k d wr ∧ Rot i m e d d ∧ PermIn a b d d from ⟨HZ.out, by rw [show i = m by omega]; exact Rot.nil1 m e d, permIn_refl d a b⟩)
        clear hb hn he hsm hme HZ
        have hp := halves_in swo ⟨HB.out.1, HB.out.2.1⟩ HN.out.1.symm HCU.out.2 HCU.out.1 H1.out H2.out HR.out.2.1
        have HP := Lib.hid hp
        have hl1 := hp.1
        have hl2 := hp.2.1
        clear hp
        have hs1 : d.size = z := HR.out.2.2.1.trans HB.out.2.2.2.2
        by_cases hq1 : a < i
        · by_cases hq2 : i < mid
          · have HL0 := Lib.hid (HIH.out a i mid d _ (by have := HB.out; have := HP.out; omega) HR.out.1 hs1 hq1 hq2 (by have := HB.out; have := HP.out; omega) HP.out.2.2.2.2.1 HP.out.2.2.2.2.2.1)
            clear hs1 hl1 hl2
            go_wp2_with fail
            refine HL0.out.mono ?_
            rintro e2 w2 ⟨rfl, d2, S2, P2, Q2⟩
            have HL := Lib.hid (show SR w0 k d2 w2 ∧ PermIn a mid d d2 ∧ SortedIn St.lt a mid d2 from ⟨S2, P2, Q2⟩)
            clear S2 P2 Q2 HL0
            have hs2 : d2.size = z := HL.out.2.1.1.trans (HR.out.2.2.1.trans HB.out.2.2.2.2)
            have HF2 := Lib.hid (And.intro (sorted_far HP.out.2.2.2.2.2.2.1 HL.out.2.1 (.inr (Nat.le_refl _))) (sorted_far HP.out.2.2.2.2.2.2.2.1 HL.out.2.1 (.inr (by have := HP.out; omega))))
            by_cases hv1 : mid < e
            · by_cases hv2 : e < b
              · have HG0 := Lib.hid (HIH.out mid e b d2 _ (by have := HB.out; have := HP.out; omega) HL.out.1 hs2 hv1 hv2 HB.out.2.2.1 HF2.out.1 HF2.out.2)
                clear hs2
                go_wp2_with fail
                refine HG0.out.mono ?_
                rintro e3 w3 ⟨rfl, d3, S3, P3, Q3⟩
                have HG := Lib.hid (show SR w0 k d3 w3 ∧ PermIn mid b d2 d3 ∧ SortedIn St.lt mid b d3 from ⟨S3, P3, Q3⟩)
                clear S3 P3 Q3 HG0
                go_wp2
                go_end0
                have hb := HB.out
                have hp := HP.out
                exact ⟨rfl, d3, HG.out.1, permIn_trans _ _ _ a b HR.out.2.2 (permIn_trans _ _ _ a b (permIn_mono _ _ a mid a b (Nat.le_refl _) (by omega) (by rw [HR.out.2.2.1]; omega) HL.out.2.1) (permIn_mono _ _ mid b a b (by omega) (Nat.le_refl _) (by rw [HL.out.2.1.1, HR.out.2.2.1]; omega) HG.out.2.1)), halves (by rw [HR.out.2.2.1]; omega) (by omega) hp.2.2.2.2.2.2.2.2 HL.out.2.1 HL.out.2.2 HG.out.2.1 HG.out.2.2⟩
              · have HG := Lib.hid (show SR w0 k d2 _ ∧ PermIn mid b d2 d2 ∧ SortedIn St.lt mid b d2 from ⟨HL.out.1, permIn_refl _ mid b, by have q := HF2.out.1; rw [show e = b by have := HCU.out.1.eb; omega] at q; exact q⟩)
                clear hs2
                go_wp2
                go_end0
                have hb := HB.out
                have hp := HP.out
                exact ⟨rfl, d2, HG.out.1, permIn_trans _ _ _ a b HR.out.2.2 (permIn_trans _ _ _ a b (permIn_mono _ _ a mid a b (Nat.le_refl _) (by omega) (by rw [HR.out.2.2.1]; omega) HL.out.2.1) (permIn_mono _ _ mid b a b (by omega) (Nat.le_refl _) (by rw [HL.out.2.1.1, HR.out.2.2.1]; omega) HG.out.2.1)), halves (by rw [HR.out.2.2.1]; omega) (by omega) hp.2.2.2.2.2.2.2.2 HL.out.2.1 HL.out.2.2 HG.out.2.1 HG.out.2.2⟩
            · have HG := Lib.hid (show SR w0 k d2 _ ∧ PermIn mid b d2 d2 ∧ SortedIn St.lt mid b d2 from ⟨HL.out.1, permIn_refl _ mid b, by have q := HF2.out.2; rw [show e = mid by have := HP.out; omega] at q; exact q⟩)
              clear hs2
              go_wp2
              go_end0
              have hb := HB.out
              have hp := HP.out
              exact ⟨rfl, d2, HG.out.1, permIn_trans _ _ _ a b HR.out.2.2 (permIn_trans _ _ _ a b (permIn_mono _ _ a mid a b (Nat.le_refl _) (by omega) (by rw [HR.out.2.2.1]; omega) HL.out.2.1) (permIn_mono _ _ mid b a b (by omega) (Nat.le_refl _) (by rw [HL.out.2.1.1, HR.out.2.2.1]; omega) HG.out.2.1)), halves (by rw [HR.out.2.2.1]; omega) (by omega) hp.2.2.2.2.2.2.2.2 HL.out.2.1 HL.out.2.2 HG.out.2.1 HG.out.2.2⟩
          · have HL := Lib.hid (show SR w0 k d _ ∧ PermIn a mid d d ∧ SortedIn St.lt a mid d from ⟨HR.out.1, permIn_refl _ a mid, by have q := HP.out.2.2.2.2.1; rw [show i = mid by omega] at q; exact q⟩)
            clear hs1 hl1 hl2
            have hs2 : d.size = z := HL.out.2.1.1.trans (HR.out.2.2.1.trans HB.out.2.2.2.2)
            have HF2 := Lib.hid (And.intro (sorted_far HP.out.2.2.2.2.2.2.1 HL.out.2.1 (.inr (Nat.le_refl _))) (sorted_far HP.out.2.2.2.2.2.2.2.1 HL.out.2.1 (.inr (by have := HP.out; omega))))
            by_cases hv1 : mid < e
            · by_cases hv2 : e < b
              · have HG0 := Lib.hid (HIH.out mid e b d _ (by have := HB.out; have := HP.out; omega) HL.out.1 hs2 hv1 hv2 HB.out.2.2.1 HF2.out.1 HF2.out.2)
                clear hs2
                go_wp2_with fail
                refine HG0.out.mono ?_
                rintro e3 w3 ⟨rfl, d3, S3, P3, Q3⟩
                have HG := Lib.hid (show SR w0 k d3 w3 ∧ PermIn mid b d d3 ∧ SortedIn St.lt mid b d3 from ⟨S3, P3, Q3⟩)
                clear S3 P3 Q3 HG0
                go_wp2
                go_end0
                have hb := HB.out
                have hp := HP.out
                exact ⟨rfl, d3, HG.out.1, permIn_trans _ _ _ a b HR.out.2.2 (permIn_trans _ _ _ a b (permIn_mono _ _ a mid a b (Nat.le_refl _) (by omega) (by rw [HR.out.2.2.1]; omega) HL.out.2.1) (permIn_mono _ _ mid b a b (by omega) (Nat.le_refl _) (by rw [HL.out.2.1.1, HR.out.2.2.1]; omega) HG.out.2.1)), halves (by rw [HR.out.2.2.1]; omega) (by omega) hp.2.2.2.2.2.2.2.2 HL.out.2.1 HL.out.2.2 HG.out.2.1 HG.out.2.2⟩
              · have HG := Lib.hid (show SR w0 k d _ ∧ PermIn mid b d d ∧ SortedIn St.lt mid b d from ⟨HL.out.1, permIn_refl _ mid b, by have q := HF2.out.1; rw [show e = b by have := HCU.out.1.eb; omega] at q; exact q⟩)
                clear hs2
                go_wp2
                go_end0
                have hb := HB.out
                have hp := HP.out
                exact ⟨rfl, d, HG.out.1, permIn_trans _ _ _ a b HR.out.2.2 (permIn_trans _ _ _ a b (permIn_mono _ _ a mid a b (Nat.le_refl _) (by omega) (by rw [HR.out.2.2.1]; omega) HL.out.2.1) (permIn_mono _ _ mid b a b (by omega) (Nat.le_refl _) (by rw [HL.out.2.1.1, HR.out.2.2.1]; omega) HG.out.2.1)), halves (by rw [HR.out.2.2.1]; omega) (by omega) hp.2.2.2.2.2.2.2.2 HL.out.2.1 HL.out.2.2 HG.out.2.1 HG.out.2.2⟩
            · have HG := Lib.hid (show SR w0 k d _ ∧ PermIn mid b d d ∧ SortedIn St.lt mid b d from ⟨HL.out.1, permIn_refl _ mid b, by have q := HF2.out.2; rw [show e = mid by have := HP.out; omega] at q; exact q⟩)
              clear hs2
              go_wp2
              go_end0
              have hb := HB.out
              have hp := HP.out
              exact ⟨rfl, d, HG.out.1, permIn_trans _ _ _ a b HR.out.2.2 (permIn_trans _ _ _ a b (permIn_mono _ _ a mid a b (Nat.le_refl _) (by omega) (by rw [HR.out.2.2.1]; omega) HL.out.2.1) (permIn_mono _ _ mid b a b (by omega) (Nat.le_refl _) (by rw [HL.out.2.1.1, HR.out.2.2.1]; omega) HG.out.2.1)), halves (by rw [HR.out.2.2.1]; omega) (by omega) hp.2.2.2.2.2.2.2.2 HL.out.2.1 HL.out.2.2 HG.out.2.1 HG.out.2.2⟩
        · have HL := Lib.hid (show SR w0 k d _ ∧ PermIn a mid d d ∧ SortedIn St.lt a mid d from ⟨HR.out.1, permIn_refl _ a mid, by have q := HP.out.2.2.2.2.2.1; rw [show i = a by have := HCU.out.1.as; omega] at q; exact q⟩)
          clear hs1 hl1 hl2
          have hs2 : d.size = z := HL.out.2.1.1.trans (HR.out.2.2.1.trans HB.out.2.2.2.2)
          have HF2 := Lib.hid (And.intro (sorted_far HP.out.2.2.2.2.2.2.1 HL.out.2.1 (.inr (Nat.le_refl _))) (sorted_far HP.out.2.2.2.2.2.2.2.1 HL.out.2.1 (.inr (by have := HP.out; omega))))
          by_cases hv1 : mid < e
          · by_cases hv2 : e < b
            · have HG0 := Lib.hid (HIH.out mid e b d _ (by have := HB.out; have := HP.out; omega) HL.out.1 hs2 hv1 hv2 HB.out.2.2.1 HF2.out.1 HF2.out.2)
              clear hs2
              go_wp2_with fail
              refine HG0.out.mono ?_
              rintro e3 w3 ⟨rfl, d3, S3, P3, Q3⟩
              have HG := Lib.hid (show SR w0 k d3 w3 ∧ PermIn mid b d d3 ∧ SortedIn St.lt mid b d3 from ⟨S3, P3, Q3⟩)
              clear S3 P3 Q3 HG0
              go_wp2
              go_end0
              have hb := HB.out
              have hp := HP.out
              exact ⟨rfl, d3, HG.out.1, permIn_trans _ _ _ a b HR.out.2.2 (permIn_trans _ _ _ a b (permIn_mono _ _ a mid a b (Nat.le_refl _) (by omega) (by rw [HR.out.2.2.1]; omega) HL.out.2.1) (permIn_mono _ _ mid b a b (by omega) (Nat.le_refl _) (by rw [HL.out.2.1.1, HR.out.2.2.1]; omega) HG.out.2.1)), halves (by rw [HR.out.2.2.1]; omega) (by omega) hp.2.2.2.2.2.2.2.2 HL.out.2.1 HL.out.2.2 HG.out.2.1 HG.out.2.2⟩
            · have HG := Lib.hid (show SR w0 k d _ ∧ PermIn mid b d d ∧ SortedIn St.lt mid b d from ⟨HL.out.1, permIn_refl _ mid b, by have q := HF2.out.1; rw [show e = b by have := HCU.out.1.eb; omega] at q; exact q⟩)
              clear hs2
              go_wp2
              go_end0
              have hb := HB.out
              have hp := HP.out
              exact ⟨rfl, d, HG.out.1, permIn_trans _ _ _ a b HR.out.2.2 (permIn_trans _ _ _ a b (permIn_mono _ _ a mid a b (Nat.le_refl _) (by omega) (by rw [HR.out.2.2.1]; omega) HL.out.2.1) (permIn_mono _ _ mid b a b (by omega) (Nat.le_refl _) (by rw [HL.out.2.1.1, HR.out.2.2.1]; omega) HG.out.2.1)), halves (by rw [HR.out.2.2.1]; omega) (by omega) hp.2.2.2.2.2.2.2.2 HL.out.2.1 HL.out.2.2 HG.out.2.1 HG.out.2.2⟩
          · have HG := Lib.hid (show SR w0 k d _ ∧ PermIn mid b d d ∧ SortedIn St.lt mid b d from ⟨HL.out.1, permIn_refl _ mid b, by have q := HF2.out.2; rw [show e = mid by have := HP.out; omega] at q; exact q⟩)
            clear hs2
            go_wp2
            go_end0
            have hb := HB.out
            have hp := HP.out
            exact ⟨rfl, d, HG.out.1, permIn_trans _ _ _ a b HR.out.2.2 (permIn_trans _ _ _ a b (permIn_mono _ _ a mid a b (Nat.le_refl _) (by omega) (by rw [HR.out.2.2.1]; omega) HL.out.2.1) (permIn_mono _ _ mid b a b (by omega) (Nat.le_refl _) (by rw [HL.out.2.1.1, HR.out.2.2.1]; omega) HG.out.2.1)), halves (by rw [HR.out.2.2.1]; omega) (by omega) hp.2.2.2.2.2.2.2.2 HL.out.2.1 HL.out.2.2 HG.out.2.1 HG.out.2.2⟩
set_option maxRecDepth 100000 in
set_option maxHeartbeats 8000000 in
theorem sym_left (w0 w : World) (k cap a m b z : Nat) (d : Array Sh) (S : SR w0 k d w) (hz : d.size = z) (ham : a < m) (hmb : m < b) (hb : b ≤ z) (hsz : z ≤ 5000) (h1 : SortedIn St.lt a m d) (h2 : SortedIn St.lt m b d) (mid nn : Nat) (hmid : (a + b) / 2 = mid) (hnn : mid + m = nn) (hway : m ≤ mid) (hma : m ≠ a + 1) (hbm : b ≠ m + 1) (IH : ∀ (a' m' b' : Nat) (d' : Array Sh) (w' : World), b' - a' < b - a → SR w0 k d' w' → d'.size = z → a' < m' → m' < b' → b' ≤ z → SortedIn St.lt a' m' d' → SortedIn St.lt m' b' d' →
      Calls Try.prog 45 #[.slice (some ⟨k, 0, none⟩) z cap, .int .i64 a', .int .i64 m', .int .i64 b', fv] w' fun e w2 => e = .returned (.tuple #[]) ∧ ∃ d2, SR w0 k d2 w2 ∧ PermIn a' b' d' d2 ∧ SortedIn St.lt a' b' d2) :
    Calls Try.prog 45 #[.slice (some ⟨k, 0, none⟩) z cap, .int .i64 a, .int .i64 m, .int .i64 b, fv] w fun e w' => e = .returned (.tuple #[]) ∧ ∃ d', SR w0 k d' w' ∧ PermIn a b d d' ∧ SortedIn St.lt a b d' := by
  have S0 := Lib.hid S
  have HB := Lib.hid (And.intro ham (And.intro hmb (And.intro hb (And.intro hsz hz))))
  have H1 := Lib.hid h1
  have H2 := Lib.hid h2
  have HIH := Lib.hid IH
  obtain ⟨ma, hma2⟩ : ∃ x, m - a = x := ⟨_, rfl⟩
  obtain ⟨mb, hmb2⟩ : ∃ x, b - m = x := ⟨_, rfl⟩
  obtain ⟨pp, hpp⟩ : ∃ x, nn - 1 = x := ⟨_, rfl⟩
  have HN := Lib.hid (And.intro hmid (And.intro hnn (And.intro hpp hway)))
  have r0 : wrap64 ((m : Int) - (a : Int)) = (ma : Int) := by unfold wrap64; omega
  have r1 : wrap64 ((b : Int) - (m : Int)) = (mb : Int) := by clear r0; unfold wrap64; omega
  have r2 : wrap64 (IntKind.u64.wrap (wrap64 ((a : Int) + (b : Int))) / 2) = (mid : Int) := by clear r0 r1; rw [mid_w a b (by omega), hmid]
  have r3 : wrap64 ((mid : Int) + (m : Int)) = (nn : Int) := by clear r0 r1 r2; unfold wrap64; omega
  have r4 : wrap64 ((nn : Int) - 1) = (pp : Int) := by clear r0 r1 r2 r3; unfold wrap64; omega
  have RQ := Lib.hid (And.intro r0 (And.intro r1 (And.intro r2 (And.intro r3 r4))))
  clear r0 r1 r2 r3 r4
  have hwD : decide (mid < m) = false := decide_eq_false (by omega)
  have q0 : ¬ (ma : Int) = 1 := by omega
  have q2 : ((ma : Int) == 1) = false := by simpa using q0
  have q3 : ¬ (mb : Int) = 1 := by omega
  have q4 : ((mb : Int) == 1) = false := by simpa using q3
  clear S hz ham hmb hb hsz h1 h2 hma2 hmb2 hpp hbm IH hmid hnn hma
  have r0 := RQ.out.1
  have r1 := RQ.out.2.1
  have r2 := RQ.out.2.2.1
  have r3 := RQ.out.2.2.2.1
  have r4 := RQ.out.2.2.2.2
  go_enter Try.func45, Try.ntmps45
  go_wp2_with fail
  simp only [r2, r3, r4, hwD]
  clear hwD
  clear q0 q2 q3 q4 RQ r0 r1 r2 r3 r4
  go_loopg [20, 21] (b + 1) (fun kq v10 v11 wr => ∃ (i j : Nat), v10 = .int .i64 (i : Int) ∧ v11 = .int .i64 (j : Int) ∧ Aside0 (a ≤ i ∧ i ≤ j ∧ j ≤ m ∧ j - i + 1 ≤ kq) ∧ Aside0 (SR w0 k d wr ∧ (∀ h, a ≤ h → h < i → St.lt d[pp - h]! d[h]! = false) ∧ (∀ h, j ≤ h → h < m → St.lt d[pp - h]! d[h]! = true)))
  case atStart => exact ⟨a, m, rfl, rfl, ⟨by have := HB.out; have := HN.out; omega⟩, ⟨S0.out, fun h q1 q2 => by omega, fun h q1 q2 => by omega⟩⟩
  case round =>
    clear S0
    obtain ⟨i, j, rfl, rfl, HK, HS⟩ := hrel
    have hb := HB.out
    have hk := HK.out
    have hn := HN.out
    by_cases hij : i < j
    · obtain ⟨k1, rfl⟩ : ∃ k1, gk = k1 + 1 := ⟨gk - 1, by omega⟩
      obtain ⟨h, hh⟩ : ∃ h, (i + j) / 2 = h := ⟨_, rfl⟩
      have hih : i ≤ h ∧ h < j := by omega
      obtain ⟨u, hu⟩ : ∃ u, pp - h = u := ⟨_, rfl⟩
      obtain ⟨su, hsu⟩ : ∃ s, d[u]! = s := ⟨_, rfl⟩
      obtain ⟨sv, hsv⟩ : ∃ s, d[h]! = s := ⟨_, rfl⟩
      have hud : u < d.size := by omega
      have hvd : h < d.size := by omega
      have bu := HS.out.1.bd u hud
      have bv := HS.out.1.bd h hvd
      rw [hsu] at bu
      rw [hsv] at bv
      have HC := Lib.hid (fun w => cmp_is su sv w bu bv)
      have u0 : ∀ V : World, SR w0 k d V → V.cell? ⟨k, u * 3, none⟩ = some (.int .i64 su.q) := fun V h => by have q := (h.cell hud).1; rw [hsu] at q; exact q
      have u1 : ∀ V : World, SR w0 k d V → V.cell? ⟨k, u * 3 + 1, none⟩ = some (.int .i64 su.r) := fun V h => by have q := (h.cell hud).2.1; rw [hsu] at q; exact q
      have u2 : ∀ V : World, SR w0 k d V → V.cell? ⟨k, u * 3 + 2, none⟩ = some (.int .i64 su.p) := fun V h => by have q := (h.cell hud).2.2; rw [hsu] at q; exact q
      have v0 : ∀ V : World, SR w0 k d V → V.cell? ⟨k, h * 3, none⟩ = some (.int .i64 sv.q) := fun V h => by have q := (h.cell hvd).1; rw [hsv] at q; exact q
      have v1 : ∀ V : World, SR w0 k d V → V.cell? ⟨k, h * 3 + 1, none⟩ = some (.int .i64 sv.r) := fun V h => by have q := (h.cell hvd).2.1; rw [hsv] at q; exact q
      have v2 : ∀ V : World, SR w0 k d V → V.cell? ⟨k, h * 3 + 2, none⟩ = some (.int .i64 sv.p) := fun V h => by have q := (h.cell hvd).2.2; rw [hsv] at q; exact q
      have EH := Lib.hid (show wrap64 (IntKind.u64.wrap (wrap64 ((i : Int) + (j : Int))) / 2) = (h : Int) by rw [mid_w i j (by omega), hh])
      have R7 := Lib.hid (show wrap64 ((pp : Int) - (h : Int)) = (u : Int) by unfold wrap64; omega)
      have th : ((h : Int)).toNat = h := by omega
      have ph : ((0 : Int) ≤ (h : Int)) = True := eq_true (by omega)
      have lh : ((h : Int) < (z : Int)) = True := eq_true (by omega)
      have tu : ((u : Int)).toNat = u := by omega
      have pu : ((0 : Int) ≤ (u : Int)) = True := eq_true (by omega)
      have lu : ((u : Int) < (z : Int)) = True := eq_true (by omega)
      have HU := Lib.hid hu
      clear hb hk hn hu
      have r7 := R7.out
      have r9 : IntKind.i64.wrap ((pp : Int) - (h : Int)) = (u : Int) := (Go.Proofs.YtlllgfkdapjomaaW.PrintLast.i64_w _).trans R7.out
      go_upto_region 35 with fail
      rw [EH.out]
      clear hh
      by_cases hlt : cmpV su sv < 0
      · have c1 : decide (cmpV su sv < 0) = true := decide_eq_true hlt
        have KD := Lib.hid HS.out.1.drew
        have KW := Lib.hid HS.out.1
        go_region_held3 (fun w' => SR w0 k d w')
            (first | with_reducible exact KD.out | with_reducible exact K5 | (go_split_ands; with_reducible (repeat (first | assumption | exact K5 | refine SR.drew ?_))))
            (first | (go_at_call 18; go_split_ands; refine (HC.out _).mono ?_; rintro e w5 ⟨rfl, B5⟩; have K5 := SR.below (by assumption) B5))
        all_goals go_wp2
        go_roundg k1
        case measure => omega
        case rel =>
          have hb := HB.out
          have hk := HK.out
          have hn := HN.out
          have hu := HU.out
          clear r7 r9
          refine ⟨i, h, rfl, rfl, ⟨by omega⟩, ⟨K5, HS.out.2.1, fun g q1 q2 => ?_⟩⟩
          have hl : St.lt d[pp - h]! d[h]! = true := by rw [hu, hsu, hsv, lt_def]; exact c1
          exact mono_yes H1.out H2.out (by omega) q1 (by omega) (by omega) (by omega) hl
      · have c1 : decide (cmpV su sv < 0) = false := decide_eq_false hlt
        have KD := Lib.hid HS.out.1.drew
        have KW := Lib.hid HS.out.1
        go_region_held3 (fun w' => SR w0 k d w')
            (first | with_reducible exact KD.out | with_reducible exact K5 | (go_split_ands; with_reducible (repeat (first | assumption | exact K5 | refine SR.drew ?_))))
            (first | (go_at_call 18; go_split_ands; refine (HC.out _).mono ?_; rintro e w5 ⟨rfl, B5⟩; have K5 := SR.below (by assumption) B5))
        have E1 := Lib.hid (show wrap64 ((h : Int) + 1) = ((h + 1 : Nat) : Int) by clear r7 r9; unfold wrap64; have := HB.out; omega)
        all_goals go_wp2
        go_roundg k1
        case measure => omega
        case rel =>
          have hb := HB.out
          have hk := HK.out
          have hn := HN.out
          have hu := HU.out
          clear r7 r9
          refine ⟨h + 1, j, by rw [E1.out], rfl, ⟨by omega⟩, ⟨K5, fun g q1 q2 => ?_, HS.out.2.2⟩⟩
          have hl : St.lt d[pp - h]! d[h]! = false := by rw [hu, hsu, hsv, lt_def]; exact c1
          exact mono_no H1.out H2.out (by omega) (by omega) (by omega) (by omega) (by omega) hl
    · obtain rfl : i = j := by omega
      obtain ⟨e, he⟩ : ∃ e, nn - i = e := ⟨_, rfl⟩
      have R8 := Lib.hid (show wrap64 ((nn : Int) - (i : Int)) = (e : Int) by unfold wrap64; omega)
      have hcut : Cut St.lt a m b i e d := by
        refine ⟨by omega, by omega, by omega, by omega, ?_, ?_⟩
        · by_cases q : i = a
          · exact .inl q
          · refine .inr (.inr ?_)
            have := HS.out.2.1 (i - 1) (by omega) (by omega)
            rw [show pp - (i - 1) = e by omega] at this
            exact this
        · by_cases q : i = m
          · exact .inr (.inl q)
          · refine .inr (.inr ?_)
            have := HS.out.2.2 i (Nat.le_refl _) (by omega)
            rw [show pp - i = e - 1 by omega] at this
            exact this
      have HCU := Lib.hid (And.intro hcut (show i + e = mid + m by omega))
      have HZ := Lib.hid HS.out.1
      have hsm := hcut.sm
      have hme := hcut.me
      clear hk HS HK hcut
      have r8 := R8.out
      clear hn he hb
      go_upto_region 39 with fail
      rw [r8]
      clear r8
      have hb := HB.out
      have he : i + e = mid + m := HCU.out.2
      have hn := hb
      by_cases hr1 : i < m
      · by_cases hr2 : m < e
        · have HR0 := Lib.hid (fun w (h : SR w0 k d w) => rotate_is w0 w k cap i m e z d fv h hb.2.2.2.2 hr1 hr2 (by have := HCU.out.1.eb; omega) hb.2.2.2.1)
          clear hb hn he hsm hme
          go_wp2_with fail
          refine (HR0.out _ HZ.out).mono ?_
          rintro e1 w1 ⟨rfl, d1, S1, X1, P1⟩
          have HR := Lib.hid (show SR w0 k d1 w1 ∧ Rot i m e d d1 ∧ PermIn a b d d1 from ⟨S1, X1, permIn_mono d d1 i e a b HCU.out.1.as HCU.out.1.eb (by have := HB.out; omega) P1⟩)
          clear S1 X1 P1 HR0 HZ
          have hp := halves_in swo ⟨HB.out.1, HB.out.2.1⟩ HN.out.1.symm HCU.out.2 HCU.out.1 H1.out H2.out HR.out.2.1
          have HP := Lib.hid hp
          have hl1 := hp.1
          have hl2 := hp.2.1
          clear hp
          have hs1 : d1.size = z := HR.out.2.2.1.trans HB.out.2.2.2.2
          by_cases hq1 : a < i
          · by_cases hq2 : i < mid
            · have HL0 := Lib.hid (HIH.out a i mid d1 _ (by have := HB.out; have := HP.out; omega) HR.out.1 hs1 hq1 hq2 (by have := HB.out; have := HP.out; omega) HP.out.2.2.2.2.1 HP.out.2.2.2.2.2.1)
              clear hs1 hl1 hl2
              go_wp2_with fail
              refine HL0.out.mono ?_
              rintro e2 w2 ⟨rfl, d2, S2, P2, Q2⟩
              have HL := Lib.hid (show SR w0 k d2 w2 ∧ PermIn a mid d1 d2 ∧ SortedIn St.lt a mid d2 from ⟨S2, P2, Q2⟩)
              clear S2 P2 Q2 HL0
              have hs2 : d2.size = z := HL.out.2.1.1.trans (HR.out.2.2.1.trans HB.out.2.2.2.2)
              have HF2 := Lib.hid (And.intro (sorted_far HP.out.2.2.2.2.2.2.1 HL.out.2.1 (.inr (Nat.le_refl _))) (sorted_far HP.out.2.2.2.2.2.2.2.1 HL.out.2.1 (.inr (by have := HP.out; omega))))
              by_cases hv1 : mid < e
              · by_cases hv2 : e < b
                · have HG0 := Lib.hid (HIH.out mid e b d2 _ (by have := HB.out; have := HP.out; omega) HL.out.1 hs2 hv1 hv2 HB.out.2.2.1 HF2.out.1 HF2.out.2)
                  clear hs2
                  go_wp2_with fail
                  refine HG0.out.mono ?_
                  rintro e3 w3 ⟨rfl, d3, S3, P3, Q3⟩
                  have HG := Lib.hid (show SR w0 k d3 w3 ∧ PermIn mid b d2 d3 ∧ SortedIn St.lt mid b d3 from ⟨S3, P3, Q3⟩)
                  clear S3 P3 Q3 HG0
                  go_wp2
                  go_end0
                  have hb := HB.out
                  have hp := HP.out
                  exact ⟨rfl, d3, HG.out.1, permIn_trans _ _ _ a b HR.out.2.2 (permIn_trans _ _ _ a b (permIn_mono _ _ a mid a b (Nat.le_refl _) (by omega) (by rw [HR.out.2.2.1]; omega) HL.out.2.1) (permIn_mono _ _ mid b a b (by omega) (Nat.le_refl _) (by rw [HL.out.2.1.1, HR.out.2.2.1]; omega) HG.out.2.1)), halves (by rw [HR.out.2.2.1]; omega) (by omega) hp.2.2.2.2.2.2.2.2 HL.out.2.1 HL.out.2.2 HG.out.2.1 HG.out.2.2⟩
                · have HG := Lib.hid (show SR w0 k d2 _ ∧ PermIn mid b d2 d2 ∧ SortedIn St.lt mid b d2 from ⟨HL.out.1, permIn_refl _ mid b, by have q := HF2.out.1; rw [show e = b by have := HCU.out.1.eb; omega] at q; exact q⟩)
                  clear hs2
                  go_wp2
                  go_end0
                  have hb := HB.out
                  have hp := HP.out
                  exact ⟨rfl, d2, HG.out.1, permIn_trans _ _ _ a b HR.out.2.2 (permIn_trans _ _ _ a b (permIn_mono _ _ a mid a b (Nat.le_refl _) (by omega) (by rw [HR.out.2.2.1]; omega) HL.out.2.1) (permIn_mono _ _ mid b a b (by omega) (Nat.le_refl _) (by rw [HL.out.2.1.1, HR.out.2.2.1]; omega) HG.out.2.1)), halves (by rw [HR.out.2.2.1]; omega) (by omega) hp.2.2.2.2.2.2.2.2 HL.out.2.1 HL.out.2.2 HG.out.2.1 HG.out.2.2⟩
              · have HG := Lib.hid (show SR w0 k d2 _ ∧ PermIn mid b d2 d2 ∧ SortedIn St.lt mid b d2 from ⟨HL.out.1, permIn_refl _ mid b, by have q := HF2.out.2; rw [show e = mid by have := HP.out; omega] at q; exact q⟩)
                clear hs2
                go_wp2
                go_end0
                have hb := HB.out
                have hp := HP.out
                exact ⟨rfl, d2, HG.out.1, permIn_trans _ _ _ a b HR.out.2.2 (permIn_trans _ _ _ a b (permIn_mono _ _ a mid a b (Nat.le_refl _) (by omega) (by rw [HR.out.2.2.1]; omega) HL.out.2.1) (permIn_mono _ _ mid b a b (by omega) (Nat.le_refl _) (by rw [HL.out.2.1.1, HR.out.2.2.1]; omega) HG.out.2.1)), halves (by rw [HR.out.2.2.1]; omega) (by omega) hp.2.2.2.2.2.2.2.2 HL.out.2.1 HL.out.2.2 HG.out.2.1 HG.out.2.2⟩
            · have HL := Lib.hid (show SR w0 k d1 _ ∧ PermIn a mid d1 d1 ∧ SortedIn St.lt a mid d1 from ⟨HR.out.1, permIn_refl _ a mid, by have q := HP.out.2.2.2.2.1; rw [show i = mid by omega] at q; exact q⟩)
              clear hs1 hl1 hl2
              have hs2 : d1.size = z := HL.out.2.1.1.trans (HR.out.2.2.1.trans HB.out.2.2.2.2)
              have HF2 := Lib.hid (And.intro (sorted_far HP.out.2.2.2.2.2.2.1 HL.out.2.1 (.inr (Nat.le_refl _))) (sorted_far HP.out.2.2.2.2.2.2.2.1 HL.out.2.1 (.inr (by have := HP.out; omega))))
              by_cases hv1 : mid < e
              · by_cases hv2 : e < b
                · have HG0 := Lib.hid (HIH.out mid e b d1 _ (by have := HB.out; have := HP.out; omega) HL.out.1 hs2 hv1 hv2 HB.out.2.2.1 HF2.out.1 HF2.out.2)
                  clear hs2
                  go_wp2_with fail
                  refine HG0.out.mono ?_
                  rintro e3 w3 ⟨rfl, d3, S3, P3, Q3⟩
                  have HG := Lib.hid (show SR w0 k d3 w3 ∧ PermIn mid b d1 d3 ∧ SortedIn St.lt mid b d3 from ⟨S3, P3, Q3⟩)
                  clear S3 P3 Q3 HG0
                  go_wp2
                  go_end0
                  have hb := HB.out
                  have hp := HP.out
                  exact ⟨rfl, d3, HG.out.1, permIn_trans _ _ _ a b HR.out.2.2 (permIn_trans _ _ _ a b (permIn_mono _ _ a mid a b (Nat.le_refl _) (by omega) (by rw [HR.out.2.2.1]; omega) HL.out.2.1) (permIn_mono _ _ mid b a b (by omega) (Nat.le_refl _) (by rw [HL.out.2.1.1, HR.out.2.2.1]; omega) HG.out.2.1)), halves (by rw [HR.out.2.2.1]; omega) (by omega) hp.2.2.2.2.2.2.2.2 HL.out.2.1 HL.out.2.2 HG.out.2.1 HG.out.2.2⟩
                · have HG := Lib.hid (show SR w0 k d1 _ ∧ PermIn mid b d1 d1 ∧ SortedIn St.lt mid b d1 from ⟨HL.out.1, permIn_refl _ mid b, by have q := HF2.out.1; rw [show e = b by have := HCU.out.1.eb; omega] at q; exact q⟩)
                  clear hs2
                  go_wp2
                  go_end0
                  have hb := HB.out
                  have hp := HP.out
                  exact ⟨rfl, d1, HG.out.1, permIn_trans _ _ _ a b HR.out.2.2 (permIn_trans _ _ _ a b (permIn_mono _ _ a mid a b (Nat.le_refl _) (by omega) (by rw [HR.out.2.2.1]; omega) HL.out.2.1) (permIn_mono _ _ mid b a b (by omega) (Nat.le_refl _) (by rw [HL.out.2.1.1, HR.out.2.2.1]; omega) HG.out.2.1)), halves (by rw [HR.out.2.2.1]; omega) (by omega) hp.2.2.2.2.2.2.2.2 HL.out.2.1 HL.out.2.2 HG.out.2.1 HG.out.2.2⟩
              · have HG := Lib.hid (show SR w0 k d1 _ ∧ PermIn mid b d1 d1 ∧ SortedIn St.lt mid b d1 from ⟨HL.out.1, permIn_refl _ mid b, by have q := HF2.out.2; rw [show e = mid by have := HP.out; omega] at q; exact q⟩)
                clear hs2
                go_wp2
                go_end0
                have hb := HB.out
                have hp := HP.out
                exact ⟨rfl, d1, HG.out.1, permIn_trans _ _ _ a b HR.out.2.2 (permIn_trans _ _ _ a b (permIn_mono _ _ a mid a b (Nat.le_refl _) (by omega) (by rw [HR.out.2.2.1]; omega) HL.out.2.1) (permIn_mono _ _ mid b a b (by omega) (Nat.le_refl _) (by rw [HL.out.2.1.1, HR.out.2.2.1]; omega) HG.out.2.1)), halves (by rw [HR.out.2.2.1]; omega) (by omega) hp.2.2.2.2.2.2.2.2 HL.out.2.1 HL.out.2.2 HG.out.2.1 HG.out.2.2⟩
          · have HL := Lib.hid (show SR w0 k d1 _ ∧ PermIn a mid d1 d1 ∧ SortedIn St.lt a mid d1 from ⟨HR.out.1, permIn_refl _ a mid, by have q := HP.out.2.2.2.2.2.1; rw [show i = a by have := HCU.out.1.as; omega] at q; exact q⟩)
            clear hs1 hl1 hl2
            have hs2 : d1.size = z := HL.out.2.1.1.trans (HR.out.2.2.1.trans HB.out.2.2.2.2)
            have HF2 := Lib.hid (And.intro (sorted_far HP.out.2.2.2.2.2.2.1 HL.out.2.1 (.inr (Nat.le_refl _))) (sorted_far HP.out.2.2.2.2.2.2.2.1 HL.out.2.1 (.inr (by have := HP.out; omega))))
            by_cases hv1 : mid < e
            · by_cases hv2 : e < b
              · have HG0 := Lib.hid (HIH.out mid e b d1 _ (by have := HB.out; have := HP.out; omega) HL.out.1 hs2 hv1 hv2 HB.out.2.2.1 HF2.out.1 HF2.out.2)
                clear hs2
                go_wp2_with fail
                refine HG0.out.mono ?_
                rintro e3 w3 ⟨rfl, d3, S3, P3, Q3⟩
                have HG := Lib.hid (show SR w0 k d3 w3 ∧ PermIn mid b d1 d3 ∧ SortedIn St.lt mid b d3 from ⟨S3, P3, Q3⟩)
                clear S3 P3 Q3 HG0
                go_wp2
                go_end0
                have hb := HB.out
                have hp := HP.out
                exact ⟨rfl, d3, HG.out.1, permIn_trans _ _ _ a b HR.out.2.2 (permIn_trans _ _ _ a b (permIn_mono _ _ a mid a b (Nat.le_refl _) (by omega) (by rw [HR.out.2.2.1]; omega) HL.out.2.1) (permIn_mono _ _ mid b a b (by omega) (Nat.le_refl _) (by rw [HL.out.2.1.1, HR.out.2.2.1]; omega) HG.out.2.1)), halves (by rw [HR.out.2.2.1]; omega) (by omega) hp.2.2.2.2.2.2.2.2 HL.out.2.1 HL.out.2.2 HG.out.2.1 HG.out.2.2⟩
              · have HG := Lib.hid (show SR w0 k d1 _ ∧ PermIn mid b d1 d1 ∧ SortedIn St.lt mid b d1 from ⟨HL.out.1, permIn_refl _ mid b, by have q := HF2.out.1; rw [show e = b by have := HCU.out.1.eb; omega] at q; exact q⟩)
                clear hs2
                go_wp2
                go_end0
                have hb := HB.out
                have hp := HP.out
                exact ⟨rfl, d1, HG.out.1, permIn_trans _ _ _ a b HR.out.2.2 (permIn_trans _ _ _ a b (permIn_mono _ _ a mid a b (Nat.le_refl _) (by omega) (by rw [HR.out.2.2.1]; omega) HL.out.2.1) (permIn_mono _ _ mid b a b (by omega) (Nat.le_refl _) (by rw [HL.out.2.1.1, HR.out.2.2.1]; omega) HG.out.2.1)), halves (by rw [HR.out.2.2.1]; omega) (by omega) hp.2.2.2.2.2.2.2.2 HL.out.2.1 HL.out.2.2 HG.out.2.1 HG.out.2.2⟩
            · have HG := Lib.hid (show SR w0 k d1 _ ∧ PermIn mid b d1 d1 ∧ SortedIn St.lt mid b d1 from ⟨HL.out.1, permIn_refl _ mid b, by have q := HF2.out.2; rw [show e = mid by have := HP.out; omega] at q; exact q⟩)
              clear hs2
              go_wp2
              go_end0
              have hb := HB.out
              have hp := HP.out
              exact ⟨rfl, d1, HG.out.1, permIn_trans _ _ _ a b HR.out.2.2 (permIn_trans _ _ _ a b (permIn_mono _ _ a mid a b (Nat.le_refl _) (by omega) (by rw [HR.out.2.2.1]; omega) HL.out.2.1) (permIn_mono _ _ mid b a b (by omega) (Nat.le_refl _) (by rw [HL.out.2.1.1, HR.out.2.2.1]; omega) HG.out.2.1)), halves (by rw [HR.out.2.2.1]; omega) (by omega) hp.2.2.2.2.2.2.2.2 HL.out.2.1 HL.out.2.2 HG.out.2.1 HG.out.2.2⟩
        · have HR := Lib.hid (show SR w0 k d wr ∧ Rot i m e d d ∧ PermIn a b d d from ⟨HZ.out, by rw [show e = m by omega]; exact Rot.nil2 i m d, permIn_refl d a b⟩)
          clear hb hn he hsm hme HZ
          have hp := halves_in swo ⟨HB.out.1, HB.out.2.1⟩ HN.out.1.symm HCU.out.2 HCU.out.1 H1.out H2.out HR.out.2.1
          have HP := Lib.hid hp
          have hl1 := hp.1
          have hl2 := hp.2.1
          clear hp
          have hs1 : d.size = z := HR.out.2.2.1.trans HB.out.2.2.2.2
          by_cases hq1 : a < i
          · by_cases hq2 : i < mid
            · have HL0 := Lib.hid (HIH.out a i mid d _ (by have := HB.out; have := HP.out; omega) HR.out.1 hs1 hq1 hq2 (by have := HB.out; have := HP.out; omega) HP.out.2.2.2.2.1 HP.out.2.2.2.2.2.1)
              clear hs1 hl1 hl2
              go_wp2_with fail
              refine HL0.out.mono ?_
              rintro e2 w2 ⟨rfl, d2, S2, P2, Q2⟩
              have HL := Lib.hid (show SR w0 k d2 w2 ∧ PermIn a mid d d2 ∧ SortedIn St.lt a mid d2 from ⟨S2, P2, Q2⟩)
              clear S2 P2 Q2 HL0
              have hs2 : d2.size = z := HL.out.2.1.1.trans (HR.out.2.2.1.trans HB.out.2.2.2.2)
              have HF2 := Lib.hid (And.intro (sorted_far HP.out.2.2.2.2.2.2.1 HL.out.2.1 (.inr (Nat.le_refl _))) (sorted_far HP.out.2.2.2.2.2.2.2.1 HL.out.2.1 (.inr (by have := HP.out; omega))))
              by_cases hv1 : mid < e
              · by_cases hv2 : e < b
                · have HG0 := Lib.hid (HIH.out mid e b d2 _ (by have := HB.out; have := HP.out; omega) HL.out.1 hs2 hv1 hv2 HB.out.2.2.1 HF2.out.1 HF2.out.2)
                  clear hs2
                  go_wp2_with fail
                  refine HG0.out.mono ?_
                  rintro e3 w3 ⟨rfl, d3, S3, P3, Q3⟩
                  have HG := Lib.hid (show SR w0 k d3 w3 ∧ PermIn mid b d2 d3 ∧ SortedIn St.lt mid b d3 from ⟨S3, P3, Q3⟩)
                  clear S3 P3 Q3 HG0
                  go_wp2
                  go_end0
                  have hb := HB.out
                  have hp := HP.out
                  exact ⟨rfl, d3, HG.out.1, permIn_trans _ _ _ a b HR.out.2.2 (permIn_trans _ _ _ a b (permIn_mono _ _ a mid a b (Nat.le_refl _) (by omega) (by rw [HR.out.2.2.1]; omega) HL.out.2.1) (permIn_mono _ _ mid b a b (by omega) (Nat.le_refl _) (by rw [HL.out.2.1.1, HR.out.2.2.1]; omega) HG.out.2.1)), halves (by rw [HR.out.2.2.1]; omega) (by omega) hp.2.2.2.2.2.2.2.2 HL.out.2.1 HL.out.2.2 HG.out.2.1 HG.out.2.2⟩
                · have HG := Lib.hid (show SR w0 k d2 _ ∧ PermIn mid b d2 d2 ∧ SortedIn St.lt mid b d2 from ⟨HL.out.1, permIn_refl _ mid b, by have q := HF2.out.1; rw [show e = b by have := HCU.out.1.eb; omega] at q; exact q⟩)
                  clear hs2
                  go_wp2
                  go_end0
                  have hb := HB.out
                  have hp := HP.out
                  exact ⟨rfl, d2, HG.out.1, permIn_trans _ _ _ a b HR.out.2.2 (permIn_trans _ _ _ a b (permIn_mono _ _ a mid a b (Nat.le_refl _) (by omega) (by rw [HR.out.2.2.1]; omega) HL.out.2.1) (permIn_mono _ _ mid b a b (by omega) (Nat.le_refl _) (by rw [HL.out.2.1.1, HR.out.2.2.1]; omega) HG.out.2.1)), halves (by rw [HR.out.2.2.1]; omega) (by omega) hp.2.2.2.2.2.2.2.2 HL.out.2.1 HL.out.2.2 HG.out.2.1 HG.out.2.2⟩
              · have HG := Lib.hid (show SR w0 k d2 _ ∧ PermIn mid b d2 d2 ∧ SortedIn St.lt mid b d2 from ⟨HL.out.1, permIn_refl _ mid b, by have q := HF2.out.2; rw [show e = mid by have := HP.out; omega] at q; exact q⟩)
                clear hs2
                go_wp2
                go_end0
                have hb := HB.out
                have hp := HP.out
                exact ⟨rfl, d2, HG.out.1, permIn_trans _ _ _ a b HR.out.2.2 (permIn_trans _ _ _ a b (permIn_mono _ _ a mid a b (Nat.le_refl _) (by omega) (by rw [HR.out.2.2.1]; omega) HL.out.2.1) (permIn_mono _ _ mid b a b (by omega) (Nat.le_refl _) (by rw [HL.out.2.1.1, HR.out.2.2.1]; omega) HG.out.2.1)), halves (by rw [HR.out.2.2.1]; omega) (by omega) hp.2.2.2.2.2.2.2.2 HL.out.2.1 HL.out.2.2 HG.out.2.1 HG.out.2.2⟩
            · have HL := Lib.hid (show SR w0 k d _ ∧ PermIn a mid d d ∧ SortedIn St.lt a mid d from ⟨HR.out.1, permIn_refl _ a mid, by have q := HP.out.2.2.2.2.1; rw [show i = mid by omega] at q; exact q⟩)
              clear hs1 hl1 hl2
              have hs2 : d.size = z := HL.out.2.1.1.trans (HR.out.2.2.1.trans HB.out.2.2.2.2)
              have HF2 := Lib.hid (And.intro (sorted_far HP.out.2.2.2.2.2.2.1 HL.out.2.1 (.inr (Nat.le_refl _))) (sorted_far HP.out.2.2.2.2.2.2.2.1 HL.out.2.1 (.inr (by have := HP.out; omega))))
              by_cases hv1 : mid < e
              · by_cases hv2 : e < b
                · have HG0 := Lib.hid (HIH.out mid e b d _ (by have := HB.out; have := HP.out; omega) HL.out.1 hs2 hv1 hv2 HB.out.2.2.1 HF2.out.1 HF2.out.2)
                  clear hs2
                  go_wp2_with fail
                  refine HG0.out.mono ?_
                  rintro e3 w3 ⟨rfl, d3, S3, P3, Q3⟩
                  have HG := Lib.hid (show SR w0 k d3 w3 ∧ PermIn mid b d d3 ∧ SortedIn St.lt mid b d3 from ⟨S3, P3, Q3⟩)
                  clear S3 P3 Q3 HG0
                  go_wp2
                  go_end0
                  have hb := HB.out
                  have hp := HP.out
                  exact ⟨rfl, d3, HG.out.1, permIn_trans _ _ _ a b HR.out.2.2 (permIn_trans _ _ _ a b (permIn_mono _ _ a mid a b (Nat.le_refl _) (by omega) (by rw [HR.out.2.2.1]; omega) HL.out.2.1) (permIn_mono _ _ mid b a b (by omega) (Nat.le_refl _) (by rw [HL.out.2.1.1, HR.out.2.2.1]; omega) HG.out.2.1)), halves (by rw [HR.out.2.2.1]; omega) (by omega) hp.2.2.2.2.2.2.2.2 HL.out.2.1 HL.out.2.2 HG.out.2.1 HG.out.2.2⟩
                · have HG := Lib.hid (show SR w0 k d _ ∧ PermIn mid b d d ∧ SortedIn St.lt mid b d from ⟨HL.out.1, permIn_refl _ mid b, by have q := HF2.out.1; rw [show e = b by have := HCU.out.1.eb; omega] at q; exact q⟩)
                  clear hs2
                  go_wp2
                  go_end0
                  have hb := HB.out
                  have hp := HP.out
                  exact ⟨rfl, d, HG.out.1, permIn_trans _ _ _ a b HR.out.2.2 (permIn_trans _ _ _ a b (permIn_mono _ _ a mid a b (Nat.le_refl _) (by omega) (by rw [HR.out.2.2.1]; omega) HL.out.2.1) (permIn_mono _ _ mid b a b (by omega) (Nat.le_refl _) (by rw [HL.out.2.1.1, HR.out.2.2.1]; omega) HG.out.2.1)), halves (by rw [HR.out.2.2.1]; omega) (by omega) hp.2.2.2.2.2.2.2.2 HL.out.2.1 HL.out.2.2 HG.out.2.1 HG.out.2.2⟩
              · have HG := Lib.hid (show SR w0 k d _ ∧ PermIn mid b d d ∧ SortedIn St.lt mid b d from ⟨HL.out.1, permIn_refl _ mid b, by have q := HF2.out.2; rw [show e = mid by have := HP.out; omega] at q; exact q⟩)
                clear hs2
                go_wp2
                go_end0
                have hb := HB.out
                have hp := HP.out
                exact ⟨rfl, d, HG.out.1, permIn_trans _ _ _ a b HR.out.2.2 (permIn_trans _ _ _ a b (permIn_mono _ _ a mid a b (Nat.le_refl _) (by omega) (by rw [HR.out.2.2.1]; omega) HL.out.2.1) (permIn_mono _ _ mid b a b (by omega) (Nat.le_refl _) (by rw [HL.out.2.1.1, HR.out.2.2.1]; omega) HG.out.2.1)), halves (by rw [HR.out.2.2.1]; omega) (by omega) hp.2.2.2.2.2.2.2.2 HL.out.2.1 HL.out.2.2 HG.out.2.1 HG.out.2.2⟩
          · have HL := Lib.hid (show SR w0 k d _ ∧ PermIn a mid d d ∧ SortedIn St.lt a mid d from ⟨HR.out.1, permIn_refl _ a mid, by have q := HP.out.2.2.2.2.2.1; rw [show i = a by have := HCU.out.1.as; omega] at q; exact q⟩)
            clear hs1 hl1 hl2
            have hs2 : d.size = z := HL.out.2.1.1.trans (HR.out.2.2.1.trans HB.out.2.2.2.2)
            have HF2 := Lib.hid (And.intro (sorted_far HP.out.2.2.2.2.2.2.1 HL.out.2.1 (.inr (Nat.le_refl _))) (sorted_far HP.out.2.2.2.2.2.2.2.1 HL.out.2.1 (.inr (by have := HP.out; omega))))
            by_cases hv1 : mid < e
            · by_cases hv2 : e < b
              · have HG0 := Lib.hid (HIH.out mid e b d _ (by have := HB.out; have := HP.out; omega) HL.out.1 hs2 hv1 hv2 HB.out.2.2.1 HF2.out.1 HF2.out.2)
                clear hs2
                go_wp2_with fail
                refine HG0.out.mono ?_
                rintro e3 w3 ⟨rfl, d3, S3, P3, Q3⟩
                have HG := Lib.hid (show SR w0 k d3 w3 ∧ PermIn mid b d d3 ∧ SortedIn St.lt mid b d3 from ⟨S3, P3, Q3⟩)
                clear S3 P3 Q3 HG0
                go_wp2
                go_end0
                have hb := HB.out
                have hp := HP.out
                exact ⟨rfl, d3, HG.out.1, permIn_trans _ _ _ a b HR.out.2.2 (permIn_trans _ _ _ a b (permIn_mono _ _ a mid a b (Nat.le_refl _) (by omega) (by rw [HR.out.2.2.1]; omega) HL.out.2.1) (permIn_mono _ _ mid b a b (by omega) (Nat.le_refl _) (by rw [HL.out.2.1.1, HR.out.2.2.1]; omega) HG.out.2.1)), halves (by rw [HR.out.2.2.1]; omega) (by omega) hp.2.2.2.2.2.2.2.2 HL.out.2.1 HL.out.2.2 HG.out.2.1 HG.out.2.2⟩
              · have HG := Lib.hid (show SR w0 k d _ ∧ PermIn mid b d d ∧ SortedIn St.lt mid b d from ⟨HL.out.1, permIn_refl _ mid b, by have q := HF2.out.1; rw [show e = b by have := HCU.out.1.eb; omega] at q; exact q⟩)
                clear hs2
                go_wp2
                go_end0
                have hb := HB.out
                have hp := HP.out
                exact ⟨rfl, d, HG.out.1, permIn_trans _ _ _ a b HR.out.2.2 (permIn_trans _ _ _ a b (permIn_mono _ _ a mid a b (Nat.le_refl _) (by omega) (by rw [HR.out.2.2.1]; omega) HL.out.2.1) (permIn_mono _ _ mid b a b (by omega) (Nat.le_refl _) (by rw [HL.out.2.1.1, HR.out.2.2.1]; omega) HG.out.2.1)), halves (by rw [HR.out.2.2.1]; omega) (by omega) hp.2.2.2.2.2.2.2.2 HL.out.2.1 HL.out.2.2 HG.out.2.1 HG.out.2.2⟩
            · have HG := Lib.hid (show SR w0 k d _ ∧ PermIn mid b d d ∧ SortedIn St.lt mid b d from ⟨HL.out.1, permIn_refl _ mid b, by have q := HF2.out.2; rw [show e = mid by have := HP.out; omega] at q; exact q⟩)
              clear hs2
              go_wp2
              go_end0
              have hb := HB.out
              have hp := HP.out
              exact ⟨rfl, d, HG.out.1, permIn_trans _ _ _ a b HR.out.2.2 (permIn_trans _ _ _ a b (permIn_mono _ _ a mid a b (Nat.le_refl _) (by omega) (by rw [HR.out.2.2.1]; omega) HL.out.2.1) (permIn_mono _ _ mid b a b (by omega) (Nat.le_refl _) (by rw [HL.out.2.1.1, HR.out.2.2.1]; omega) HG.out.2.1)), halves (by rw [HR.out.2.2.1]; omega) (by omega) hp.2.2.2.2.2.2.2.2 HL.out.2.1 HL.out.2.2 HG.out.2.1 HG.out.2.2⟩
      · have HR := Lib.hid (show SR w0 k d wr ∧ Rot i m e d d ∧ PermIn a b d d from ⟨HZ.out, by rw [show i = m by omega]; exact Rot.nil1 m e d, permIn_refl d a b⟩)
        clear hb hn he hsm hme HZ
        have hp := halves_in swo ⟨HB.out.1, HB.out.2.1⟩ HN.out.1.symm HCU.out.2 HCU.out.1 H1.out H2.out HR.out.2.1
        have HP := Lib.hid hp
        have hl1 := hp.1
        have hl2 := hp.2.1
        clear hp
        have hs1 : d.size = z := HR.out.2.2.1.trans HB.out.2.2.2.2
        by_cases hq1 : a < i
        · by_cases hq2 : i < mid
          · have HL0 := Lib.hid (HIH.out a i mid d _ (by have := HB.out; have := HP.out; omega) HR.out.1 hs1 hq1 hq2 (by have := HB.out; have := HP.out; omega) HP.out.2.2.2.2.1 HP.out.2.2.2.2.2.1)
            clear hs1 hl1 hl2
            go_wp2_with fail
            refine HL0.out.mono ?_
            rintro e2 w2 ⟨rfl, d2, S2, P2, Q2⟩
            have HL := Lib.hid (show SR w0 k d2 w2 ∧ PermIn a mid d d2 ∧ SortedIn St.lt a mid d2 from ⟨S2, P2, Q2⟩)
            clear S2 P2 Q2 HL0
            have hs2 : d2.size = z := HL.out.2.1.1.trans (HR.out.2.2.1.trans HB.out.2.2.2.2)
            have HF2 := Lib.hid (And.intro (sorted_far HP.out.2.2.2.2.2.2.1 HL.out.2.1 (.inr (Nat.le_refl _))) (sorted_far HP.out.2.2.2.2.2.2.2.1 HL.out.2.1 (.inr (by have := HP.out; omega))))
            by_cases hv1 : mid < e
            · by_cases hv2 : e < b
              · have HG0 := Lib.hid (HIH.out mid e b d2 _ (by have := HB.out; have := HP.out; omega) HL.out.1 hs2 hv1 hv2 HB.out.2.2.1 HF2.out.1 HF2.out.2)
                clear hs2
                go_wp2_with fail
                refine HG0.out.mono ?_
                rintro e3 w3 ⟨rfl, d3, S3, P3, Q3⟩
                have HG := Lib.hid (show SR w0 k d3 w3 ∧ PermIn mid b d2 d3 ∧ SortedIn St.lt mid b d3 from ⟨S3, P3, Q3⟩)
                clear S3 P3 Q3 HG0
                go_wp2
                go_end0
                have hb := HB.out
                have hp := HP.out
                exact ⟨rfl, d3, HG.out.1, permIn_trans _ _ _ a b HR.out.2.2 (permIn_trans _ _ _ a b (permIn_mono _ _ a mid a b (Nat.le_refl _) (by omega) (by rw [HR.out.2.2.1]; omega) HL.out.2.1) (permIn_mono _ _ mid b a b (by omega) (Nat.le_refl _) (by rw [HL.out.2.1.1, HR.out.2.2.1]; omega) HG.out.2.1)), halves (by rw [HR.out.2.2.1]; omega) (by omega) hp.2.2.2.2.2.2.2.2 HL.out.2.1 HL.out.2.2 HG.out.2.1 HG.out.2.2⟩
              · have HG := Lib.hid (show SR w0 k d2 _ ∧ PermIn mid b d2 d2 ∧ SortedIn St.lt mid b d2 from ⟨HL.out.1, permIn_refl _ mid b, by have q := HF2.out.1; rw [show e = b by have := HCU.out.1.eb; omega] at q; exact q⟩)
                clear hs2
                go_wp2
                go_end0
                have hb := HB.out
                have hp := HP.out
                exact ⟨rfl, d2, HG.out.1, permIn_trans _ _ _ a b HR.out.2.2 (permIn_trans _ _ _ a b (permIn_mono _ _ a mid a b (Nat.le_refl _) (by omega) (by rw [HR.out.2.2.1]; omega) HL.out.2.1) (permIn_mono _ _ mid b a b (by omega) (Nat.le_refl _) (by rw [HL.out.2.1.1, HR.out.2.2.1]; omega) HG.out.2.1)), halves (by rw [HR.out.2.2.1]; omega) (by omega) hp.2.2.2.2.2.2.2.2 HL.out.2.1 HL.out.2.2 HG.out.2.1 HG.out.2.2⟩
            · have HG := Lib.hid (show SR w0 k d2 _ ∧ PermIn mid b d2 d2 ∧ SortedIn St.lt mid b d2 from ⟨HL.out.1, permIn_refl _ mid b, by have q := HF2.out.2; rw [show e = mid by have := HP.out; omega] at q; exact q⟩)
              clear hs2
              go_wp2
              go_end0
              have hb := HB.out
              have hp := HP.out
              exact ⟨rfl, d2, HG.out.1, permIn_trans _ _ _ a b HR.out.2.2 (permIn_trans _ _ _ a b (permIn_mono _ _ a mid a b (Nat.le_refl _) (by omega) (by rw [HR.out.2.2.1]; omega) HL.out.2.1) (permIn_mono _ _ mid b a b (by omega) (Nat.le_refl _) (by rw [HL.out.2.1.1, HR.out.2.2.1]; omega) HG.out.2.1)), halves (by rw [HR.out.2.2.1]; omega) (by omega) hp.2.2.2.2.2.2.2.2 HL.out.2.1 HL.out.2.2 HG.out.2.1 HG.out.2.2⟩
          · have HL := Lib.hid (show SR w0 k d _ ∧ PermIn a mid d d ∧ SortedIn St.lt a mid d from ⟨HR.out.1, permIn_refl _ a mid, by have q := HP.out.2.2.2.2.1; rw [show i = mid by omega] at q; exact q⟩)
            clear hs1 hl1 hl2
            have hs2 : d.size = z := HL.out.2.1.1.trans (HR.out.2.2.1.trans HB.out.2.2.2.2)
            have HF2 := Lib.hid (And.intro (sorted_far HP.out.2.2.2.2.2.2.1 HL.out.2.1 (.inr (Nat.le_refl _))) (sorted_far HP.out.2.2.2.2.2.2.2.1 HL.out.2.1 (.inr (by have := HP.out; omega))))
            by_cases hv1 : mid < e
            · by_cases hv2 : e < b
              · have HG0 := Lib.hid (HIH.out mid e b d _ (by have := HB.out; have := HP.out; omega) HL.out.1 hs2 hv1 hv2 HB.out.2.2.1 HF2.out.1 HF2.out.2)
                clear hs2
                go_wp2_with fail
                refine HG0.out.mono ?_
                rintro e3 w3 ⟨rfl, d3, S3, P3, Q3⟩
                have HG := Lib.hid (show SR w0 k d3 w3 ∧ PermIn mid b d d3 ∧ SortedIn St.lt mid b d3 from ⟨S3, P3, Q3⟩)
                clear S3 P3 Q3 HG0
                go_wp2
                go_end0
                have hb := HB.out
                have hp := HP.out
                exact ⟨rfl, d3, HG.out.1, permIn_trans _ _ _ a b HR.out.2.2 (permIn_trans _ _ _ a b (permIn_mono _ _ a mid a b (Nat.le_refl _) (by omega) (by rw [HR.out.2.2.1]; omega) HL.out.2.1) (permIn_mono _ _ mid b a b (by omega) (Nat.le_refl _) (by rw [HL.out.2.1.1, HR.out.2.2.1]; omega) HG.out.2.1)), halves (by rw [HR.out.2.2.1]; omega) (by omega) hp.2.2.2.2.2.2.2.2 HL.out.2.1 HL.out.2.2 HG.out.2.1 HG.out.2.2⟩
              · have HG := Lib.hid (show SR w0 k d _ ∧ PermIn mid b d d ∧ SortedIn St.lt mid b d from ⟨HL.out.1, permIn_refl _ mid b, by have q := HF2.out.1; rw [show e = b by have := HCU.out.1.eb; omega] at q; exact q⟩)
                clear hs2
                go_wp2
                go_end0
                have hb := HB.out
                have hp := HP.out
                exact ⟨rfl, d, HG.out.1, permIn_trans _ _ _ a b HR.out.2.2 (permIn_trans _ _ _ a b (permIn_mono _ _ a mid a b (Nat.le_refl _) (by omega) (by rw [HR.out.2.2.1]; omega) HL.out.2.1) (permIn_mono _ _ mid b a b (by omega) (Nat.le_refl _) (by rw [HL.out.2.1.1, HR.out.2.2.1]; omega) HG.out.2.1)), halves (by rw [HR.out.2.2.1]; omega) (by omega) hp.2.2.2.2.2.2.2.2 HL.out.2.1 HL.out.2.2 HG.out.2.1 HG.out.2.2⟩
            · have HG := Lib.hid (show SR w0 k d _ ∧ PermIn mid b d d ∧ SortedIn St.lt mid b d from ⟨HL.out.1, permIn_refl _ mid b, by have q := HF2.out.2; rw [show e = mid by have := HP.out; omega] at q; exact q⟩)
              clear hs2
              go_wp2
              go_end0
              have hb := HB.out
              have hp := HP.out
              exact ⟨rfl, d, HG.out.1, permIn_trans _ _ _ a b HR.out.2.2 (permIn_trans _ _ _ a b (permIn_mono _ _ a mid a b (Nat.le_refl _) (by omega) (by rw [HR.out.2.2.1]; omega) HL.out.2.1) (permIn_mono _ _ mid b a b (by omega) (Nat.le_refl _) (by rw [HL.out.2.1.1, HR.out.2.2.1]; omega) HG.out.2.1)), halves (by rw [HR.out.2.2.1]; omega) (by omega) hp.2.2.2.2.2.2.2.2 HL.out.2.1 HL.out.2.2 HG.out.2.1 HG.out.2.2⟩
        · have HL := Lib.hid (show SR w0 k d _ ∧ PermIn a mid d d ∧ SortedIn St.lt a mid d from ⟨HR.out.1, permIn_refl _ a mid, by have q := HP.out.2.2.2.2.2.1; rw [show i = a by have := HCU.out.1.as; omega] at q; exact q⟩)
          clear hs1 hl1 hl2
          have hs2 : d.size = z := HL.out.2.1.1.trans (HR.out.2.2.1.trans HB.out.2.2.2.2)
          have HF2 := Lib.hid (And.intro (sorted_far HP.out.2.2.2.2.2.2.1 HL.out.2.1 (.inr (Nat.le_refl _))) (sorted_far HP.out.2.2.2.2.2.2.2.1 HL.out.2.1 (.inr (by have := HP.out; omega))))
          by_cases hv1 : mid < e
          · by_cases hv2 : e < b
            · have HG0 := Lib.hid (HIH.out mid e b d _ (by have := HB.out; have := HP.out; omega) HL.out.1 hs2 hv1 hv2 HB.out.2.2.1 HF2.out.1 HF2.out.2)
              clear hs2
              go_wp2_with fail
              refine HG0.out.mono ?_
              rintro e3 w3 ⟨rfl, d3, S3, P3, Q3⟩
              have HG := Lib.hid (show SR w0 k d3 w3 ∧ PermIn mid b d d3 ∧ SortedIn St.lt mid b d3 from ⟨S3, P3, Q3⟩)
              clear S3 P3 Q3 HG0
              go_wp2
              go_end0
              have hb := HB.out
              have hp := HP.out
              exact ⟨rfl, d3, HG.out.1, permIn_trans _ _ _ a b HR.out.2.2 (permIn_trans _ _ _ a b (permIn_mono _ _ a mid a b (Nat.le_refl _) (by omega) (by rw [HR.out.2.2.1]; omega) HL.out.2.1) (permIn_mono _ _ mid b a b (by omega) (Nat.le_refl _) (by rw [HL.out.2.1.1, HR.out.2.2.1]; omega) HG.out.2.1)), halves (by rw [HR.out.2.2.1]; omega) (by omega) hp.2.2.2.2.2.2.2.2 HL.out.2.1 HL.out.2.2 HG.out.2.1 HG.out.2.2⟩
            · have HG := Lib.hid (show SR w0 k d _ ∧ PermIn mid b d d ∧ SortedIn St.lt mid b d from ⟨HL.out.1, permIn_refl _ mid b, by have q := HF2.out.1; rw [show e = b by have := HCU.out.1.eb; omega] at q; exact q⟩)
              clear hs2
              go_wp2
              go_end0
              have hb := HB.out
              have hp := HP.out
              exact ⟨rfl, d, HG.out.1, permIn_trans _ _ _ a b HR.out.2.2 (permIn_trans _ _ _ a b (permIn_mono _ _ a mid a b (Nat.le_refl _) (by omega) (by rw [HR.out.2.2.1]; omega) HL.out.2.1) (permIn_mono _ _ mid b a b (by omega) (Nat.le_refl _) (by rw [HL.out.2.1.1, HR.out.2.2.1]; omega) HG.out.2.1)), halves (by rw [HR.out.2.2.1]; omega) (by omega) hp.2.2.2.2.2.2.2.2 HL.out.2.1 HL.out.2.2 HG.out.2.1 HG.out.2.2⟩
          · have HG := Lib.hid (show SR w0 k d _ ∧ PermIn mid b d d ∧ SortedIn St.lt mid b d from ⟨HL.out.1, permIn_refl _ mid b, by have q := HF2.out.2; rw [show e = mid by have := HP.out; omega] at q; exact q⟩)
            clear hs2
            go_wp2
            go_end0
            have hb := HB.out
            have hp := HP.out
            exact ⟨rfl, d, HG.out.1, permIn_trans _ _ _ a b HR.out.2.2 (permIn_trans _ _ _ a b (permIn_mono _ _ a mid a b (Nat.le_refl _) (by omega) (by rw [HR.out.2.2.1]; omega) HL.out.2.1) (permIn_mono _ _ mid b a b (by omega) (Nat.le_refl _) (by rw [HL.out.2.1.1, HR.out.2.2.1]; omega) HG.out.2.1)), halves (by rw [HR.out.2.2.1]; omega) (by omega) hp.2.2.2.2.2.2.2.2 HL.out.2.1 HL.out.2.2 HG.out.2.1 HG.out.2.2⟩
theorem symMerge_is (w0 : World) (k cap z : Nat) (hsz : z ≤ 5000) : ∀ (N a m b : Nat) (d : Array Sh) (w : World), b - a ≤ N → SR w0 k d w → d.size = z → a < m → m < b → b ≤ z → SortedIn St.lt a m d → SortedIn St.lt m b d →
    Calls Try.prog 45 #[.slice (some ⟨k, 0, none⟩) z cap, .int .i64 a, .int .i64 m, .int .i64 b, fv] w fun e w' => e = .returned (.tuple #[]) ∧ ∃ d', SR w0 k d' w' ∧ PermIn a b d d' ∧ SortedIn St.lt a b d' 
  | 0, a, m, b, d, w, hN, S, hz, ham, hmb, hb, h1, h2 => by omega
  | N + 1, a, m, b, d, w, hN, S, hz, ham, hmb, hb, h1, h2 => by
    by_cases hma : m = a + 1
    · exact sym_up w0 w k cap a m b z d S hz ham hmb hb hsz h1 h2 hma
    by_cases hbm : b = m + 1
    · exact sym_down w0 w k cap a m b z d S hz ham hmb hb hsz h1 h2 hbm hma
    by_cases hw : (a + b) / 2 < m
    · exact sym_right w0 w k cap a m b z d S hz ham hmb hb hsz h1 h2 _ _ rfl rfl hw hma hbm (fun a' m' b' d' w' q1 q2 q3 q4 q5 q6 q7 q8 => symMerge_is w0 k cap z hsz N a' m' b' d' w' (by omega) q2 q3 q4 q5 q6 q7 q8)
    · exact sym_left w0 w k cap a m b z d S hz ham hmb hb hsz h1 h2 _ _ rfl rfl (by omega) hma hbm (fun a' m' b' d' w' q1 q2 q3 q4 q5 q6 q7 q8 => symMerge_is w0 k cap z hsz N a' m' b' d' w' (by omega) q2 q3 q4 q5 q6 q7 q8)
end Go.Proofs.Ytlllgfkdapjomaa.srt
