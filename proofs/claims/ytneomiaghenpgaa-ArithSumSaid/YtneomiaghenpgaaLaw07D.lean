/- The statement ArithSum of chapter 07 (arith), walked: it answers true. Conditions: the slice leads to a row of numbers of 64 bits. -/
import Derived.Test.YtneomiaghenpgaaLaw07
import Derived.OpenShut
namespace Go.Proofs.Ytneomiaghenpgaa.law07
open Go.RowKit Go.Proofs.Ytneomiaghenpgaa.base

theorem i64_and32 (n : Int) : bits .and .i64 n 4294967295 = n % 4294967296 := by
  have h : (BitVec.ofInt 64 4294967295).toNat = 2 ^ 32 - 1 := by decide
  have key : (BitVec.ofInt 64 n &&& BitVec.ofInt 64 4294967295).toNat = (n % ((2 ^ 64 : Nat) : Int)).toNat % 2 ^ 32 := by
    rw [BitVec.toNat_and, BitVec.toNat_ofInt, h, Nat.and_two_pow_sub_one_eq_mod]
  show IntKind.i64.wrap ((BitVec.ofInt 64 n &&& BitVec.ofInt 64 4294967295).toNat : Nat) = n % 4294967296
  rw [key, IntKind.wrap_i64]
  omega
/-- Sums of the upper and of the lower halves. -/
def hiK (zs : List Int) (k : Nat) : Int := ((zs.take k).map (· / 4294967296)).sum
def loK (zs : List Int) (k : Nat) : Int := ((zs.take k).map (· % 4294967296)).sum
theorem hiK_succ (zs : List Int) (k : Nat) (h : k < zs.length) : hiK zs (k + 1) = hiK zs k + zs.getD k 0 / 4294967296 := by
  unfold hiK
  rw [List.take_succ_eq_append_getElem h, List.map_append, List.sum_append, List.getD_eq_getElem?_getD, List.getElem?_eq_getElem h]; simp
theorem loK_succ (zs : List Int) (k : Nat) (h : k < zs.length) : loK zs (k + 1) = loK zs k + zs.getD k 0 % 4294967296 := by
  unfold loK
  rw [List.take_succ_eq_append_getElem h, List.map_append, List.sum_append, List.getD_eq_getElem?_getD, List.getElem?_eq_getElem h]; simp
theorem halves (zs : List Int) : ∀ k : Nat, k ≤ zs.length → (∀ j, j < zs.length → Ar.fits (zs.getD j 0) = true) → arith.sumK zs k = hiK zs k * 4294967296 + loK zs k ∧ -(2147483648 * k) ≤ hiK zs k ∧ hiK zs k ≤ 2147483648 * k ∧ 0 ≤ loK zs k ∧ loK zs k ≤ 4294967295 * k
  | 0, _, _ => by simp [arith.sumK, hiK, loK]
  | k + 1, h, g => by
    obtain ⟨a, b, c, d, e⟩ := halves zs k (by omega) g
    have f := Ar.fits_t (g k (by omega))
    rw [arith.sumK_succ zs k (by omega), hiK_succ zs k (by omega), loK_succ zs k (by omega), a]
    omega
theorem ref_none (a : Option Addr) (c : Nat) (w : World) : Calls Try.prog 17 #[.slice a 0 c] w fun e w' => e = .returned (.tuple #[.int .i64 0, .bool true]) ∧ w = w' := by
  have e1 := i64_and32 0
  go_enter Try.func17, Try.ntmps17
  go_wp2
  refine wp_loop_rounds 1 ?_
  rw [rounds_succ]
  go_wp2
  go_ret2
  exact ⟨rfl, rfl⟩
set_option maxHeartbeats 400000 in
theorem ref_any (zs : List Int) (b off c : Nat) (w : World) (hz : zs.length ≤ 300) (hc : ∀ j, j < zs.length → w.cell? ⟨b, off + j, none⟩ = some (.int .i64 (zs.getD j 0))) (hf : ∀ j, j < zs.length → Ar.fits (zs.getD j 0) = true) :
    Calls Try.prog 17 #[.slice (some ⟨b, off, none⟩) zs.length c] w fun e w' => e = .returned (.tuple #[.int .i64 (Ar.fitV (arith.sumK zs zs.length)), .bool (Ar.fits (arith.sumK zs zs.length))]) ∧ w = w' := by
  have HC := Lib.hid hc
  have HF := Lib.hid hf
  clear hc hf
  go_enter Try.func17, Try.ntmps17
  go_wp2
  go_loop [4, 5, 6] (fun h l i => ∃ k : Nat, k ≤ zs.length ∧ i = .int .i64 k ∧ h = .int .i64 (hiK zs k) ∧ l = .int .i64 (loK zs k)) (fun _ _ i => (zs.length - intOf i).toNat)
  case atStart => exact ⟨0, by omega, rfl, by simp [hiK], by simp [loK]⟩
  case round =>
    obtain ⟨k, hk, rfl, rfl, rfl⟩ := hrel
    obtain ⟨s0, s1, s2, s3, s4⟩ := halves zs k hk HF.out
    have S0 := Lib.hid s0
    clear s0
    by_cases hlt : k < zs.length
    · have c0 := HC.out k hlt
      have H1 := Lib.hid (hiK_succ zs k hlt)
      have L1 := Lib.hid (loK_succ zs k hlt)
      have af := Ar.fits_t (HF.out k hlt)
      have ea := i64_and32 (zs.getD k 0)
      generalize zs.getD k 0 = a at *
      generalize hiK zs k = h at *
      generalize loK zs k = l at *
      obtain ⟨a1, a2⟩ := af
      go_wp2
      go_round
      case rel => exact ⟨k + 1, by omega, by go_num, by rw [H1.out], by rw [L1.out]⟩
      case measure => simp [intOf]; omega
    · obtain rfl : k = zs.length := by omega
      have el := i64_and32 (loK zs zs.length)
      obtain ⟨S, hS⟩ : ∃ S, arith.sumK zs zs.length = S := ⟨_, rfl⟩
      rw [hS] at S0
      have HS := Lib.hid hS
      clear hS
      generalize hiK zs zs.length = h at *
      generalize loK zs zs.length = l at *
      cases hfit : Ar.fits S
      · have F := Ar.fits_f hfit
        have S00 := S0.out
        have FF := Lib.hid hfit
        by_cases q : h + l / 4294967296 < -2147483648
        · clear F S00 S0 hfit
          go_wp2
          go_ret2
          exact ⟨ret_ib (by rw [HS.out]; simp [Ar.fitV, FF.out]) (by rw [HS.out]; exact FF.out.symm), rfl⟩
        · have q2 : 2147483648 ≤ h + l / 4294967296 := by omega
          clear F S00 S0 hfit
          go_wp2
          go_ret2
          exact ⟨ret_ib (by rw [HS.out]; simp [Ar.fitV, FF.out]) (by rw [HS.out]; exact FF.out.symm), rfl⟩
      · have F := Ar.fits_t hfit
        have S00 := S0.out
        have q1 : ¬ h + l / 4294967296 < -2147483648 := by omega
        have q2 : ¬ 2147483648 ≤ h + l / 4294967296 := by omega
        have FF := Lib.hid hfit
        have r1 : (h + l / 4294967296) * 4294967296 + l % 4294967296 = S := by omega
        have R1 := Lib.hid r1
        have F1 := Lib.hid F
        clear F S00 S0 hfit r1
        go_wp2
        go_ret2
        exact ⟨ret_ib (by rw [HS.out, R1.out]; simp [Ar.fitV, FF.out]) (by rw [HS.out]; exact FF.out.symm), rfl⟩
theorem sum_none (a : Option Addr) (c : Nat) (w : World) : Calls Try.prog 16 #[.slice a 0 c] w fun e w' => e = .returned (.tuple #[.int .i64 0, .bool true]) ∧ Below w.heap.size w w' := by
  have e1 : wrap64 0 = 0 := by unfold wrap64; rfl
  have e2 : (IntKind.u64.wrap 0 == 0) = true := by decide
  go_enter Try.func16, Try.ntmps16
  go_wp2
  refine wp_loop_rounds 1 ?_
  rw [rounds_succ]
  go_wp2
  go_ret2
  exact ⟨rfl, (Below.refl _ _).alloc (Nat.le_refl _) _⟩
theorem sum_eq (n : Nat) (xs zs : List Int) (h : ∀ j, j < n → xs.getD j 0 = zs.getD j 0) (h1 : n ≤ xs.length) (h2 : n ≤ zs.length) : arith.sumK xs n = arith.sumK zs n := by
  induction n with
  | zero => simp [arith.sumK]
  | succ k ih => rw [arith.sumK_succ xs k (by omega), arith.sumK_succ zs k (by omega), ih (fun j hj => h j (by omega)) (by omega) (by omega), h k (by omega)]

/-- A slice of whole numbers that came in: it is nil, or leads to a row. -/
def IsRow (k : IntKind) (w : World) (a : Option Addr) (len cap : Nat) (zs : List Int) : Prop :=
  (a = none ∧ len = 0 ∧ cap = 0 ∧ zs = []) ∨
  ∃ x, a = some x ∧ len ≤ cap ∧ cap ≤ maxLen ∧ zs.length = cap ∧ (∀ i, i < zs.length → w.cell? (x.add i) = some (.int k (zs.getD i 0))) ∧ ∀ n ∈ zs, (Lit.int k n).wf = true
theorem arithSum (a : Option Addr) (len cap : Nat) (zs : List Int) (w : World) (h : IsRow .i64 w a len cap zs) :
    Calls Try.prog 4 #[.slice a len cap] w fun e w' => e = .returned (.bool true) ∧ Below w.heap.size w w' := by
  by_cases hl : 300 < len
  · clear h
    go_enter Try.func4, Try.ntmps4
    go_wp2_with fail
    refine (head_any _).mono ?_
    rintro e w1 ⟨rfl, B1⟩
    go_wp2
    go_ret
    exact ⟨rfl, B1⟩
  · by_cases h0 : len = 0
    · subst h0
      clear h
      go_enter Try.func4, Try.ntmps4
      go_wp2_with fail
      refine (sum_none _ _ _).mono ?_
      rintro e w1 ⟨rfl, B1⟩
      have K1 := Lib.hid B1
      clear B1
      go_wp2_with fail
      refine (ref_none _ _ _).mono ?_
      rintro e w' ⟨rfl, rfl⟩
      go_wp2_with fail
      refine (head_any _).mono ?_
      rintro e w2 ⟨rfl, B2⟩
      have K2 := Lib.hid (K1.out.trans (B2.mono K1.out.size))
      clear B2
      go_wp2
      go_ret
      exact ⟨rfl, K2.out⟩
    · rcases h with ⟨_, g, _⟩ | ⟨x, rfl, l1, l2, l3, hc, hw⟩
      · exact absurd g h0
      · obtain ⟨b, off, rfl, hcell⟩ := ints_at hc (by omega)
        obtain ⟨ys, hys⟩ : ∃ ys, ys = zs.take len := ⟨_, rfl⟩
        have hlen : ys.length = len := by rw [hys, List.length_take]; omega
        have hget : ∀ j, j < len → ys.getD j 0 = zs.getD j 0 := fun j hj => by
          rw [hys, List.getD_eq_getElem?_getD, List.getD_eq_getElem?_getD, List.getElem?_take, if_pos hj]
        have hcy : ∀ j, j < ys.length → w.cell? ⟨b, off + j, none⟩ = some (.int .i64 (ys.getD j 0)) := fun j hj => by
          rw [hget j (by omega)]; exact hcell j (by omega)
        have hfy : ∀ j, j < ys.length → Ar.fits (ys.getD j 0) = true := fun j hj => by
          rw [hget j (by omega)]
          have hm : zs.getD j 0 ∈ zs := by
            rw [List.getD_eq_getElem?_getD, List.getElem?_eq_getElem (by omega : j < zs.length)]; exact List.getElem_mem _
          have := bounds_i64 (hw _ hm)
          exact Ar.fits_mk this.1 this.2
        subst hlen
        have T1 := Lib.hid (arith.sum_any ys b off cap w (by omega) hcy hfy)
        have hcy' : ∀ w', Below w.heap.size w w' → ∀ j, j < ys.length → w'.cell? ⟨b, off + j, none⟩ = some (.int .i64 (ys.getD j 0)) := fun w' hb j hj =>
          (hb.cell (p := ⟨b, off + j, none⟩) (lt_of_cell (hcy j hj))).trans (hcy j hj)
        have T2 := Lib.hid (fun w' hb => ref_any ys b off cap w' (by omega) (hcy' w' hb) hfy)
        generalize ys.length = n at *
        clear hys hget hcy hfy hcy' hc hcell hw
        go_enter Try.func4, Try.ntmps4
        go_wp2_with fail
        refine T1.out.mono ?_
        rintro e w1 ⟨rfl, B1⟩
        have K1 := Lib.hid B1
        clear B1
        go_wp2_with fail
        refine (T2.out _ K1.out).mono ?_
        rintro e w' ⟨rfl, rfl⟩
        go_wp2_with fail
        refine (head_any _).mono ?_
        rintro e w2 ⟨rfl, B2⟩
        have K2 := Lib.hid (K1.out.trans (B2.mono K1.out.size))
        clear B2
        go_wp2
        go_ret
        exact ⟨rfl, K2.out⟩
end Go.Proofs.Ytneomiaghenpgaa.law07
