/- The bounds of periods, and the period of a day: plain arithmetic. No conditions. -/
import Derived.Test.YtkichgbkaajaaaaDoorCivilMath
noncomputable section
namespace An
open Cv
def at_ (M a : Int) : Int := min (fst M + a - 1) (fst (M + 1) - 1)
def ok (s a E : Int) : Bool := decide (1 ≤ s) && decide (s ≤ 3652059) && decide (1 ≤ a) && decide (a ≤ 31) && decide (1 ≤ E) && decide (E ≤ 120)
def okA (M a : Int) : Bool := okM M && decide (1 ≤ a) && decide (a ≤ 31)
def atV (M a : Int) : Int := if okA M a = true then at_ M a else 0
def atE (M a : Int) : Int := if okA M a = true then 0 else 2
def ckE (s a E : Int) : Int := if ok s a E = true then 0 else 2
def k0 (s a : Int) : Int := if at_ (ofD s) a ≤ s then 0 else 1
def mon (s a E i : Int) : Int := ofD s + (i - k0 s a) * E
def B (s a E i : Int) : Int := if i = 0 then s else at_ (mon s a E i) a
def top (s a E : Int) : Int := k0 s a + (119988 - ofD s) / E
def idx (s a E d : Int) : Nat → Nat
  | 0 => 0
  | n + 1 => if B s a E ((n + 1 : Nat) : Int) ≤ d then n + 1 else idx s a E d n
def fk (s a E d : Int) : Int := (idx s a E d (top s a E).toNat : Nat)
def bOk (s a E k : Int) : Bool := ok s a E && decide (0 ≤ k)
def bV (s a E k : Int) : Int := if bOk s a E k = true ∧ k ≤ top s a E then B s a E k else 0
def bE (s a E k : Int) : Int := if bOk s a E k = true then (if k ≤ top s a E then 0 else 7) else 2
def fOk (s a E d : Int) : Bool := ok s a E && decide (1 ≤ d) && decide (d ≤ 3652059)
def fIn (s a E d : Int) : Bool := fOk s a E d && decide (s ≤ d) && decide (fk s a E d + 1 ≤ top s a E)
def fV (s a E d : Int) (x : Int) : Int := if fIn s a E d = true then x else 0
def fE (s a E d : Int) : Int := if fOk s a E d = true then (if fIn s a E d = true then 0 else 7) else 2

theorem ok_t {s a E : Int} (h : ok s a E = true) : (1 ≤ s ∧ s ≤ 3652059) ∧ (1 ≤ a ∧ a ≤ 31) ∧ 1 ≤ E ∧ E ≤ 120 := by unfold ok at h; simp at h; omega
theorem ok_f {s a E : Int} (h : ok s a E = false) : ¬ ((1 ≤ s ∧ s ≤ 3652059) ∧ (1 ≤ a ∧ a ≤ 31) ∧ 1 ≤ E ∧ E ≤ 120) := by
  intro g; have : ok s a E = true := by unfold ok; simp; omega
  rw [h] at this; cases this
theorem ok_mk {s a E : Int} (h1 : 1 ≤ s) (h2 : s ≤ 3652059) (h3 : 1 ≤ a) (h4 : a ≤ 31) (h5 : 1 ≤ E) (h6 : E ≤ 120) : ok s a E = true := by unfold ok; simp; omega
theorem okA_mk {M a : Int} (h1 : 1 ≤ M) (h2 : M ≤ 119988) (h3 : 1 ≤ a) (h4 : a ≤ 31) : okA M a = true := by unfold okA okM; simp; omega
theorem okA_t {M a : Int} (h : okA M a = true) : (1 ≤ M ∧ M ≤ 119988) ∧ 1 ≤ a ∧ a ≤ 31 := by unfold okA okM at h; simp at h; omega
theorem okA_no {M a : Int} (h : ¬ ((1 ≤ M ∧ M ≤ 119988) ∧ 1 ≤ a ∧ a ≤ 31)) : okA M a = false := by
  cases e : okA M a with
  | false => rfl
  | true => exact absurd (okA_t e) h
theorem at_lo {M a : Int} (h1 : 1 ≤ M) (h2 : M ≤ 119988) (h3 : 1 ≤ a) : fst M ≤ at_ M a ∧ at_ M a < fst (M + 1) := by
  have := fst_lo h1 h2; unfold at_; omega
theorem at_bd {M a : Int} (h1 : 1 ≤ M) (h2 : M ≤ 119988) (h3 : 1 ≤ a) : 1 ≤ at_ M a ∧ at_ M a ≤ 3652059 := by
  have := at_lo h1 h2 h3; have h4 := fst_bd (M := M) h1 (by omega); have h5 := fst_bd (M := M + 1) (by omega) (by omega); omega
theorem k0_01 (s a : Int) : k0 s a = 0 ∨ k0 s a = 1 := by unfold k0; split <;> simp
theorem mon_succ (s a E i : Int) : mon s a E (i + 1) = mon s a E i + E := by
  unfold mon
  rw [show i + 1 - k0 s a = (i - k0 s a) + 1 by omega, Int.add_mul, Int.one_mul]; omega
theorem mon_k0 (s a E : Int) : mon s a E (k0 s a) = ofD s := by unfold mon; simp
theorem mon_skip (s a E i n : Int) : mon s a E (i + n) = mon s a E i + n * E := by
  unfold mon
  rw [show i + n - k0 s a = (i - k0 s a) + n by omega, Int.add_mul]; omega
/-- An index is one of the bounds' just where its month is. -/
theorem top_iff {s a E i : Int} (hE : 1 ≤ E) : i ≤ top s a E ↔ mon s a E i ≤ 119988 := by
  unfold top mon
  constructor
  · intro h
    have h1 : i - k0 s a ≤ (119988 - ofD s) / E := by omega
    have := (Int.le_ediv_iff_mul_le (by omega : (0 : Int) < E)).1 h1
    omega
  · intro h
    have : i - k0 s a ≤ (119988 - ofD s) / E := (Int.le_ediv_iff_mul_le (by omega : (0 : Int) < E)).2 (by omega)
    omega
theorem mon_ge {s a E i : Int} (hE : 1 ≤ E) (h : k0 s a ≤ i) : ofD s + (i - k0 s a) ≤ mon s a E i := by
  unfold mon
  have : (i - k0 s a) * 1 ≤ (i - k0 s a) * E := Int.mul_le_mul_of_nonneg_left hE (by omega)
  omega
theorem top_bd {s a E : Int} (h : ok s a E = true) : 0 ≤ top s a E ∧ k0 s a ≤ top s a E ∧ top s a E ≤ 119988 := by
  obtain ⟨⟨h1, h2⟩, ⟨h3, h4⟩, h5, h6⟩ := ok_t h
  have hs := ofD_spec h1 h2
  have hk := k0_01 s a
  unfold top
  have g1 : 0 ≤ (119988 - ofD s) / E := Int.ediv_nonneg (by omega) (by omega)
  have g2 : (119988 - ofD s) / E ≤ 119988 - ofD s := Int.ediv_le_self _ (by omega)
  omega
/-- The month of a bound. -/
theorem mon_bd {s a E i : Int} (h : ok s a E = true) (h0 : k0 s a ≤ i) (h1 : i ≤ top s a E) : 1 ≤ mon s a E i ∧ ofD s ≤ mon s a E i ∧ mon s a E i ≤ 119988 := by
  obtain ⟨⟨g1, g2⟩, ⟨g3, g4⟩, g5, g6⟩ := ok_t h
  have hs := ofD_spec g1 g2
  have := mon_ge g5 h0
  have := (top_iff g5).1 h1
  omega
theorem k0_le {s a i : Int} (h : 1 ≤ i) : k0 s a ≤ i := by have := k0_01 s a; omega
theorem B_zero (s a E : Int) : B s a E 0 = s := by simp [B]
theorem B_pos {s a E i : Int} (h : 1 ≤ i) : B s a E i = at_ (mon s a E i) a := by unfold B; rw [if_neg (by omega)]
theorem B_in {s a E i : Int} (h : ok s a E = true) (h0 : 1 ≤ i) (h1 : i ≤ top s a E) : fst (mon s a E i) ≤ B s a E i ∧ B s a E i < fst (mon s a E i + 1) := by
  obtain ⟨_, ⟨g3, _⟩, _⟩ := ok_t h
  have hm := mon_bd h (k0_le h0) h1
  rw [B_pos h0]; exact at_lo hm.1 hm.2.2 g3
theorem B_bd {s a E i : Int} (h : ok s a E = true) (h0 : 0 ≤ i) (h1 : i ≤ top s a E) : 1 ≤ B s a E i ∧ B s a E i ≤ 3652059 := by
  obtain ⟨⟨g1, g2⟩, ⟨g3, _⟩, _⟩ := ok_t h
  rcases (by omega : i = 0 ∨ 1 ≤ i) with rfl | hi
  · rw [B_zero]; omega
  · have hm := mon_bd h (k0_le hi) h1
    rw [B_pos hi]; exact at_bd hm.1 hm.2.2 g3
/-- A bound is of its month. -/
theorem B_of {s a E i : Int} (h : ok s a E = true) (h0 : 1 ≤ i) (h1 : i ≤ top s a E) : ofD (B s a E i) = mon s a E i := by
  have hm := mon_bd h (k0_le h0) h1
  have hb := B_in h h0 h1
  exact ofD_eq hm.1 hm.2.2 hb.1 hb.2
/-- Bounds rise. -/
theorem B_lt {s a E i : Int} (h : ok s a E = true) (h0 : 0 ≤ i) (h1 : i + 1 ≤ top s a E) : B s a E i < B s a E (i + 1) := by
  obtain ⟨⟨g1, g2⟩, ⟨g3, g4⟩, g5, g6⟩ := ok_t h
  have hs := ofD_spec g1 g2
  have hm := mon_bd h (k0_le (i := i + 1) (by omega)) h1
  have hb := B_in h (i := i + 1) (by omega) h1
  rcases (by omega : i = 0 ∨ 1 ≤ i) with rfl | hi
  · rw [B_zero]
    by_cases hk : at_ (ofD s) a ≤ s
    · have e0 : k0 s a = 0 := by unfold k0; rw [if_pos hk]
      have e1 : mon s a E (0 + 1) = ofD s + E := by unfold mon; rw [e0]; omega
      rw [e1] at hb hm
      have := fst_mono (a := ofD s + 1) (b := ofD s + E) (by omega) (by omega) (by omega)
      omega
    · have e0 : k0 s a = 1 := by unfold k0; rw [if_neg hk]
      have e1 : mon s a E (0 + 1) = ofD s := by unfold mon; rw [e0]; omega
      rw [B_pos (by omega), e1]
      omega
  · have hb0 := B_in h hi (by omega)
    have e1 := mon_succ s a E i
    rw [e1] at hb hm
    have hm0 := mon_bd h (k0_le hi) (by omega : i ≤ top s a E)
    have := fst_mono (a := mon s a E i + 1) (b := mon s a E i + E) (by omega) (by omega) (by omega)
    omega
theorem B_up {s a E : Int} (h : ok s a E = true) : ∀ (n : Nat) (i : Int), 0 ≤ i → i + n ≤ top s a E → B s a E i + n ≤ B s a E (i + n)
  | 0, i, _, _ => by simp
  | n + 1, i, h0, h1 => by
    have ih := B_up h n i h0 (by push_cast at h1; omega)
    have := B_lt h (i := i + n) (by omega) (by push_cast at h1; omega)
    rw [show i + ((n + 1 : Nat) : Int) = i + n + 1 by push_cast; omega]
    push_cast; omega
theorem B_mono {s a E i j : Int} (h : ok s a E = true) (h0 : 0 ≤ i) (h1 : i ≤ j) (h2 : j ≤ top s a E) : B s a E i + (j - i) ≤ B s a E j := by
  have := B_up h (j - i).toNat i h0 (by omega)
  rw [show i + ((j - i).toNat : Int) = j by omega] at this
  omega
theorem idx_le (s a E d : Int) : ∀ n, idx s a E d n ≤ n
  | 0 => Nat.le_refl _
  | n + 1 => by unfold idx; split; exact Nat.le_refl _; exact Nat.le_succ_of_le (idx_le s a E d n)
theorem idx_at {s a E d : Int} (h0 : s ≤ d) : ∀ n, B s a E (idx s a E d n : Nat) ≤ d
  | 0 => by simpa [idx, B] using h0
  | n + 1 => by
    unfold idx; split
    · assumption
    · exact idx_at h0 n
theorem idx_gt {s a E d : Int} : ∀ n j, idx s a E d n < j → j ≤ n → d < B s a E (j : Nat)
  | 0, j, h, h1 => by omega
  | n + 1, j, h, h1 => by
    unfold idx at h; split at h
    · omega
    · rename_i g
      rcases (by omega : j = n + 1 ∨ j ≤ n) with rfl | hj
      · omega
      · exact idx_gt n j h hj
theorem fk_spec {s a E d : Int} (h : ok s a E = true) (hd : s ≤ d) : 0 ≤ fk s a E d ∧ fk s a E d ≤ top s a E ∧ B s a E (fk s a E d) ≤ d ∧ ∀ j, fk s a E d < j → j ≤ top s a E → d < B s a E j := by
  have ht := top_bd h
  have h1 := idx_le s a E d (top s a E).toNat
  refine ⟨by unfold fk; omega, by unfold fk; omega, idx_at hd _, fun j hj hj' => ?_⟩
  unfold fk at hj
  have := idx_gt (s := s) (a := a) (E := E) (d := d) (top s a E).toNat j.toNat (by omega) (by omega)
  rwa [show ((j.toNat : Nat) : Int) = j by omega] at this
theorem fk_uniq {s a E d k : Int} (h : ok s a E = true) (h0 : 0 ≤ k) (h1 : k ≤ top s a E) (h2 : B s a E k ≤ d) (h3 : k + 1 ≤ top s a E → d < B s a E (k + 1)) : fk s a E d = k := by
  obtain ⟨g0, g1, g2, g3⟩ := fk_spec h (d := d) (by have := B_mono h (i := 0) (by omega) h0 h1; rw [B_zero] at this; omega)
  rcases (by omega : fk s a E d < k ∨ fk s a E d = k ∨ k < fk s a E d) with hh | hh | hh
  · have := g3 k hh h1; omega
  · exact hh
  · have := h3 (by omega)
    have := B_mono h (i := k + 1) (j := fk s a E d) (by omega) (by omega) g1
    omega
/-- Find at a day of a period. -/
theorem f_in {s a E d k : Int} (h : ok s a E = true) (h0 : 0 ≤ k) (h1 : k + 1 ≤ top s a E) (h2 : B s a E k ≤ d) (h3 : d < B s a E (k + 1)) : fOk s a E d = true ∧ fIn s a E d = true ∧ fk s a E d = k := by
  have e := fk_uniq h h0 (by omega) h2 (fun _ => h3)
  have b0 := B_bd h h0 (by omega)
  have b1 := B_bd h (i := k + 1) (by omega) h1
  have hs : s ≤ d := by have := B_mono h (i := 0) (by omega) h0 (by omega); rw [B_zero] at this; omega
  have f : fOk s a E d = true := by unfold fOk; simp [h]; omega
  exact ⟨f, by unfold fIn; rw [f, e]; simp; omega, e⟩
/-- .. and behind the last bound. -/
theorem f_out {s a E d : Int} (h : ok s a E = true) (hd : d ≤ 3652059) (h2 : B s a E (top s a E) ≤ d) : fOk s a E d = true ∧ fIn s a E d = false := by
  have ht := top_bd h
  obtain ⟨⟨g1, g2⟩, _⟩ := ok_t h
  have e := fk_uniq h ht.1 (by omega) h2 (fun g => by omega)
  have hs : s ≤ d := by have := B_mono h (i := 0) (by omega) ht.1 (by omega); rw [B_zero] at this; omega
  have f : fOk s a E d = true := by unfold fOk; simp [h]; omega
  exact ⟨f, by unfold fIn; rw [f, e]; simp; omega⟩
/-- The anchor day of a later month is no more than 31 days a month on. -/
theorem fst_31 (n : Nat) {M : Int} (h1 : 1 ≤ M) (h2 : M + n ≤ 119989) : fst (M + n) ≤ fst M + 31 * n := by
  induction n with
  | zero => simp
  | succ n ih =>
    have := ih (by omega)
    have := fst_lo (M := M + n) (by omega) (by omega)
    rw [show M + ((n + 1 : Nat) : Int) = M + n + 1 by omega]
    omega
theorem fst_le31 {a b : Int} (h1 : 1 ≤ a) (h : a ≤ b) (h2 : b ≤ 119989) : fst b ≤ fst a + 31 * (b - a) := by
  have := fst_31 (b - a).toNat (M := a) h1 (by omega)
  rw [show a + ((b - a).toNat : Int) = b by omega] at this
  omega
theorem at_31 {M N a : Int} (h1 : 1 ≤ M) (h : M ≤ N) (h2 : N ≤ 119988) : at_ N a ≤ at_ M a + 31 * (N - M) := by
  have g1 := fst_le31 h1 h (by omega)
  have g2 := fst_le31 (a := M + 1) (b := N + 1) (by omega) (by omega) (by omega)
  unfold at_; omega
theorem B_31 {s a E i : Int} (h : ok s a E = true) (h0 : 0 ≤ i) (h1 : i + 1 ≤ top s a E) : B s a E (i + 1) - B s a E i ≤ 31 * E := by
  obtain ⟨⟨g1, g2⟩, ⟨g3, g4⟩, g5, g6⟩ := ok_t h
  have hs := ofD_spec g1 g2
  have hm := mon_bd h (k0_le (i := i + 1) (by omega)) h1
  rcases (by omega : i = 0 ∨ 1 ≤ i) with rfl | hi
  · rw [B_zero, B_pos (by omega)]
    by_cases hk : at_ (ofD s) a ≤ s
    · have e0 : k0 s a = 0 := by unfold k0; rw [if_pos hk]
      have e1 : mon s a E (0 + 1) = ofD s + E := by unfold mon; rw [e0]; omega
      rw [e1] at hm ⊢
      have := at_31 (a := a) hs.1 (by omega : ofD s ≤ ofD s + E) (by omega)
      omega
    · have e0 : k0 s a = 1 := by unfold k0; rw [if_neg hk]
      have e1 : mon s a E (0 + 1) = ofD s := by unfold mon; rw [e0]; omega
      rw [e1] at hm ⊢
      have := at_lo (a := a) hs.1 hs.2.1 g3
      have := fst_lo hs.1 hs.2.1
      omega
  · have hm0 := mon_bd h (k0_le hi) (by omega : i ≤ top s a E)
    have e1 := mon_succ s a E i
    rw [B_pos hi, B_pos (by omega), e1]
    rw [e1] at hm
    have := at_31 (a := a) hm0.1 (by omega : mon s a E i ≤ mon s a E i + E) (by omega)
    omega
/-- The month of the 0th bound, beside that of the 1st. -/
theorem mon_one {s a E : Int} : mon s a E 1 = ofD s ∨ mon s a E 1 = ofD s + E := by
  rcases k0_01 s a with h | h <;> unfold mon <;> rw [h] <;> omega
/-- Bounds that are passed over. -/
def skp (s E d : Int) : Int := if okD d = true ∧ ofD s < ofD d then max ((ofD d - ofD s) / E - 1) 0 else 0
/-- The first bound behind the 0th that comes. -/
def st (s a E d : Int) : Int := max 1 (k0 s a + skp s E d)
/-- What has come: the 0th, and n others. -/
def cum (s a E d : Int) (n : Nat) : List (Int × Int) := (0, s) :: (List.range n).map fun (j : Nat) => (st s a E d + (j : Int), B s a E (st s a E d + (j : Int)))
def full (s a E d : Int) : Nat := (top s a E + 1 - st s a E d).toNat
theorem cum_len (s a E d : Int) (n : Nat) : (cum s a E d n).length = n + 1 := by simp [cum]
theorem cum_succ (s a E d : Int) (n : Nat) : cum s a E d (n + 1) = cum s a E d n ++ [(st s a E d + n, B s a E (st s a E d + n))] := by simp [cum, List.range_succ]
theorem skp_no {s E d : Int} (h : ¬ (okD d = true ∧ ofD s < ofD d)) : skp s E d = 0 := by unfold skp; rw [if_neg h]
theorem skp_yes {s E d : Int} (h : okD d = true) (g : ofD s < ofD d) : skp s E d = max ((ofD d - ofD s) / E - 1) 0 := by unfold skp; rw [if_pos ⟨h, g⟩]
theorem skp_bd {s a E d : Int} (h : ok s a E = true) : 0 ≤ skp s E d ∧ 0 ≤ skp s E d * E ∧ ofD s + skp s E d * E ≤ 119988 ∧ skp s E d ≤ 119988 ∧ k0 s a + skp s E d ≤ top s a E := by
  obtain ⟨⟨g1, g2⟩, ⟨g3, g4⟩, g5, g6⟩ := ok_t h
  have hs := ofD_spec g1 g2
  have hk := k0_01 s a
  have key : 0 ≤ skp s E d ∧ ofD s + skp s E d * E ≤ 119988 := by
    by_cases q : okD d = true ∧ ofD s < ofD d
    · have hd := okD_t q.1
      have hd2 := ofD_spec hd.1 hd.2
      rw [skp_yes q.1 q.2]
      rcases (by omega : (ofD d - ofD s) / E - 1 ≤ 0 ∨ 0 < (ofD d - ofD s) / E - 1) with z | z
      · rw [Int.max_eq_right z]; omega
      · rw [Int.max_eq_left (by omega), Int.sub_mul]
        have := Int.ediv_mul_le (ofD d - ofD s) (by omega : E ≠ 0)
        omega
    · rw [skp_no q]; omega
  have h1 : 0 ≤ skp s E d * E := Int.mul_nonneg key.1 (by omega)
  have h2 : skp s E d * 1 ≤ skp s E d * E := Int.mul_le_mul_of_nonneg_left g5 key.1
  have h3 : k0 s a + skp s E d ≤ top s a E := (top_iff g5).2 (by rw [mon_skip, mon_k0]; omega)
  omega
theorem st_bd {s a E d : Int} (h : ok s a E = true) : 1 ≤ st s a E d ∧ st s a E d ≤ top s a E + 1 ∧ k0 s a + skp s E d ≤ st s a E d := by
  have := skp_bd (d := d) h
  have := top_bd h
  unfold st; omega
/-- What is passed over does not lie behind the day. -/
theorem st_le {s a E d : Int} (h : ok s a E = true) (hd : s ≤ d) (hd2 : d ≤ 3652059) (h1 : 2 ≤ st s a E d) : B s a E (st s a E d) ≤ d := by
  obtain ⟨⟨g1, g2⟩, ⟨g3, g4⟩, g5, g6⟩ := ok_t h
  have hs := ofD_spec g1 g2
  have hk := k0_01 s a
  have hsk := skp_bd (d := d) h
  have e : st s a E d = k0 s a + skp s E d := by unfold st at *; omega
  have hpos : 1 ≤ skp s E d := by unfold st at *; omega
  by_cases q : okD d = true ∧ ofD s < ofD d
  · have hd3 := ofD_spec (d := d) (by omega) hd2
    have e2 := skp_yes (E := E) q.1 q.2
    have z : skp s E d = (ofD d - ofD s) / E - 1 := by omega
    have z2 : skp s E d * E + E ≤ ofD d - ofD s := by
      have := Int.ediv_mul_le (ofD d - ofD s) (by omega : E ≠ 0)
      rw [z, Int.sub_mul]; omega
    have hb := B_in h (i := st s a E d) (by omega) (by omega)
    have em : mon s a E (st s a E d) = ofD s + skp s E d * E := by rw [e, mon_skip, mon_k0]
    rw [em] at hb
    have := fst_mono (a := ofD s + skp s E d * E + 1) (b := ofD d) (by omega) (by omega) (by omega)
    omega
  · rw [skp_no q] at hpos; omega
/-- A round of the loop at the index i. -/
theorem rnd {s a E d i : Int} (h : ok s a E = true) (h0 : k0 s a + skp s E d ≤ i) (h1 : i ≤ top s a E + 1) :
    1 ≤ mon s a E i ∧ (mon s a E i ≤ 119988 → okA (mon s a E i) a = true ∧ (0 < i → st s a E d ≤ i ∧
      cum s a E d (i + 1 - st s a E d).toNat = cum s a E d (i - st s a E d).toNat ++ [(i, at_ (mon s a E i) a)])) ∧
      (¬ mon s a E i ≤ 119988 → (i - st s a E d).toNat = full s a E d) ∧ (¬ 0 < i → i = 0 ∧ (0 - st s a E d).toNat = 0 ∧ (0 + 1 - st s a E d).toNat = 0) := by
  obtain ⟨⟨g1, g2⟩, ⟨g3, g4⟩, g5, g6⟩ := ok_t h
  have hs := ofD_spec g1 g2
  have hk := k0_01 s a
  have hsk := skp_bd (d := d) h
  have hst := st_bd (d := d) h
  have hge := mon_ge (s := s) (a := a) (E := E) (i := i) g5 (by omega)
  have hti := top_iff (s := s) (a := a) (E := E) (i := i) g5
  have hdef : st s a E d = max 1 (k0 s a + skp s E d) := rfl
  refine ⟨by omega, fun hm => ⟨okA_mk (by omega) hm g3 g4, fun hi => ⟨by omega, ?_⟩⟩, fun hm => ?_, fun hi => ⟨by omega, by omega, by omega⟩⟩
  · rw [show (i + 1 - st s a E d).toNat = (i - st s a E d).toNat + 1 by omega, cum_succ, show st s a E d + ((i - st s a E d).toNat : Int) = i by omega, B_pos (by omega)]
  · have : ¬ i ≤ top s a E := fun q => hm (hti.1 q)
    unfold full
    rw [show i = top s a E + 1 by omega]
/-- The last that has come. -/
theorem cum_last {s a E d k b : Int} {n : Nat} {q : List (Int × Int)} (h : ok s a E = true) (hn : n ≤ full s a E d) (e : cum s a E d n = q ++ [(k, b)]) :
    0 ≤ k ∧ k ≤ top s a E ∧ b = B s a E k ∧ ((q = [] ∧ k = 0) ∨ ∃ m, n = m + 1 ∧ q = cum s a E d m ∧ k = st s a E d + m) := by
  have ht := top_bd h
  have hst := st_bd (d := d) h
  cases n with
  | zero =>
    have e1 : ([] : List (Int × Int)) ++ [(0, s)] = q ++ [(k, b)] := by simpa [cum] using e
    obtain ⟨e2, e3⟩ := List.append_inj' e1 rfl
    have e4 : (0, s) = (k, b) := by simpa using e3
    obtain ⟨rfl, rfl⟩ := Prod.mk.inj e4
    exact ⟨by omega, by omega, (B_zero _ _ _).symm, .inl ⟨e2.symm, rfl⟩⟩
  | succ m =>
    rw [cum_succ] at e
    obtain ⟨e2, e3⟩ := List.append_inj' e rfl
    have e4 : (st s a E d + (m : Int), B s a E (st s a E d + m)) = (k, b) := by simpa using e3
    obtain ⟨rfl, rfl⟩ := Prod.mk.inj e4
    unfold full at hn
    exact ⟨by omega, by omega, rfl, .inr ⟨m, rfl, e2.symm, rfl⟩⟩
theorem cum_mem {s a E d j : Int} (hj : st s a E d ≤ j) (ht : j ≤ top s a E) : (j, B s a E j) ∈ cum s a E d (full s a E d) := by
  unfold cum
  refine List.mem_cons_of_mem _ (List.mem_map.2 ⟨(j - st s a E d).toNat, List.mem_range.2 (by unfold full; omega), ?_⟩)
  rw [show st s a E d + ((j - st s a E d).toNat : Int) = j by omega]
theorem st_self {s a E : Int} : st s a E s = 1 := by
  have := k0_01 s a
  unfold st; rw [skp_no (by omega)]; omega
theorem cum_none {s a E k : Int} (h0 : 0 ≤ k) (hne : ∀ y ∈ cum s a E s (full s a E s), y.1 ≠ k) : top s a E < k := by
  rcases (by omega : k = 0 ∨ 1 ≤ k) with rfl | hk
  · exact absurd rfl (hne (0, s) (by simp [cum]))
  · rcases Int.lt_or_le (top s a E) k with z | z
    · exact z
    · exact absurd rfl (hne _ (cum_mem (by rw [st_self]; exact hk) z))
theorem cum_all {s a E d : Int} (h : ok s a E = true) (hd : s ≤ d) (hne : ∀ y ∈ cum s a E d (full s a E d), y.2 ≤ d) : B s a E (top s a E) ≤ d := by
  have ht := top_bd h
  have hsk := skp_bd (d := d) h
  rcases (by omega : top s a E = 0 ∨ 1 ≤ top s a E) with z | z
  · rw [z, B_zero]; exact hd
  · exact hne _ (cum_mem (j := top s a E) (by unfold st; omega) (Int.le_refl _))
/-- Find stops at the first bound behind the day. -/
theorem cum_stop {s a E d i b j v : Int} {n : Nat} {q : List (Int × Int)} (h : ok s a E = true) (hd : s ≤ d) (hd2 : d ≤ 3652059) (hn : n ≤ full s a E d) (e : cum s a E d n = q ++ [(i, b)]) (hb : d < b)
    (hle : ∀ y ∈ q, y.2 ≤ d) (hj : (q = [] ∧ j = 0 ∧ v = 0) ∨ ∃ r, q = r ++ [(j, v)]) : 0 ≤ j ∧ j + 1 ≤ top s a E ∧ v = B s a E j ∧ b = B s a E (j + 1) ∧ v ≤ d := by
  obtain ⟨g0, g1, g2, g3⟩ := cum_last h hn e
  rcases g3 with ⟨rfl, rfl⟩ | ⟨m, rfl, rfl, rfl⟩
  · rw [B_zero] at g2; omega
  · rcases hj with ⟨hq, _⟩ | ⟨r, hr⟩
    · simp [cum] at hq
    · have hv : v ≤ d := hle (j, v) (by rw [hr]; simp)
      obtain ⟨k0', k1', k2', k3'⟩ := cum_last h (by omega) hr
      have hst := st_bd (d := d) h
      rcases k3' with ⟨rfl, rfl⟩ | ⟨m', rfl, rfl, rfl⟩
      · have hm : m = 0 := by
          have := congrArg List.length hr
          rw [cum_len] at this; simpa using this
        subst hm
        have hone : st s a E d = 1 := by
          rcases (by omega : st s a E d = 1 ∨ 2 ≤ st s a E d) with z | z
          · exact z
          · have := st_le h hd hd2 z
            rw [show st s a E d + ((0 : Nat) : Int) = st s a E d by omega] at g2
            omega
        rw [hone] at g1 g2
        exact ⟨by omega, by omega, k2', g2, hv⟩
      · refine ⟨k0', by omega, k2', ?_, hv⟩
        rw [g2]; congr 1; push_cast; omega
end An
end
