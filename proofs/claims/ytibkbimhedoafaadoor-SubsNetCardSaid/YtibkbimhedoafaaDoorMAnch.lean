/- The bounds of periods, and the period of a day: plain arithmetic. No conditions. The bounds of periods, month by month (as the document's answer goes): plain arithmetic. No conditions. What anchor.within, At and Check answer (walks). The table of the days ahead of months holds its numbers. What anchor.At and Check answer (walks). The table of the days ahead of months holds its numbers. The iterator of anchor.bounds: what comes, for every loop body (a walk). The table of the days ahead of months holds its numbers. What anchor.bounds, Bound and Find answer (walks). The table of the days ahead of months holds its numbers. What anchor.Find answers (a walk). The table of the days ahead of months holds its numbers. -/
import Derived.Test.YtibkbimhedoafaaDoorMCiv
import Derived.Test.YtibkbimhedoafaaDoorBase
import Derived.OpenShut
import Derived.RangeFuncNested
import Derived.RangeFuncBound
import Derived.RangeFuncCalls
import Derived.RangeFuncLeaves
import Derived.Shelf.Abstract
import Derived.Shelf.RegionOpen
import Derived.WalkKit
import Derived.OwnWalkIn
import Derived.TacticsInMore
import Derived.LoopNIn
import Derived.LoopIn
import Derived.Sort.CutIn
import Derived.RangeFuncFrom
noncomputable section
namespace An
open Cv
def at_ (M a : Int) : Int := min (fst M + a - 1) (fst (M + 1) - 1)
def ok (s a E : Int) : Bool := decide (1 ≤ s) && decide (s ≤ 3652059) && decide (1 ≤ a) && decide (a ≤ 31) && decide (1 ≤ E) && decide (E ≤ 120)
def okA (M a : Int) : Bool := okM M && decide (1 ≤ a) && decide (a ≤ 31)
def atV (M a : Int) : Int := if okA M a = true then at_ M a else 0
def atE (M a : Int) : Int := if okA M a = true then 0 else 2
def ckE (s a E : Int) : Int := if ok s a E = true then 0 else 2
def k0 (s a : Int) : Int := if at_ (ofD s) a ≤ s then 0 else 1
def mon (s a E i : Int) : Int := ofD s + (i - k0 s a) * E
def B (s a E i : Int) : Int := if i = 0 then s else at_ (mon s a E i) a
def top (s a E : Int) : Int := k0 s a + (119988 - ofD s) / E
def idx (s a E d : Int) : Nat → Nat
  | 0 => 0
  | n + 1 => if B s a E ((n + 1 : Nat) : Int) ≤ d then n + 1 else idx s a E d n
def fk (s a E d : Int) : Int := (idx s a E d (top s a E).toNat : Nat)
def bOk (s a E k : Int) : Bool := ok s a E && decide (0 ≤ k)
def bV (s a E k : Int) : Int := if bOk s a E k = true ∧ k ≤ top s a E then B s a E k else 0
def bE (s a E k : Int) : Int := if bOk s a E k = true then (if k ≤ top s a E then 0 else 7) else 2
def fOk (s a E d : Int) : Bool := ok s a E && decide (1 ≤ d) && decide (d ≤ 3652059)
def fIn (s a E d : Int) : Bool := fOk s a E d && decide (s ≤ d) && decide (fk s a E d + 1 ≤ top s a E)
def fV (s a E d : Int) (x : Int) : Int := if fIn s a E d = true then x else 0
def fE (s a E d : Int) : Int := if fOk s a E d = true then (if fIn s a E d = true then 0 else 7) else 2

theorem ok_t {s a E : Int} (h : ok s a E = true) : (1 ≤ s ∧ s ≤ 3652059) ∧ (1 ≤ a ∧ a ≤ 31) ∧ 1 ≤ E ∧ E ≤ 120 := by unfold ok at h; simp at h; omega
theorem ok_f {s a E : Int} (h : ok s a E = false) : ¬ ((1 ≤ s ∧ s ≤ 3652059) ∧ (1 ≤ a ∧ a ≤ 31) ∧ 1 ≤ E ∧ E ≤ 120) := by
  intro g; have : ok s a E = true := by unfold ok; simp; omega
  rw [h] at this; cases this
theorem ok_mk {s a E : Int} (h1 : 1 ≤ s) (h2 : s ≤ 3652059) (h3 : 1 ≤ a) (h4 : a ≤ 31) (h5 : 1 ≤ E) (h6 : E ≤ 120) : ok s a E = true := by unfold ok; simp; omega
theorem okA_mk {M a : Int} (h1 : 1 ≤ M) (h2 : M ≤ 119988) (h3 : 1 ≤ a) (h4 : a ≤ 31) : okA M a = true := by unfold okA okM; simp; omega
theorem okA_t {M a : Int} (h : okA M a = true) : (1 ≤ M ∧ M ≤ 119988) ∧ 1 ≤ a ∧ a ≤ 31 := by unfold okA okM at h; simp at h; omega
theorem okA_no {M a : Int} (h : ¬ ((1 ≤ M ∧ M ≤ 119988) ∧ 1 ≤ a ∧ a ≤ 31)) : okA M a = false := by
  cases e : okA M a with
  | false => rfl
  | true => exact absurd (okA_t e) h
theorem at_lo {M a : Int} (h1 : 1 ≤ M) (h2 : M ≤ 119988) (h3 : 1 ≤ a) : fst M ≤ at_ M a ∧ at_ M a < fst (M + 1) := by
  have := fst_lo h1 h2; unfold at_; omega
theorem at_bd {M a : Int} (h1 : 1 ≤ M) (h2 : M ≤ 119988) (h3 : 1 ≤ a) : 1 ≤ at_ M a ∧ at_ M a ≤ 3652059 := by
  have := at_lo h1 h2 h3; have h4 := fst_bd (M := M) h1 (by omega); have h5 := fst_bd (M := M + 1) (by omega) (by omega); omega
theorem k0_01 (s a : Int) : k0 s a = 0 ∨ k0 s a = 1 := by unfold k0; split <;> simp
theorem mon_succ (s a E i : Int) : mon s a E (i + 1) = mon s a E i + E := by
  unfold mon
  rw [show i + 1 - k0 s a = (i - k0 s a) + 1 by omega, Int.add_mul, Int.one_mul]; omega
theorem mon_k0 (s a E : Int) : mon s a E (k0 s a) = ofD s := by unfold mon; simp
theorem mon_skip (s a E i n : Int) : mon s a E (i + n) = mon s a E i + n * E := by
  unfold mon
  rw [show i + n - k0 s a = (i - k0 s a) + n by omega, Int.add_mul]; omega
/-- An index is one of the bounds' just where its month is. -/
theorem top_iff {s a E i : Int} (hE : 1 ≤ E) : i ≤ top s a E ↔ mon s a E i ≤ 119988 := by
  unfold top mon
  constructor
  · intro h
    have h1 : i - k0 s a ≤ (119988 - ofD s) / E := by omega
    have := (Int.le_ediv_iff_mul_le (by omega : (0 : Int) < E)).1 h1
    omega
  · intro h
    have : i - k0 s a ≤ (119988 - ofD s) / E := (Int.le_ediv_iff_mul_le (by omega : (0 : Int) < E)).2 (by omega)
    omega
theorem mon_ge {s a E i : Int} (hE : 1 ≤ E) (h : k0 s a ≤ i) : ofD s + (i - k0 s a) ≤ mon s a E i := by
  unfold mon
  have : (i - k0 s a) * 1 ≤ (i - k0 s a) * E := Int.mul_le_mul_of_nonneg_left hE (by omega)
  omega
theorem top_bd {s a E : Int} (h : ok s a E = true) : 0 ≤ top s a E ∧ k0 s a ≤ top s a E ∧ top s a E ≤ 119988 := by
  obtain ⟨⟨h1, h2⟩, ⟨h3, h4⟩, h5, h6⟩ := ok_t h
  have hs := ofD_spec h1 h2
  have hk := k0_01 s a
  unfold top
  have g1 : 0 ≤ (119988 - ofD s) / E := Int.ediv_nonneg (by omega) (by omega)
  have g2 : (119988 - ofD s) / E ≤ 119988 - ofD s := Int.ediv_le_self _ (by omega)
  omega
/-- The month of a bound. -/
theorem mon_bd {s a E i : Int} (h : ok s a E = true) (h0 : k0 s a ≤ i) (h1 : i ≤ top s a E) : 1 ≤ mon s a E i ∧ ofD s ≤ mon s a E i ∧ mon s a E i ≤ 119988 := by
  obtain ⟨⟨g1, g2⟩, ⟨g3, g4⟩, g5, g6⟩ := ok_t h
  have hs := ofD_spec g1 g2
  have := mon_ge g5 h0
  have := (top_iff g5).1 h1
  omega
theorem k0_le {s a i : Int} (h : 1 ≤ i) : k0 s a ≤ i := by have := k0_01 s a; omega
theorem B_zero (s a E : Int) : B s a E 0 = s := by simp [B]
theorem B_pos {s a E i : Int} (h : 1 ≤ i) : B s a E i = at_ (mon s a E i) a := by unfold B; rw [if_neg (by omega)]
theorem B_in {s a E i : Int} (h : ok s a E = true) (h0 : 1 ≤ i) (h1 : i ≤ top s a E) : fst (mon s a E i) ≤ B s a E i ∧ B s a E i < fst (mon s a E i + 1) := by
  obtain ⟨_, ⟨g3, _⟩, _⟩ := ok_t h
  have hm := mon_bd h (k0_le h0) h1
  rw [B_pos h0]; exact at_lo hm.1 hm.2.2 g3
theorem B_bd {s a E i : Int} (h : ok s a E = true) (h0 : 0 ≤ i) (h1 : i ≤ top s a E) : 1 ≤ B s a E i ∧ B s a E i ≤ 3652059 := by
  obtain ⟨⟨g1, g2⟩, ⟨g3, _⟩, _⟩ := ok_t h
  rcases (by omega : i = 0 ∨ 1 ≤ i) with rfl | hi
  · rw [B_zero]; omega
  · have hm := mon_bd h (k0_le hi) h1
    rw [B_pos hi]; exact at_bd hm.1 hm.2.2 g3
/-- A bound is of its month. -/
theorem B_of {s a E i : Int} (h : ok s a E = true) (h0 : 1 ≤ i) (h1 : i ≤ top s a E) : ofD (B s a E i) = mon s a E i := by
  have hm := mon_bd h (k0_le h0) h1
  have hb := B_in h h0 h1
  exact ofD_eq hm.1 hm.2.2 hb.1 hb.2
/-- Bounds rise. -/
theorem B_lt {s a E i : Int} (h : ok s a E = true) (h0 : 0 ≤ i) (h1 : i + 1 ≤ top s a E) : B s a E i < B s a E (i + 1) := by
  obtain ⟨⟨g1, g2⟩, ⟨g3, g4⟩, g5, g6⟩ := ok_t h
  have hs := ofD_spec g1 g2
  have hm := mon_bd h (k0_le (i := i + 1) (by omega)) h1
  have hb := B_in h (i := i + 1) (by omega) h1
  rcases (by omega : i = 0 ∨ 1 ≤ i) with rfl | hi
  · rw [B_zero]
    by_cases hk : at_ (ofD s) a ≤ s
    · have e0 : k0 s a = 0 := by unfold k0; rw [if_pos hk]
      have e1 : mon s a E (0 + 1) = ofD s + E := by unfold mon; rw [e0]; omega
      rw [e1] at hb hm
      have := fst_mono (a := ofD s + 1) (b := ofD s + E) (by omega) (by omega) (by omega)
      omega
    · have e0 : k0 s a = 1 := by unfold k0; rw [if_neg hk]
      have e1 : mon s a E (0 + 1) = ofD s := by unfold mon; rw [e0]; omega
      rw [B_pos (by omega), e1]
      omega
  · have hb0 := B_in h hi (by omega)
    have e1 := mon_succ s a E i
    rw [e1] at hb hm
    have hm0 := mon_bd h (k0_le hi) (by omega : i ≤ top s a E)
    have := fst_mono (a := mon s a E i + 1) (b := mon s a E i + E) (by omega) (by omega) (by omega)
    omega
theorem B_up {s a E : Int} (h : ok s a E = true) : ∀ (n : Nat) (i : Int), 0 ≤ i → i + n ≤ top s a E → B s a E i + n ≤ B s a E (i + n)
  | 0, i, _, _ => by simp
  | n + 1, i, h0, h1 => by
    have ih := B_up h n i h0 (by push_cast at h1; omega)
    have := B_lt h (i := i + n) (by omega) (by push_cast at h1; omega)
    rw [show i + ((n + 1 : Nat) : Int) = i + n + 1 by push_cast; omega]
    push_cast; omega
theorem B_mono {s a E i j : Int} (h : ok s a E = true) (h0 : 0 ≤ i) (h1 : i ≤ j) (h2 : j ≤ top s a E) : B s a E i + (j - i) ≤ B s a E j := by
  have := B_up h (j - i).toNat i h0 (by omega)
  rw [show i + ((j - i).toNat : Int) = j by omega] at this
  omega
theorem idx_le (s a E d : Int) : ∀ n, idx s a E d n ≤ n
  | 0 => Nat.le_refl _
  | n + 1 => by unfold idx; split; exact Nat.le_refl _; exact Nat.le_succ_of_le (idx_le s a E d n)
theorem idx_at {s a E d : Int} (h0 : s ≤ d) : ∀ n, B s a E (idx s a E d n : Nat) ≤ d
  | 0 => by simpa [idx, B] using h0
  | n + 1 => by
    unfold idx; split
    · assumption
    · exact idx_at h0 n
theorem idx_gt {s a E d : Int} : ∀ n j, idx s a E d n < j → j ≤ n → d < B s a E (j : Nat)
  | 0, j, h, h1 => by omega
  | n + 1, j, h, h1 => by
    unfold idx at h; split at h
    · omega
    · rename_i g
      rcases (by omega : j = n + 1 ∨ j ≤ n) with rfl | hj
      · omega
      · exact idx_gt n j h hj
theorem fk_spec {s a E d : Int} (h : ok s a E = true) (hd : s ≤ d) : 0 ≤ fk s a E d ∧ fk s a E d ≤ top s a E ∧ B s a E (fk s a E d) ≤ d ∧ ∀ j, fk s a E d < j → j ≤ top s a E → d < B s a E j := by
  have ht := top_bd h
  have h1 := idx_le s a E d (top s a E).toNat
  refine ⟨by unfold fk; omega, by unfold fk; omega, idx_at hd _, fun j hj hj' => ?_⟩
  unfold fk at hj
  have := idx_gt (s := s) (a := a) (E := E) (d := d) (top s a E).toNat j.toNat (by omega) (by omega)
  rwa [show ((j.toNat : Nat) : Int) = j by omega] at this
theorem fk_uniq {s a E d k : Int} (h : ok s a E = true) (h0 : 0 ≤ k) (h1 : k ≤ top s a E) (h2 : B s a E k ≤ d) (h3 : k + 1 ≤ top s a E → d < B s a E (k + 1)) : fk s a E d = k := by
  obtain ⟨g0, g1, g2, g3⟩ := fk_spec h (d := d) (by have := B_mono h (i := 0) (by omega) h0 h1; rw [B_zero] at this; omega)
  rcases (by omega : fk s a E d < k ∨ fk s a E d = k ∨ k < fk s a E d) with hh | hh | hh
  · have := g3 k hh h1; omega
  · exact hh
  · have := h3 (by omega)
    have := B_mono h (i := k + 1) (j := fk s a E d) (by omega) (by omega) g1
    omega
/-- Find at a day of a period. -/
theorem f_in {s a E d k : Int} (h : ok s a E = true) (h0 : 0 ≤ k) (h1 : k + 1 ≤ top s a E) (h2 : B s a E k ≤ d) (h3 : d < B s a E (k + 1)) : fOk s a E d = true ∧ fIn s a E d = true ∧ fk s a E d = k := by
  have e := fk_uniq h h0 (by omega) h2 (fun _ => h3)
  have b0 := B_bd h h0 (by omega)
  have b1 := B_bd h (i := k + 1) (by omega) h1
  have hs : s ≤ d := by have := B_mono h (i := 0) (by omega) h0 (by omega); rw [B_zero] at this; omega
  have f : fOk s a E d = true := by unfold fOk; simp [h]; omega
  exact ⟨f, by unfold fIn; rw [f, e]; simp; omega, e⟩
/-- .. and behind the last bound. -/
theorem f_out {s a E d : Int} (h : ok s a E = true) (hd : d ≤ 3652059) (h2 : B s a E (top s a E) ≤ d) : fOk s a E d = true ∧ fIn s a E d = false := by
  have ht := top_bd h
  obtain ⟨⟨g1, g2⟩, _⟩ := ok_t h
  have e := fk_uniq h ht.1 (by omega) h2 (fun g => by omega)
  have hs : s ≤ d := by have := B_mono h (i := 0) (by omega) ht.1 (by omega); rw [B_zero] at this; omega
  have f : fOk s a E d = true := by unfold fOk; simp [h]; omega
  exact ⟨f, by unfold fIn; rw [f, e]; simp; omega⟩
/-- The anchor day of a later month is no more than 31 days a month on. -/
theorem fst_31 (n : Nat) {M : Int} (h1 : 1 ≤ M) (h2 : M + n ≤ 119989) : fst (M + n) ≤ fst M + 31 * n := by
  induction n with
  | zero => simp
  | succ n ih =>
    have := ih (by omega)
    have := fst_lo (M := M + n) (by omega) (by omega)
    rw [show M + ((n + 1 : Nat) : Int) = M + n + 1 by omega]
    omega
theorem fst_le31 {a b : Int} (h1 : 1 ≤ a) (h : a ≤ b) (h2 : b ≤ 119989) : fst b ≤ fst a + 31 * (b - a) := by
  have := fst_31 (b - a).toNat (M := a) h1 (by omega)
  rw [show a + ((b - a).toNat : Int) = b by omega] at this
  omega
theorem at_31 {M N a : Int} (h1 : 1 ≤ M) (h : M ≤ N) (h2 : N ≤ 119988) : at_ N a ≤ at_ M a + 31 * (N - M) := by
  have g1 := fst_le31 h1 h (by omega)
  have g2 := fst_le31 (a := M + 1) (b := N + 1) (by omega) (by omega) (by omega)
  unfold at_; omega
theorem B_31 {s a E i : Int} (h : ok s a E = true) (h0 : 0 ≤ i) (h1 : i + 1 ≤ top s a E) : B s a E (i + 1) - B s a E i ≤ 31 * E := by
  obtain ⟨⟨g1, g2⟩, ⟨g3, g4⟩, g5, g6⟩ := ok_t h
  have hs := ofD_spec g1 g2
  have hm := mon_bd h (k0_le (i := i + 1) (by omega)) h1
  rcases (by omega : i = 0 ∨ 1 ≤ i) with rfl | hi
  · rw [B_zero, B_pos (by omega)]
    by_cases hk : at_ (ofD s) a ≤ s
    · have e0 : k0 s a = 0 := by unfold k0; rw [if_pos hk]
      have e1 : mon s a E (0 + 1) = ofD s + E := by unfold mon; rw [e0]; omega
      rw [e1] at hm ⊢
      have := at_31 (a := a) hs.1 (by omega : ofD s ≤ ofD s + E) (by omega)
      omega
    · have e0 : k0 s a = 1 := by unfold k0; rw [if_neg hk]
      have e1 : mon s a E (0 + 1) = ofD s := by unfold mon; rw [e0]; omega
      rw [e1] at hm ⊢
      have := at_lo (a := a) hs.1 hs.2.1 g3
      have := fst_lo hs.1 hs.2.1
      omega
  · have hm0 := mon_bd h (k0_le hi) (by omega : i ≤ top s a E)
    have e1 := mon_succ s a E i
    rw [B_pos hi, B_pos (by omega), e1]
    rw [e1] at hm
    have := at_31 (a := a) hm0.1 (by omega : mon s a E i ≤ mon s a E i + E) (by omega)
    omega
/-- The month of the 0th bound, beside that of the 1st. -/
theorem mon_one {s a E : Int} : mon s a E 1 = ofD s ∨ mon s a E 1 = ofD s + E := by
  rcases k0_01 s a with h | h <;> unfold mon <;> rw [h] <;> omega
/-- Bounds that are passed over. -/
def skp (s E d : Int) : Int := if okD d = true ∧ ofD s < ofD d then max ((ofD d - ofD s) / E - 1) 0 else 0
/-- The first bound behind the 0th that comes. -/
def st (s a E d : Int) : Int := max 1 (k0 s a + skp s E d)
/-- What has come: the 0th, and n others. -/
def cum (s a E d : Int) (n : Nat) : List (Int × Int) := (0, s) :: (List.range n).map fun (j : Nat) => (st s a E d + (j : Int), B s a E (st s a E d + (j : Int)))
def full (s a E d : Int) : Nat := (top s a E + 1 - st s a E d).toNat
theorem cum_len (s a E d : Int) (n : Nat) : (cum s a E d n).length = n + 1 := by simp [cum]
theorem cum_succ (s a E d : Int) (n : Nat) : cum s a E d (n + 1) = cum s a E d n ++ [(st s a E d + n, B s a E (st s a E d + n))] := by simp [cum, List.range_succ]
theorem skp_no {s E d : Int} (h : ¬ (okD d = true ∧ ofD s < ofD d)) : skp s E d = 0 := by unfold skp; rw [if_neg h]
theorem skp_yes {s E d : Int} (h : okD d = true) (g : ofD s < ofD d) : skp s E d = max ((ofD d - ofD s) / E - 1) 0 := by unfold skp; rw [if_pos ⟨h, g⟩]
theorem skp_bd {s a E d : Int} (h : ok s a E = true) : 0 ≤ skp s E d ∧ 0 ≤ skp s E d * E ∧ ofD s + skp s E d * E ≤ 119988 ∧ skp s E d ≤ 119988 ∧ k0 s a + skp s E d ≤ top s a E := by
  obtain ⟨⟨g1, g2⟩, ⟨g3, g4⟩, g5, g6⟩ := ok_t h
  have hs := ofD_spec g1 g2
  have hk := k0_01 s a
  have key : 0 ≤ skp s E d ∧ ofD s + skp s E d * E ≤ 119988 := by
    by_cases q : okD d = true ∧ ofD s < ofD d
    · have hd := okD_t q.1
      have hd2 := ofD_spec hd.1 hd.2
      rw [skp_yes q.1 q.2]
      rcases (by omega : (ofD d - ofD s) / E - 1 ≤ 0 ∨ 0 < (ofD d - ofD s) / E - 1) with z | z
      · rw [Int.max_eq_right z]; omega
      · rw [Int.max_eq_left (by omega), Int.sub_mul]
        have := Int.ediv_mul_le (ofD d - ofD s) (by omega : E ≠ 0)
        omega
    · rw [skp_no q]; omega
  have h1 : 0 ≤ skp s E d * E := Int.mul_nonneg key.1 (by omega)
  have h2 : skp s E d * 1 ≤ skp s E d * E := Int.mul_le_mul_of_nonneg_left g5 key.1
  have h3 : k0 s a + skp s E d ≤ top s a E := (top_iff g5).2 (by rw [mon_skip, mon_k0]; omega)
  omega
theorem st_bd {s a E d : Int} (h : ok s a E = true) : 1 ≤ st s a E d ∧ st s a E d ≤ top s a E + 1 ∧ k0 s a + skp s E d ≤ st s a E d := by
  have := skp_bd (d := d) h
  have := top_bd h
  unfold st; omega
/-- What is passed over does not lie behind the day. -/
theorem st_le {s a E d : Int} (h : ok s a E = true) (hd : s ≤ d) (hd2 : d ≤ 3652059) (h1 : 2 ≤ st s a E d) : B s a E (st s a E d) ≤ d := by
  obtain ⟨⟨g1, g2⟩, ⟨g3, g4⟩, g5, g6⟩ := ok_t h
  have hs := ofD_spec g1 g2
  have hk := k0_01 s a
  have hsk := skp_bd (d := d) h
  have e : st s a E d = k0 s a + skp s E d := by unfold st at *; omega
  have hpos : 1 ≤ skp s E d := by unfold st at *; omega
  by_cases q : okD d = true ∧ ofD s < ofD d
  · have hd3 := ofD_spec (d := d) (by omega) hd2
    have e2 := skp_yes (E := E) q.1 q.2
    have z : skp s E d = (ofD d - ofD s) / E - 1 := by omega
    have z2 : skp s E d * E + E ≤ ofD d - ofD s := by
      have := Int.ediv_mul_le (ofD d - ofD s) (by omega : E ≠ 0)
      rw [z, Int.sub_mul]; omega
    have hb := B_in h (i := st s a E d) (by omega) (by omega)
    have em : mon s a E (st s a E d) = ofD s + skp s E d * E := by rw [e, mon_skip, mon_k0]
    rw [em] at hb
    have := fst_mono (a := ofD s + skp s E d * E + 1) (b := ofD d) (by omega) (by omega) (by omega)
    omega
  · rw [skp_no q] at hpos; omega
/-- A round of the loop at the index i. -/
theorem rnd {s a E d i : Int} (h : ok s a E = true) (h0 : k0 s a + skp s E d ≤ i) (h1 : i ≤ top s a E + 1) :
    1 ≤ mon s a E i ∧ (mon s a E i ≤ 119988 → okA (mon s a E i) a = true ∧ (0 < i → st s a E d ≤ i ∧
      cum s a E d (i + 1 - st s a E d).toNat = cum s a E d (i - st s a E d).toNat ++ [(i, at_ (mon s a E i) a)])) ∧
      (¬ mon s a E i ≤ 119988 → (i - st s a E d).toNat = full s a E d) ∧ (¬ 0 < i → i = 0 ∧ (0 - st s a E d).toNat = 0 ∧ (0 + 1 - st s a E d).toNat = 0) := by
  obtain ⟨⟨g1, g2⟩, ⟨g3, g4⟩, g5, g6⟩ := ok_t h
  have hs := ofD_spec g1 g2
  have hk := k0_01 s a
  have hsk := skp_bd (d := d) h
  have hst := st_bd (d := d) h
  have hge := mon_ge (s := s) (a := a) (E := E) (i := i) g5 (by omega)
  have hti := top_iff (s := s) (a := a) (E := E) (i := i) g5
  have hdef : st s a E d = max 1 (k0 s a + skp s E d) := rfl
  refine ⟨by omega, fun hm => ⟨okA_mk (by omega) hm g3 g4, fun hi => ⟨by omega, ?_⟩⟩, fun hm => ?_, fun hi => ⟨by omega, by omega, by omega⟩⟩
  · rw [show (i + 1 - st s a E d).toNat = (i - st s a E d).toNat + 1 by omega, cum_succ, show st s a E d + ((i - st s a E d).toNat : Int) = i by omega, B_pos (by omega)]
  · have : ¬ i ≤ top s a E := fun q => hm (hti.1 q)
    unfold full
    rw [show i = top s a E + 1 by omega]
/-- The last that has come. -/
theorem cum_last {s a E d k b : Int} {n : Nat} {q : List (Int × Int)} (h : ok s a E = true) (hn : n ≤ full s a E d) (e : cum s a E d n = q ++ [(k, b)]) :
    0 ≤ k ∧ k ≤ top s a E ∧ b = B s a E k ∧ ((q = [] ∧ k = 0) ∨ ∃ m, n = m + 1 ∧ q = cum s a E d m ∧ k = st s a E d + m) := by
  have ht := top_bd h
  have hst := st_bd (d := d) h
  cases n with
  | zero =>
    have e1 : ([] : List (Int × Int)) ++ [(0, s)] = q ++ [(k, b)] := by simpa [cum] using e
    obtain ⟨e2, e3⟩ := List.append_inj' e1 rfl
    have e4 : (0, s) = (k, b) := by simpa using e3
    obtain ⟨rfl, rfl⟩ := Prod.mk.inj e4
    exact ⟨by omega, by omega, (B_zero _ _ _).symm, .inl ⟨e2.symm, rfl⟩⟩
  | succ m =>
    rw [cum_succ] at e
    obtain ⟨e2, e3⟩ := List.append_inj' e rfl
    have e4 : (st s a E d + (m : Int), B s a E (st s a E d + m)) = (k, b) := by simpa using e3
    obtain ⟨rfl, rfl⟩ := Prod.mk.inj e4
    unfold full at hn
    exact ⟨by omega, by omega, rfl, .inr ⟨m, rfl, e2.symm, rfl⟩⟩
theorem cum_mem {s a E d j : Int} (hj : st s a E d ≤ j) (ht : j ≤ top s a E) : (j, B s a E j) ∈ cum s a E d (full s a E d) := by
  unfold cum
  refine List.mem_cons_of_mem _ (List.mem_map.2 ⟨(j - st s a E d).toNat, List.mem_range.2 (by unfold full; omega), ?_⟩)
  rw [show st s a E d + ((j - st s a E d).toNat : Int) = j by omega]
theorem st_self {s a E : Int} : st s a E s = 1 := by
  have := k0_01 s a
  unfold st; rw [skp_no (by omega)]; omega
theorem cum_none {s a E k : Int} (h0 : 0 ≤ k) (hne : ∀ y ∈ cum s a E s (full s a E s), y.1 ≠ k) : top s a E < k := by
  rcases (by omega : k = 0 ∨ 1 ≤ k) with rfl | hk
  · exact absurd rfl (hne (0, s) (by simp [cum]))
  · rcases Int.lt_or_le (top s a E) k with z | z
    · exact z
    · exact absurd rfl (hne _ (cum_mem (by rw [st_self]; exact hk) z))
theorem cum_all {s a E d : Int} (h : ok s a E = true) (hd : s ≤ d) (hne : ∀ y ∈ cum s a E d (full s a E d), y.2 ≤ d) : B s a E (top s a E) ≤ d := by
  have ht := top_bd h
  have hsk := skp_bd (d := d) h
  rcases (by omega : top s a E = 0 ∨ 1 ≤ top s a E) with z | z
  · rw [z, B_zero]; exact hd
  · exact hne _ (cum_mem (j := top s a E) (by unfold st; omega) (Int.le_refl _))
/-- Find stops at the first bound behind the day. -/
theorem cum_stop {s a E d i b j v : Int} {n : Nat} {q : List (Int × Int)} (h : ok s a E = true) (hd : s ≤ d) (hd2 : d ≤ 3652059) (hn : n ≤ full s a E d) (e : cum s a E d n = q ++ [(i, b)]) (hb : d < b)
    (hle : ∀ y ∈ q, y.2 ≤ d) (hj : (q = [] ∧ j = 0 ∧ v = 0) ∨ ∃ r, q = r ++ [(j, v)]) : 0 ≤ j ∧ j + 1 ≤ top s a E ∧ v = B s a E j ∧ b = B s a E (j + 1) ∧ v ≤ d := by
  obtain ⟨g0, g1, g2, g3⟩ := cum_last h hn e
  rcases g3 with ⟨rfl, rfl⟩ | ⟨m, rfl, rfl, rfl⟩
  · rw [B_zero] at g2; omega
  · rcases hj with ⟨hq, _⟩ | ⟨r, hr⟩
    · simp [cum] at hq
    · have hv : v ≤ d := hle (j, v) (by rw [hr]; simp)
      obtain ⟨k0', k1', k2', k3'⟩ := cum_last h (by omega) hr
      have hst := st_bd (d := d) h
      rcases k3' with ⟨rfl, rfl⟩ | ⟨m', rfl, rfl, rfl⟩
      · have hm : m = 0 := by
          have := congrArg List.length hr
          rw [cum_len] at this; simpa using this
        subst hm
        have hone : st s a E d = 1 := by
          rcases (by omega : st s a E d = 1 ∨ 2 ≤ st s a E d) with z | z
          · exact z
          · have := st_le h hd hd2 z
            rw [show st s a E d + ((0 : Nat) : Int) = st s a E d by omega] at g2
            omega
        rw [hone] at g1 g2
        exact ⟨by omega, by omega, k2', g2, hv⟩
      · refine ⟨k0', by omega, k2', ?_, hv⟩
        rw [g2]; congr 1; push_cast; omega
end An
end

namespace An
open Cv
/-- Behind n months j bounds have come besides the 0th. -/
def inv (s a E n j : Int) : Prop := (n = 0 ∧ j = 0) ∨ (1 ≤ n ∧ mon s a E j < ofD s + n ∧ ofD s + n ≤ mon s a E (j + 1))
theorem step_yes {s a E n j : Int} (h : ok s a E = true) (hi : inv s a E n j) (hm : ofD s + n ≤ 119988) (h1 : n % E = 0) (h2 : s < at_ (ofD s + n) a) :
    inv s a E (n + 1) (j + 1) ∧ at_ (ofD s + n) a = at_ (mon s a E (j + 1)) a ∧ j + 1 ≤ top s a E := by
  obtain ⟨⟨g1, g2⟩, ⟨g3, g4⟩, g5, g6⟩ := ok_t h
  have key : mon s a E (j + 1) = ofD s + n := by
    rcases hi with ⟨rfl, rfl⟩ | ⟨k1, k2, k3⟩
    · have e0 : k0 s a = 1 := by
        unfold k0; rw [if_neg]; rw [Int.add_zero] at h2; omega
      unfold mon; rw [e0]; omega
    · have e1 := mon_succ s a E j
      unfold mon at k2 k3 ⊢
      have e2 := Int.mul_ediv_add_emod n E
      rw [h1] at e2
      generalize n / E = m at *
      have a1 : (j - k0 s a) * E < m * E := by rw [Int.mul_comm m E]; omega
      have a2 : m * E ≤ (j + 1 - k0 s a) * E := by rw [Int.mul_comm m E]; omega
      have b1 := Int.lt_of_mul_lt_mul_right a1 (by omega)
      have b2 := Int.le_of_mul_le_mul_right a2 (by omega)
      have : m = j + 1 - k0 s a := by omega
      rw [← this, Int.mul_comm m E]; omega
  have e3 := mon_succ s a E (j + 1)
  refine ⟨.inr ⟨?_, by omega, by omega⟩, by rw [key], (top_iff g5).2 (by omega)⟩
  rcases hi with ⟨rfl, rfl⟩ | ⟨k1, k2, k3⟩ <;> omega
theorem step_no {s a E n j : Int} (h : ok s a E = true) (hi : inv s a E n j) (hm : ofD s + n ≤ 119988) (hn : ¬ (n % E = 0 ∧ s < at_ (ofD s + n) a)) : inv s a E (n + 1) j := by
  obtain ⟨⟨g1, g2⟩, ⟨g3, g4⟩, g5, g6⟩ := ok_t h
  have hs := ofD_spec g1 g2
  rcases hi with ⟨rfl, rfl⟩ | ⟨k1, k2, k3⟩
  · have e0 : k0 s a = 0 := by
      unfold k0; rw [if_pos]
      rw [Int.add_zero] at hn
      have : ¬ s < at_ (ofD s) a := fun q => hn ⟨by simp, q⟩
      omega
    refine .inr ⟨by omega, ?_, ?_⟩ <;> unfold mon <;> rw [e0] <;> omega
  · have hat := at_lo (M := ofD s + n) (a := a) (by omega) hm g3
    have hf := fst_mono (a := ofD s + 1) (b := ofD s + n) (by omega) (by omega) (by omega)
    have h1 : ¬ n % E = 0 := fun q => hn ⟨q, by omega⟩
    refine .inr ⟨by omega, by omega, ?_⟩
    have : ¬ ofD s + n = mon s a E (j + 1) := by
      intro q
      unfold mon at q
      have : n = (j + 1 - k0 s a) * E := by omega
      rw [this] at h1
      exact h1 (Int.mul_emod_left _ _)
    omega
/-- Where the months are over, all have come. -/
theorem inv_end {s a E n j : Int} (h : ok s a E = true) (hi : inv s a E n j) (hm : 119988 < ofD s + n) (hj : j ≤ top s a E) : j = top s a E := by
  obtain ⟨⟨g1, g2⟩, _, g5, _⟩ := ok_t h
  have hs := ofD_spec g1 g2
  rcases hi with ⟨rfl, rfl⟩ | ⟨k1, k2, k3⟩
  · omega
  · have : ¬ j + 1 ≤ top s a E := fun q => by have := (top_iff g5).1 q; omega
    omega
end An

namespace Go.Proofs.YtibkbimhedoafaaDoor.anch
open Go.RowKit Go.Proofs.YtibkbimhedoafaaDoor.base
open Go.Proofs.YtibkbimhedoafaaDoor.civ (Tab)

/-- Numbers from 1 to a most, pair by pair. -/
def win (F : Nat → Int) : Nat → Bool
  | 0 => true
  | n + 1 => win F n && decide (1 ≤ F (2 * n)) && decide (F (2 * n) ≤ F (2 * n + 1))
theorem win_no {F : Nat → Int} {k : Nat} : ∀ n, k < n → ¬ (1 ≤ F (2 * k) ∧ F (2 * k) ≤ F (2 * k + 1)) → win F n = false
  | 0, h, _ => by omega
  | n + 1, h, g => by
    rcases (by omega : k = n ∨ k < n) with rfl | hk
    · unfold win; simp; omega
    · unfold win; rw [win_no n hk g]; rfl
theorem win_step {F : Nat → Int} {k : Nat} (h : win F k = true) (g1 : 1 ≤ F (2 * k)) (g2 : F (2 * k) ≤ F (2 * k + 1)) : win F (k + 1) = true := by unfold win; simp [h, g1, g2]
set_option maxHeartbeats 400000 in
theorem within_any (F : Nat → Int) (n b c : Nat) (w : World) (hn : n ≤ 100) (hc : ∀ j, j < 2 * n → w.cell? ⟨b, j, none⟩ = some (.int .i64 (F j))) :
    Calls Tryd.prog 46 #[.slice (some ⟨b, 0, none⟩) (2 * n) c] w fun e w' => e = .returned (.bool (win F n)) ∧ Below w.heap.size w w' := by
  have HC := Lib.hid hc
  clear hc
  obtain ⟨N, hN⟩ : ∃ N, N = 2 * n := ⟨_, rfl⟩
  rw [← hN]
  have HN := Lib.hid hN
  clear hN
  go_enter Tryd.func46, Tryd.ntmps46
  go_wp2
  go_loopw [3] (fun i wr => ∃ k m : Nat, k ≤ n ∧ m = 2 * k ∧ i = .int .i64 m ∧ win F k = true ∧ Below w.heap.size w wr) (fun i _ => (N - intOf i).toNat)
  case atStart => exact ⟨0, 0, by omega, rfl, rfl, rfl, Below.refl _ _⟩
  case round =>
    obtain ⟨k, m, hk, hm, rfl, hw, hB⟩ := hrel
    have HW := Lib.hid hw
    clear hw
    have hN := HN.out
    by_cases hlt : k < n
    · have c0 := HC.out m (by omega)
      have c1 := HC.out (m + 1) (by omega)
      have lb : b < w.heap.size := lt_of_cell c0
      have d0 : wr.cell? ⟨b, m, none⟩ = some (.int .i64 (F m)) := (hB.cell (p := ⟨b, m, none⟩) lb).trans c0
      have d1 : wr.cell? ⟨b, m + 1, none⟩ = some (.int .i64 (F (m + 1))) := (hB.cell (p := ⟨b, m + 1, none⟩) lb).trans c1
      have N1 := Lib.hid (win_no (F := F) (k := k) n hlt)
      have N2 := Lib.hid (win_step HW.out)
      rw [← hm] at N1 N2
      have i1 : (0 : Int) ≤ m := by omega
      have i2 : (m : Int) < N := by omega
      have i3 : (m : Int) + 1 < N := by omega
      have i4 : N ≤ 200 := by omega
      have e1 : IntKind.i64.wrap ((m : Int) + 1) = (m : Int) + 1 := by rw [IntKind.wrap_i64]; omega
      have i5 : (0 : Int) ≤ (m : Int) + 1 := by omega
      have e2 : ((m : Int) + 1).toNat = m + 1 := by omega
      clear c0 c1
      have HM := Lib.hid hm
      generalize F m = x at *
      generalize F (m + 1) = y at *
      clear hm hN
      by_cases h1 : x < 1
      · go_wp2
        go_quiet (fail)
        go_wp2
        go_ret
        exact ⟨ret_bool (N1.out (by omega)).symm, below_drewN hB _⟩
      · by_cases h2 : y < x
        · go_wp2
          go_quiet (fail)
          go_wp2
          go_ret
          exact ⟨ret_bool (N1.out (by omega)).symm, below_drewN hB _⟩
        · have G1 := Lib.hid (N2.out (by omega) (by omega))
          go_wp2
          go_quiet (fail)
          go_wp2
          go_roundw
          case rel => exact ⟨k + 1, m + 2, by omega, by have := HM.out; omega, by go_num, G1.out, below_drewN hB _⟩
          case measure => simp [intOf]; omega
    · obtain rfl : k = n := by omega
      obtain rfl : m = N := by omega
      go_wp2
      go_ret
      exact ⟨ret_bool HW.out.symm, hB⟩
end Go.Proofs.YtibkbimhedoafaaDoor.anch

namespace Go.Proofs.YtibkbimhedoafaaDoor.anch
open Go.RowKit Go.Proofs.YtibkbimhedoafaaDoor.base
open Go.Proofs.YtibkbimhedoafaaDoor.civ (Tab)

theorem Tab.after {w w' : World} (h : Tab w) (hb : Below w.heap.size w w') : Tab w' := fun i hi => by
  have := h i hi
  exact (hb.cell (p := ⟨0, i, none⟩) (lt_of_cell this)).trans this
/-- Two numbers, laid as a slice: within tells of the first. -/
theorem two_any (x y : Int) (b c : Nat) (w : World) (h0 : w.cell? ⟨b, 0, none⟩ = some (.int .i64 x)) (h1 : w.cell? ⟨b, 1, none⟩ = some (.int .i64 y)) :
    Calls Tryd.prog 46 #[.slice (some ⟨b, 0, none⟩) 2 c] w fun e w' => e = .returned (.bool (decide (1 ≤ x ∧ x ≤ y))) ∧ Below w.heap.size w w' := by
  refine (within_any (fun j => if j = 0 then x else y) 1 b c w (by omega) ?_).mono ?_
  · intro j hj
    rcases (by omega : j = 0 ∨ j = 1) with rfl | rfl
    · simpa using h0
    · simpa using h1
  · rintro e w' ⟨rfl, h⟩
    refine ⟨ret_bool ?_, h⟩
    simp [win]
theorem six_any (x1 y1 x2 y2 x3 y3 : Int) (b c : Nat) (w : World) (h0 : w.cell? ⟨b, 0, none⟩ = some (.int .i64 x1)) (h1 : w.cell? ⟨b, 1, none⟩ = some (.int .i64 y1))
    (h2 : w.cell? ⟨b, 2, none⟩ = some (.int .i64 x2)) (h3 : w.cell? ⟨b, 3, none⟩ = some (.int .i64 y2)) (h4 : w.cell? ⟨b, 4, none⟩ = some (.int .i64 x3)) (h5 : w.cell? ⟨b, 5, none⟩ = some (.int .i64 y3)) :
    Calls Tryd.prog 46 #[.slice (some ⟨b, 0, none⟩) 6 c] w fun e w' => e = .returned (.bool (decide ((1 ≤ x1 ∧ x1 ≤ y1) ∧ (1 ≤ x2 ∧ x2 ≤ y2) ∧ 1 ≤ x3 ∧ x3 ≤ y3))) ∧ Below w.heap.size w w' := by
  refine (within_any (fun j => [x1, y1, x2, y2, x3, y3].getD j 0) 3 b c w (by omega) ?_).mono ?_
  · intro j hj
    rcases (by omega : j = 0 ∨ j = 1 ∨ j = 2 ∨ j = 3 ∨ j = 4 ∨ j = 5) with rfl | rfl | rfl | rfl | rfl | rfl
    · simpa using h0
    · simpa using h1
    · simpa using h2
    · simpa using h3
    · simpa using h4
    · simpa using h5
  · rintro e w' ⟨rfl, h⟩
    refine ⟨ret_bool ?_, h⟩
    simp [win, Bool.and_assoc]
theorem days_t (M : Int) (w : World) (T : Tab w) (h : Cv.okM M = true) : Calls Tryd.prog 61 #[.int .i64 M] w fun e w' => e = .returned (.tuple #[.int .i64 (Cv.fst M), .int .i64 (Cv.fst (M + 1) - 1), .int .i64 0]) ∧ w = w' :=
  (civ.days_any M w T).mono fun _ _ ⟨a, b⟩ => ⟨a.trans (ret_three (by simp [Cv.fstV, h]) (by simp [Cv.lstV, h]) (by simp [Cv.mE, h])), b⟩
theorem days_f (M : Int) (w : World) (T : Tab w) (h : Cv.okM M = false) : Calls Tryd.prog 61 #[.int .i64 M] w fun e w' => e = .returned (.tuple #[.int .i64 0, .int .i64 0, .int .i64 2]) ∧ w = w' :=
  (civ.days_any M w T).mono fun _ _ ⟨a, b⟩ => ⟨a.trans (ret_three (by simp [Cv.fstV, h]) (by simp [Cv.lstV, h]) (by simp [Cv.mE, h])), b⟩
theorem two_is {x y : Int} {v : Bool} (b c : Nat) (w : World) (h0 : w.cell? ⟨b, 0, none⟩ = some (.int .i64 x)) (h1 : w.cell? ⟨b, 1, none⟩ = some (.int .i64 y)) (hv : decide (1 ≤ x ∧ x ≤ y) = v) :
    Calls Tryd.prog 46 #[.slice (some ⟨b, 0, none⟩) 2 c] w fun e w' => e = .returned (.bool v) ∧ Below w.heap.size w w' := by
  subst hv; exact two_any x y b c w h0 h1
theorem six_is {x1 y1 x2 y2 x3 y3 : Int} {v : Bool} (b c : Nat) (w : World) (h0 : w.cell? ⟨b, 0, none⟩ = some (.int .i64 x1)) (h1 : w.cell? ⟨b, 1, none⟩ = some (.int .i64 y1))
    (h2 : w.cell? ⟨b, 2, none⟩ = some (.int .i64 x2)) (h3 : w.cell? ⟨b, 3, none⟩ = some (.int .i64 y2)) (h4 : w.cell? ⟨b, 4, none⟩ = some (.int .i64 x3)) (h5 : w.cell? ⟨b, 5, none⟩ = some (.int .i64 y3))
    (hv : decide ((1 ≤ x1 ∧ x1 ≤ y1) ∧ (1 ≤ x2 ∧ x2 ≤ y2) ∧ 1 ≤ x3 ∧ x3 ≤ y3) = v) :
    Calls Tryd.prog 46 #[.slice (some ⟨b, 0, none⟩) 6 c] w fun e w' => e = .returned (.bool v) ∧ Below w.heap.size w w' := by
  subst hv; exact six_any x1 y1 x2 y2 x3 y3 b c w h0 h1 h2 h3 h4 h5
set_option maxHeartbeats 400000 in
theorem at_any (M a : Int) (w : World) (T : Tab w) : Calls Tryd.prog 50 #[.int .i64 M, .int .i64 a] w fun e w' => e = .returned (.tuple #[.int .i64 (An.atV M a), .int .i64 (An.atE M a)]) ∧ Below w.heap.size w w' := by
  cases hM : Cv.okM M with
  | false =>
    have D1 := Lib.hid (days_f M w T hM)
    have Z := Lib.hid (show An.okA M a = false by unfold An.okA; simp [hM])
    clear hM
    go_enter Tryd.func50, Tryd.ntmps50
    go_wp2_with fail
    refine D1.out.mono ?_
    rintro e w' ⟨rfl, rfl⟩
    go_wp2
    go_ret2
    exact ⟨ret_two (by simp [An.atV, Z.out]) (by simp [An.atE, Z.out]), Below.refl _ _⟩
  | true =>
    have D1 := Lib.hid (days_t M w T hM)
    have m1 := Cv.okM_t hM
    by_cases ha : 1 ≤ a ∧ a ≤ 31
    · have Z := Lib.hid (show An.okA M a = true by unfold An.okA; simp [hM, ha.1, ha.2])
      have V := Lib.hid (show decide (1 ≤ a ∧ a ≤ 31) = true by simpa using ha)
      have at1 : min (Cv.fst M + a - 1) (Cv.fst (M + 1) - 1) = An.at_ M a := rfl
      have AV := Lib.hid (show An.atV M a = An.at_ M a by simp [An.atV, Z.out])
      generalize An.at_ M a = A at *
      have f1 := Cv.fst_bd m1.1 (by omega)
      have f2 := Cv.fst_bd (M := M + 1) (by omega) (by omega)
      clear hM m1
      generalize Cv.fst M = f at *
      generalize Cv.fst (M + 1) = g at *
      go_enter Tryd.func50, Tryd.ntmps50
      go_wp2_with fail
      refine D1.out.mono ?_
      rintro e w' ⟨rfl, rfl⟩
      go_wp2_with fail
      refine (two_is _ _ _ ?_ ?_ V.out).mono ?_
      · simp [go_sem]
      · simp [go_sem]
      rintro e w1 ⟨rfl, B1⟩
      have K1 := Lib.hid (((Below.refl _ _).alloc (Nat.le_refl _) _).trans (B1.mono (by simp)))
      clear B1
      go_wp2
      all_goals
        go_ret2
        exact ⟨ret_two (by rw [AV.out]; first | done | omega) (by simp [An.atE, Z.out]), K1.out⟩
    · have Z := Lib.hid (An.okA_no (M := M) (a := a) (by omega))
      have V := Lib.hid (show decide (1 ≤ a ∧ a ≤ 31) = false by simpa using ha)
      clear hM m1 ha
      generalize Cv.fst M = f at *
      generalize Cv.fst (M + 1) = g at *
      go_enter Tryd.func50, Tryd.ntmps50
      go_wp2_with fail
      refine D1.out.mono ?_
      rintro e w' ⟨rfl, rfl⟩
      go_wp2_with fail
      refine (two_is _ _ _ ?_ ?_ V.out).mono ?_
      · simp [go_sem]
      · simp [go_sem]
      rintro e w1 ⟨rfl, B1⟩
      have K1 := Lib.hid (((Below.refl _ _).alloc (Nat.le_refl _) _).trans (B1.mono (by simp)))
      clear B1
      go_wp2
      go_ret2
      exact ⟨ret_two (by simp [An.atV, Z.out]) (by simp [An.atE, Z.out]), K1.out⟩
/-- A cycle, as a value. -/
abbrev cyc (s a E : Int) : Value := .agg #[.int .i64 s, .int .i64 a, .int .i64 E]
set_option maxHeartbeats 400000 in
theorem check_any (s a E : Int) (w : World) : Calls Tryd.prog 45 #[cyc s a E] w fun e w' => e = .returned (.int .i64 (An.ckE s a E)) ∧ Below w.heap.size w w' := by
  cases h : An.ok s a E with
  | false =>
    have V := Lib.hid (show decide ((1 ≤ s ∧ s ≤ 3652059) ∧ (1 ≤ a ∧ a ≤ 31) ∧ 1 ≤ E ∧ E ≤ 120) = false by simpa using An.ok_f h)
    have H := Lib.hid h
    clear h
    go_enter Tryd.func45, Tryd.ntmps45
    go_wp2_with fail
    refine (six_is _ _ _ ?_ ?_ ?_ ?_ ?_ ?_ V.out).mono ?_
    · simp [go_sem]
    · simp [go_sem]
    · simp [go_sem]
    · simp [go_sem]
    · simp [go_sem]
    · simp [go_sem]
    rintro e w1 ⟨rfl, B1⟩
    have K1 := Lib.hid ((((Below.refl _ _).alloc (Nat.le_refl _) _).alloc (by simp) _).trans (B1.mono (by simp; omega)))
    clear B1
    go_wp2
    go_ret
    exact ⟨ret_int (by simp [An.ckE, H.out]), K1.out⟩
  | true =>
    have V := Lib.hid (show decide ((1 ≤ s ∧ s ≤ 3652059) ∧ (1 ≤ a ∧ a ≤ 31) ∧ 1 ≤ E ∧ E ≤ 120) = true by simpa using An.ok_t h)
    have H := Lib.hid h
    clear h
    go_enter Tryd.func45, Tryd.ntmps45
    go_wp2_with fail
    refine (six_is _ _ _ ?_ ?_ ?_ ?_ ?_ ?_ V.out).mono ?_
    · simp [go_sem]
    · simp [go_sem]
    · simp [go_sem]
    · simp [go_sem]
    · simp [go_sem]
    · simp [go_sem]
    rintro e w1 ⟨rfl, B1⟩
    have K1 := Lib.hid ((((Below.refl _ _).alloc (Nat.le_refl _) _).alloc (by simp) _).trans (B1.mono (by simp; omega)))
    clear B1
    go_wp2
    go_ret
    exact ⟨ret_int (by simp [An.ckE, H.out]), K1.out⟩
end Go.Proofs.YtibkbimhedoafaaDoor.anch

namespace Go.Proofs.YtibkbimhedoafaaDoor.anch
open Go.RowKit Go.Proofs.YtibkbimhedoafaaDoor.base Go.Shelf
open Go.Proofs.YtibkbimhedoafaaDoor.civ (Tab)

attribute [local go_sem] Oper.semAt_some

theorem grown_of {w w' : World} (h : Below w.heap.size w w') : w.grownBy w' none := ⟨h.os, h.tape, h.output, h.size, fun k hk _ => h.block k hk⟩
abbrev enc2 (x : Int × Int) : Array Value := #[.int .i64 x.1, .int .i64 x.2]
theorem of_is {d : Int} (w : World) (T : Tab w) (h : Cv.okD d = true) : Calls Tryd.prog 49 #[.int .i64 d] w fun e w' => e = .returned (.tuple #[.int .i64 (Cv.ofD d), .int .i64 0]) ∧ w = w' :=
  civ.of_yes d w T (Cv.okD_t h).1 (Cv.okD_t h).2
theorem at_is {M a : Int} (w : World) (T : Tab w) (h : An.okA M a = true) : Calls Tryd.prog 50 #[.int .i64 M, .int .i64 a] w fun e w' => e = .returned (.tuple #[.int .i64 (An.at_ M a), .int .i64 0]) ∧ Below w.heap.size w w' :=
  (at_any M a w T).mono fun _ _ ⟨p, q⟩ => ⟨p.trans (ret_two (by simp [An.atV, h]) (by simp [An.atE, h])), q⟩

/-- What a round keeps: where the cycle, the day and the table lie. -/
structure Kd (Bc Bd : Nat) (W W' : World) : Prop where
  size : W.heap.size ≤ W'.heap.size
  bc : W'.heap[Bc]? = W.heap[Bc]?
  bd : W'.heap[Bd]? = W.heap[Bd]?
  bt : W'.heap[0]? = W.heap[0]?
theorem Kd.refl (Bc Bd : Nat) (W : World) : Kd Bc Bd W W := ⟨Nat.le_refl _, rfl, rfl, rfl⟩
theorem Kd.trans {Bc Bd : Nat} {A B C : World} (h : Kd Bc Bd A B) (k : Kd Bc Bd B C) : Kd Bc Bd A C := ⟨Nat.le_trans h.size k.size, k.bc.trans h.bc, k.bd.trans h.bd, k.bt.trans h.bt⟩
theorem Kd.of_below {Bc Bd n : Nat} {A B : World} (h : RowKit.Below n A B) (h1 : Bc < n) (h2 : Bd < n) (h3 : 0 < n) : Kd Bc Bd A B := ⟨h.size, h.block _ h1, h.block _ h2, h.block _ h3⟩
theorem Kd.cc {Bc Bd : Nat} {A B : World} (h : Kd Bc Bd A B) (o : Nat) : B.cell? ⟨Bc, o, none⟩ = A.cell? ⟨Bc, o, none⟩ := World.cell?_of_block h.bc
theorem Kd.cd {Bc Bd : Nat} {A B : World} (h : Kd Bc Bd A B) (o : Nat) : B.cell? ⟨Bd, o, none⟩ = A.cell? ⟨Bd, o, none⟩ := World.cell?_of_block h.bd
theorem Kd.ct {Bc Bd : Nat} {A B : World} (h : Kd Bc Bd A B) (T : Tab A) : Tab B := fun i hi => (World.cell?_of_block h.bt).trans (T i hi)
theorem Kd.put {Bc Bd B : Nat} (W : World) (l : Nat) (o : Obj) (hl : B ≤ l) (h1 : Bc < B) (h2 : Bd < B) (h3 : 0 < B) : Kd Bc Bd W (W.putObj l o) :=
  ⟨by simp, World.putObj_heap_other (by omega), World.putObj_heap_other (by omega), World.putObj_heap_other (by omega)⟩


set_option maxRecDepth 100000 in
set_option maxHeartbeats 2000000 in
theorem iter_in (l Bc Bd : Nat) (s a E d : Int) (hok : An.ok s a E = true) (J Jx : List (Int × Int) → World → Prop)
    (hY : ∀ pre x W, J pre W → pre.length < An.full s a E d + 1 → YieldAt Fence.wide 1 Tryd.prog l (enc2 x) W fun e W' =>
      (e = .returned (.bool true) ∧ J (pre ++ [x]) W' ∧ Kd Bc Bd W W') ∨ (e = .returned (.bool false) ∧ Jx (pre ++ [x]) W'))
    (W : World) (hJ : AbidesFrom W.heap.size J) (hBc : Bc < W.heap.size) (hBd : Bd < W.heap.size) (_hT : 0 < W.heap.size) (T : Tab W)
    (c0 : W.cell? ⟨Bc, 0, none⟩ = some (.int .i64 s)) (c1 : W.cell? ⟨Bc, 1, none⟩ = some (.int .i64 a)) (c2 : W.cell? ⟨Bc, 2, none⟩ = some (.int .i64 E)) (cd : W.cell? ⟨Bd, 0, none⟩ = some (.int .i64 d)) (h0 : J [] W) :
    CallsIn Fence.wide 2 Tryd.prog 60 #[.func (.yield l) #[] #[], .pointer (some ⟨Bc, 0, none⟩), .pointer (some ⟨Bd, 0, none⟩)] W fun e W' => (∃ v, e = .returned v) ∧
      ((∃ ys, ys = An.cum s a E d (An.full s a E d) ∧ J ys W') ∨ (∃ pre, (∃ k, k ≤ An.full s a E d ∧ pre = An.cum s a E d k) ∧ Jx pre W')) := by
  refine callsIn_of_wp Tryd.func60 rfl trivial ?_ rfl
  simp only [Tryd.ntmps60, List.size_toArray, List.length_cons, List.length_nil, Nat.reduceAdd, Nat.reduceSub, Array.replicate_succ, Array.replicate_zero, List.push_toArray, List.append_toArray, List.nil_append, List.cons_append]
  have HY := Lib.hid hY
  have HJ := Lib.hid hJ
  have HT := Lib.hid T
  have HO := Lib.hid hok
  clear hJ T hok
  obtain ⟨fn, tmps, assign, body, hy, hR⟩ := hY [] (0, s) W h0 (by simp)
  dsimp only [enc2] at hy
  clear hY
  obtain ⟨g1, g2, g3, g4⟩ := An.ok_t HO.out
  have hs := Cv.ofD_spec g1.1 g1.2
  have hds : Cv.okD s = true := Cv.okD_mk g1.1 g1.2
  have hA : An.okA (Cv.ofD s) a = true := An.okA_mk hs.1 hs.2.1 g2.1 g2.2
  have hk0 : (An.at_ (Cv.ofD s) a ≤ s ∧ An.k0 s a = 0) ∨ (s < An.at_ (Cv.ofD s) a ∧ An.k0 s a = 1) := by
    by_cases h : An.at_ (Cv.ofD s) a ≤ s
    · exact .inl ⟨h, by simp [An.k0, h]⟩
    · exact .inr ⟨by omega, by simp [An.k0, h]⟩
  have hOf := fun (w : World) (T : Tab w) => of_is w T hds
  have hAt := fun (w : World) (T : Tab w) => at_is (a := a) w T hA
  obtain ⟨M0, hM0⟩ : ∃ M0, Cv.ofD s = M0 := ⟨_, rfl⟩
  rw [hM0] at hs hA hk0 hOf hAt
  obtain ⟨A0, hA0⟩ : ∃ A0, An.at_ M0 a = A0 := ⟨_, rfl⟩
  rw [hA0] at hk0 hAt
  have HM0 := Lib.hid hM0
  have HA0 := Lib.hid hA0
  have HOf := Lib.hid hOf
  have HAt := Lib.hid hAt
  obtain ⟨hm1, hm2, _⟩ := hs
  clear hM0 hA0 hOf hAt hds hA
  gi_wp2
  refine hR.mono ?_
  rintro e W1 (⟨rfl, J1, k1⟩ | ⟨rfl, Jx1⟩)
  · have T1 := k1.ct HT.out
    have d0 := (k1.cc 0).trans c0
    have d1 := (k1.cc 1).trans c1
    have d2 := (k1.cc 2).trans c2
    have dd := (k1.cd 0).trans cd
    have s1 := k1.size
    have HT1 := Lib.hid T1
    have HC := Lib.hid (And.intro c0 (And.intro c1 c2))
    clear T1 c0 c1 c2 cd
    gi_wp2_with fail
    refine ⟨trivial, (callsIn_wide.2 (HOf.out _ HT1.out)).mono ?_⟩
    rintro e w' ⟨rfl, rfl⟩
    gi_wp2_with fail
    refine ⟨trivial, (callsIn_wide.2 (HAt.out _ HT1.out)).mono ?_⟩
    rintro e W2 ⟨rfl, B2⟩
    have J2 := HJ.out _ _ _ none J1 (grown_of B2) (fun r e => by cases e)
    have e0 := (B2.cell (p := ⟨Bc, 0, none⟩) (by simp; omega)).trans d0
    have e1 := (B2.cell (p := ⟨Bc, 1, none⟩) (by simp; omega)).trans d1
    have e2 := (B2.cell (p := ⟨Bc, 2, none⟩) (by simp; omega)).trans d2
    have ed := (B2.cell (p := ⟨Bd, 0, none⟩) (by simp; omega)).trans dd
    have HT2 := Lib.hid (Tab.after HT1.out B2)
    have k2 := k1.trans (Kd.of_below B2 (by omega) (by omega) (by omega))
    clear B2 d0 d1 d2 dd k1 s1 HT1 J1
    gi_upto_if 35 with fail
    gi_cut [6] from 36 (fun k w => k = .int .i64 (An.k0 s a) ∧ w = W2)
    case first =>
      rcases hk0 with ⟨hk, hk'⟩ | ⟨hk, hk'⟩
      · gi_wp2
        gi_meet
        case rel => exact ⟨by rw [hk'], rfl⟩
      · gi_wp2
        gi_meet
        case rel => exact ⟨by rw [hk'], rfl⟩
    case rest =>
      obtain ⟨rfl, rfl⟩ := hcut
      have hk1 := An.k0_01 s a
      have KS := An.skp_bd (d := d) HO.out
      have Em := An.mon_skip s a E (An.k0 s a) (An.skp s E d)
      rw [An.mon_k0, HM0.out] at Em
      rw [HM0.out] at KS
      obtain ⟨K0, hK0⟩ : ∃ K0, An.k0 s a = K0 := ⟨_, rfl⟩
      obtain ⟨SK, hSK⟩ : ∃ SK, An.skp s E d = SK := ⟨_, rfl⟩
      have HK0 := Lib.hid hK0
      have HSK := Lib.hid hSK
      rw [hK0] at hk1 KS Em
      rw [hSK] at KS Em
      obtain ⟨P, hP⟩ : ∃ P, SK * E = P := ⟨_, rfl⟩
      rw [hP] at KS Em
      rw [hK0]
      have HEm := Lib.hid Em
      obtain ⟨q1, q2, q3, q4, q5⟩ := KS
      have HQ5 := Lib.hid q5
      clear hK0 hSK Em q5 hk0
      cases hd : Cv.okD d with
      | false =>
        have HOd := Lib.hid (civ.of_no d wc hd)
        have hz : SK = 0 := by rw [← HSK.out]; exact An.skp_no (by simp [hd])
        have hp : P = 0 := by rw [← hP, hz]; simp
        clear hd
        gi_wp2_with fail
        refine ⟨trivial, (callsIn_wide.2 HOd.out).mono ?_⟩
        rintro e w' ⟨rfl, rfl⟩
        gi_wp2
        gi_loopw [4, 6] (fun m k wr => ∃ i : Int, m = .int .i64 (An.mon s a E i) ∧ k = .int .i64 i ∧ K0 + SK ≤ i ∧ i ≤ An.top s a E + 1 ∧ J (An.cum s a E d (i - An.st s a E d).toNat) wr ∧ Kd Bc Bd W wr) (fun m _ _ => (119989 - intOf m).toNat)
        case atStart =>
          refine ⟨K0 + SK, ?_, ?_, by omega, by have := HQ5.out; omega, ?_, k2⟩
          · first
              | (rw [HEm.out]; done)
              | (rw [HEm.out]; congr 1 <;> omega)
          · first
              | rfl
              | (congr 1 <;> omega)
          · have := An.st_bd (d := d) HO.out
            rw [HK0.out, HSK.out] at this
            rw [show (K0 + SK - An.st s a E d).toNat = 0 by omega]
            simpa [An.cum] using J2
        case round =>
          obtain ⟨i, rfl, rfl, hi1, hi2, hJs, hBw⟩ := hrel
          clear e0 e1 e2 ed k2 HT2 J2 HOd
          have f1 := (hBw.cc 1).trans HC.out.2.1
          have f2 := (hBw.cc 2).trans HC.out.2.2
          have Tr := Lib.hid (hBw.ct HT.out)
          have R0 := Lib.hid (An.rnd (d := d) HO.out (i := i) (by rw [HK0.out, HSK.out]; exact hi1) hi2)
          have TB := An.top_bd HO.out
          have TI := An.top_iff (s := s) (a := a) (i := i) g3
          have MS := Lib.hid (An.mon_succ s a E i)
          have ML := R0.out.1
          by_cases hlt : An.mon s a E i ≤ 119988
          · have R1 := Lib.hid (R0.out.2.1 hlt)
            have HAt2 := Lib.hid (at_is (a := a) wr Tr.out R1.out.1)
            have HAV := Lib.hid R1.out.2
            obtain ⟨V, hV⟩ : ∃ V, An.at_ (An.mon s a E i) a = V := ⟨_, rfl⟩
            rw [hV] at HAt2 HAV
            have ti : i ≤ An.top s a E := TI.2 hlt
            have HTI := Lib.hid ti
            have tb : i ≤ 119988 := by omega
            generalize An.mon s a E i = M at *
            clear TI TB hi2 ti R1
            gi_wp2_with fail
            refine ⟨trivial, (callsIn_wide.2 HAt2.out).mono ?_⟩
            rintro e w1 ⟨rfl, B1⟩
            have J1 := HJ.out _ _ _ none hJs (grown_of B1) (fun r e => by cases e)
            have sw := hBw.size
            have f3 := (B1.cell (p := ⟨Bc, 2, none⟩) (by simp; omega)).trans f2
            have hBw1 := hBw.trans (Kd.of_below B1 (by omega) (by omega) (by omega))
            by_cases hi : 0 < i
            · obtain ⟨fn2, tmps2, assign2, body2, hy2, hR2⟩ := HY.out _ (i, V) w1 J1 (by rw [An.cum_len]; have := (HAV.out (by omega)).1; have := HTI.out; unfold An.full; omega)
              dsimp only [enc2] at hy2
              gi_wp2
              refine hR2.mono ?_
              rintro e W3 (⟨rfl, J3, k3⟩ | ⟨rfl, Jx3⟩)
              · have f4 := (k3.cc 2).trans f3
                gi_wp2
                go_roundw
                case rel =>
                  refine ⟨i + 1, by rw [MS.out], rfl, by omega, by have := HTI.out; omega, ?_, hBw1.trans k3⟩
                  rw [(HAV.out (by omega)).2]; exact J3
                case measure => simp [intOf]; omega
              · gi_wp2
                refine bodyPost_ret (results_none rfl _ _ _) rfl ?_
                refine ⟨⟨_, rfl⟩, .inr ⟨_, ⟨(i + 1 - An.st s a E d).toNat, ?_, (HAV.out (by omega)).2.symm⟩, Jx3⟩⟩
                have := HTI.out; unfold An.full; omega
            · obtain ⟨rfl, y2, y3⟩ := R0.out.2.2.2 (by omega)
              gi_wp2
              refine ⟨fun _ h => (by cases h), ?_⟩
              gi_wp2
              go_roundw
              case rel =>
                refine ⟨0 + 1, by rw [MS.out], rfl, by omega, by have := HTI.out; omega, ?_, hBw1⟩
                rw [y3]; rw [y2] at J1; exact J1
              case measure => simp [intOf]; omega
          · have R1 := R0.out.2.2.1 hlt
            rw [R1] at hJs
            gi_wp2
            go_end0
            first
              | exact ⟨⟨_, rfl⟩, .inl hJs⟩
              | exact ⟨⟨_, rfl⟩, .inl ⟨_, rfl, hJs⟩⟩
      | true =>
        have hdd := Cv.ofD_spec (Cv.okD_t hd).1 (Cv.okD_t hd).2
        have HOd := Lib.hid (of_is wc HT2.out hd)
        obtain ⟨N0, hN0⟩ : ∃ N0, Cv.ofD d = N0 := ⟨_, rfl⟩
        rw [hN0] at HOd hdd
        obtain ⟨hn1, hn2, _⟩ := hdd
        have HN0 := Lib.hid hN0
        have HD := Lib.hid hd
        clear hN0 hd
        by_cases hg : M0 < N0
        · have hz := An.skp_yes (E := E) HD.out (by rw [HM0.out, HN0.out]; exact hg)
          rw [HSK.out, HM0.out, HN0.out] at hz
          have t1 : (N0 - M0).tdiv E = (N0 - M0) / E := Int.tdiv_eq_ediv_of_nonneg (by omega)
          have t2 : (N0 - M0) / E ≤ N0 - M0 := Int.ediv_le_self _ (by omega)
          have t3 : 0 ≤ (N0 - M0) / E := Int.ediv_nonneg (by omega) (by omega)
          generalize (N0 - M0) / E = Q at *
          by_cases hq : 1 ≤ Q
          · have hz2 : Q - 1 = SK := by omega
            have hz3 : ¬ SK < 0 := by omega
            clear hz hq
            gi_wp2_with fail
            refine ⟨trivial, (callsIn_wide.2 HOd.out).mono ?_⟩
            rintro e w' ⟨rfl, rfl⟩
            gi_wp2
            gi_loopw [4, 6] (fun m k wr => ∃ i : Int, m = .int .i64 (An.mon s a E i) ∧ k = .int .i64 i ∧ K0 + SK ≤ i ∧ i ≤ An.top s a E + 1 ∧ J (An.cum s a E d (i - An.st s a E d).toNat) wr ∧ Kd Bc Bd W wr) (fun m _ _ => (119989 - intOf m).toNat)
            case atStart =>
              refine ⟨K0 + SK, ?_, ?_, by omega, by have := HQ5.out; omega, ?_, k2⟩
              · first
                  | (rw [HEm.out]; done)
                  | (rw [HEm.out]; congr 1 <;> omega)
              · first
                  | rfl
                  | (congr 1 <;> omega)
              · have := An.st_bd (d := d) HO.out
                rw [HK0.out, HSK.out] at this
                rw [show (K0 + SK - An.st s a E d).toNat = 0 by omega]
                simpa [An.cum] using J2
            case round =>
              obtain ⟨i, rfl, rfl, hi1, hi2, hJs, hBw⟩ := hrel
              clear e0 e1 e2 ed k2 HT2 J2 HOd
              have f1 := (hBw.cc 1).trans HC.out.2.1
              have f2 := (hBw.cc 2).trans HC.out.2.2
              have Tr := Lib.hid (hBw.ct HT.out)
              have R0 := Lib.hid (An.rnd (d := d) HO.out (i := i) (by rw [HK0.out, HSK.out]; exact hi1) hi2)
              have TB := An.top_bd HO.out
              have TI := An.top_iff (s := s) (a := a) (i := i) g3
              have MS := Lib.hid (An.mon_succ s a E i)
              have ML := R0.out.1
              by_cases hlt : An.mon s a E i ≤ 119988
              · have R1 := Lib.hid (R0.out.2.1 hlt)
                have HAt2 := Lib.hid (at_is (a := a) wr Tr.out R1.out.1)
                have HAV := Lib.hid R1.out.2
                obtain ⟨V, hV⟩ : ∃ V, An.at_ (An.mon s a E i) a = V := ⟨_, rfl⟩
                rw [hV] at HAt2 HAV
                have ti : i ≤ An.top s a E := TI.2 hlt
                have HTI := Lib.hid ti
                have tb : i ≤ 119988 := by omega
                generalize An.mon s a E i = M at *
                clear TI TB hi2 ti R1
                gi_wp2_with fail
                refine ⟨trivial, (callsIn_wide.2 HAt2.out).mono ?_⟩
                rintro e w1 ⟨rfl, B1⟩
                have J1 := HJ.out _ _ _ none hJs (grown_of B1) (fun r e => by cases e)
                have sw := hBw.size
                have f3 := (B1.cell (p := ⟨Bc, 2, none⟩) (by simp; omega)).trans f2
                have hBw1 := hBw.trans (Kd.of_below B1 (by omega) (by omega) (by omega))
                by_cases hi : 0 < i
                · obtain ⟨fn2, tmps2, assign2, body2, hy2, hR2⟩ := HY.out _ (i, V) w1 J1 (by rw [An.cum_len]; have := (HAV.out (by omega)).1; have := HTI.out; unfold An.full; omega)
                  dsimp only [enc2] at hy2
                  gi_wp2
                  refine hR2.mono ?_
                  rintro e W3 (⟨rfl, J3, k3⟩ | ⟨rfl, Jx3⟩)
                  · have f4 := (k3.cc 2).trans f3
                    gi_wp2
                    go_roundw
                    case rel =>
                      refine ⟨i + 1, by rw [MS.out], rfl, by omega, by have := HTI.out; omega, ?_, hBw1.trans k3⟩
                      rw [(HAV.out (by omega)).2]; exact J3
                    case measure => simp [intOf]; omega
                  · gi_wp2
                    refine bodyPost_ret (results_none rfl _ _ _) rfl ?_
                    refine ⟨⟨_, rfl⟩, .inr ⟨_, ⟨(i + 1 - An.st s a E d).toNat, ?_, (HAV.out (by omega)).2.symm⟩, Jx3⟩⟩
                    have := HTI.out; unfold An.full; omega
                · obtain ⟨rfl, y2, y3⟩ := R0.out.2.2.2 (by omega)
                  gi_wp2
                  refine ⟨fun _ h => (by cases h), ?_⟩
                  gi_wp2
                  go_roundw
                  case rel =>
                    refine ⟨0 + 1, by rw [MS.out], rfl, by omega, by have := HTI.out; omega, ?_, hBw1⟩
                    rw [y3]; rw [y2] at J1; exact J1
                  case measure => simp [intOf]; omega
              · have R1 := R0.out.2.2.1 hlt
                rw [R1] at hJs
                gi_wp2
                go_end0
                first
                  | exact ⟨⟨_, rfl⟩, .inl hJs⟩
                  | exact ⟨⟨_, rfl⟩, .inl ⟨_, rfl, hJs⟩⟩
          · have hz2 : SK = 0 := by omega
            have hq0 : Q - 1 < 0 := by omega
            clear hz
            have hp : P = 0 := by rw [← hP, hz2]; simp
            gi_wp2_with fail
            refine ⟨trivial, (callsIn_wide.2 HOd.out).mono ?_⟩
            rintro e w' ⟨rfl, rfl⟩
            gi_wp2
            gi_loopw [4, 6] (fun m k wr => ∃ i : Int, m = .int .i64 (An.mon s a E i) ∧ k = .int .i64 i ∧ K0 + SK ≤ i ∧ i ≤ An.top s a E + 1 ∧ J (An.cum s a E d (i - An.st s a E d).toNat) wr ∧ Kd Bc Bd W wr) (fun m _ _ => (119989 - intOf m).toNat)
            case atStart =>
              refine ⟨K0 + SK, ?_, ?_, by omega, by have := HQ5.out; omega, ?_, k2⟩
              · first
                  | (rw [HEm.out]; done)
                  | (rw [HEm.out]; congr 1 <;> omega)
              · first
                  | rfl
                  | (congr 1 <;> omega)
              · have := An.st_bd (d := d) HO.out
                rw [HK0.out, HSK.out] at this
                rw [show (K0 + SK - An.st s a E d).toNat = 0 by omega]
                simpa [An.cum] using J2
            case round =>
              obtain ⟨i, rfl, rfl, hi1, hi2, hJs, hBw⟩ := hrel
              clear e0 e1 e2 ed k2 HT2 J2 HOd
              have f1 := (hBw.cc 1).trans HC.out.2.1
              have f2 := (hBw.cc 2).trans HC.out.2.2
              have Tr := Lib.hid (hBw.ct HT.out)
              have R0 := Lib.hid (An.rnd (d := d) HO.out (i := i) (by rw [HK0.out, HSK.out]; exact hi1) hi2)
              have TB := An.top_bd HO.out
              have TI := An.top_iff (s := s) (a := a) (i := i) g3
              have MS := Lib.hid (An.mon_succ s a E i)
              have ML := R0.out.1
              by_cases hlt : An.mon s a E i ≤ 119988
              · have R1 := Lib.hid (R0.out.2.1 hlt)
                have HAt2 := Lib.hid (at_is (a := a) wr Tr.out R1.out.1)
                have HAV := Lib.hid R1.out.2
                obtain ⟨V, hV⟩ : ∃ V, An.at_ (An.mon s a E i) a = V := ⟨_, rfl⟩
                rw [hV] at HAt2 HAV
                have ti : i ≤ An.top s a E := TI.2 hlt
                have HTI := Lib.hid ti
                have tb : i ≤ 119988 := by omega
                generalize An.mon s a E i = M at *
                clear TI TB hi2 ti R1
                gi_wp2_with fail
                refine ⟨trivial, (callsIn_wide.2 HAt2.out).mono ?_⟩
                rintro e w1 ⟨rfl, B1⟩
                have J1 := HJ.out _ _ _ none hJs (grown_of B1) (fun r e => by cases e)
                have sw := hBw.size
                have f3 := (B1.cell (p := ⟨Bc, 2, none⟩) (by simp; omega)).trans f2
                have hBw1 := hBw.trans (Kd.of_below B1 (by omega) (by omega) (by omega))
                by_cases hi : 0 < i
                · obtain ⟨fn2, tmps2, assign2, body2, hy2, hR2⟩ := HY.out _ (i, V) w1 J1 (by rw [An.cum_len]; have := (HAV.out (by omega)).1; have := HTI.out; unfold An.full; omega)
                  dsimp only [enc2] at hy2
                  gi_wp2
                  refine hR2.mono ?_
                  rintro e W3 (⟨rfl, J3, k3⟩ | ⟨rfl, Jx3⟩)
                  · have f4 := (k3.cc 2).trans f3
                    gi_wp2
                    go_roundw
                    case rel =>
                      refine ⟨i + 1, by rw [MS.out], rfl, by omega, by have := HTI.out; omega, ?_, hBw1.trans k3⟩
                      rw [(HAV.out (by omega)).2]; exact J3
                    case measure => simp [intOf]; omega
                  · gi_wp2
                    refine bodyPost_ret (results_none rfl _ _ _) rfl ?_
                    refine ⟨⟨_, rfl⟩, .inr ⟨_, ⟨(i + 1 - An.st s a E d).toNat, ?_, (HAV.out (by omega)).2.symm⟩, Jx3⟩⟩
                    have := HTI.out; unfold An.full; omega
                · obtain ⟨rfl, y2, y3⟩ := R0.out.2.2.2 (by omega)
                  gi_wp2
                  refine ⟨fun _ h => (by cases h), ?_⟩
                  gi_wp2
                  go_roundw
                  case rel =>
                    refine ⟨0 + 1, by rw [MS.out], rfl, by omega, by have := HTI.out; omega, ?_, hBw1⟩
                    rw [y3]; rw [y2] at J1; exact J1
                  case measure => simp [intOf]; omega
              · have R1 := R0.out.2.2.1 hlt
                rw [R1] at hJs
                gi_wp2
                go_end0
                first
                  | exact ⟨⟨_, rfl⟩, .inl hJs⟩
                  | exact ⟨⟨_, rfl⟩, .inl ⟨_, rfl, hJs⟩⟩
        · have hz : SK = 0 := by rw [← HSK.out]; exact An.skp_no (by rw [HM0.out, HN0.out]; omega)
          have hp : P = 0 := by rw [← hP, hz]; simp
          gi_wp2_with fail
          refine ⟨trivial, (callsIn_wide.2 HOd.out).mono ?_⟩
          rintro e w' ⟨rfl, rfl⟩
          gi_wp2
          gi_loopw [4, 6] (fun m k wr => ∃ i : Int, m = .int .i64 (An.mon s a E i) ∧ k = .int .i64 i ∧ K0 + SK ≤ i ∧ i ≤ An.top s a E + 1 ∧ J (An.cum s a E d (i - An.st s a E d).toNat) wr ∧ Kd Bc Bd W wr) (fun m _ _ => (119989 - intOf m).toNat)
          case atStart =>
            refine ⟨K0 + SK, ?_, ?_, by omega, by have := HQ5.out; omega, ?_, k2⟩
            · first
                | (rw [HEm.out]; done)
                | (rw [HEm.out]; congr 1 <;> omega)
            · first
                | rfl
                | (congr 1 <;> omega)
            · have := An.st_bd (d := d) HO.out
              rw [HK0.out, HSK.out] at this
              rw [show (K0 + SK - An.st s a E d).toNat = 0 by omega]
              simpa [An.cum] using J2
          case round =>
            obtain ⟨i, rfl, rfl, hi1, hi2, hJs, hBw⟩ := hrel
            clear e0 e1 e2 ed k2 HT2 J2 HOd
            have f1 := (hBw.cc 1).trans HC.out.2.1
            have f2 := (hBw.cc 2).trans HC.out.2.2
            have Tr := Lib.hid (hBw.ct HT.out)
            have R0 := Lib.hid (An.rnd (d := d) HO.out (i := i) (by rw [HK0.out, HSK.out]; exact hi1) hi2)
            have TB := An.top_bd HO.out
            have TI := An.top_iff (s := s) (a := a) (i := i) g3
            have MS := Lib.hid (An.mon_succ s a E i)
            have ML := R0.out.1
            by_cases hlt : An.mon s a E i ≤ 119988
            · have R1 := Lib.hid (R0.out.2.1 hlt)
              have HAt2 := Lib.hid (at_is (a := a) wr Tr.out R1.out.1)
              have HAV := Lib.hid R1.out.2
              obtain ⟨V, hV⟩ : ∃ V, An.at_ (An.mon s a E i) a = V := ⟨_, rfl⟩
              rw [hV] at HAt2 HAV
              have ti : i ≤ An.top s a E := TI.2 hlt
              have HTI := Lib.hid ti
              have tb : i ≤ 119988 := by omega
              generalize An.mon s a E i = M at *
              clear TI TB hi2 ti R1
              gi_wp2_with fail
              refine ⟨trivial, (callsIn_wide.2 HAt2.out).mono ?_⟩
              rintro e w1 ⟨rfl, B1⟩
              have J1 := HJ.out _ _ _ none hJs (grown_of B1) (fun r e => by cases e)
              have sw := hBw.size
              have f3 := (B1.cell (p := ⟨Bc, 2, none⟩) (by simp; omega)).trans f2
              have hBw1 := hBw.trans (Kd.of_below B1 (by omega) (by omega) (by omega))
              by_cases hi : 0 < i
              · obtain ⟨fn2, tmps2, assign2, body2, hy2, hR2⟩ := HY.out _ (i, V) w1 J1 (by rw [An.cum_len]; have := (HAV.out (by omega)).1; have := HTI.out; unfold An.full; omega)
                dsimp only [enc2] at hy2
                gi_wp2
                refine hR2.mono ?_
                rintro e W3 (⟨rfl, J3, k3⟩ | ⟨rfl, Jx3⟩)
                · have f4 := (k3.cc 2).trans f3
                  gi_wp2
                  go_roundw
                  case rel =>
                    refine ⟨i + 1, by rw [MS.out], rfl, by omega, by have := HTI.out; omega, ?_, hBw1.trans k3⟩
                    rw [(HAV.out (by omega)).2]; exact J3
                  case measure => simp [intOf]; omega
                · gi_wp2
                  refine bodyPost_ret (results_none rfl _ _ _) rfl ?_
                  refine ⟨⟨_, rfl⟩, .inr ⟨_, ⟨(i + 1 - An.st s a E d).toNat, ?_, (HAV.out (by omega)).2.symm⟩, Jx3⟩⟩
                  have := HTI.out; unfold An.full; omega
              · obtain ⟨rfl, y2, y3⟩ := R0.out.2.2.2 (by omega)
                gi_wp2
                refine ⟨fun _ h => (by cases h), ?_⟩
                gi_wp2
                go_roundw
                case rel =>
                  refine ⟨0 + 1, by rw [MS.out], rfl, by omega, by have := HTI.out; omega, ?_, hBw1⟩
                  rw [y3]; rw [y2] at J1; exact J1
                case measure => simp [intOf]; omega
            · have R1 := R0.out.2.2.1 hlt
              rw [R1] at hJs
              gi_wp2
              go_end0
              first
                | exact ⟨⟨_, rfl⟩, .inl hJs⟩
                | exact ⟨⟨_, rfl⟩, .inl ⟨_, rfl, hJs⟩⟩
  · gi_wp2
    refine bodyPost_ret (results_none rfl _ _ _) rfl ?_
    exact ⟨⟨_, rfl⟩, .inr ⟨_, ⟨0, Nat.zero_le _, by simp [An.cum]⟩, Jx1⟩⟩
end Go.Proofs.YtibkbimhedoafaaDoor.anch

namespace Go.Proofs.YtibkbimhedoafaaDoor.anch
open Go.RowKit Go.Proofs.YtibkbimhedoafaaDoor.base Go.Shelf
open Go.Proofs.YtibkbimhedoafaaDoor.civ (Tab)

attribute [local go_sem] Oper.semAt_some

theorem check_t {s a E : Int} (w : World) (h : An.ok s a E = true) : Calls Tryd.prog 45 #[cyc s a E] w fun e w' => e = .returned (.int .i64 0) ∧ Below w.heap.size w w' :=
  (check_any s a E w).mono fun _ _ ⟨p, q⟩ => ⟨p.trans (ret_int (by simp [An.ckE, h])), q⟩
theorem check_f {s a E : Int} (w : World) (h : An.ok s a E = false) : Calls Tryd.prog 45 #[cyc s a E] w fun e w' => e = .returned (.int .i64 2) ∧ Below w.heap.size w w' :=
  (check_any s a E w).mono fun _ _ ⟨p, q⟩ => ⟨p.trans (ret_int (by simp [An.ckE, h])), q⟩
/-- Where a cycle and a day lie. -/
structure Held (s a E d : Int) (Bc Bd : Nat) (w : World) : Prop where
  c0 : w.cell? ⟨Bc, 0, none⟩ = some (.int .i64 s)
  c1 : w.cell? ⟨Bc, 1, none⟩ = some (.int .i64 a)
  c2 : w.cell? ⟨Bc, 2, none⟩ = some (.int .i64 E)
  d0 : w.cell? ⟨Bd, 0, none⟩ = some (.int .i64 d)
  tab : Tab w
theorem Held.below {s a E d : Int} {Bc Bd n₀ : Nat} {w w' : World} (h : Held s a E d Bc Bd w) (hb : Below n₀ w w') (h1 : Bc < n₀) (h2 : Bd < n₀) (h3 : 0 < n₀) : Held s a E d Bc Bd w' :=
  ⟨(hb.cell (p := ⟨Bc, 0, none⟩) h1).trans h.c0, (hb.cell (p := ⟨Bc, 1, none⟩) h1).trans h.c1, (hb.cell (p := ⟨Bc, 2, none⟩) h1).trans h.c2, (hb.cell (p := ⟨Bd, 0, none⟩) h2).trans h.d0,
    fun i hi => (hb.cell (p := ⟨0, i, none⟩) h3).trans (h.tab i hi)⟩
/-- What anchor.bounds answers is an iterator that keeps its word. -/
theorem bounds_stops (s a E d : Int) (Bc Bd : Nat) (w : World) (hok : An.ok s a E = true) (h : Held s a E d Bc Bd w) :
    SeqStopsK Fence.wide 2 Tryd.prog 60 #[.pointer (some ⟨Bc, 0, none⟩), .pointer (some ⟨Bd, 0, none⟩)] enc2 (Kd Bc Bd)
      (fun ys => ys = An.cum s a E d (An.full s a E d)) (fun pre => ∃ k, k ≤ An.full s a E d ∧ pre = An.cum s a E d k) (An.full s a E d + 1) w := fun l J Jx W hW hJ _ hY h0 => by
  have h1 := lt_of_cell h.c0
  have h2 := lt_of_cell h.d0
  have h3 := lt_of_cell (h.tab 0 (by omega))
  simp only at h1 h2 h3
  have g := h.below hW h1 h2 h3
  have sz := hW.size
  exact iter_in l Bc Bd s a E d hok J Jx hY W hJ (by omega) (by omega) (by omega) g.tab g.c0 g.c1 g.c2 g.d0 h0
theorem bounds_any (s a E d : Int) (w : World) : CallsIn Fence.wide 2 Tryd.prog 47 #[cyc s a E, .int .i64 d] w fun e w' =>
    e = .returned (.func (.func 60) #[] #[.pointer (some ⟨w.heap.size, 0, none⟩), .pointer (some ⟨w.heap.size + 1, 0, none⟩)]) ∧ w'.heap.size = w.heap.size + 2 ∧ Below w.heap.size w w' ∧
      (Tab w → Held s a E d w.heap.size (w.heap.size + 1) w') := by
  refine callsIn_of_wp Tryd.func47 rfl trivial ?_ rfl
  simp only [Tryd.ntmps47, List.size_toArray, List.length_cons, List.length_nil, Nat.reduceAdd, Nat.reduceSub, Array.replicate_succ, Array.replicate_zero, List.push_toArray, List.append_toArray, List.nil_append, List.cons_append]
  gi_wp2
  go_ret
  have hb : ∀ o1 o2, Below w.heap.size w ((w.alloc o1).alloc o2) := fun o1 o2 => ((Below.refl _ w).alloc (Nat.le_refl _) _).alloc (by simp) _
  refine ⟨rfl, by simp, hb _ _, fun T => ⟨?_, ?_, ?_, ?_, Tab.after T (hb _ _)⟩⟩
  · simp [go_sem]
  · simp [go_sem]
  · simp [go_sem]
  · simp [go_sem]
/-- A cell of one's own. -/
def At (w : World) (b : Nat) (v : Value) : Prop := w.cell? ⟨b, 0, none⟩ = some v ∧ w.frozen? ⟨b, 0, none⟩ = false
theorem At.below {w w' : World} {b B : Nat} {v : Value} (h : At w b v) (hb : Below B w w') (hB : b < B) : At w' b v :=
  ⟨(hb.cell (p := ⟨b, 0, none⟩) hB).trans h.1, (hb.frozen (p := ⟨b, 0, none⟩) hB).trans h.2⟩
theorem At.kept {A B : World} {row : Option Nat} {b : Nat} {v : Value} (h : At A b v) (hg : A.grownBy B row) (hr : ∀ r, row = some r → ∃ o : Obj, A.heap[r]? = some o ∧ o.isCells = false) : At B b v :=
  ⟨cell_kept h.1 hg hr, (frozen_kept h.1 hg hr).trans h.2⟩
theorem At.set {w : World} {b : Nat} {v : Value} (h : At w b v) (u : Value) : At (w.setCell ⟨b, 0, none⟩ u) b u :=
  ⟨World.cell?_setCell_same' _ _ _ (by rw [h.1]; rfl), by rw [World.frozen?_setCell]; exact h.2⟩
theorem At.other {w : World} {b c : Nat} {v : Value} (h : At w b v) (hne : b ≠ c) (u : Value) : At (w.setCell ⟨c, 0, none⟩ u) b v :=
  ⟨(World.cell?_of_block (Below.heap_setCell w ⟨c, 0, none⟩ _ b hne)).trans h.1, by rw [World.frozen?_setCell]; exact h.2⟩
theorem At.drop {w : World} {b D : Nat} {v : Value} (h : At w b v) (hK : w.heap[D]? = some (.deferred (some []))) : At (w.putObj D (.deferred none)) b v :=
  h.kept (grownBy_putObj' _ D (.deferred none)) (fun r e => by cases e; exact ⟨_, hK, rfl⟩)
set_option maxRecDepth 100000 in
set_option maxHeartbeats 2000000 in
theorem bound_any (s a E k : Int) (w : World) (T : Tab w) : Calls Tryd.prog 36 #[cyc s a E, .int .i64 k] w fun e w' => e = .returned (.tuple #[.int .i64 (An.bV s a E k), .int .i64 (An.bE s a E k)]) ∧ Below w.heap.size w w' := by
  have lt := lt_of_cell (T 0 (by omega))
  simp only at lt
  have HT := Lib.hid T
  clear T
  refine (callsIn_wide (n := 3)).1 ?_
  refine callsIn_of_wp_marks Tryd.func36 rfl trivial ?_ rfl
  simp only [Tryd.ntmps36, List.size_toArray, List.length_cons, List.length_nil, Nat.reduceAdd, Nat.reduceSub, Array.replicate_succ, Array.replicate_zero, List.push_toArray, List.append_toArray, List.nil_append, List.cons_append]
  cases hok : An.ok s a E with
  | false =>
      have HO := Lib.hid hok
      clear hok
      gi_wp2_with fail
      refine ⟨trivial, (callsIn_wide.2 (check_f _ HO.out)).mono ?_⟩
      rintro e w1 ⟨rfl, B1⟩
      simp only [World.size_alloc] at B1
      have s1 := B1.size
      simp only [World.size_alloc] at s1
      have b0 : Below w.heap.size w w1 := ((((((Below.refl _ w).alloc (Nat.le_refl _) _).alloc (by simp) _).alloc (by simp; omega) _).alloc (by simp; omega) _)).trans (B1.mono (by omega))
      have pk : At w1 (w.heap.size + 1) (.int .i64 k) := At.below (B := w.heap.size + 1 + 1 + 1 + 1) ⟨by simp [go_sem], by simp [go_sem]⟩ B1 (by omega)
      have pr : At w1 (w.heap.size + 1 + 1) (.int .i64 0) := At.below (B := w.heap.size + 1 + 1 + 1 + 1) ⟨by simp [go_sem], by simp [go_sem]⟩ B1 (by omega)
      have pe : At w1 (w.heap.size + 1 + 1 + 1) (.int .i64 0) := At.below (B := w.heap.size + 1 + 1 + 1 + 1) ⟨by simp [go_sem], by simp [go_sem]⟩ B1 (by omega)
      have pk1 := pk.1
      have pr1 := pr.1
      have pr2 := pr.2
      have pe1 := pe.1
      have pe2 := pe.2
      clear B1
      gi_wp2
      have r1 := ((pr.set (.int .i64 0)).other (c := w.heap.size + 1 + 1 + 1) (by omega) (.int .i64 2)).1
      have r2 := ((pe.other (c := w.heap.size + 1 + 1) (by omega) (.int .i64 0)).set (.int .i64 2)).1
      refine ⟨.tuple #[.int .i64 0, .int .i64 2], ?_, ?_, (b0.setCell (p := ⟨w.heap.size + 1 + 1, 0, none⟩) (by simp; omega) (.int .i64 0)).setCell (p := ⟨w.heap.size + 1 + 1 + 1, 0, none⟩) (by simp; omega) (.int .i64 2)⟩
      · simp [results, Tryd.results36, go_sem, r1, r2]
      · exact ret_two (by simp [An.bV, An.bOk, HO.out]) (by simp [An.bE, An.bOk, HO.out])
  | true =>
    have HO := Lib.hid hok
    by_cases hk : k < 0
    · gi_wp2_with fail
      refine ⟨trivial, (callsIn_wide.2 (check_t _ HO.out)).mono ?_⟩
      rintro e w1 ⟨rfl, B1⟩
      simp only [World.size_alloc] at B1
      have s1 := B1.size
      simp only [World.size_alloc] at s1
      have b0 : Below w.heap.size w w1 := ((((((Below.refl _ w).alloc (Nat.le_refl _) _).alloc (by simp) _).alloc (by simp; omega) _).alloc (by simp; omega) _)).trans (B1.mono (by omega))
      have pk : At w1 (w.heap.size + 1) (.int .i64 k) := At.below (B := w.heap.size + 1 + 1 + 1 + 1) ⟨by simp [go_sem], by simp [go_sem]⟩ B1 (by omega)
      have pr : At w1 (w.heap.size + 1 + 1) (.int .i64 0) := At.below (B := w.heap.size + 1 + 1 + 1 + 1) ⟨by simp [go_sem], by simp [go_sem]⟩ B1 (by omega)
      have pe : At w1 (w.heap.size + 1 + 1 + 1) (.int .i64 0) := At.below (B := w.heap.size + 1 + 1 + 1 + 1) ⟨by simp [go_sem], by simp [go_sem]⟩ B1 (by omega)
      have pk1 := pk.1
      have pr1 := pr.1
      have pr2 := pr.2
      have pe1 := pe.1
      have pe2 := pe.2
      clear B1
      gi_wp2
      have r1 := ((pr.set (.int .i64 0)).other (c := w.heap.size + 1 + 1 + 1) (by omega) (.int .i64 2)).1
      have r2 := ((pe.other (c := w.heap.size + 1 + 1) (by omega) (.int .i64 0)).set (.int .i64 2)).1
      refine ⟨.tuple #[.int .i64 0, .int .i64 2], ?_, ?_, (b0.setCell (p := ⟨w.heap.size + 1 + 1, 0, none⟩) (by simp; omega) (.int .i64 0)).setCell (p := ⟨w.heap.size + 1 + 1 + 1, 0, none⟩) (by simp; omega) (.int .i64 2)⟩
      · simp [results, Tryd.results36, go_sem, r1, r2]
      · exact ret_two (by simp [An.bV, An.bOk, HO.out]; omega) (by simp [An.bE, An.bOk, HO.out]; omega)
    · gi_wp2_with fail
      refine ⟨trivial, (callsIn_wide.2 (check_t _ HO.out)).mono ?_⟩
      rintro e w1 ⟨rfl, B1⟩
      simp only [World.size_alloc] at B1
      have s1 := B1.size
      simp only [World.size_alloc] at s1
      have b0 : Below w.heap.size w w1 := ((((((Below.refl _ w).alloc (Nat.le_refl _) _).alloc (by simp) _).alloc (by simp; omega) _).alloc (by simp; omega) _)).trans (B1.mono (by omega))
      have p0 := (B1.cell (p := ⟨w.heap.size, 0, none⟩) (by simp; omega)).trans (show _ = some (.int .i64 s) by simp [go_sem])
      have p1 := (B1.cell (p := ⟨w.heap.size, 1, none⟩) (by simp; omega)).trans (show _ = some (.int .i64 a) by simp [go_sem])
      have p2 := (B1.cell (p := ⟨w.heap.size, 2, none⟩) (by simp; omega)).trans (show _ = some (.int .i64 E) by simp [go_sem])
      have pk : At w1 (w.heap.size + 1) (.int .i64 k) := At.below (B := w.heap.size + 1 + 1 + 1 + 1) ⟨by simp [go_sem], by simp [go_sem]⟩ B1 (by omega)
      have pr : At w1 (w.heap.size + 1 + 1) (.int .i64 0) := At.below (B := w.heap.size + 1 + 1 + 1 + 1) ⟨by simp [go_sem], by simp [go_sem]⟩ B1 (by omega)
      have pe : At w1 (w.heap.size + 1 + 1 + 1) (.int .i64 0) := At.below (B := w.heap.size + 1 + 1 + 1 + 1) ⟨by simp [go_sem], by simp [go_sem]⟩ B1 (by omega)
      have pk1 := pk.1
      clear B1
      gi_wp2_with fail
      refine ⟨trivial, (bounds_any s a E s w1).mono ?_⟩
      rintro e w2 ⟨rfl, s2, B2, H2⟩
      gi_wp2
      have T1 := Lib.hid (Tab.after HT.out b0)
      have H3 := H2 T1.out
      have qk := pk.below B2 (by omega)
      have qr := pr.below B2 (by omega)
      have qe := pe.below B2 (by omega)
      have b2 := b0.trans (B2.mono (by omega))
      have sz2 := s2
      clear B2 H2 pk pr pe p0 p1 p2 pk1 b0
      refine wpIn_rangeFunc_ownF rfl (by omega) (gf := 60) (lb := #[.pointer (some ⟨w1.heap.size, 0, none⟩), .pointer (some ⟨w1.heap.size + 1, 0, none⟩)]) rfl trivial (enters_of Tryd.func60 (by kernel_rfl) rfl)
        (bounds_stops s a E s w1.heap.size (w1.heap.size + 1) w2 HO.out H3) (fun h k => h.trans k) (fun W l o o' hl _ _ _ => Kd.put W l o' hl (by omega) (by omega) (by omega)) (Below.refl _ _) (fun _ => rfl)
        (fun pre W => ((∀ y ∈ pre, y.1 ≠ k) ∧ At W (w.heap.size + 1) (.int .i64 k) ∧ At W (w.heap.size + 1 + 1) (.int .i64 0) ∧ At W (w.heap.size + 1 + 1 + 1) (.int .i64 0)) ∧ Below w.heap.size w W)
        (fun c pre W => (c = .ret ∧ ∃ q b, pre = q ++ [(k, b)] ∧ At W (w.heap.size + 1 + 1) (.int .i64 b) ∧ At W (w.heap.size + 1 + 1 + 1) (.int .i64 0)) ∧ Below w.heap.size w W)
        (OwnFrom.and (Own.from (fun s A B row hs hg hr => ⟨hs.1, hs.2.1.kept hg hr, hs.2.2.1.kept hg hr, hs.2.2.2.kept hg hr⟩) _) (ownFrom_below (Nat.le_refl _) (by omega)))
        (fun c => OwnFrom.and (Own.from (fun s A B row hs hg hr => by obtain ⟨h1, q, b, h2, h3, h4⟩ := hs; exact ⟨h1, q, b, h2, h3.kept hg hr, h4.kept hg hr⟩) _) (ownFrom_below (Nat.le_refl _) (by omega)))
        ⟨⟨by simp, qk, qr, qe⟩, b2⟩ ?a1 ?assign ?body ?done ?stop
      case assign =>
        intro l x W K hK
        gi_wp2
        exact hK
      case body =>
        rintro l pre x W ⟨⟨hp, gk, gr, ge⟩, hB⟩ _
        have gk1 := gk.1
        have gr1 := gr.1
        have gr2 := gr.2
        have ge1 := ge.1
        have ge2 := ge.2
        by_cases hx : x.1 = k
        · gi_wp2
          exact ⟨(KeepsOthers.setCell _ _ _).trans (KeepsOthers.setCell _ _ _), ⟨rfl, pre, x.2, by rw [← hx], (gr.set _).other (by omega) _, (ge.other (by omega) _).set _⟩,
            (hB.setCell (p := ⟨w.heap.size + 1 + 1, 0, none⟩) (by simp; omega) _).setCell (p := ⟨w.heap.size + 1 + 1 + 1, 0, none⟩) (by simp; omega) _⟩
        · gi_wp2
          exact ⟨KeepsOthers.refl _, Kd.refl _ _ _, ⟨fun y hy => (List.mem_append.1 hy).elim (hp y) (fun e => by simp at e; subst e; exact hx), gk, gr, ge⟩, hB⟩
      case done =>
        rintro D ys W hD rfl ⟨⟨hne, gk, gr, ge⟩, hB⟩ hK
        have gr1 := gr.1
        have gr2 := gr.2
        have ge1 := ge.1
        have ge2 := ge.2
        have HN := Lib.hid (An.cum_none (by omega) hne)
        have HK := Lib.hid hK
        clear hne hK
        gi_wp2
        have hK' := ((KeepsOthers.setCell W ⟨w.heap.size + 1 + 1, 0, none⟩ (.int .i64 0)).trans (KeepsOthers.setCell _ ⟨w.heap.size + 1 + 1 + 1, 0, none⟩ (.int .i64 7))).same D _ HK.out rfl
        have r1 := (((gr.set (.int .i64 0)).other (c := w.heap.size + 1 + 1 + 1) (by omega) (.int .i64 7)).drop hK').1
        have r2 := (((ge.other (c := w.heap.size + 1 + 1) (by omega) (.int .i64 0)).set (.int .i64 7)).drop hK').1
        have hB' := (hB.setCell (p := ⟨w.heap.size + 1 + 1, 0, none⟩) (by simp; omega) (.int .i64 0)).setCell (p := ⟨w.heap.size + 1 + 1 + 1, 0, none⟩) (by simp; omega) (.int .i64 7)
        refine ⟨by simp, .inl ⟨_, _, rfl, run_takeDeferred hK', ?_⟩⟩
        refine ⟨.tuple #[.int .i64 0, .int .i64 7], ?_, ?_, hB'.trans (belowK_b (w := w) (Nat.le_refl _) _ D _ _ (by have := b2.size; omega) hK' rfl rfl)⟩
        · simp [results, Tryd.results36, go_sem, r1, r2]
        · have := HN.out
          exact ret_two (by simp [An.bV]; omega) (by simp [An.bE, An.bOk, HO.out]; omega)
      case stop =>
        rintro D c pre W hD ⟨n, hn, hcum⟩ ⟨⟨rfl, q, b, hq, gr, ge⟩, hB⟩ hK
        have HK := Lib.hid hK
        have HL := Lib.hid (An.cum_last HO.out hn (hcum.symm.trans hq))
        clear hcum hq hK hn
        gi_wp2
        have hK' := HK.out
        have r1 := (gr.drop hK').1
        have r2 := (ge.drop hK').1
        refine ⟨by simp, .inl ⟨_, _, rfl, run_takeDeferred hK', ?_⟩⟩
        refine ⟨.tuple #[.int .i64 b, .int .i64 0], ?_, ?_, hB.trans (belowK_b (w := w) (Nat.le_refl _) _ D _ _ (by have := b2.size; omega) hK' rfl rfl)⟩
        · simp [results, Tryd.results36, go_sem, r1, r2]
        · obtain ⟨l1, l2, l3, _⟩ := HL.out
          exact ret_two (by simp [An.bV, An.bOk, HO.out, l1, l2, l3]) (by simp [An.bE, An.bOk, HO.out, l1, l2])
end Go.Proofs.YtibkbimhedoafaaDoor.anch

namespace Go.Proofs.YtibkbimhedoafaaDoor.anch
open Go.RowKit Go.Proofs.YtibkbimhedoafaaDoor.base Go.Shelf
open Go.Proofs.YtibkbimhedoafaaDoor.civ (Tab ret_four)

attribute [local go_sem] Oper.semAt_some

theorem At.drew {w : World} {b : Nat} {v : Value} (h : At w b v) : At w.drew b v := h
theorem Kd.set {Bc Bd c : Nat} (W : World) (h1 : Bc ≠ c) (h2 : Bd ≠ c) (h3 : 0 ≠ c) (v : Value) : Kd Bc Bd W (W.setCell ⟨c, 0, none⟩ v) :=
  ⟨by simp, Below.heap_setCell W ⟨c, 0, none⟩ v Bc h1, Below.heap_setCell W ⟨c, 0, none⟩ v Bd h2, Below.heap_setCell W ⟨c, 0, none⟩ v _ h3⟩
set_option maxRecDepth 100000 in
set_option maxHeartbeats 1000000 in
theorem find_any (s a E d : Int) (w : World) (T : Tab w) : Calls Tryd.prog 31 #[cyc s a E, .int .i64 d] w fun e w' =>
    e = .returned (.tuple #[.int .i64 (An.fV s a E d (An.fk s a E d)), .int .i64 (An.fV s a E d (An.B s a E (An.fk s a E d))), .int .i64 (An.fV s a E d (An.B s a E (An.fk s a E d + 1))), .int .i64 (An.fE s a E d)]) ∧ Below w.heap.size w w' := by
  have lt := lt_of_cell (T 0 (by omega))
  simp only at lt
  have HT := Lib.hid T
  clear T
  refine (callsIn_wide (n := 3)).1 ?_
  refine callsIn_of_wp_marks Tryd.func31 rfl trivial ?_ rfl
  simp only [Tryd.ntmps31, List.size_toArray, List.length_cons, List.length_nil, Nat.reduceAdd, Nat.reduceSub, Array.replicate_succ, Array.replicate_zero, List.push_toArray, List.append_toArray, List.nil_append, List.cons_append]
  cases hok : An.ok s a E with
  | false =>
      have HO := Lib.hid hok
      have HF := Lib.hid (show An.fOk s a E d = false by simp [An.fOk, hok])
      have HI := Lib.hid (show An.fIn s a E d = false by simp [An.fIn, HF.out])
      clear hok
      gi_wp2_with fail
      refine ⟨trivial, (callsIn_wide.2 (check_f _ HO.out)).mono ?_⟩
      rintro e w1 ⟨rfl, B1⟩
      simp only [World.size_alloc] at B1
      have s1 := B1.size
      simp only [World.size_alloc] at s1
      have b0 : Below w.heap.size w w1 := ((((((((Below.refl _ w).alloc (Nat.le_refl _) _).alloc (by simp) _).alloc (by simp; omega) _).alloc (by simp; omega) _).alloc (by simp; omega) _).alloc (by simp; omega) _)).trans (B1.mono (by omega))
      have p0 := (B1.cell (p := ⟨w.heap.size, 0, none⟩) (by simp; omega)).trans (show _ = some (.int .i64 s) by simp [go_sem])
      have p1 := (B1.cell (p := ⟨w.heap.size, 1, none⟩) (by simp; omega)).trans (show _ = some (.int .i64 a) by simp [go_sem])
      have p2 := (B1.cell (p := ⟨w.heap.size, 2, none⟩) (by simp; omega)).trans (show _ = some (.int .i64 E) by simp [go_sem])
      have pd : At w1 (w.heap.size + 1) (.int .i64 d) := At.below (B := w.heap.size + 1 + 1 + 1 + 1 + 1 + 1) ⟨by simp [go_sem], by simp [go_sem]⟩ B1 (by omega)
      have pk : At w1 (w.heap.size + 1 + 1) (.int .i64 0) := At.below (B := w.heap.size + 1 + 1 + 1 + 1 + 1 + 1) ⟨by simp [go_sem], by simp [go_sem]⟩ B1 (by omega)
      have pf : At w1 (w.heap.size + 1 + 1 + 1) (.int .i64 0) := At.below (B := w.heap.size + 1 + 1 + 1 + 1 + 1 + 1) ⟨by simp [go_sem], by simp [go_sem]⟩ B1 (by omega)
      have pn : At w1 (w.heap.size + 1 + 1 + 1 + 1) (.int .i64 0) := At.below (B := w.heap.size + 1 + 1 + 1 + 1 + 1 + 1) ⟨by simp [go_sem], by simp [go_sem]⟩ B1 (by omega)
      have pe : At w1 (w.heap.size + 1 + 1 + 1 + 1 + 1) (.int .i64 0) := At.below (B := w.heap.size + 1 + 1 + 1 + 1 + 1 + 1) ⟨by simp [go_sem], by simp [go_sem]⟩ B1 (by omega)
      have pk1 := pk.1
      have pk2 := pk.2
      have pf1 := pf.1
      have pf2 := pf.2
      have pn1 := pn.1
      have pn2 := pn.2
      have pe1 := pe.1
      have pe2 := pe.2
      clear B1
      gi_wp2
      refine ⟨trivial, ?_⟩
      gi_wp2
      have r1 := ((((pk.set (.int .i64 0)).other (c := w.heap.size + 1 + 1 + 1) (by omega) (.int .i64 0)).other (c := w.heap.size + 1 + 1 + 1 + 1) (by omega) (.int .i64 0)).other (c := w.heap.size + 1 + 1 + 1 + 1 + 1) (by omega) (.int .i64 2)).1
      have r2 := ((((pf.other (c := w.heap.size + 1 + 1) (by omega) (.int .i64 0)).set (.int .i64 0)).other (c := w.heap.size + 1 + 1 + 1 + 1) (by omega) (.int .i64 0)).other (c := w.heap.size + 1 + 1 + 1 + 1 + 1) (by omega) (.int .i64 2)).1
      have r3 := ((((pn.other (c := w.heap.size + 1 + 1) (by omega) (.int .i64 0)).other (c := w.heap.size + 1 + 1 + 1) (by omega) (.int .i64 0)).set (.int .i64 0)).other (c := w.heap.size + 1 + 1 + 1 + 1 + 1) (by omega) (.int .i64 2)).1
      have r4 := ((((pe.other (c := w.heap.size + 1 + 1) (by omega) (.int .i64 0)).other (c := w.heap.size + 1 + 1 + 1) (by omega) (.int .i64 0)).other (c := w.heap.size + 1 + 1 + 1 + 1) (by omega) (.int .i64 0)).set (.int .i64 2)).1
      refine ⟨.tuple #[.int .i64 0, .int .i64 0, .int .i64 0, .int .i64 2], ?_, ?_, ((((b0.setCell (p := ⟨w.heap.size + 1 + 1, 0, none⟩) (by simp; omega) (.int .i64 0)).setCell (p := ⟨w.heap.size + 1 + 1 + 1, 0, none⟩) (by simp; omega) (.int .i64 0)).setCell (p := ⟨w.heap.size + 1 + 1 + 1 + 1, 0, none⟩) (by simp; omega) (.int .i64 0)).setCell (p := ⟨w.heap.size + 1 + 1 + 1 + 1 + 1, 0, none⟩) (by simp; omega) (.int .i64 2))⟩
      · simp [results, Tryd.results31, go_sem, r1, r2, r3, r4]
      · exact ret_four (by simp [An.fV, HI.out]) (by simp [An.fV, HI.out]) (by simp [An.fV, HI.out]) (by simp [An.fE, HF.out])
  | true =>
    have HO := Lib.hid hok
    by_cases hd : 1 ≤ d ∧ d ≤ 3652059
    · have V := Lib.hid (show decide (1 ≤ d ∧ d ≤ 3652059) = true by simpa using hd)
      have HF := Lib.hid (show An.fOk s a E d = true by simp [An.fOk, hok, hd.1, hd.2])
      clear hok
      have hd1 := hd.1
      have hd2 := hd.2
      clear hd
      gi_wp2_with fail
      refine ⟨trivial, (callsIn_wide.2 (check_t _ HO.out)).mono ?_⟩
      rintro e w1 ⟨rfl, B1⟩
      simp only [World.size_alloc] at B1
      have s1 := B1.size
      simp only [World.size_alloc] at s1
      have b0 : Below w.heap.size w w1 := ((((((((Below.refl _ w).alloc (Nat.le_refl _) _).alloc (by simp) _).alloc (by simp; omega) _).alloc (by simp; omega) _).alloc (by simp; omega) _).alloc (by simp; omega) _)).trans (B1.mono (by omega))
      have p0 := (B1.cell (p := ⟨w.heap.size, 0, none⟩) (by simp; omega)).trans (show _ = some (.int .i64 s) by simp [go_sem])
      have p1 := (B1.cell (p := ⟨w.heap.size, 1, none⟩) (by simp; omega)).trans (show _ = some (.int .i64 a) by simp [go_sem])
      have p2 := (B1.cell (p := ⟨w.heap.size, 2, none⟩) (by simp; omega)).trans (show _ = some (.int .i64 E) by simp [go_sem])
      have pd : At w1 (w.heap.size + 1) (.int .i64 d) := At.below (B := w.heap.size + 1 + 1 + 1 + 1 + 1 + 1) ⟨by simp [go_sem], by simp [go_sem]⟩ B1 (by omega)
      have pk : At w1 (w.heap.size + 1 + 1) (.int .i64 0) := At.below (B := w.heap.size + 1 + 1 + 1 + 1 + 1 + 1) ⟨by simp [go_sem], by simp [go_sem]⟩ B1 (by omega)
      have pf : At w1 (w.heap.size + 1 + 1 + 1) (.int .i64 0) := At.below (B := w.heap.size + 1 + 1 + 1 + 1 + 1 + 1) ⟨by simp [go_sem], by simp [go_sem]⟩ B1 (by omega)
      have pn : At w1 (w.heap.size + 1 + 1 + 1 + 1) (.int .i64 0) := At.below (B := w.heap.size + 1 + 1 + 1 + 1 + 1 + 1) ⟨by simp [go_sem], by simp [go_sem]⟩ B1 (by omega)
      have pe : At w1 (w.heap.size + 1 + 1 + 1 + 1 + 1) (.int .i64 0) := At.below (B := w.heap.size + 1 + 1 + 1 + 1 + 1 + 1) ⟨by simp [go_sem], by simp [go_sem]⟩ B1 (by omega)
      have pd1 := pd.1
      clear B1
      gi_wp2_with fail
      refine ⟨trivial, (callsIn_wide.2 (two_is _ _ _ ?_ ?_ V.out)).mono ?_⟩
      · simp [go_sem]
      · simp [go_sem]
      rintro e v1 ⟨rfl, C1⟩
      have C2 : Below w1.heap.size w1 v1 := ((Below.refl _ _).alloc (Nat.le_refl _) _).trans (C1.mono (by simp))
      have t1 := C2.size
      replace b0 := b0.trans (C2.mono (by omega))
      replace p0 := (C2.cell (p := ⟨w.heap.size, 0, none⟩) (by simp; omega)).trans p0
      replace p1 := (C2.cell (p := ⟨w.heap.size, 1, none⟩) (by simp; omega)).trans p1
      replace p2 := (C2.cell (p := ⟨w.heap.size, 2, none⟩) (by simp; omega)).trans p2
      replace pd := pd.below C2 (by omega)
      replace pk := pk.below C2 (by omega)
      replace pf := pf.below C2 (by omega)
      replace pn := pn.below C2 (by omega)
      replace pe := pe.below C2 (by omega)
      replace pd1 := pd.1
      replace s1 : w.heap.size + 1 + 1 + 1 + 1 + 1 + 1 ≤ v1.heap.size := by omega
      clear C1 C2 t1
      by_cases hs : d < s
      · have HI := Lib.hid (show An.fIn s a E d = false by simp [An.fIn, HF.out]; omega)
        have pk1 := pk.1
        have pk2 := pk.2
        have pf1 := pf.1
        have pf2 := pf.2
        have pn1 := pn.1
        have pn2 := pn.2
        have pe1 := pe.1
        have pe2 := pe.2
        gi_wp2
        have r1 := ((((pk.set (.int .i64 0)).other (c := w.heap.size + 1 + 1 + 1) (by omega) (.int .i64 0)).other (c := w.heap.size + 1 + 1 + 1 + 1) (by omega) (.int .i64 0)).other (c := w.heap.size + 1 + 1 + 1 + 1 + 1) (by omega) (.int .i64 7)).1
        have r2 := ((((pf.other (c := w.heap.size + 1 + 1) (by omega) (.int .i64 0)).set (.int .i64 0)).other (c := w.heap.size + 1 + 1 + 1 + 1) (by omega) (.int .i64 0)).other (c := w.heap.size + 1 + 1 + 1 + 1 + 1) (by omega) (.int .i64 7)).1
        have r3 := ((((pn.other (c := w.heap.size + 1 + 1) (by omega) (.int .i64 0)).other (c := w.heap.size + 1 + 1 + 1) (by omega) (.int .i64 0)).set (.int .i64 0)).other (c := w.heap.size + 1 + 1 + 1 + 1 + 1) (by omega) (.int .i64 7)).1
        have r4 := ((((pe.other (c := w.heap.size + 1 + 1) (by omega) (.int .i64 0)).other (c := w.heap.size + 1 + 1 + 1) (by omega) (.int .i64 0)).other (c := w.heap.size + 1 + 1 + 1 + 1) (by omega) (.int .i64 0)).set (.int .i64 7)).1
        refine ⟨.tuple #[.int .i64 0, .int .i64 0, .int .i64 0, .int .i64 7], ?_, ?_, ((((b0.setCell (p := ⟨w.heap.size + 1 + 1, 0, none⟩) (by simp; omega) (.int .i64 0)).setCell (p := ⟨w.heap.size + 1 + 1 + 1, 0, none⟩) (by simp; omega) (.int .i64 0)).setCell (p := ⟨w.heap.size + 1 + 1 + 1 + 1, 0, none⟩) (by simp; omega) (.int .i64 0)).setCell (p := ⟨w.heap.size + 1 + 1 + 1 + 1 + 1, 0, none⟩) (by simp; omega) (.int .i64 7))⟩
        · simp [results, Tryd.results31, go_sem, r1, r2, r3, r4]
        · exact ret_four (by simp [An.fV, HI.out]) (by simp [An.fV, HI.out]) (by simp [An.fV, HI.out]) (by simp [An.fE, HI.out, HF.out])
      · gi_wp2_with fail
        refine ⟨trivial, (bounds_any s a E d v1).mono ?_⟩
        rintro e w2 ⟨rfl, s2, B2, H2⟩
        gi_wp2
        have T1 := Lib.hid (Tab.after HT.out b0)
        have H3 := H2 T1.out
        have qd := pd.below B2 (by omega)
        have qk := pk.below B2 (by omega)
        have qf := pf.below B2 (by omega)
        have qn := pn.below B2 (by omega)
        have qe := pe.below B2 (by omega)
        have b2 := b0.trans (B2.mono (by omega))
        clear B2 H2 pd pk pf pn pe p0 p1 p2 pd1 b0
        refine wpIn_rangeFunc_ownF rfl (by omega) (gf := 60) (lb := #[.pointer (some ⟨v1.heap.size, 0, none⟩), .pointer (some ⟨v1.heap.size + 1, 0, none⟩)]) rfl trivial (enters_of Tryd.func60 (by kernel_rfl) rfl)
          (bounds_stops s a E d v1.heap.size (v1.heap.size + 1) w2 HO.out H3) (fun h k => h.trans k) (fun W l o o' hl _ _ _ => Kd.put W l o' hl (by omega) (by omega) (by omega)) (Below.refl _ _) (fun _ => rfl)
          (fun pre W => ((∀ y ∈ pre, y.2 ≤ d) ∧ At W (w.heap.size + 1) (.int .i64 d) ∧ (∃ i b, ((pre = [] ∧ i = 0 ∧ b = 0) ∨ ∃ q, pre = q ++ [(i, b)]) ∧ At W (w.heap.size + 1 + 1) (.int .i64 i) ∧ At W (w.heap.size + 1 + 1 + 1) (.int .i64 b)) ∧ At W (w.heap.size + 1 + 1 + 1 + 1) (.int .i64 0) ∧ At W (w.heap.size + 1 + 1 + 1 + 1 + 1) (.int .i64 0)) ∧ Below w.heap.size w W)
          (fun c pre W => (c = .ret ∧ ∃ q i b, pre = q ++ [(i, b)] ∧ d < b ∧ (∀ y ∈ q, y.2 ≤ d) ∧ (∃ j v, ((q = [] ∧ j = 0 ∧ v = 0) ∨ ∃ r, q = r ++ [(j, v)]) ∧ At W (w.heap.size + 1 + 1) (.int .i64 j) ∧ At W (w.heap.size + 1 + 1 + 1) (.int .i64 v)) ∧ At W (w.heap.size + 1 + 1 + 1 + 1) (.int .i64 b) ∧ At W (w.heap.size + 1 + 1 + 1 + 1 + 1) (.int .i64 0)) ∧ Below w.heap.size w W)
          (OwnFrom.and (Own.from (fun s A B row hs hg hr => by
            obtain ⟨h1, h2, ⟨i, b, h3, h4, h5⟩, h6, h7⟩ := hs
            exact ⟨h1, h2.kept hg hr, ⟨i, b, h3, h4.kept hg hr, h5.kept hg hr⟩, h6.kept hg hr, h7.kept hg hr⟩) _) (ownFrom_below (Nat.le_refl _) (by omega)))
          (fun c => OwnFrom.and (Own.from (fun s A B row hs hg hr => by
            obtain ⟨h0, q, i, b, h1, h2, h2', ⟨j, v, h3, h4, h5⟩, h6, h7⟩ := hs
            exact ⟨h0, q, i, b, h1, h2, h2', ⟨j, v, h3, h4.kept hg hr, h5.kept hg hr⟩, h6.kept hg hr, h7.kept hg hr⟩) _) (ownFrom_below (Nat.le_refl _) (by omega)))
          ⟨⟨by simp, qd, ⟨0, 0, .inl ⟨rfl, rfl, rfl⟩, qk, qf⟩, qn, qe⟩, b2⟩ ?a1 ?assign ?body ?done ?stop
        case assign =>
          intro l x W K hK
          gi_wp2
          exact hK
        case body =>
          rintro l pre x W ⟨⟨hp, gd, ⟨i, b, hib, gk, gf⟩, gn, ge⟩, hB⟩ _
          have gd1 := gd.1
          have gk1 := gk.1
          have gk2 := gk.2
          have gf1 := gf.1
          have gf2 := gf.2
          have gn1 := gn.1
          have gn2 := gn.2
          have ge1 := ge.1
          have ge2 := ge.2
          by_cases hx : d < x.2
          · gi_wp2
            have hmo : Tryd.prog.follows .mixedOrders = true := by kernel_rfl
            gi_region_elder_o
            all_goals gi_wp2
            all_goals exact ⟨((((KeepsOthers.setCell _ _ _).trans (KeepsOthers.setCell _ _ _)).trans (KeepsOthers.setCell _ _ _)).trans (KeepsOthers.setCell _ _ _)).trans (KeepsOthers.drew _), ⟨rfl, pre, x.1, x.2, rfl, hx, hp, ⟨i, b, hib, At.drew ((((gk.set (.int .i64 i)).other (c := w.heap.size + 1 + 1 + 1) (by omega) (.int .i64 b)).other (c := w.heap.size + 1 + 1 + 1 + 1) (by omega) (.int .i64 x.2)).other (c := w.heap.size + 1 + 1 + 1 + 1 + 1) (by omega) (.int .i64 0)), At.drew ((((gf.other (c := w.heap.size + 1 + 1) (by omega) (.int .i64 i)).set (.int .i64 b)).other (c := w.heap.size + 1 + 1 + 1 + 1) (by omega) (.int .i64 x.2)).other (c := w.heap.size + 1 + 1 + 1 + 1 + 1) (by omega) (.int .i64 0))⟩, At.drew ((((gn.other (c := w.heap.size + 1 + 1) (by omega) (.int .i64 i)).other (c := w.heap.size + 1 + 1 + 1) (by omega) (.int .i64 b)).set (.int .i64 x.2)).other (c := w.heap.size + 1 + 1 + 1 + 1 + 1) (by omega) (.int .i64 0)), At.drew ((((ge.other (c := w.heap.size + 1 + 1) (by omega) (.int .i64 i)).other (c := w.heap.size + 1 + 1 + 1) (by omega) (.int .i64 b)).other (c := w.heap.size + 1 + 1 + 1 + 1) (by omega) (.int .i64 x.2)).set (.int .i64 0))⟩, (((((hB.setCell (p := ⟨w.heap.size + 1 + 1, 0, none⟩) (by simp; omega) (.int .i64 i)).setCell (p := ⟨w.heap.size + 1 + 1 + 1, 0, none⟩) (by simp; omega) (.int .i64 b)).setCell (p := ⟨w.heap.size + 1 + 1 + 1 + 1, 0, none⟩) (by simp; omega) (.int .i64 x.2)).setCell (p := ⟨w.heap.size + 1 + 1 + 1 + 1 + 1, 0, none⟩) (by simp; omega) (.int .i64 0))).drew⟩
          · gi_wp2
            exact ⟨(KeepsOthers.setCell _ _ _).trans (KeepsOthers.setCell _ _ _), (Kd.set _ (by omega) (by omega) (by omega) _).trans (Kd.set _ (by omega) (by omega) (by omega) _), ⟨fun y z hy => (List.mem_append.1 hy).elim (hp (y, z)) (fun e => by have e2 := List.mem_singleton.1 e; have e3 : z = x.2 := (by rw [← e2]); omega), (gd.other (c := w.heap.size + 1 + 1) (by omega) _).other (c := w.heap.size + 1 + 1 + 1) (by omega) _, ⟨x.1, x.2, .inr ⟨pre, rfl⟩, ((gk.set (.int .i64 x.1)).other (c := w.heap.size + 1 + 1 + 1) (by omega) (.int .i64 x.2)), ((gf.other (c := w.heap.size + 1 + 1) (by omega) (.int .i64 x.1)).set (.int .i64 x.2))⟩, ((gn.other (c := w.heap.size + 1 + 1) (by omega) (.int .i64 x.1)).other (c := w.heap.size + 1 + 1 + 1) (by omega) (.int .i64 x.2)), ((ge.other (c := w.heap.size + 1 + 1) (by omega) (.int .i64 x.1)).other (c := w.heap.size + 1 + 1 + 1) (by omega) (.int .i64 x.2))⟩, ((hB.setCell (p := ⟨w.heap.size + 1 + 1, 0, none⟩) (by simp; omega) (.int .i64 x.1)).setCell (p := ⟨w.heap.size + 1 + 1 + 1, 0, none⟩) (by simp; omega) (.int .i64 x.2))⟩
        case done =>
          rintro D ys W hD rfl ⟨⟨hne, gd, ⟨i, b, hib, gk, gf⟩, gn, ge⟩, hB⟩ hK
          have HN := Lib.hid (An.f_out HO.out hd2 (An.cum_all HO.out (by omega) hne)).2
          have HI := HN
          have HK := Lib.hid hK
          have gk1 := gk.1
          have gk2 := gk.2
          have gf1 := gf.1
          have gf2 := gf.2
          have gn1 := gn.1
          have gn2 := gn.2
          have ge1 := ge.1
          have ge2 := ge.2
          clear hne hK hib
          gi_wp2
          have hK' := (((((KeepsOthers.refl W).trans (KeepsOthers.setCell _ ⟨w.heap.size + 1 + 1, 0, none⟩ (.int .i64 0))).trans (KeepsOthers.setCell _ ⟨w.heap.size + 1 + 1 + 1, 0, none⟩ (.int .i64 0))).trans (KeepsOthers.setCell _ ⟨w.heap.size + 1 + 1 + 1 + 1, 0, none⟩ (.int .i64 0))).trans (KeepsOthers.setCell _ ⟨w.heap.size + 1 + 1 + 1 + 1 + 1, 0, none⟩ (.int .i64 7))).same D _ HK.out rfl
          refine ⟨by simp, .inl ⟨_, _, rfl, run_takeDeferred hK', ?_⟩⟩
          have r1 := (((((gk.set (.int .i64 0)).other (c := w.heap.size + 1 + 1 + 1) (by omega) (.int .i64 0)).other (c := w.heap.size + 1 + 1 + 1 + 1) (by omega) (.int .i64 0)).other (c := w.heap.size + 1 + 1 + 1 + 1 + 1) (by omega) (.int .i64 7)).drop hK').1
          have r2 := (((((gf.other (c := w.heap.size + 1 + 1) (by omega) (.int .i64 0)).set (.int .i64 0)).other (c := w.heap.size + 1 + 1 + 1 + 1) (by omega) (.int .i64 0)).other (c := w.heap.size + 1 + 1 + 1 + 1 + 1) (by omega) (.int .i64 7)).drop hK').1
          have r3 := (((((gn.other (c := w.heap.size + 1 + 1) (by omega) (.int .i64 0)).other (c := w.heap.size + 1 + 1 + 1) (by omega) (.int .i64 0)).set (.int .i64 0)).other (c := w.heap.size + 1 + 1 + 1 + 1 + 1) (by omega) (.int .i64 7)).drop hK').1
          have r4 := (((((ge.other (c := w.heap.size + 1 + 1) (by omega) (.int .i64 0)).other (c := w.heap.size + 1 + 1 + 1) (by omega) (.int .i64 0)).other (c := w.heap.size + 1 + 1 + 1 + 1) (by omega) (.int .i64 0)).set (.int .i64 7)).drop hK').1
          refine ⟨.tuple #[.int .i64 0, .int .i64 0, .int .i64 0, .int .i64 7], ?_, ?_, ((((hB.setCell (p := ⟨w.heap.size + 1 + 1, 0, none⟩) (by simp; omega) (.int .i64 0)).setCell (p := ⟨w.heap.size + 1 + 1 + 1, 0, none⟩) (by simp; omega) (.int .i64 0)).setCell (p := ⟨w.heap.size + 1 + 1 + 1 + 1, 0, none⟩) (by simp; omega) (.int .i64 0)).setCell (p := ⟨w.heap.size + 1 + 1 + 1 + 1 + 1, 0, none⟩) (by simp; omega) (.int .i64 7)).trans (belowK_b (w := w) (Nat.le_refl _) _ D _ _ (by have := b2.size; omega) hK' rfl rfl)⟩
          · simp [results, Tryd.results31, go_sem, r1, r2, r3, r4]
          · exact ret_four (by simp [An.fV, HI.out]) (by simp [An.fV, HI.out]) (by simp [An.fV, HI.out]) (by simp [An.fE, HI.out, HF.out])
        case stop =>
          rintro D c pre W hD ⟨n, hn, hcum⟩ ⟨⟨rfl, q, i, b, hq, hb, hle, ⟨j, v, hjv, gk, gf⟩, gn, ge⟩, hB⟩ hK
          have HK := Lib.hid hK
          have HS := Lib.hid (An.cum_stop HO.out (by omega) hd2 hn (hcum.symm.trans hq) hb hle hjv)
          clear hcum hq hK hn hle hjv
          gi_wp2
          have hK' := HK.out
          refine ⟨by simp, .inl ⟨_, _, rfl, run_takeDeferred hK', ?_⟩⟩
          have r1 := (gk.drop hK').1
          have r2 := (gf.drop hK').1
          have r3 := (gn.drop hK').1
          have r4 := (ge.drop hK').1
          refine ⟨.tuple #[.int .i64 j, .int .i64 v, .int .i64 b, .int .i64 0], ?_, ?_, hB.trans (belowK_b (w := w) (Nat.le_refl _) _ D _ _ (by have := b2.size; omega) hK' rfl rfl)⟩
          · simp [results, Tryd.results31, go_sem, r1, r2, r3, r4]
          · obtain ⟨l1, l2, rfl, rfl, l5⟩ := HS.out
            obtain ⟨m1, m2, m3⟩ := An.f_in HO.out l1 l2 l5 hb
            exact ret_four (by simp [An.fV, m2, m3]) (by simp [An.fV, m2, m3]) (by simp [An.fV, m2, m3]) (by simp [An.fE, m1, m2])
    · have V := Lib.hid (show decide (1 ≤ d ∧ d ≤ 3652059) = false by simpa using hd)
      have HF := Lib.hid (show An.fOk s a E d = false by simp [An.fOk, hok]; omega)
      have HI := Lib.hid (show An.fIn s a E d = false by simp [An.fIn, HF.out])
      clear hok hd
      gi_wp2_with fail
      refine ⟨trivial, (callsIn_wide.2 (check_t _ HO.out)).mono ?_⟩
      rintro e w1 ⟨rfl, B1⟩
      simp only [World.size_alloc] at B1
      have s1 := B1.size
      simp only [World.size_alloc] at s1
      have b0 : Below w.heap.size w w1 := ((((((((Below.refl _ w).alloc (Nat.le_refl _) _).alloc (by simp) _).alloc (by simp; omega) _).alloc (by simp; omega) _).alloc (by simp; omega) _).alloc (by simp; omega) _)).trans (B1.mono (by omega))
      have p0 := (B1.cell (p := ⟨w.heap.size, 0, none⟩) (by simp; omega)).trans (show _ = some (.int .i64 s) by simp [go_sem])
      have p1 := (B1.cell (p := ⟨w.heap.size, 1, none⟩) (by simp; omega)).trans (show _ = some (.int .i64 a) by simp [go_sem])
      have p2 := (B1.cell (p := ⟨w.heap.size, 2, none⟩) (by simp; omega)).trans (show _ = some (.int .i64 E) by simp [go_sem])
      have pd : At w1 (w.heap.size + 1) (.int .i64 d) := At.below (B := w.heap.size + 1 + 1 + 1 + 1 + 1 + 1) ⟨by simp [go_sem], by simp [go_sem]⟩ B1 (by omega)
      have pk : At w1 (w.heap.size + 1 + 1) (.int .i64 0) := At.below (B := w.heap.size + 1 + 1 + 1 + 1 + 1 + 1) ⟨by simp [go_sem], by simp [go_sem]⟩ B1 (by omega)
      have pf : At w1 (w.heap.size + 1 + 1 + 1) (.int .i64 0) := At.below (B := w.heap.size + 1 + 1 + 1 + 1 + 1 + 1) ⟨by simp [go_sem], by simp [go_sem]⟩ B1 (by omega)
      have pn : At w1 (w.heap.size + 1 + 1 + 1 + 1) (.int .i64 0) := At.below (B := w.heap.size + 1 + 1 + 1 + 1 + 1 + 1) ⟨by simp [go_sem], by simp [go_sem]⟩ B1 (by omega)
      have pe : At w1 (w.heap.size + 1 + 1 + 1 + 1 + 1) (.int .i64 0) := At.below (B := w.heap.size + 1 + 1 + 1 + 1 + 1 + 1) ⟨by simp [go_sem], by simp [go_sem]⟩ B1 (by omega)
      have pd1 := pd.1
      clear B1
      gi_wp2_with fail
      refine ⟨trivial, (callsIn_wide.2 (two_is _ _ _ ?_ ?_ V.out)).mono ?_⟩
      · simp [go_sem]
      · simp [go_sem]
      rintro e v1 ⟨rfl, C1⟩
      have C2 : Below w1.heap.size w1 v1 := ((Below.refl _ _).alloc (Nat.le_refl _) _).trans (C1.mono (by simp))
      replace b0 := b0.trans (C2.mono (by omega))
      replace pk := pk.below C2 (by omega)
      replace pf := pf.below C2 (by omega)
      replace pn := pn.below C2 (by omega)
      replace pe := pe.below C2 (by omega)
      clear C1 C2
      have pk1 := pk.1
      have pk2 := pk.2
      have pf1 := pf.1
      have pf2 := pf.2
      have pn1 := pn.1
      have pn2 := pn.2
      have pe1 := pe.1
      have pe2 := pe.2
      gi_wp2
      have r1 := ((((pk.set (.int .i64 0)).other (c := w.heap.size + 1 + 1 + 1) (by omega) (.int .i64 0)).other (c := w.heap.size + 1 + 1 + 1 + 1) (by omega) (.int .i64 0)).other (c := w.heap.size + 1 + 1 + 1 + 1 + 1) (by omega) (.int .i64 2)).1
      have r2 := ((((pf.other (c := w.heap.size + 1 + 1) (by omega) (.int .i64 0)).set (.int .i64 0)).other (c := w.heap.size + 1 + 1 + 1 + 1) (by omega) (.int .i64 0)).other (c := w.heap.size + 1 + 1 + 1 + 1 + 1) (by omega) (.int .i64 2)).1
      have r3 := ((((pn.other (c := w.heap.size + 1 + 1) (by omega) (.int .i64 0)).other (c := w.heap.size + 1 + 1 + 1) (by omega) (.int .i64 0)).set (.int .i64 0)).other (c := w.heap.size + 1 + 1 + 1 + 1 + 1) (by omega) (.int .i64 2)).1
      have r4 := ((((pe.other (c := w.heap.size + 1 + 1) (by omega) (.int .i64 0)).other (c := w.heap.size + 1 + 1 + 1) (by omega) (.int .i64 0)).other (c := w.heap.size + 1 + 1 + 1 + 1) (by omega) (.int .i64 0)).set (.int .i64 2)).1
      refine ⟨.tuple #[.int .i64 0, .int .i64 0, .int .i64 0, .int .i64 2], ?_, ?_, ((((b0.setCell (p := ⟨w.heap.size + 1 + 1, 0, none⟩) (by simp; omega) (.int .i64 0)).setCell (p := ⟨w.heap.size + 1 + 1 + 1, 0, none⟩) (by simp; omega) (.int .i64 0)).setCell (p := ⟨w.heap.size + 1 + 1 + 1 + 1, 0, none⟩) (by simp; omega) (.int .i64 0)).setCell (p := ⟨w.heap.size + 1 + 1 + 1 + 1 + 1, 0, none⟩) (by simp; omega) (.int .i64 2))⟩
      · simp [results, Tryd.results31, go_sem, r1, r2, r3, r4]
      · exact ret_four (by simp [An.fV, HI.out]) (by simp [An.fV, HI.out]) (by simp [An.fV, HI.out]) (by simp [An.fE, HF.out])
end Go.Proofs.YtibkbimhedoafaaDoor.anch

