/- Splitting by the greatest rests, in plain Lean: what an answer must be, that it is the only one, that the sorted way gives it. -/
import Derived.Test.YtlllgfkdapjomaaSortD
namespace Sp
open St
theorem getD_set (l : List Int) (i : Nat) (x : Int) (k : Nat) (hk : k < l.length) : (l.set i x).getD k 0 = if k = i then x else l.getD k 0 := by
  simp only [List.getD_eq_getElem?_getD, List.getElem?_set]
  by_cases e : k = i
  · subst e
    simp [hk]
  · rw [if_neg (Ne.symm e), if_neg e]
theorem sum_set : ∀ (l : List Int) (i : Nat) (x : Int), i < l.length → (l.set i x).sum = l.sum - l.getD i 0 + x
  | [], i, x, h => by simp at h
  | a :: l, 0, x, _ => by simp; omega
  | a :: l, i + 1, x, h => by
    have := sum_set l i x (by simpa using h)
    simp only [List.set_cons_succ, List.sum_cons, List.getD_cons_succ, this]
    omega
theorem sum_le : ∀ (l m : List Int), l.length = m.length → (∀ k, k < l.length → l.getD k 0 ≤ m.getD k 0) → l.sum ≤ m.sum
  | [], [], _, _ => by simp
  | [], b :: m, h, _ => by simp at h
  | a :: l, [], h, _ => by simp at h
  | a :: l, b :: m, h, hk => by
    have h0 := hk 0 (by simp)
    have h1 := sum_le l m (by simpa using h) (fun k q => by simpa using hk (k + 1) (by simpa using q))
    simp only [List.getD_cons_zero, List.sum_cons] at h0 ⊢
    omega
theorem sum_lt (l m : List Int) (h : l.length = m.length) (hk : ∀ k, k < l.length → l.getD k 0 ≤ m.getD k 0) (i : Nat) (hi : i < l.length) (hs : l.getD i 0 < m.getD i 0) : l.sum < m.sum := by
  have h1 := sum_le (l.set i (l.getD i 0 + 1)) m (by simpa using h) (fun k q => by
    have q' : k < l.length := by simpa using q
    rw [getD_set l i _ k q']
    by_cases e : k = i
    · rw [if_pos e, e]; omega
    · rw [if_neg e]; exact hk k q')
  rw [sum_set l i _ hi] at h1
  omega
theorem ext_getD (l m : List Int) (h : l.length = m.length) (hk : ∀ k, k < l.length → l.getD k 0 = m.getD k 0) : l = m := by
  refine List.ext_getElem h fun k h1 h2 => ?_
  have := hk k h1
  rw [List.getD_eq_getElem?_getD, List.getD_eq_getElem?_getD, List.getElem?_eq_getElem h1, List.getElem?_eq_getElem h2] at this
  exact this
theorem sum_ge0 : ∀ (l : List Int), (∀ x ∈ l, 0 ≤ x) → 0 ≤ l.sum
  | [], _ => by simp
  | a :: l, h => by
    have h0 := h a (by simp)
    have h1 := sum_ge0 l (fun x q => h x (by simp [q]))
    simp only [List.sum_cons]
    omega
theorem sum_take (l : List Int) (h : ∀ x ∈ l, 0 ≤ x) (i : Nat) : 0 ≤ (l.take i).sum ∧ (l.take i).sum ≤ l.sum := by
  have h1 := sum_ge0 (l.take i) (fun x q => h x (List.mem_of_mem_take q))
  have h2 := sum_ge0 (l.drop i) (fun x q => h x (List.mem_of_mem_drop q))
  have h3 : l.sum = (l.take i).sum + (l.drop i).sum := by rw [← List.sum_append, List.take_append_drop]
  omega
theorem sum_up (c : Int) : ∀ (l : List Int), (∀ x ∈ l, x ≤ c) → l.sum ≤ l.length * c
  | [], _ => by simp
  | a :: l, h => by
    have h0 := h a (by simp)
    have h1 := sum_up c l (fun x q => h x (by simp [q]))
    simp only [List.sum_cons, List.length_cons]
    rw [show ((l.length + 1 : Nat) : Int) = (l.length : Int) + 1 by omega, Int.add_mul, Int.one_mul]
    omega
theorem sum_inc : ∀ (l : List Int), (l.map (· + 1)).sum = l.sum + l.length
  | [] => by simp
  | a :: l => by
    have := sum_inc l
    simp only [List.map_cons, List.sum_cons, List.length_cons, this]
    omega
theorem total (T c : Int) : ∀ l : List Int, c * (l.map (fun x => T * x / c)).sum + (l.map (fun x => T * x % c)).sum = T * l.sum
  | [] => by simp
  | a :: l => by
    have h1 := total T c l
    have h2 := Int.mul_ediv_add_emod (T * a) c
    simp only [List.map_cons, List.sum_cons, Int.mul_add]
    omega
/-- What may be split. -/
structure Ok (T : Int) (xs : List Int) : Prop where
  t0 : 0 ≤ T
  t1 : T < 4611686018427387904
  n0 : 0 < xs.length
  n1 : xs.length ≤ 4096
  w0 : ∀ x ∈ xs, 0 ≤ x
  a0 : 0 < xs.sum
  a1 : xs.sum < 4611686018427387904
def qs (T : Int) (xs : List Int) : List Int := xs.map (fun x => T * x / xs.sum)
def rs (T : Int) (xs : List Int) : List Int := xs.map (fun x => T * x % xs.sum)
def q (T : Int) (xs : List Int) (k : Nat) : Int := T * xs.getD k 0 / xs.sum
def r (T : Int) (xs : List Int) (k : Nat) : Int := T * xs.getD k 0 % xs.sum
variable {T : Int} {xs : List Int}
@[simp] theorem qs_len : (qs T xs).length = xs.length := by simp [qs]
@[simp] theorem rs_len : (rs T xs).length = xs.length := by simp [rs]
theorem qs_get {k : Nat} (hk : k < xs.length) : (qs T xs).getD k 0 = q T xs k := by
  simp [qs, q, List.getD_eq_getElem?_getD, List.getElem?_eq_getElem hk]
theorem rs_get {k : Nat} (hk : k < xs.length) : (rs T xs).getD k 0 = r T xs k := by
  simp [rs, r, List.getD_eq_getElem?_getD, List.getElem?_eq_getElem hk]
theorem Ok.w (h : Ok T xs) (k : Nat) : 0 ≤ xs.getD k 0 := by
  rw [List.getD_eq_getElem?_getD]
  by_cases hk : k < xs.length
  · rw [List.getElem?_eq_getElem hk]; exact h.w0 _ (List.getElem_mem hk)
  · rw [List.getElem?_eq_none (by omega)]; simp
theorem Ok.w1 (h : Ok T xs) (k : Nat) : xs.getD k 0 ≤ xs.sum := by
  by_cases hk : k < xs.length
  · have h1 := sum_take (xs.drop k) (fun x q => h.w0 x (List.mem_of_mem_drop q)) 1
    have h2 := sum_ge0 (xs.take k) (fun x q => h.w0 x (List.mem_of_mem_take q))
    have h3 : xs.sum = (xs.take k).sum + (xs.drop k).sum := by rw [← List.sum_append, List.take_append_drop]
    have h4 : ((xs.drop k).take 1).sum = xs.getD k 0 := by
      rw [List.getD_eq_getElem?_getD, List.getElem?_eq_getElem hk, List.drop_eq_getElem_cons hk, show (xs[k] :: List.drop (k + 1) xs).take 1 = [xs[k]] from rfl]
      simp
    omega
  · rw [List.getD_eq_getElem?_getD, List.getElem?_eq_none (by omega)]
    have := h.a0
    simp
    omega
theorem Ok.q0 (h : Ok T xs) (k : Nat) : 0 ≤ q T xs k := Int.ediv_nonneg (Int.mul_nonneg h.t0 (h.w k)) (Int.le_of_lt h.a0)
theorem Ok.q1 (h : Ok T xs) (k : Nat) : q T xs k ≤ T := by
  unfold q
  have h1 := Int.mul_le_mul_of_nonneg_left (h.w1 k) h.t0
  have h2 := Int.ediv_le_ediv h.a0 h1
  rwa [Int.mul_ediv_cancel _ (Int.ne_of_gt h.a0)] at h2
theorem Ok.r0 (h : Ok T xs) (k : Nat) : 0 ≤ r T xs k := Int.emod_nonneg _ (Int.ne_of_gt h.a0)
theorem Ok.r1 (h : Ok T xs) (k : Nat) : r T xs k < xs.sum := Int.emod_lt_of_pos _ h.a0
theorem Ok.qs0 (h : Ok T xs) : ∀ x ∈ qs T xs, 0 ≤ x := fun x hx => by
  obtain ⟨y, hy, rfl⟩ := List.mem_map.1 hx
  exact Int.ediv_nonneg (Int.mul_nonneg h.t0 (h.w0 y hy)) (Int.le_of_lt h.a0)
theorem Ok.tot (_h : Ok T xs) : xs.sum * (T - (qs T xs).sum) = (rs T xs).sum := by
  have := total T xs.sum xs
  rw [Int.mul_sub, Int.mul_comm xs.sum T]
  unfold qs rs
  omega
theorem Ok.rs0 (h : Ok T xs) : 0 ≤ (rs T xs).sum := sum_ge0 _ fun x hx => by
  obtain ⟨y, _, rfl⟩ := List.mem_map.1 hx
  exact Int.emod_nonneg _ (Int.ne_of_gt h.a0)
theorem Ok.left0 (h : Ok T xs) : (qs T xs).sum ≤ T := by
  refine Classical.byContradiction fun hn => ?_
  have h1 := h.tot
  have h2 := h.rs0
  have h3 : xs.sum * (T - (qs T xs).sum) < 0 := Int.mul_neg_of_pos_of_neg h.a0 (by omega)
  omega
theorem Ok.left1 (h : Ok T xs) : T < (qs T xs).sum + xs.length := by
  refine Classical.byContradiction fun hn => ?_
  have h1 := h.tot
  have h2 := sum_up (xs.sum - 1) (rs T xs) (fun x hx => by
    obtain ⟨y, _, rfl⟩ := List.mem_map.1 hx
    have := Int.emod_lt_of_pos (T * y) h.a0
    omega)
  rw [rs_len, Int.mul_sub, Int.mul_one] at h2
  have h3 : xs.sum * (xs.length : Int) ≤ xs.sum * (T - (qs T xs).sum) := Int.mul_le_mul_of_nonneg_left (by omega) (Int.le_of_lt h.a0)
  rw [Int.mul_comm (xs.length : Int)] at h2
  have := h.n0
  omega
theorem Ok.lf (h : Ok T xs) (i : Nat) : 0 ≤ T - ((qs T xs).take i).sum ∧ T - ((qs T xs).take i).sum ≤ T := by
  have h1 := sum_take _ h.qs0 i
  have h2 := h.left0
  omega
theorem lf_succ {i : Nat} (hi : i < xs.length) : ((qs T xs).take (i + 1)).sum = ((qs T xs).take i).sum + q T xs i := by
  have hi' : i < (qs T xs).length := by simpa using hi
  rw [List.take_succ_eq_append_getElem hi', List.sum_append]
  have := qs_get (T := T) hi
  rw [List.getD_eq_getElem?_getD, List.getElem?_eq_getElem hi'] at this
  simp only [Option.getD_some] at this
  simp [this]
/-- An answer: the rounded slices, the greatest rests have a unit more, the total together. -/
structure IsSplit (T : Int) (xs out : List Int) : Prop where
  len : out.length = xs.length
  sum : out.sum = T
  one : ∀ k, k < xs.length → out.getD k 0 = q T xs k ∨ out.getD k 0 = q T xs k + 1
  ord : ∀ i k, i < xs.length → k < xs.length → out.getD i 0 = q T xs i + 1 → out.getD k 0 = q T xs k → (r T xs k < r T xs i ∨ (r T xs k = r T xs i ∧ i < k))
theorem IsSplit.unique {a b : List Int} (h : IsSplit T xs a) (g : IsSplit T xs b) : a = b := by
  refine ext_getD a b (h.len.trans g.len.symm) fun k hk => ?_
  refine Classical.byContradiction fun hne => ?_
  have hlen := h.len.trans g.len.symm
  have hkn : k < xs.length := by rw [← h.len]; exact hk
  have ha := h.one k hkn
  have hb := g.one k hkn
  by_cases e : a.getD k 0 = q T xs k
  · have eb : b.getD k 0 = q T xs k + 1 := by omega
    have hx : ¬ ∃ i, i < xs.length ∧ a.getD i 0 = q T xs i + 1 ∧ b.getD i 0 = q T xs i := fun ⟨i, hi, e1, e2⟩ => by
      have h1 := h.ord i k hi hkn e1 e
      have h2 := g.ord k i hkn hi eb e2
      omega
    have := sum_lt a b hlen (fun i hi => Classical.byContradiction fun hc => hx ⟨i, by rw [← h.len]; exact hi, by
      have hi' : i < xs.length := by rw [← h.len]; exact hi
      have h1 := h.one i hi'
      have h2 := g.one i hi'
      omega⟩) k hk (by omega)
    have h1 := h.sum
    have h2 := g.sum
    omega
  · have ea : a.getD k 0 = q T xs k + 1 := by omega
    have eb : b.getD k 0 = q T xs k := by omega
    have hx : ¬ ∃ i, i < xs.length ∧ b.getD i 0 = q T xs i + 1 ∧ a.getD i 0 = q T xs i := fun ⟨i, hi, e1, e2⟩ => by
      have h1 := h.ord k i hkn hi ea e2
      have h2 := g.ord i k hi hkn e1 eb
      omega
    have := sum_lt b a hlen.symm (fun i hi => Classical.byContradiction fun hc => hx ⟨i, by rw [← g.len]; exact hi, by
      have hi' : i < xs.length := by rw [← g.len]; exact hi
      have h1 := h.one i hi'
      have h2 := g.one i hi'
      omega⟩) k (by omega) (by omega)
    have h1 := h.sum
    have h2 := g.sum
    omega
/-- The shares. -/
def shk (T : Int) (xs : List Int) (k : Nat) : Sh := ⟨q T xs k, r T xs k, k⟩
def shs (T : Int) (xs : List Int) (i : Nat) : List Sh := (List.range i).map (shk T xs)
theorem shs_succ (i : Nat) : shs T xs (i + 1) = shs T xs i ++ [shk T xs i] := by simp [shs, List.range_succ]
@[simp] theorem shs_len (i : Nat) : (shs T xs i).length = i := by simp [shs]
def pl (d : Array Sh) (m : Nat) : Nat := d[m]!.p.toNat
/-- The shares, the greatest rest ahead. -/
structure Ord (T : Int) (xs : List Int) (d : Array Sh) : Prop where
  size : d.size = xs.length
  is : ∀ m, m < xs.length → pl d m < xs.length ∧ d[m]! = shk T xs (pl d m)
  all : ∀ k, k < xs.length → ∃ m, m < xs.length ∧ pl d m = k
  inj : ∀ m m', m < xs.length → m' < xs.length → pl d m = pl d m' → m = m'
  asc : ∀ m m', m < m' → m' < xs.length → lt d[m']! d[m]! = false
theorem Ord.of {d : Array Sh} (hp : Go.Sort.PermIn 0 xs.length (shs T xs xs.length).toArray d) (hs : Go.Sort.SortedIn lt 0 xs.length d) : Ord T xs d := by
  obtain ⟨hsz, _, hperm⟩ := hp
  have hsize : d.size = xs.length := by simpa using hsz
  have e1 : (d.extract 0 xs.length) = d := by rw [← hsize]; simp
  have e2 : ((shs T xs xs.length).toArray.extract 0 xs.length) = (shs T xs xs.length).toArray := by
    have h0 : ((shs T xs xs.length).toArray).size = xs.length := by simp
    have := Array.extract_size (xs := (shs T xs xs.length).toArray)
    rwa [h0] at this
  rw [e1, e2] at hperm
  have hperm' : d.toList.Perm (shs T xs xs.length) := hperm
  have hmap : (d.toList.map (fun s => s.p.toNat)).Perm (List.range xs.length) := by
    have := hperm'.map (fun s : Sh => s.p.toNat)
    have e : (shs T xs xs.length).map (fun s : Sh => s.p.toNat) = List.range xs.length := by
      rw [shs, List.map_map]
      have : (fun s : Sh => s.p.toNat) ∘ shk T xs = id := by funext k; simp [shk]
      rw [this, List.map_id]
    rwa [e] at this
  have hnd : (d.toList.map (fun s => s.p.toNat)).Nodup := hmap.nodup_iff.2 List.nodup_range
  have hget : ∀ m, (hm : m < xs.length) → d[m]! = d[m]'(by omega) := fun m hm => getElem!_pos d m (by omega)
  refine ⟨hsize, fun m hm => ?_, fun k hk => ?_, fun m m' hm hm' he => ?_, fun m m' h1 h2 => hs m m' (Nat.zero_le _) h1 h2⟩
  · have : d[m]! ∈ shs T xs xs.length := hperm'.mem_iff.1 (by rw [hget m hm]; simp)
    obtain ⟨k, hk, e⟩ := List.mem_map.1 this
    have hk' : k < xs.length := by simpa using hk
    have ep : pl d m = k := by rw [pl, ← e]; simp [shk]
    rw [ep]
    exact ⟨hk', e.symm⟩
  · have : k ∈ d.toList.map (fun s => s.p.toNat) := hmap.mem_iff.2 (by simpa using hk)
    obtain ⟨s, hs1, hs2⟩ := List.mem_map.1 this
    obtain ⟨m, hm, hms⟩ := List.mem_iff_getElem.1 hs1
    have hm' : m < d.size := by simpa using hm
    refine ⟨m, by omega, ?_⟩
    rw [pl, hget m (by omega)]
    rw [← hs2, ← hms]
    simp
  · rw [pl, pl, hget m hm, hget m' hm'] at he
    have hl : m < (d.toList.map (fun s => s.p.toNat)).length := by simp; omega
    have hl' : m' < (d.toList.map (fun s => s.p.toNat)).length := by simp; omega
    have hpw := List.pairwise_iff_getElem.1 hnd
    rcases Nat.lt_trichotomy m m' with h1 | h1 | h1
    · exact absurd (by simpa using he) (hpw m m' hl hl' h1)
    · exact h1
    · exact absurd (by simpa using he.symm) (hpw m' m hl' hl h1)
/-- While the units are given out. -/
structure Inv (T : Int) (xs : List Int) (d : Array Sh) (j : Nat) (left : Int) (out : List Int) : Prop where
  len : out.length = xs.length
  tot : left + out.sum = T
  l0 : 0 ≤ left
  rest : ∀ m, j ≤ m → m < xs.length → out.getD (pl d m) 0 = q T xs (pl d m)
  one : ∀ k, k < xs.length → out.getD k 0 = q T xs k ∨ out.getD k 0 = q T xs k + 1
  done : 0 < left → ∀ m, m < j → m < xs.length → out.getD (pl d m) 0 = q T xs (pl d m) + 1
  ord : ∀ m m', m < xs.length → m' < xs.length → out.getD (pl d m) 0 = q T xs (pl d m) + 1 → out.getD (pl d m') 0 = q T xs (pl d m') → m < m'
variable {d : Array Sh} {left : Int} {out : List Int} {j : Nat}
theorem Inv.start (h : Ok T xs) : Inv T xs d 0 (T - ((qs T xs).take xs.length).sum) (qs T xs) where
  len := qs_len
  tot := by rw [← qs_len (T := T) (xs := xs), List.take_length]; omega
  l0 := (h.lf _).1
  rest m _ _ := by
    by_cases hk : pl d m < xs.length
    · exact qs_get hk
    · simp [q, qs, List.getD_eq_getElem?_getD, List.getElem?_eq_none (Nat.le_of_not_lt hk)]
  one k hk := Or.inl (qs_get hk)
  done _ m hm := by omega
  ord m m' hm hm' e1 e2 := by
    exfalso
    by_cases hk : pl d m < xs.length
    · rw [qs_get hk] at e1; omega
    · rw [List.getD_eq_getElem?_getD, List.getElem?_eq_none (by simpa using hk)] at e1
      simp [q, List.getD_eq_getElem?_getD, List.getElem?_eq_none (Nat.le_of_not_lt hk)] at e1
theorem Inv.no (h : Inv T xs d j left out) (hl : ¬ 0 < left) : Inv T xs d (j + 1) left out :=
  ⟨h.len, h.tot, h.l0, fun m h1 h2 => h.rest m (by omega) h2, h.one, fun h1 => absurd h1 hl, h.ord⟩
theorem Inv.yes (h : Inv T xs d j left out) (hO : Ord T xs d) (hj : j < xs.length) (hl : 0 < left) : Inv T xs d (j + 1) (left - 1) (out.set (pl d j) (out.getD (pl d j) 0 + 1)) := by
  have hpj := (hO.is j hj).1
  have hrj := h.rest j (Nat.le_refl _) hj
  have hg : ∀ m, m < xs.length → (out.set (pl d j) (out.getD (pl d j) 0 + 1)).getD (pl d m) 0 = if m = j then q T xs (pl d j) + 1 else out.getD (pl d m) 0 := fun m hm => by
    rw [getD_set _ _ _ _ (by rw [h.len]; exact (hO.is m hm).1)]
    by_cases e : m = j
    · rw [if_pos e, if_pos (by rw [e]), hrj]
    · rw [if_neg e, if_neg (fun q => e (hO.inj m j hm hj q))]
  refine ⟨by rw [List.length_set]; exact h.len, ?_, by omega, fun m h1 h2 => ?_, fun k hk => ?_, fun _ m h1 h2 => ?_, fun m m' h1 h2 e1 e2 => ?_⟩
  · rw [sum_set _ _ _ (by rw [h.len]; exact hpj)]
    have := h.tot
    omega
  · rw [hg m h2, if_neg (by omega)]
    exact h.rest m (by omega) h2
  · obtain ⟨m, hm, rfl⟩ := hO.all k hk
    rw [hg m hm]
    by_cases e : m = j
    · subst e
      rw [if_pos rfl]
      exact Or.inr rfl
    · rw [if_neg e]
      exact h.one _ hk
  · rw [hg m h2]
    by_cases e : m = j
    · rw [if_pos e, e]
    · rw [if_neg e]
      exact h.done hl m (by omega) h2
  · rw [hg m h1] at e1
    rw [hg m' h2] at e2
    have hm' : ¬ m' = j := fun e => by rw [if_pos e, e] at e2; omega
    rw [if_neg hm'] at e2
    have hgt : j < m' := Classical.byContradiction fun hc => by
      have := h.done hl m' (by omega) h2
      omega
    by_cases e : m = j
    · omega
    · rw [if_neg e] at e1
      exact h.ord m m' h1 h2 e1 e2
theorem Inv.fin (h : Inv T xs d xs.length left out) (hk : Ok T xs) (hO : Ord T xs d) : IsSplit T xs out := by
  have hl : left = 0 := Classical.byContradiction fun hc => by
    have h1 : 0 < left := by have := h.l0; omega
    have h2 := sum_le ((qs T xs).map (· + 1)) out (by simp [h.len]) (fun k hk => by
      have hk' : k < xs.length := by simpa using hk
      obtain ⟨m, hm, rfl⟩ := hO.all k hk'
      rw [h.done h1 m hm hm]
      have := qs_get (T := T) hk'
      rw [List.getD_eq_getElem?_getD, List.getElem?_eq_getElem (by simpa using hk')] at this
      simp only [Option.getD_some] at this
      rw [List.getD_eq_getElem?_getD, List.getElem?_eq_getElem hk]
      simp [this])
    rw [sum_inc, qs_len] at h2
    have h3 := hk.left1
    have h4 := h.tot
    omega
  refine ⟨h.len, by have := h.tot; omega, h.one, fun i k hi hk' e1 e2 => ?_⟩
  obtain ⟨m, hm, rfl⟩ := hO.all i hi
  obtain ⟨m', hm', rfl⟩ := hO.all k hk'
  have hlt := h.ord m m' hm hm' e1 e2
  have hs := hO.asc m m' hlt hm'
  rw [lt_no, (hO.is m hm).2, (hO.is m' hm').2] at hs
  simp only [shk] at hs
  have hne : pl d m ≠ pl d m' := fun e => by have := hO.inj m m' hm hm' e; omega
  omega
theorem Inv.bd (h : Inv T xs d j left out) (hk : Ok T xs) (k : Nat) (hkn : k < xs.length) : 0 ≤ out.getD k 0 ∧ out.getD k 0 ≤ T + 1 := by
  have := h.one k hkn
  have := hk.q0 k
  have := hk.q1 k
  omega
theorem Inv.l1 (h : Inv T xs d j left out) (hk : Ok T xs) : left ≤ T := by
  have h1 := h.tot
  have h2 := sum_ge0 out (fun x hx => by
    obtain ⟨k, hk1, rfl⟩ := List.mem_iff_getElem.1 hx
    have := (h.bd hk k (by rw [← h.len]; exact hk1)).1
    rw [List.getD_eq_getElem?_getD, List.getElem?_eq_getElem hk1] at this
    exact this)
  omega
end Sp
