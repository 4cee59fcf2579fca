/- Chapter 23, as numbers: the last period on a day, the two sides alike. No conditions but that numbers are of 64 bits. Chapter 23, as numbers: what is billed, and ends. No conditions but that numbers are of 64 bits. Chapter 23, as numbers: what an end is. No conditions but that numbers are of 64 bits. Chapter 23, as numbers: what is asked for, less what is given back. No conditions but that numbers are of 64 bits. -/
import Derived.Test.YtibkbimhedoafaaDoorMPure
import Derived.Test.YtibkbimhedoafaaDoorPSubB
import Derived.Test.YtibkbimhedoafaaDoorPHx15
import Derived.Test.YtibkbimhedoafaaDoorPSubE
import Derived.Test.YtibkbimhedoafaaDoorMSubF
import Derived.Test.YtibkbimhedoafaaDoorPSum
import Derived.Test.YtibkbimhedoafaaDoorPHx11
import Derived.Test.YtibkbimhedoafaaDoorPHx9
namespace Go.Proofs.YtibkbimhedoafaaDoor.PH
open Go.RowKit Go.Proofs.YtibkbimhedoafaaDoorW.PrintWords Go.Proofs.YtibkbimhedoafaaDoorW.PrintLast Sb An Cv
theorem last_none (x : Su) (h : x.bi = 0) (on : Int) (k : Nat) : subs_last.f x.id x.cu x.pl x.st x.an x.ev x.pr x.bi x.si x.en on = some (0, 0, 0, 0, 0, 0, false) ∧ quittanceref23_last.f k x.id x.cu x.pl x.st x.an x.ev x.pr x.bi x.si x.en on = some (0, false) := by
  refine ⟨?_, ?_⟩
  · unfold subs_last.f; simp only []; rw [if_pos (by omega)]
  · unfold quittanceref23_last.f; rw [if_pos h]
theorem last_some (x : Su) (c : Ck x) (h : 1 ≤ x.bi) (on : Int) (k : Nat) (hk : 239981 ≤ k) :
    subs_last.f x.id x.cu x.pl x.st x.an x.ev x.pr x.bi x.si x.en on = some (x.bi - 1, fr x (x.bi - 1), nx x (x.bi - 1), ee x (x.bi - 1), wh x (x.bi - 1), x.pr, psub.inP x (x.bi - 1) on) ∧
    quittanceref23_last.f k x.id x.cu x.pl x.st x.an x.ev x.pr x.bi x.si x.en on = some (nx x (x.bi - 1), psub.inP x (x.bi - 1) on) := by
  have htp := c.tp
  refine ⟨?_, ?_⟩
  · unfold subs_last.f
    simp only []
    rw [if_neg (by omega), if_pos ⟨c.ok, by show x.bi ≤ tp x + 1; omega⟩, if_pos (show x.bi ≤ tp x from c.tp)]
  · have b1 := (tp_of c.ok (k := x.bi - 1) (by omega)).1 (by omega)
    have b2 := (tp_of c.ok (k := x.bi) (by omega)).1 c.tp
    have e1 : bV x.st x.an x.ev (x.bi - 1) = fr x (x.bi - 1) := b1.1
    have e2 : bV x.st x.an x.ev x.bi = nx x (x.bi - 1) := by rw [b2.1]; unfold nx; rw [Int.sub_add_cancel]
    unfold quittanceref23_last.f
    rw [if_neg (by omega), w64 (x := x.bi - 1) (by have := c.b1; omega) (by have := c.b1; omega), ref_bound _ _ _ _ k hk, ref_bound _ _ _ _ k hk]
    simp only [Option.bind_some, e1, e2, end_f]
    unfold psub.inP
    by_cases h1 : on ≥ fr x (x.bi - 1)
    · rw [if_pos h1]
      by_cases h2 : on < ee x (x.bi - 1)
      · rw [if_pos h2, decide_eq_true h1, decide_eq_true h2]; rfl
      · rw [if_neg h2, decide_eq_false h2]; simp
    · rw [if_neg h1, decide_eq_false h1]; simp
/-- A period in which there is a day. -/
theorem in_bd {x : Su} {i on : Int} (c : okC x = true) (h0 : 0 ≤ i) (h1 : i + 1 ≤ tp x) (h : psub.inP x i on = true) : 1 ≤ nx x i ∧ nx x i ≤ 3652059 ∧ 1 ≤ on ∧ on < ee x i ∧ ee x i ≤ nx x i ∧ 1 ≤ ee x i ∧ fr x i ≤ on ∧ x.si ≤ on := by
  have b := (In.mk c h0 h1 : In x i).bd
  unfold psub.inP at h
  simp at h
  have : ee x i ≤ nx x i := by
    unfold ee
    split
    · omega
    · split <;> omega
  omega
end Go.Proofs.YtibkbimhedoafaaDoor.PH

namespace Sb
open An Cv
theorem amt_bd (x : Su) (n p f t : Int) (hp : 0 ≤ p) : 0 ≤ amt x n p f t ∧ amt x n p f t ≤ p := by
  unfold amt Pr.onV
  split
  · rename_i h
    have g := Pr.onOk_t h
    have b1 := Pr.due_bd g.1 g.2.2.1 (show 0 ≤ n - fst0 x n - (n - t) by omega) g.2.2.2.2.2.2
    have b2 := Pr.due_bd g.1 g.2.2.1 g.2.2.2.2.1 (show n - fst0 x n - (n - f) ≤ n - fst0 x n by omega)
    have b3 := Pr.due_mono g.1 g.2.2.1 g.2.2.2.2.2.1
    generalize p * (n - fst0 x n - (n - t)) / (n - fst0 x n) = u at *
    generalize p * (n - fst0 x n - (n - f)) / (n - fst0 x n) = v at *
    omega
  · omega
theorem ckB_en {x : Su} (h : ckB x = true) (v : Int) (hv : 1 ≤ v ∧ v ≤ 3652059 ∧ x.st ≤ v) : ckB ⟨x.id, x.cu, x.pl, x.st, x.an, x.ev, x.pr, x.bi, x.si, v⟩ = true := by
  unfold ckB at h ⊢
  simp only [Bool.and_eq_true] at h ⊢
  exact ⟨h.1, Go.Proofs.YtibkbimhedoafaaDoor.PH.lat_mk (.inr hv)⟩
theorem ckB_bi {x : Su} (h : ckB x = true) (v : Int) (hv : x.bi ≤ v ∧ v ≤ 2000 ∧ v ≤ tp x) : ckB ⟨x.id, x.cu, x.pl, x.st, x.an, x.ev, x.pr, v, x.si, x.en⟩ = true := by
  have c := ckB_t h
  unfold ckB at h ⊢
  simp only [Bool.and_eq_true, decide_eq_true_eq] at h ⊢
  obtain ⟨⟨⟨⟨⟨⟨⟨⟨⟨h1, h2⟩, h3⟩, h4⟩, h5⟩, h6⟩, h7⟩, h8⟩, h9⟩, h10⟩ := h
  exact ⟨⟨⟨⟨⟨⟨⟨⟨⟨h1, h2⟩, h3⟩, h4⟩, h5⟩, by omega⟩, hv.2.1⟩, bE_iff.2 ⟨c.ok, by omega, hv.2.2⟩⟩, h9⟩, h10⟩
end Sb
namespace Go.Proofs.YtibkbimhedoafaaDoor.PH
open Go.RowKit Go.Proofs.YtibkbimhedoafaaDoorW.PrintWords Go.Proofs.YtibkbimhedoafaaDoorW.PrintLast Sb An Cv
theorem ckG (x : Su) : psub.ckF 1 x = some (ckV x) := check23 0 x
theorem okd_t {d : Int} (h : okD d = true) : 1 ≤ d ∧ d ≤ 3652059 := by unfold okD at h; simp at h; omega
theorem due_none (x : Su) (today most : Int) (h : ckB x = false ∨ okD today = false ∨ most < 1 ∨ 1000 < most) :
    subs_Due.f x.id x.cu x.pl x.st x.an x.ev x.pr x.bi x.si x.en today most = some ([], 0, 0, 0, 0, 0, 0, 0, 0, 0, 0, 2) := by
  unfold subs_Due.f
  rw [sday_f]
  show ((psub.ckF 1 x).bind _) = _
  rw [ckG]
  simp only [Option.bind_some]
  rw [if_pos]
  rcases h with h | h | h | h
  · exact .inl (by simp [ckV, h])
  · exact .inr (.inl h)
  · exact .inr (.inr (.inl h))
  · exact .inr (.inr (.inr h))
/-- So many periods are billed. -/
theorem due_some (x : Su) (today most : Int) (h : ckB x = true) (hd : okD today = true) (h1 : 1 ≤ most) (h2 : most ≤ 1000) : ∃ m : Nat, psub.Stops x today most (tp x - x.bi).toNat m ∧
    subs_Due.f x.id x.cu x.pl x.st x.an x.ev x.pr x.bi x.si x.en today most = some ((ix x.bi m).map (psub.bl x), x.id, x.cu, x.pl, x.st, x.an, x.ev, x.pr, x.bi + m, x.si, x.en, 0) := by
  have c := ckB_t h
  refine ⟨psub.cnt x today most, ?_, ?_⟩
  · exact psub.cntF_stops x today most _ _ 0 (by omega) (fun i hi => by omega)
  · unfold subs_Due.f
    rw [sday_f]
    show ((psub.ckF 1 x).bind _) = _
    rw [ckG]
    simp only [Option.bind_some]
    rw [if_neg (by simp [ckV, h, hd]; omega), if_pos ⟨c.ok, c.b0, c.tp⟩]
theorem stop_no {x : Su} {today most i : Int} {m : Nat} (h : psub.stopB x today most i m = false) : fr x i ≤ today ∧ (x.en = 0 ∨ fr x i < x.en) ∧ (m : Int) ≠ most ∧ i < 2000 := by
  unfold psub.stopB at h
  simp at h
  omega
theorem stop_yes {x : Su} {today most i : Int} {m : Nat} (h : psub.stopB x today most i m = true) : today < fr x i ∨ (x.en ≠ 0 ∧ x.en ≤ fr x i) ∨ (m : Int) = most ∨ 2000 ≤ i := by
  unfold psub.stopB at h
  simp at h
  omega
theorem bill_amt (x : Su) {i : Int} (hi : In x i) (he : 1 ≤ ee x i) : psub.onF x i = amt x (nx x i) x.pr (fr x i) (ee x i) := by
  have b := hi.bd
  have h := psub.onF_some x i
  have e : ee x i ≤ nx x i := by
    unfold ee
    split
    · omega
    · split <;> omega
  unfold wh at h
  rw [on_s x ⟨by omega, by omega⟩ ⟨b.1, by omega⟩ ⟨he, by omega⟩] at h
  exact (Option.some.inj h).symm
theorem amt_whole (x : Su) {i : Int} (hi : In x i) (h1 : 1 ≤ i) (hp : 0 ≤ x.pr ∧ x.pr < 4611686018427387904) : amt x (nx x i) x.pr (fr x i) (nx x i) = x.pr := by
  have b := hi.bd
  have hok : An.ok x.st x.an x.ev = true := hi.c
  have ht : i + 1 ≤ An.top x.st x.an x.ev := hi.hi
  have m1 := mon_bd hok (k0_le (s := x.st) (a := x.an) h1) (show i ≤ top x.st x.an x.ev by omega)
  have m2 := B_of hok (show 1 ≤ i + 1 by omega) ht
  have ho := ok_t hok
  have e0 : ofD (nx x i) - x.ev = mon x.st x.an x.ev i := by unfold nx; rw [m2, mon_succ]; omega
  have e1 : fst0 x (nx x i) = fr x i := by
    unfold fst0
    rw [e0, if_pos (okA_mk m1.1 m1.2.2 ho.2.1.1 ho.2.1.2), fr, B_pos h1]
  unfold amt Pr.onV
  rw [e1, if_pos (Pr.onOk_mk ⟨hp.1, hp.2, by omega, by omega, by omega, by omega, by omega⟩)]
  have e2 : nx x i - fr x i - (nx x i - fr x i) = 0 := by omega
  have e3 : nx x i - fr x i - (nx x i - nx x i) = nx x i - fr x i := by omega
  rw [e2, e3, Pr.zero, Int.mul_ediv_cancel _ (by omega)]
  omega
/-- What is said of each bill. -/
structure Bil (x : Su) (today : Int) (i : Int) : Prop where
  inn : In x i
  now : fr x i ≤ today
  lo : fr x i < ee x i
  hi : ee x i ≤ nx x i
  is : ee x i = nx x i ∨ ee x i = x.en
  en : x.en ≠ 0 → fr x i < x.en ∧ ee x i ≤ x.en
  a0 : 0 ≤ psub.onF x i
  a1 : psub.onF x i ≤ x.pr
  all : 0 < i → ee x i = nx x i → psub.onF x i = x.pr
theorem bil_of {x : Su} (h : ckB x = true) {today most : Int} {m : Nat} (hs : psub.Stops x today most (tp x - x.bi).toNat m) {j : Nat} (hj : j < m) : Bil x today (x.bi + j) := by
  have c := ckB_t h
  obtain ⟨s1, s2, s3⟩ := hs
  have q := stop_no (s2 j hj)
  have hb0 := c.b0
  have inn : In x (x.bi + j) := ⟨c.ok, by omega, by have := c.tp; omega⟩
  have b := inn.bd
  have hee : fr x (x.bi + j) < ee x (x.bi + j) ∧ ee x (x.bi + j) ≤ nx x (x.bi + j) ∧ (ee x (x.bi + j) = nx x (x.bi + j) ∨ ee x (x.bi + j) = x.en) ∧ (x.en ≠ 0 → fr x (x.bi + j) < x.en ∧ ee x (x.bi + j) ≤ x.en) := by
    unfold ee
    split
    · omega
    · split <;> omega
  have ab := amt_bd x (nx x (x.bi + j)) x.pr (fr x (x.bi + j)) (ee x (x.bi + j)) c.p0
  have ba := bill_amt x inn (by omega)
  refine ⟨inn, q.1, hee.1, hee.2.1, hee.2.2.1, hee.2.2.2, by rw [ba]; exact ab.1, by rw [ba]; exact ab.2, fun g e => ?_⟩
  rw [ba, e]
  exact amt_whole x inn (by omega) ⟨c.p0, c.p1⟩
/-- So many are billed as might be, and what is billed next. -/
theorem due_then {x : Su} (h : ckB x = true) {today most : Int} (hd : okD today = true) (h1 : 1 ≤ most) (h2 : most ≤ 1000) {m : Nat} (hs : psub.Stops x today most (tp x - x.bi).toNat m) :
    ckB ⟨x.id, x.cu, x.pl, x.st, x.an, x.ev, x.pr, x.bi + m, x.si, x.en⟩ = true ∧ (m : Int) ≤ most ∧
    ∃ n : Nat, (m ≠ most → n = 0) ∧ n ≤ 1000 ∧ subs_Due.f x.id x.cu x.pl x.st x.an x.ev x.pr (x.bi + m) x.si x.en today most = some ((ix (x.bi + m) n).map (psub.bl ⟨x.id, x.cu, x.pl, x.st, x.an, x.ev, x.pr, x.bi + m, x.si, x.en⟩), x.id, x.cu, x.pl, x.st, x.an, x.ev, x.pr, x.bi + m + n, x.si, x.en, 0) := by
  have c := ckB_t h
  have hs' := hs
  obtain ⟨s1, s2, s3⟩ := hs
  have htp := c.tp
  have hb1 := c.b1
  have k1 : x.bi + m ≤ 2000 := by
    by_cases hm : m = 0
    · omega
    · have := stop_no (s2 (m - 1) (by omega)); omega
  have k2 : (m : Int) ≤ most := by
    by_cases hm : (m : Int) ≤ most
    · exact hm
    · have := stop_no (s2 most.toNat (by omega)); omega
  have hy := ckB_bi h (x.bi + m) ⟨by omega, k1, by omega⟩
  refine ⟨hy, k2, ?_⟩
  obtain ⟨n, hn, e⟩ := due_some ⟨x.id, x.cu, x.pl, x.st, x.an, x.ev, x.pr, x.bi + m, x.si, x.en⟩ today most hy hd h1 h2
  refine ⟨n, fun hm => ?_, ?_, e⟩
  · by_cases hz : n = 0
    · exact hz
    exfalso
    have q := stop_no (hn.2.1 0 (by omega))
    have ht : (n : Nat) ≤ (tp x - (x.bi + m)).toNat := hn.1
    have q1 : fr x (x.bi + m) ≤ today := by have := q.1; simpa [fr] using this
    have q2 : x.en = 0 ∨ fr x (x.bi + m) < x.en := by have := q.2.1; simpa [fr] using this
    have q3 : x.bi + m < 2000 := by have := q.2.2.2; simpa using this
    rcases s3 with s3 | s3
    · omega
    · have := stop_yes s3
      omega
  · have : (n : Int) ≤ most := by
      by_cases hm : (n : Int) ≤ most
      · exact hm
      · have := stop_no (hn.2.1 most.toNat (by omega)); omega
    omega
end Go.Proofs.YtibkbimhedoafaaDoor.PH

namespace Go.Proofs.YtibkbimhedoafaaDoor.PH
open Go.RowKit Go.Proofs.YtibkbimhedoafaaDoorW.PrintWords Go.Proofs.YtibkbimhedoafaaDoorW.PrintLast Sb An Cv
theorem cancel_tells (x : Su) (on : Int) (at_ : Bool) : ∃ (y : Su) (t0 t1 t2 t3 er : Int),
    subs_Cancel.f x.id x.cu x.pl x.st x.an x.ev x.pr x.bi x.si x.en on at_ = some (y.id, y.cu, y.pl, y.st, y.an, y.ev, y.pr, y.bi, y.si, y.en, t0, t1, t2, t3, er) ∧
    ((er ≠ 0 ∧ y = ⟨0, 0, 0, 0, 0, 0, 0, 0, 0, 0⟩ ∧ t0 = 0 ∧ t1 = 0 ∧ t2 = 0 ∧ t3 = 0) ∨
     (er = 0 ∧ ckB y = true ∧ okD on = true ∧ okD y.en = true ∧ y.st ≤ y.en ∧ on ≤ y.en ∧ (at_ = true → y.en = on) ∧ (at_ = false → on < y.en ∧ t0 = 0 ∧ t1 = 0 ∧ t2 = 0) ∧ t3 = 0 ∧ 0 ≤ t2 ∧ t2 ≤ x.pr)) := by
  unfold subs_Cancel.f
  rw [ckG, sday_f]
  simp only [Option.bind_some]
  by_cases hb : ckV x ≠ 0 ∨ okD on = false
  · rw [if_pos hb]
    exact ⟨⟨0, 0, 0, 0, 0, 0, 0, 0, 0, 0⟩, 0, 0, 0, 0, 2, rfl, .inl ⟨by decide, rfl, rfl, rfl, rfl, rfl⟩⟩
  rw [if_neg hb]
  have hc : ckB x = true := by
    cases h : ckB x with
    | true => rfl
    | false => exact absurd (.inl (by simp [ckV, h])) hb
  have c := ckB_t hc
  have hd : okD on = true := by
    cases h : okD on with
    | true => rfl
    | false => exact absurd (.inr h) hb
  by_cases hs : x.en ≠ 0 ∨ on < x.st ∨ at_ = true ∧ on < x.si
  · rw [if_pos hs]
    exact ⟨⟨0, 0, 0, 0, 0, 0, 0, 0, 0, 0⟩, 0, 0, 0, 0, 9, rfl, .inl ⟨by decide, rfl, rfl, rfl, rfl, rfl⟩⟩
  rw [if_neg hs]
  have h0 : x.en = 0 := if q : x.en = 0 then q else absurd (.inl q) hs
  have h1 : x.st ≤ on := if q : on < x.st then absurd (.inr (.inl q)) hs else by omega
  have hok : An.ok x.st x.an x.ev = true := c.ok
  have hfo : fOk x.st x.an x.ev on = true := by unfold okD at hd; unfold fOk; simp at hd; simp [hok, hd]
  unfold anchor_Find.f
  simp only [Option.bind_some]
  cases hin : fIn x.st x.an x.ev on with
  | false =>
    have e : fE x.st x.an x.ev on = 7 := by simp [fE, hfo, hin]
    rw [e, if_pos (show (7 : Int) ≠ 0 by decide)]
    exact ⟨⟨0, 0, 0, 0, 0, 0, 0, 0, 0, 0⟩, 0, 0, 0, 0, 7, rfl, .inl ⟨by decide, rfl, rfl, rfl, rfl, rfl⟩⟩
  | true =>
    have e : fE x.st x.an x.ev on = 0 := by simp [fE, hfo, hin]
    have ev : ∀ z, fV x.st x.an x.ev on z = z := fun z => by simp [fV, hin]
    simp only [e, ev]
    have hin' := hin
    unfold fIn at hin'
    simp at hin'
    obtain ⟨⟨_, hst⟩, hk1⟩ := hin'
    obtain ⟨k0', k1, k2, k3⟩ := fk_spec hok hst
    generalize hk : fk x.st x.an x.ev on = K at *
    have tb := top_bd hok
    have hK : on < B x.st x.an x.ev (K + 1) := k3 (K + 1) (by omega) hk1
    have hBd := B_bd hok (i := K + 1) (by omega) hk1
    have hdd := okd_t hd
    rw [if_neg (show ¬ ((0 : Int) ≠ 0) by decide)]
    by_cases hg : K + 1 < x.bi
    · rw [if_pos hg]
      exact ⟨⟨0, 0, 0, 0, 0, 0, 0, 0, 0, 0⟩, 0, 0, 0, 0, 9, rfl, .inl ⟨by decide, rfl, rfl, rfl, rfl, rfl⟩⟩
    rw [if_neg hg]
    cases at_ with
    | false =>
      rw [if_pos rfl]
      refine ⟨⟨x.id, x.cu, x.pl, x.st, x.an, x.ev, x.pr, x.bi, x.si, B x.st x.an x.ev (K + 1)⟩, 0, 0, 0, 0, 0, rfl, .inr ⟨rfl, ckB_en hc _ ⟨by omega, by omega, by omega⟩, hd, okD_mk (by show 1 ≤ B x.st x.an x.ev (K + 1); omega) (by show B x.st x.an x.ev (K + 1) ≤ 3652059; omega), ?_, ?_, fun q => (by cases q), fun _ => ⟨hK, rfl, rfl, rfl⟩, rfl, by omega, c.p0⟩⟩
      · show x.st ≤ B x.st x.an x.ev (K + 1); omega
      · show on ≤ B x.st x.an x.ev (K + 1); omega
    | true =>
      rw [if_neg (by decide)]
      have hy : ckB ⟨x.id, x.cu, x.pl, x.st, x.an, x.ev, x.pr, x.bi, x.si, on⟩ = true := ckB_en hc _ ⟨by omega, by omega, by omega⟩
      by_cases hz : x.bi = 0
      · rw [(last_none x hz on 400000).1]
        simp only [Option.bind_some, if_true]
        exact ⟨⟨x.id, x.cu, x.pl, x.st, x.an, x.ev, x.pr, x.bi, x.si, on⟩, 0, 0, 0, 0, 0, rfl, .inr ⟨rfl, hy, hd, hd, h1, Int.le_refl _, fun _ => rfl, fun q => (by cases q), rfl, by omega, c.p0⟩⟩
      · have hb1 : 1 ≤ x.bi := by have := c.b0; omega
        rw [(last_some x c hb1 on 400000 (by omega)).1]
        simp only [Option.bind_some]
        cases hin2 : psub.inP x (x.bi - 1) on with
        | true =>
          have g := in_bd c.ok (i := x.bi - 1) (by omega) (by have := c.tp; omega) hin2
          rw [if_neg (by decide)]
          unfold wh
          rw [on_s x ⟨g.1, g.2.1⟩ ⟨g.2.2.1, by omega⟩ ⟨g.1, g.2.1⟩]
          simp only [Option.bind_some]
          have ab := amt_bd x (nx x (x.bi - 1)) x.pr on (nx x (x.bi - 1)) c.p0
          exact ⟨⟨x.id, x.cu, x.pl, x.st, x.an, x.ev, x.pr, x.bi, x.si, on⟩, _, _, _, _, _, rfl, .inr ⟨rfl, hy, hd, hd, h1, Int.le_refl _, fun _ => rfl, fun q => (by cases q), rfl, ab.1, ab.2⟩⟩
        | false =>
          rw [if_pos rfl]
          exact ⟨⟨x.id, x.cu, x.pl, x.st, x.an, x.ev, x.pr, x.bi, x.si, on⟩, 0, 0, 0, 0, 0, rfl, .inr ⟨rfl, hy, hd, hd, h1, Int.le_refl _, fun _ => rfl, fun q => (by cases q), rfl, by omega, c.p0⟩⟩
theorem cancel_twice (y : Su) (on : Int) (at_ : Bool) (h : ckB y = true) (hd : okD on = true) (he : okD y.en = true) :
    subs_Cancel.f y.id y.cu y.pl y.st y.an y.ev y.pr y.bi y.si y.en on at_ = some (0, 0, 0, 0, 0, 0, 0, 0, 0, 0, 0, 0, 0, 0, 9) := by
  unfold subs_Cancel.f
  rw [ckG, sday_f]
  simp only [Option.bind_some]
  have := okd_t he
  rw [if_neg (by simp [ckV, h, hd]), if_pos (.inl (by omega))]
end Go.Proofs.YtibkbimhedoafaaDoor.PH

namespace Sb
open An Cv
/-- A change that came in. -/
structure Tn where
  d : Int
  p : Int
  q : Int
/-- What falls on days of a period that begins, if it is whole, on a day. -/
def am (F n p f t : Int) : Int := Pr.onV p (n - F - (n - f)) (n - F - (n - t)) (n - F)
theorem amt_am (x : Su) (n p f t : Int) : amt x n p f t = am (fst0 x n) n p f t := rfl
theorem am_ok {F n p f t : Int} (hF : 1 ≤ F) (hn : n ≤ 3652059) (hFn : F < n) (h1 : F ≤ f) (h2 : f ≤ t) (h3 : t ≤ n) (hp : 0 ≤ p ∧ p < 4611686018427387904) : am F n p f t = p * (t - F) / (n - F) - p * (f - F) / (n - F) := by
  unfold am Pr.onV
  rw [if_pos (Pr.onOk_mk ⟨hp.1, hp.2, by omega, by omega, by omega, by omega, by omega⟩)]
  rw [show n - F - (n - t) = t - F by omega, show n - F - (n - f) = f - F by omega]
theorem am_add {F n p f t : Int} (hF : 1 ≤ F) (hn : n ≤ 3652059) (hFn : F < n) (h1 : F ≤ f) (h2 : f ≤ t) (h3 : t ≤ n) (hp : 0 ≤ p ∧ p < 4611686018427387904) : am F n p f n = am F n p f t + am F n p t n := by
  rw [am_ok hF hn hFn h1 (by omega) (Int.le_refl _) hp, am_ok hF hn hFn h1 h2 h3 hp, am_ok hF hn hFn (by omega) h3 (Int.le_refl _) hp]
  omega
theorem am_nil {F n p f : Int} (hF : 1 ≤ F) (hn : n ≤ 3652059) (hFn : F < n) (h1 : F ≤ f) (h3 : f ≤ n) (hp : 0 ≤ p ∧ p < 4611686018427387904) : am F n p f f = 0 := by
  rw [am_ok hF hn hFn h1 (Int.le_refl _) h3 hp]
  omega
theorem fst0_le {x : Su} {i : Int} (h : In x i) : fst0 x (nx x i) ≤ fr x i := by
  have hok : An.ok x.st x.an x.ev = true := h.c
  have ht : i + 1 ≤ An.top x.st x.an x.ev := h.hi
  have ho := ok_t hok
  have hlo := h.lo
  have m2 := B_of hok (show 1 ≤ i + 1 by omega) ht
  have e0 : ofD (nx x i) - x.ev = mon x.st x.an x.ev i := by unfold nx; rw [m2, mon_succ]; omega
  have b := h.bd
  unfold fst0
  rw [e0]
  split
  · rename_i hA
    have hA' := okA_t hA
    by_cases h1 : 1 ≤ i
    · rw [fr, B_pos h1]; exact Int.le_refl _
    · obtain rfl : i = 0 := by omega
      unfold fr
      rw [B_zero]
      have hs := ofD_spec ho.1.1 ho.1.2
      rcases k0_01 x.st x.an with k | k
      · have : mon x.st x.an x.ev 0 = ofD x.st := by rw [← k]; exact mon_k0 _ _ _
        rw [this]
        unfold k0 at k
        split at k
        · assumption
        · omega
      · have e : mon x.st x.an x.ev 0 = ofD x.st - x.ev := by
          have h1 := mon_k0 x.st x.an x.ev
          have h2 := mon_succ x.st x.an x.ev 0
          rw [k] at h1
          have : mon x.st x.an x.ev (0 + 1) = ofD x.st := h1
          omega
        rw [e] at hA' ⊢
        have g := at_lo (M := ofD x.st - x.ev) (a := x.an) hA'.1.1 hA'.1.2 ho.2.1.1
        have g2 := Cv.fst_mono (a := ofD x.st - x.ev + 1) (b := ofD x.st) (by omega) (by omega) (by omega)
        omega
  · omega
/-- What a run of changes has come to. -/
structure Ns where
  z : Su
  at_ : Int
  got : List Int
  want : List Int
/-- What holds between two changes. -/
structure Inv (x : Su) (b : Int) (i : Nat) (s : Ns) : Prop where
  inn : In x b
  ck : ckB s.z = true
  st : s.z.st = x.st
  an : s.z.an = x.an
  ev : s.z.ev = x.ev
  bi : s.z.bi = b + 1
  en : s.z.en = 0
  lo : fr x b ≤ s.at_
  hi : s.at_ < nx x b
  si : s.z.si ≤ s.at_
  gl : 0 < s.got.length ∧ s.got.length ≤ 2 * i + 1
  wl : s.want.length ≤ i
  gf : ∀ v ∈ s.got, -4611686018427387904 ≤ v ∧ v ≤ 4611686018427387904
  wf : ∀ v ∈ s.want, -4611686018427387904 ≤ v ∧ v ≤ 4611686018427387904
  sum : s.got.sum = s.want.sum + am (fst0 x (nx x b)) (nx x b) s.z.pr s.at_ (nx x b)
theorem Inv.next {x : Su} {b : Int} {i : Nat} {s : Ns} (h : Inv x b i s) : Inv x b (i + 1) s :=
  ⟨h.inn, h.ck, h.st, h.an, h.ev, h.bi, h.en, h.lo, h.hi, h.si, ⟨h.gl.1, by have := h.gl.2; omega⟩, by have := h.wl; omega, h.gf, h.wf, h.sum⟩
theorem Inv.amt {x : Su} {b : Int} {i : Nat} {s : Ns} (h : Inv x b i s) (n p f t : Int) : amt s.z n p f t = am (fst0 x n) n p f t := by
  rw [amt_am]
  unfold fst0
  rw [h.ev, h.an]
theorem Inv.nx {x : Su} {b : Int} {i : Nat} {s : Ns} (h : Inv x b i s) (k : Int) : nx s.z k = nx x k := by unfold Sb.nx; rw [h.st, h.an, h.ev]
theorem Inv.fr {x : Su} {b : Int} {i : Nat} {s : Ns} (h : Inv x b i s) (k : Int) : fr s.z k = fr x k := by unfold Sb.fr; rw [h.st, h.an, h.ev]
theorem Inv.ee {x : Su} {b : Int} {i : Nat} {s : Ns} (h : Inv x b i s) (k : Int) : ee s.z k = Sb.nx x k := by unfold Sb.ee; rw [if_pos h.en, h.nx]
/-- What a change leaves. -/
def Ns.chg (s : Ns) (F n on p q : Int) : Ns :=
  ⟨⟨s.z.id, s.z.cu, p, s.z.st, s.z.an, s.z.ev, q, s.z.bi, on, s.z.en⟩, on, s.got ++ [am F n q on n, -am F n s.z.pr on n], s.want ++ [am F n s.z.pr s.at_ on]⟩
theorem am_bd (F n p f t : Int) (hp : 0 ≤ p) : 0 ≤ am F n p f t ∧ am F n p f t ≤ p := by
  unfold am Pr.onV
  split
  · rename_i h
    have g := Pr.onOk_t h
    have b1 := Pr.due_bd g.1 g.2.2.1 (show 0 ≤ n - F - (n - t) by omega) g.2.2.2.2.2.2
    have b2 := Pr.due_bd g.1 g.2.2.1 g.2.2.2.2.1 (show n - F - (n - f) ≤ n - F by omega)
    have b3 := Pr.due_mono g.1 g.2.2.1 g.2.2.2.2.2.1
    generalize p * (n - F - (n - t)) / (n - F) = u at *
    generalize p * (n - F - (n - f)) / (n - F) = v at *
    omega
  · omega
theorem Inv.chg {x : Su} {b : Int} {i : Nat} {s : Ns} (h : Inv x b i s) {on p q : Int} (h1 : s.at_ ≤ on) (h2 : on < Sb.nx x b) (hp : p ≠ 0) (hq : 0 ≤ q ∧ q < 4611686018427387904) : Inv x b (i + 1) (s.chg (fst0 x (Sb.nx x b)) (Sb.nx x b) on p q) := by
  have c := ckB_t h.ck
  have bd := h.inn.bd
  have hlo := h.lo
  have fb := fst0_bd x (Sb.nx x b)
  have fl := fst0_le h.inn
  have hfs : x.st ≤ Sb.fr x b := by
    have hok : An.ok x.st x.an x.ev = true := h.inn.c
    have := B_mono hok (i := 0) (j := b) (Int.le_refl _) h.inn.lo (by have := h.inn.hi; unfold tp at this; omega)
    rw [B_zero] at this
    have := h.inn.lo
    unfold Sb.fr
    omega
  have a1 := am_bd (fst0 x (Sb.nx x b)) (Sb.nx x b) q on (Sb.nx x b) hq.1
  have a2 := am_bd (fst0 x (Sb.nx x b)) (Sb.nx x b) s.z.pr on (Sb.nx x b) c.p0
  have a3 := am_bd (fst0 x (Sb.nx x b)) (Sb.nx x b) s.z.pr s.at_ on c.p0
  have p1 := c.p1
  have add := am_add (F := fst0 x (Sb.nx x b)) (n := Sb.nx x b) (p := s.z.pr) (f := s.at_) (t := on) fb.1 bd.2.2 (by omega) (by omega) h1 (by omega) ⟨c.p0, c.p1⟩
  refine ⟨h.inn, ?_, h.st, h.an, h.ev, h.bi, h.en, by show Sb.fr x b ≤ on; omega, h2, Int.le_refl _, ⟨?_, ?_⟩, ?_, ?_, ?_, ?_⟩
  · have hck := h.ck
    show ckB ⟨s.z.id, s.z.cu, p, s.z.st, s.z.an, s.z.ev, q, s.z.bi, on, s.z.en⟩ = true
    unfold ckB at hck ⊢
    simp only [Bool.and_eq_true, decide_eq_true_eq] at hck ⊢
    obtain ⟨⟨⟨⟨⟨⟨⟨⟨⟨h1', h2'⟩, h3⟩, h4⟩, h5⟩, h6⟩, h7⟩, h8⟩, h9⟩, h10⟩ := hck
    exact ⟨⟨⟨⟨⟨⟨⟨⟨⟨h1', h2'⟩, hp⟩, hq.1⟩, hq.2⟩, h6⟩, h7⟩, h8⟩, Go.Proofs.YtibkbimhedoafaaDoor.PH.lat_mk (.inr ⟨by omega, by omega, by rw [h.st]; omega⟩)⟩, h10⟩
  · simp [Ns.chg]
  · have := h.gl.2
    simp [Ns.chg]
    omega
  · have := h.wl
    simp [Ns.chg]
    omega
  · intro v hv
    simp only [Ns.chg, List.mem_append, List.mem_cons, List.not_mem_nil, or_false] at hv
    rcases hv with hv | rfl | rfl
    · exact h.gf v hv
    · omega
    · omega
  · intro v hv
    simp only [Ns.chg, List.mem_append, List.mem_cons, List.not_mem_nil, or_false] at hv
    rcases hv with hv | rfl
    · exact h.wf v hv
    · omega
  · have hs := h.sum
    simp only [Ns.chg, List.sum_append, List.sum_cons, List.sum_nil]
    omega
end Sb
namespace Go.Proofs.YtibkbimhedoafaaDoor.PH
open Go.RowKit Go.Proofs.YtibkbimhedoafaaDoorW.PrintWords Go.Proofs.YtibkbimhedoafaaDoorW.PrintLast Sb An Cv
/-- A change within the period: refused, or done. -/
theorem net_no {x : Su} {b : Int} {i : Nat} {s : Ns} (h : Inv x b i s) {on p q : Int} (h1 : s.at_ ≤ on) (h2 : on < nx x b) (hq : ¬ (p ≠ 0 ∧ 0 ≤ q ∧ q < 4611686018427387904)) :
    subs_Change.f s.z.id s.z.cu s.z.pl s.z.st s.z.an s.z.ev s.z.pr s.z.bi s.z.si s.z.en on p q = some (0, 0, 0, 0, 0, 0, 0, 0, 0, 0, 0, 0, 0, 0, 2) := by
  have bd := h.inn.bd
  have hd : okD on = true := okD_mk (by have := h.lo; omega) (by omega)
  unfold subs_Change.f
  rw [ckG, sday_f]
  simp only [Option.bind_some]
  rw [if_pos]
  by_cases a : p = 0
  · exact .inr (.inr (.inl a))
  · by_cases c : q < 0
    · exact .inr (.inr (.inr (.inl c)))
    · exact .inr (.inr (.inr (.inr (if e : 4611686018427387904 ≤ q then e else absurd ⟨a, by omega, by omega⟩ hq))))
theorem net_yes {x : Su} {b : Int} {i : Nat} {s : Ns} (h : Inv x b i s) {on p q : Int} (h1 : s.at_ ≤ on) (h2 : on < nx x b) (hp : p ≠ 0) (hq : 0 ≤ q ∧ q < 4611686018427387904) :
    subs_Change.f s.z.id s.z.cu s.z.pl s.z.st s.z.an s.z.ev s.z.pr s.z.bi s.z.si s.z.en on p q =
      some (s.z.id, s.z.cu, p, s.z.st, s.z.an, s.z.ev, q, s.z.bi, on, s.z.en, on, nx x b, am (fst0 x (nx x b)) (nx x b) s.z.pr on (nx x b), am (fst0 x (nx x b)) (nx x b) q on (nx x b), 0) := by
  have bd := h.inn.bd
  have hlo := h.lo
  have hsi := h.si
  have hd : okD on = true := okD_mk (by omega) (by omega)
  have c := ckB_t h.ck
  have hb0 := h.inn.lo
  unfold subs_Change.f
  rw [ckG, sday_f]
  simp only [Option.bind_some]
  rw [if_neg (by simp [ckV, h.ck, hd, hp]; omega), (last_some s.z c (by rw [h.bi]; omega) on 400000 (by omega)).1]
  simp only [Option.bind_some]
  have e : s.z.bi - 1 = b := by rw [h.bi]; omega
  have hin : psub.inP s.z (s.z.bi - 1) on = true := by
    unfold psub.inP
    rw [e, h.fr, h.ee]
    simp
    omega
  rw [hin, if_neg (by decide), e]
  unfold wh
  rw [h.nx, h.ee, on_s s.z ⟨by omega, by omega⟩ ⟨by omega, by omega⟩ ⟨by omega, by omega⟩, on_s s.z ⟨by omega, by omega⟩ ⟨by omega, by omega⟩ ⟨by omega, by omega⟩, h.amt, h.amt]
  rfl
theorem net_on {x : Su} {b : Int} {i : Nat} {s : Ns} (h : Inv x b i s) {t : Int} (h1 : s.at_ ≤ t) (h2 : t ≤ nx x b) :
    quittanceref23_On.f 400000 s.z.id s.z.cu s.z.pl s.z.st s.z.an s.z.ev s.z.pr s.z.bi s.z.si s.z.en (nx x b) s.z.pr s.at_ t = some (am (fst0 x (nx x b)) (nx x b) s.z.pr s.at_ t) := by
  have bd := h.inn.bd
  have hlo := h.lo
  have hhi := h.hi
  have c := ckB_t h.ck
  have ho := ok_t (show An.ok s.z.st s.z.an s.z.ev = true from c.ok)
  rw [on_r 400000 (by omega) s.z ⟨ho.2.2.1, ho.2.2.2⟩ ⟨by omega, by omega⟩ ⟨by omega, by omega⟩ ⟨by omega, by omega⟩ ⟨c.p0, c.p1⟩, h.amt]
theorem net_check {s : Ns} (h : ckB s.z = true) : subs_Check.f 1 s.z.id s.z.cu s.z.pl s.z.st s.z.an s.z.ev s.z.pr s.z.bi s.z.si s.z.en = some 0 := (check23 0 s.z).trans (by simp [ckV, h])
/-- The end within the period. -/
theorem net_cancel {x : Su} {b : Int} {i : Nat} {s : Ns} (h : Inv x b i s) :
    subs_Cancel.f s.z.id s.z.cu s.z.pl s.z.st s.z.an s.z.ev s.z.pr s.z.bi s.z.si s.z.en s.at_ true =
      some (s.z.id, s.z.cu, s.z.pl, s.z.st, s.z.an, s.z.ev, s.z.pr, s.z.bi, s.z.si, s.at_, s.at_, nx x b, am (fst0 x (nx x b)) (nx x b) s.z.pr s.at_ (nx x b), 0, 0) := by
  have bd := h.inn.bd
  have hlo := h.lo
  have hhi := h.hi
  have hsi := h.si
  have hb0 := h.inn.lo
  have hd : okD s.at_ = true := okD_mk (by omega) (by omega)
  have c := ckB_t h.ck
  have hok : An.ok s.z.st s.z.an s.z.ev = true := c.ok
  have hfs : x.st ≤ fr x b := by
    have hok : An.ok x.st x.an x.ev = true := h.inn.c
    have := B_mono hok (i := 0) (j := b) (Int.le_refl _) h.inn.lo (by have := h.inn.hi; unfold tp at this; omega)
    rw [B_zero] at this
    unfold fr
    omega
  have e : s.z.bi - 1 = b := by rw [h.bi]; omega
  have hf1 : An.B s.z.st s.z.an s.z.ev b ≤ s.at_ := by have := h.fr b; unfold fr at this; rw [this]; exact hlo
  have hf2 : s.at_ < An.B s.z.st s.z.an s.z.ev (b + 1) := by have := h.nx b; unfold nx at this; rw [this]; exact hhi
  obtain ⟨f1, f2, f3⟩ := f_in hok hb0 (by have := c.tp; rw [h.bi] at this; exact this) hf1 hf2
  unfold subs_Cancel.f
  rw [ckG, sday_f]
  simp only [Option.bind_some]
  rw [if_neg (by simp [ckV, h.ck, hd]), if_neg (by rw [h.en, h.st]; simp; omega)]
  unfold anchor_Find.f
  simp only [Option.bind_some]
  have eE : fE s.z.st s.z.an s.z.ev s.at_ = 0 := by simp [fE, f1, f2]
  have ev : ∀ y, fV s.z.st s.z.an s.z.ev s.at_ y = y := fun y => by simp [fV, f2]
  simp only [eE, ev, f3]
  rw [if_neg (by decide), if_neg (by rw [h.bi]; omega), if_neg (by decide), (last_some s.z c (by rw [h.bi]; omega) s.at_ 400000 (by omega)).1]
  simp only [Option.bind_some]
  have hin : psub.inP s.z (s.z.bi - 1) s.at_ = true := by
    unfold psub.inP
    rw [e, h.fr, h.ee]
    simp
    omega
  rw [hin, if_neg (by decide), e]
  unfold wh
  rw [h.nx, on_s s.z ⟨by omega, by omega⟩ ⟨by omega, by omega⟩ ⟨by omega, by omega⟩, h.amt]
  rfl
theorem net_ended {x : Su} {b : Int} {i : Nat} {s : Ns} (h : Inv x b i s) : ckB ⟨s.z.id, s.z.cu, s.z.pl, s.z.st, s.z.an, s.z.ev, s.z.pr, s.z.bi, s.z.si, s.at_⟩ = true := by
  have bd := h.inn.bd
  have hlo := h.lo
  have hhi := h.hi
  refine ckB_en h.ck _ ⟨by omega, by omega, ?_⟩
  have hok : An.ok x.st x.an x.ev = true := h.inn.c
  have := B_mono hok (i := 0) (j := b) (Int.le_refl _) h.inn.lo (by have := h.inn.hi; unfold tp at this; omega)
  rw [B_zero] at this
  have hb0 := h.inn.lo
  rw [h.st]
  unfold fr at hlo
  omega
theorem net_again {x : Su} {b : Int} {i : Nat} {s : Ns} (h : Inv x b i s) :
    subs_Due.f s.z.id s.z.cu s.z.pl s.z.st s.z.an s.z.ev s.z.pr s.z.bi s.z.si s.at_ 3652059 1000 = some ([], s.z.id, s.z.cu, s.z.pl, s.z.st, s.z.an, s.z.ev, s.z.pr, s.z.bi, s.z.si, s.at_, 0) := by
  have bd := h.inn.bd
  have hlo := h.lo
  have hhi := h.hi
  obtain ⟨m, hs, hf⟩ := due_some ⟨s.z.id, s.z.cu, s.z.pl, s.z.st, s.z.an, s.z.ev, s.z.pr, s.z.bi, s.z.si, s.at_⟩ 3652059 1000 (net_ended h) (okD_mk (by omega) (by omega)) (by omega) (by omega)
  have hm : m = 0 := by
    by_cases hz : m = 0
    · exact hz
    exfalso
    have q := (stop_no (hs.2.1 0 (by omega))).2.1
    have e : fr ⟨s.z.id, s.z.cu, s.z.pl, s.z.st, s.z.an, s.z.ev, s.z.pr, s.z.bi, s.z.si, s.at_⟩ (s.z.bi + (0 : Nat)) = nx x b := by
      have := h.nx b
      unfold nx at this
      unfold fr nx
      simp only []
      rw [h.bi, ← this]
      simp
    rw [show (⟨s.z.id, s.z.cu, s.z.pl, s.z.st, s.z.an, s.z.ev, s.z.pr, s.z.bi, s.z.si, s.at_⟩ : Su).bi = s.z.bi from rfl, e] at q
    rcases q with q | q
    · have : s.at_ = 0 := q
      omega
    · have : nx x b < s.at_ := q
      omega
  subst hm
  rw [hf, ix_zero]
  simp
/-- A subscription as the statement takes it. -/
def nrm (x : Su) : Su := ⟨x.id, x.cu, x.pl, x.st, x.an, x.ev, x.pr, if 1000 < (if x.bi < 0 then 0 else x.bi) then 1000 else (if x.bi < 0 then 0 else x.bi), 0, 0⟩
/-- What is billed first. -/
theorem net_first (x : Su) (hx : x.si = 0 ∧ x.en = 0) : (∃ er, subs_Due.f x.id x.cu x.pl x.st x.an x.ev x.pr x.bi x.si x.en 3652059 1 = some ([], 0, 0, 0, 0, 0, 0, 0, 0, 0, 0, er) ∧ er ≠ 0) ∨
    subs_Due.f x.id x.cu x.pl x.st x.an x.ev x.pr x.bi x.si x.en 3652059 1 = some ([], x.id, x.cu, x.pl, x.st, x.an, x.ev, x.pr, x.bi, x.si, x.en, 0) ∨
    ∃ a : Int, subs_Due.f x.id x.cu x.pl x.st x.an x.ev x.pr x.bi x.si x.en 3652059 1 = some ([⟨x.bi, fr x x.bi, nx x x.bi, a⟩], x.id, x.cu, x.pl, x.st, x.an, x.ev, x.pr, x.bi + 1, x.si, x.en, 0) ∧
      Inv x x.bi 0 ⟨⟨x.id, x.cu, x.pl, x.st, x.an, x.ev, x.pr, x.bi + 1, x.si, x.en⟩, fr x x.bi, [a], []⟩ := by
  cases hc : ckB x with
  | false => exact .inl ⟨2, due_none x 3652059 1 (.inl hc), by decide⟩
  | true =>
    right
    have c := ckB_t hc
    have hd : okD 3652059 = true := okD_mk (by omega) (by omega)
    obtain ⟨m, hs, hf⟩ := due_some x 3652059 1 hc hd (by omega) (by omega)
    obtain ⟨hy, km, _⟩ := due_then hc hd (show (1 : Int) ≤ 1 by omega) (by omega) hs
    by_cases hm : m = 0
    · left
      subst hm
      rw [hf, ix_zero]
      simp
    · right
      obtain rfl : m = 1 := by omega
      have hb := bil_of hc hs (j := 0) (by omega)
      rw [show x.bi + ((0 : Nat) : Int) = x.bi by simp] at hb
      have bd := hb.inn.bd
      have he : ee x x.bi = nx x x.bi := by unfold ee; rw [if_pos hx.2]
      have ha := bill_amt x hb.inn (by rw [he]; omega)
      rw [he] at ha
      refine ⟨psub.onF x x.bi, ?_, hb.inn, hy, rfl, rfl, rfl, rfl, hx.2, Int.le_refl _, bd.2.1, ?_, ⟨by simp, by simp⟩, by simp, ?_, by simp, ?_⟩
      · rw [hf]
        simp [ix, psub.bl, he]
      · show x.si ≤ fr x x.bi
        rw [hx.1]; omega
      · intro v hv
        simp only [List.mem_cons, List.not_mem_nil, or_false] at hv
        subst hv
        have := hb.a0
        have := hb.a1
        have := c.p1
        omega
      · rw [ha, amt_am]
        simp
/-- The two sums are the same, whatever comes last. -/
theorem sum_f {l : List Int} (h0 : 0 < l.length) (h1 : l.length ≤ 1000000) (hf : ∀ v ∈ l, -4611686018427387904 ≤ v ∧ v ≤ 4611686018427387904) : arith_Sum.f l = some (Ar.fitV l.sum, Ar.fits l.sum) := by
  unfold arith_Sum.f
  rw [if_pos ⟨by intro q; subst q; simp at h0, h1, fun v hv => Ar.fits_mk (by have := hf v hv; omega) (by have := hf v hv; omega)⟩]
theorem net_sum {x : Su} {b : Int} {i : Nat} {s : Ns} (h : Inv x b i s) (hi : i ≤ 20) : ∃ (v : Int) (f : Bool), arith_Sum.f s.got = some (v, f) ∧ arith_Sum.f (s.want ++ [am (fst0 x (nx x b)) (nx x b) s.z.pr s.at_ (nx x b)]) = some (v, f) := by
  have c := ckB_t h.ck
  have a := am_bd (fst0 x (nx x b)) (nx x b) s.z.pr s.at_ (nx x b) c.p0
  have p1 := c.p1
  have hg := h.gl
  have hw := h.wl
  refine ⟨_, _, sum_f hg.1 (by omega) h.gf, ?_⟩
  rw [sum_f (by simp) (by simp; omega) (fun v hv => ?_), h.sum]
  · simp
  · simp only [List.mem_append, List.mem_cons, List.not_mem_nil, or_false] at hv
    rcases hv with hv | rfl
    · exact h.wf v hv
    · omega
theorem net_sum_end {x : Su} {b : Int} {i : Nat} {s : Ns} (h : Inv x b i s) (hi : i ≤ 20) : ∃ (v : Int) (f : Bool), arith_Sum.f (s.got ++ [-am (fst0 x (nx x b)) (nx x b) s.z.pr s.at_ (nx x b)]) = some (v, f) ∧ arith_Sum.f (s.want ++ [am (fst0 x (nx x b)) (nx x b) s.z.pr s.at_ s.at_]) = some (v, f) := by
  have c := ckB_t h.ck
  have bd := h.inn.bd
  have hlo := h.lo
  have hhi := h.hi
  have fb := fst0_bd x (nx x b)
  have fl := fst0_le h.inn
  have a := am_bd (fst0 x (nx x b)) (nx x b) s.z.pr s.at_ (nx x b) c.p0
  have z := am_nil (F := fst0 x (nx x b)) (n := nx x b) (p := s.z.pr) (f := s.at_) fb.1 bd.2.2 (by omega) (by omega) (by omega) ⟨c.p0, c.p1⟩
  have p1 := c.p1
  have hg := h.gl
  have hw := h.wl
  rw [z]
  refine ⟨_, _, sum_f (by simp) (by simp; omega) (fun v hv => ?_), ?_⟩
  · simp only [List.mem_append, List.mem_cons, List.not_mem_nil, or_false] at hv
    rcases hv with hv | rfl
    · exact h.gf v hv
    · omega
  rw [sum_f (by simp) (by simp; omega) (fun v hv => ?_)]
  · have hs := h.sum
    have e : (s.got ++ [-am (fst0 x (nx x b)) (nx x b) s.z.pr s.at_ (nx x b)]).sum = (s.want ++ [0]).sum := by
      simp only [List.sum_append, List.sum_cons, List.sum_nil]
      omega
    rw [e]
  · simp only [List.mem_append, List.mem_cons, List.not_mem_nil, or_false] at hv
    rcases hv with hv | rfl
    · exact h.wf v hv
    · omega
end Go.Proofs.YtibkbimhedoafaaDoor.PH

