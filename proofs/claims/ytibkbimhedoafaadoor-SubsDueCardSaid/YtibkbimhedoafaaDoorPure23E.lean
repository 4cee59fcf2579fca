/- Chapter 23, as numbers: what is billed, and ends. No conditions but that numbers are of 64 bits. -/
import Derived.Test.YtibkbimhedoafaaDoorMPure
import Derived.Test.YtibkbimhedoafaaDoorPSubE
namespace Sb
open An Cv
theorem amt_bd (x : Su) (n p f t : Int) (hp : 0 ≤ p) : 0 ≤ amt x n p f t ∧ amt x n p f t ≤ p := by
  unfold amt Pr.onV
  split
  · rename_i h
    have g := Pr.onOk_t h
    have b1 := Pr.due_bd g.1 g.2.2.1 (show 0 ≤ n - fst0 x n - (n - t) by omega) g.2.2.2.2.2.2
    have b2 := Pr.due_bd g.1 g.2.2.1 g.2.2.2.2.1 (show n - fst0 x n - (n - f) ≤ n - fst0 x n by omega)
    have b3 := Pr.due_mono g.1 g.2.2.1 g.2.2.2.2.2.1
    generalize p * (n - fst0 x n - (n - t)) / (n - fst0 x n) = u at *
    generalize p * (n - fst0 x n - (n - f)) / (n - fst0 x n) = v at *
    omega
  · omega
theorem ckB_en {x : Su} (h : ckB x = true) (v : Int) (hv : 1 ≤ v ∧ v ≤ 3652059 ∧ x.st ≤ v) : ckB ⟨x.id, x.cu, x.pl, x.st, x.an, x.ev, x.pr, x.bi, x.si, v⟩ = true := by
  unfold ckB at h ⊢
  simp only [Bool.and_eq_true] at h ⊢
  exact ⟨h.1, Go.Proofs.YtibkbimhedoafaaDoor.PH.lat_mk (.inr hv)⟩
theorem ckB_bi {x : Su} (h : ckB x = true) (v : Int) (hv : x.bi ≤ v ∧ v ≤ 2000 ∧ v ≤ tp x) : ckB ⟨x.id, x.cu, x.pl, x.st, x.an, x.ev, x.pr, v, x.si, x.en⟩ = true := by
  have c := ckB_t h
  unfold ckB at h ⊢
  simp only [Bool.and_eq_true, decide_eq_true_eq] at h ⊢
  obtain ⟨⟨⟨⟨⟨⟨⟨⟨⟨h1, h2⟩, h3⟩, h4⟩, h5⟩, h6⟩, h7⟩, h8⟩, h9⟩, h10⟩ := h
  exact ⟨⟨⟨⟨⟨⟨⟨⟨⟨h1, h2⟩, h3⟩, h4⟩, h5⟩, by omega⟩, hv.2.1⟩, bE_iff.2 ⟨c.ok, by omega, hv.2.2⟩⟩, h9⟩, h10⟩
end Sb
namespace Go.Proofs.YtibkbimhedoafaaDoor.PH
open Go.RowKit Go.Proofs.YtibkbimhedoafaaDoorW.PrintWords Go.Proofs.YtibkbimhedoafaaDoorW.PrintLast Sb An Cv
theorem ckG (x : Su) : psub.ckF 1 x = some (ckV x) := check23 0 x
theorem okd_t {d : Int} (h : okD d = true) : 1 ≤ d ∧ d ≤ 3652059 := by unfold okD at h; simp at h; omega
theorem due_none (x : Su) (today most : Int) (h : ckB x = false ∨ okD today = false ∨ most < 1 ∨ 1000 < most) :
    subs_Due.f x.id x.cu x.pl x.st x.an x.ev x.pr x.bi x.si x.en today most = some ([], 0, 0, 0, 0, 0, 0, 0, 0, 0, 0, 2) := by
  unfold subs_Due.f
  rw [sday_f]
  show ((psub.ckF 1 x).bind _) = _
  rw [ckG]
  simp only [Option.bind_some]
  rw [if_pos]
  rcases h with h | h | h | h
  · exact .inl (by simp [ckV, h])
  · exact .inr (.inl h)
  · exact .inr (.inr (.inl h))
  · exact .inr (.inr (.inr h))
/-- So many periods are billed. -/
theorem due_some (x : Su) (today most : Int) (h : ckB x = true) (hd : okD today = true) (h1 : 1 ≤ most) (h2 : most ≤ 1000) : ∃ m : Nat, psub.Stops x today most (tp x - x.bi).toNat m ∧
    subs_Due.f x.id x.cu x.pl x.st x.an x.ev x.pr x.bi x.si x.en today most = some ((ix x.bi m).map (psub.bl x), x.id, x.cu, x.pl, x.st, x.an, x.ev, x.pr, x.bi + m, x.si, x.en, 0) := by
  have c := ckB_t h
  refine ⟨psub.cnt x today most, ?_, ?_⟩
  · exact psub.cntF_stops x today most _ _ 0 (by omega) (fun i hi => by omega)
  · unfold subs_Due.f
    rw [sday_f]
    show ((psub.ckF 1 x).bind _) = _
    rw [ckG]
    simp only [Option.bind_some]
    rw [if_neg (by simp [ckV, h, hd]; omega), if_pos ⟨c.ok, c.b0, c.tp⟩]
theorem stop_no {x : Su} {today most i : Int} {m : Nat} (h : psub.stopB x today most i m = false) : fr x i ≤ today ∧ (x.en = 0 ∨ fr x i < x.en) ∧ (m : Int) ≠ most ∧ i < 2000 := by
  unfold psub.stopB at h
  simp at h
  omega
theorem stop_yes {x : Su} {today most i : Int} {m : Nat} (h : psub.stopB x today most i m = true) : today < fr x i ∨ (x.en ≠ 0 ∧ x.en ≤ fr x i) ∨ (m : Int) = most ∨ 2000 ≤ i := by
  unfold psub.stopB at h
  simp at h
  omega
theorem bill_amt (x : Su) {i : Int} (hi : In x i) (he : 1 ≤ ee x i) : psub.onF x i = amt x (nx x i) x.pr (fr x i) (ee x i) := by
  have b := hi.bd
  have h := psub.onF_some x i
  have e : ee x i ≤ nx x i := by
    unfold ee
    split
    · omega
    · split <;> omega
  unfold wh at h
  rw [on_s x ⟨by omega, by omega⟩ ⟨b.1, by omega⟩ ⟨he, by omega⟩] at h
  exact (Option.some.inj h).symm
theorem amt_whole (x : Su) {i : Int} (hi : In x i) (h1 : 1 ≤ i) (hp : 0 ≤ x.pr ∧ x.pr < 4611686018427387904) : amt x (nx x i) x.pr (fr x i) (nx x i) = x.pr := by
  have b := hi.bd
  have hok : An.ok x.st x.an x.ev = true := hi.c
  have ht : i + 1 ≤ An.top x.st x.an x.ev := hi.hi
  have m1 := mon_bd hok (k0_le (s := x.st) (a := x.an) h1) (show i ≤ top x.st x.an x.ev by omega)
  have m2 := B_of hok (show 1 ≤ i + 1 by omega) ht
  have ho := ok_t hok
  have e0 : ofD (nx x i) - x.ev = mon x.st x.an x.ev i := by unfold nx; rw [m2, mon_succ]; omega
  have e1 : fst0 x (nx x i) = fr x i := by
    unfold fst0
    rw [e0, if_pos (okA_mk m1.1 m1.2.2 ho.2.1.1 ho.2.1.2), fr, B_pos h1]
  unfold amt Pr.onV
  rw [e1, if_pos (Pr.onOk_mk ⟨hp.1, hp.2, by omega, by omega, by omega, by omega, by omega⟩)]
  have e2 : nx x i - fr x i - (nx x i - fr x i) = 0 := by omega
  have e3 : nx x i - fr x i - (nx x i - nx x i) = nx x i - fr x i := by omega
  rw [e2, e3, Pr.zero, Int.mul_ediv_cancel _ (by omega)]
  omega
/-- What is said of each bill. -/
structure Bil (x : Su) (today : Int) (i : Int) : Prop where
  inn : In x i
  now : fr x i ≤ today
  lo : fr x i < ee x i
  hi : ee x i ≤ nx x i
  is : ee x i = nx x i ∨ ee x i = x.en
  en : x.en ≠ 0 → fr x i < x.en ∧ ee x i ≤ x.en
  a0 : 0 ≤ psub.onF x i
  a1 : psub.onF x i ≤ x.pr
  all : 0 < i → ee x i = nx x i → psub.onF x i = x.pr
theorem bil_of {x : Su} (h : ckB x = true) {today most : Int} {m : Nat} (hs : psub.Stops x today most (tp x - x.bi).toNat m) {j : Nat} (hj : j < m) : Bil x today (x.bi + j) := by
  have c := ckB_t h
  obtain ⟨s1, s2, s3⟩ := hs
  have q := stop_no (s2 j hj)
  have hb0 := c.b0
  have inn : In x (x.bi + j) := ⟨c.ok, by omega, by have := c.tp; omega⟩
  have b := inn.bd
  have hee : fr x (x.bi + j) < ee x (x.bi + j) ∧ ee x (x.bi + j) ≤ nx x (x.bi + j) ∧ (ee x (x.bi + j) = nx x (x.bi + j) ∨ ee x (x.bi + j) = x.en) ∧ (x.en ≠ 0 → fr x (x.bi + j) < x.en ∧ ee x (x.bi + j) ≤ x.en) := by
    unfold ee
    split
    · omega
    · split <;> omega
  have ab := amt_bd x (nx x (x.bi + j)) x.pr (fr x (x.bi + j)) (ee x (x.bi + j)) c.p0
  have ba := bill_amt x inn (by omega)
  refine ⟨inn, q.1, hee.1, hee.2.1, hee.2.2.1, hee.2.2.2, by rw [ba]; exact ab.1, by rw [ba]; exact ab.2, fun g e => ?_⟩
  rw [ba, e]
  exact amt_whole x inn (by omega) ⟨c.p0, c.p1⟩
/-- So many are billed as might be, and what is billed next. -/
theorem due_then {x : Su} (h : ckB x = true) {today most : Int} (hd : okD today = true) (h1 : 1 ≤ most) (h2 : most ≤ 1000) {m : Nat} (hs : psub.Stops x today most (tp x - x.bi).toNat m) :
    ckB ⟨x.id, x.cu, x.pl, x.st, x.an, x.ev, x.pr, x.bi + m, x.si, x.en⟩ = true ∧ (m : Int) ≤ most ∧
    ∃ n : Nat, (m ≠ most → n = 0) ∧ n ≤ 1000 ∧ subs_Due.f x.id x.cu x.pl x.st x.an x.ev x.pr (x.bi + m) x.si x.en today most = some ((ix (x.bi + m) n).map (psub.bl ⟨x.id, x.cu, x.pl, x.st, x.an, x.ev, x.pr, x.bi + m, x.si, x.en⟩), x.id, x.cu, x.pl, x.st, x.an, x.ev, x.pr, x.bi + m + n, x.si, x.en, 0) := by
  have c := ckB_t h
  have hs' := hs
  obtain ⟨s1, s2, s3⟩ := hs
  have htp := c.tp
  have hb1 := c.b1
  have k1 : x.bi + m ≤ 2000 := by
    by_cases hm : m = 0
    · omega
    · have := stop_no (s2 (m - 1) (by omega)); omega
  have k2 : (m : Int) ≤ most := by
    by_cases hm : (m : Int) ≤ most
    · exact hm
    · have := stop_no (s2 most.toNat (by omega)); omega
  have hy := ckB_bi h (x.bi + m) ⟨by omega, k1, by omega⟩
  refine ⟨hy, k2, ?_⟩
  obtain ⟨n, hn, e⟩ := due_some ⟨x.id, x.cu, x.pl, x.st, x.an, x.ev, x.pr, x.bi + m, x.si, x.en⟩ today most hy hd h1 h2
  refine ⟨n, fun hm => ?_, ?_, e⟩
  · by_cases hz : n = 0
    · exact hz
    exfalso
    have q := stop_no (hn.2.1 0 (by omega))
    have ht : (n : Nat) ≤ (tp x - (x.bi + m)).toNat := hn.1
    have q1 : fr x (x.bi + m) ≤ today := by have := q.1; simpa [fr] using this
    have q2 : x.en = 0 ∨ fr x (x.bi + m) < x.en := by have := q.2.1; simpa [fr] using this
    have q3 : x.bi + m < 2000 := by have := q.2.2.2; simpa using this
    rcases s3 with s3 | s3
    · omega
    · have := stop_yes s3
      omega
  · have : (n : Int) ≤ most := by
      by_cases hm : (n : Int) ≤ most
      · exact hm
      · have := stop_no (hn.2.1 most.toNat (by omega)); omega
    omega
end Go.Proofs.YtibkbimhedoafaaDoor.PH
