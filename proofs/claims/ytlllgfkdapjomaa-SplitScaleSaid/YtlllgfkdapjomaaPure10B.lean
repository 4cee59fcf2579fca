/- Chapter 10, as numbers: the examples of split. No conditions but that numbers are of 64 bits. -/
import Derived.Test.YtlllgfkdapjomaaPHx7
import Derived.Test.YtlllgfkdapjomaaPure10A
import Derived.OpenShut
namespace Go.Proofs.Ytlllgfkdapjomaa.PH
open Go.RowKit Go.Proofs.YtlllgfkdapjomaaW.PrintWords Sp
noncomputable def ans (T : Int) (l : List Int) : List Int × Int := if okB T l = true then (outOf T l, 0) else ([], 2)
theorem split_f {T : Int} {l : List Int} (hf : ∀ x ∈ l, Ar.fits x = true) : split_Split.f T l = some (ans T l) := if_pos hf
theorem ref_f {T : Int} {l : List Int} {k : Nat} (hf : ∀ x ∈ l, Ar.fits x = true) (hl : l.length ≤ 300 ∨ 4096 < l.length) (hk : 100000 ≤ k) : quittanceref10_Split.f k T l = some (ans T l) := ref_split T l k hf hl hk
theorem ans_ok {T : Int} {l : List Int} (h : Ok T l) : ans T l = (outOf T l, 0) := if_pos (okB_iff.2 h)
theorem ans_no {T : Int} {l : List Int} (h : ¬ Ok T l) : ans T l = ([], 2) := if_neg (fun q => h (okB_iff.1 q))
theorem ans_len (T : Int) (l : List Int) : (ans T l).1.length ≤ 4096 := by
  by_cases h : Ok T l
  · rw [ans_ok h]
    have := h.n1
    show (outOf T l).length ≤ 4096
    rw [(outOf_ok h).len]
    exact this
  · rw [ans_no h]
    simp
theorem IsSplit.of {T : Int} {xs out : List Int} (h1 : out.length = xs.length) (h2 : out.sum = T) (h3 : ∀ k, k < xs.length → out.getD k 0 = q T xs k ∨ out.getD k 0 = q T xs k + 1)
    (h4 : ∀ i, i < xs.length → ∀ k, k < xs.length → out.getD i 0 = q T xs i + 1 → out.getD k 0 = q T xs k → (r T xs k < r T xs i ∨ (r T xs k = r T xs i ∧ i < k))) : IsSplit T xs out := ⟨h1, h2, h3, fun i k hi hk => h4 i hi k hk⟩
theorem split_lit {T : Int} {l o : List Int} (hf : ∀ x ∈ l, Ar.fits x = true) (h : Ok T l) (hs : IsSplit T l o) : split_Split.f T l = some (o, 0) := by rw [split_f hf, ans_ok h, outOf_is hs]
theorem head_is (k : Nat) (hk : 5001 ≤ k) : quittancelaw10_head.f k = some true := by
  have a1 : split_Split.f 100 [1, 1, 1] = some ([34, 33, 33], 0) := split_lit (by decide) (okB_iff.1 (by decide)) (IsSplit.of rfl rfl (by decide) (by decide))
  have a2 : split_Split.f 5 [3, 3, 1] = some ([2, 2, 1], 0) := split_lit (by decide) (okB_iff.1 (by decide)) (IsSplit.of rfl rfl (by decide) (by decide))
  have a3 : split_Even.f 7 3 = some ([3, 2, 2], 0) := by
    unfold split_Even.f
    rw [if_neg (by omega)]
    exact split_lit (by decide) (okB_iff.1 (by decide)) (IsSplit.of rfl rfl (by decide) (by decide))
  have a4 : split_Split.f 1 [0, 0] = some ([], 2) := by rw [split_f (by decide), ans_no (fun q => absurd (okB_iff.2 q) (by decide))]
  have a5 : split_Split.f 1 [] = some ([], 2) := by rw [split_f (by decide), ans_no (fun q => absurd (okB_iff.2 q) (by decide))]
  unfold quittancelaw10_head.f
  simp only [a1, a2, a3, a4, a5, Option.bind_some, same_self _ (show [34, 33, 33].length ≤ 5000 by decide) k hk, same_self _ (show [2, 2, 1].length ≤ 5000 by decide) k hk, same_self _ (show [3, 2, 2].length ≤ 5000 by decide) k hk, if_pos]
  rfl
end Go.Proofs.Ytlllgfkdapjomaa.PH
namespace Go.Proofs.Ytlllgfkdapjomaa.law10
open Go.RowKit Go.ChangeShapes Go.Proofs.Ytlllgfkdapjomaa.PH Go.Proofs.YtlllgfkdapjomaaW.PrintWords
theorem fits_of {l : List Int} (h : ∀ n ∈ l, (Lit.int .i64 n).wf = true) : ∀ x ∈ l, Ar.fits x = true := fun x hx => by
  have := bounds_i64 (h x hx)
  simp [Ar.fits]
  omega
abbrev Row (w : World) (a : Option Addr) (len cap : Nat) (zs : List Int) : Prop := (a = none ∧ len = 0 ∧ cap = 0 ∧ zs = []) ∨ ∃ x, a = some x ∧ len ≤ cap ∧ cap ≤ maxLen ∧ zs.length = cap ∧ (∀ i, i < zs.length → w.cell? (x.add i) = some (.int .i64 (zs.getD i 0))) ∧ ∀ n ∈ zs, (Lit.int .i64 n).wf = true
end Go.Proofs.Ytlllgfkdapjomaa.law10
