/- split.ordered at split.share, walked: a copy, sorted. No conditions but that there is something to sort. -/
import Derived.Test.YtlllgfkdapjomaaSortH
import Derived.Test.YtlllgfkdapjomaaWMore
import Derived.Lib.SliceRun
namespace Go.Proofs.Ytlllgfkdapjomaa.srt
open Go.RowKit Go.Proofs.Ytlllgfkdapjomaa.base St
open Go.Sort (swp PermIn SortedIn SWO swp_get size_swp permIn_trans permIn_refl swp_permIn permIn_mono permIn_all)
open Go.Proofs.YtlllgfkdapjomaaW.PrintWords Go.Proofs.YtlllgfkdapjomaaW.PrintMore
set_option linter.unusedSimpArgs false
attribute [local go_sem] Oper.semAt_some
/-- What a share's cells say. -/
def kSh : Kd Sh := Kd.iso (Kd.pair (Kd.int .i64) (Kd.pair (Kd.int .i64) (Kd.int .i64))) (fun x : Sh => (x.q, x.r, x.p))
theorem kSh_open {w : World} {x : Sh} {cs : List Value} (h : kSh.K w x cs) : cs = [.int .i64 x.q, .int .i64 x.r, .int .i64 x.p] := by
  obtain ⟨_, _, rfl, rfl, _, _, rfl, rfl, rfl⟩ := h
  rfl
theorem kSh_mkM (w : World) (base : Nat) (ok : Nat → Prop) (x : Sh) : kSh.M w base ok x [.int .i64 x.q, .int .i64 x.r, .int .i64 x.p] := ⟨[.int .i64 x.q], [.int .i64 x.r, .int .i64 x.p], rfl, rfl, [.int .i64 x.r], [.int .i64 x.p], rfl, rfl, rfl⟩
theorem infoSh : (Try.prog.info? TSh).map (fun i => (i.zero, i.size, i.bytes)) = some (some (.agg #[.int .i64 0, .int .i64 0, .int .i64 0]), 3, 24) := by kernel_rfl
abbrev Rs (W : World) (base : Nat) (v : Value) (l : List Sh) : Prop := Kd.R kSh TSh W base (fun _ => True) v l
theorem Rs.nil (W : World) (base : Nat) (hb : base ≤ W.heap.size) : Rs (W.alloc (.cells #[] TSh)) base (.slice (some ⟨W.heap.size, 0, none⟩) 0 0) [] := by
  have h2 := World.ownsRow_lit (base := base) (e := TSh) (size := 3) W #[] 0 hb (by unfold maxLen; omega) (by simp)
  have h3 : (W.alloc (.cells #[] TSh)).ownsRow base TSh 3 (.slice (some ⟨W.heap.size, 0, none⟩) 0 0) 0 [] := by simpa using h2
  exact ⟨fun _ _ => trivial, [], h3, ⟨rfl, fun j p h => by simp at h⟩⟩
set_option maxRecDepth 100000 in
set_option maxHeartbeats 4000000 in
theorem clone_is (w : World) (A : Option Addr) (c : Nat) (xs : List Sh) (hC : Kd.C kSh w A xs.length xs) (h0 : 0 < xs.length) (hn : xs.length ≤ 5000) :
    Calls Try.prog 29 #[.slice A xs.length c] w fun e w' => ∃ v, e = .returned v ∧ Rs w' w.heap.size v xs ∧ Below w.heap.size w w' := by
  obtain ⟨ad, rfl, _⟩ := hC.2.2 h0
  have HC := Lib.hid hC
  have HN := Lib.hid hn
  clear hC hn
  obtain ⟨n, hnn⟩ : ∃ n, xs.length = n := ⟨_, rfl⟩
  have HL := Lib.hid hnn
  rw [hnn] at h0 ⊢
  clear hnn
  have q22 : ∀ (w : World) (a : Option Addr) (n c n' c' : Nat), (binOp .eql 43 (.slice a n c) (.slice none n' c')).run Try.prog w = .ok (.bool a.isNone) w := fun w a n c n' c' => Lib.run_eql_slice_nil w _ _ a n c n' c' Try.underlying43
  go_enter Try.func29, Try.ntmps29
  go_wp2_with ((with_reducible refine gate_builtin (b := .append) (xs := #[.tmp 5, .tmp 6]) rfl ?_); at_builtin; refine Kd.R_append_rows kSh (Rr := kSh.K (w.alloc (.cells #[] TSh))) (w0 := w) w.heap.size rfl (.tmp 5) (.tmp 6) 43 TSh (.agg #[.int .i64 0, .int .i64 0, .int .i64 0]) 24 rfl Try.underlying43 infoSh rfl (by decide) (by decide) (.slice (some ⟨w.heap.size, 0, none⟩) 0 0) [] xs (some ad) n c (fun _ => True) (fun _ => False) rfl rfl ?aO ?aR ?aK (fun _ hk => hk.elim) (fun _ _ => trivial) ?aB ?aS ?aL ?_; (case aO => exact Rs.nil w w.heap.size (Nat.le_refl _)); (case aR => (have q := Kd.C_below HC.out (below_alloc (Below.refl _ w) (.cells #[] TSh)); rw [HL.out] at q; exact q)); (case aK => (intro x cs hx; rw [kSh_open hx]; exact kSh_mkM _ _ _ x)); (case aB => exact below_alloc (Below.refl _ w) _); (case aS => simp); (case aL => (have := HN.out; have := HL.out; simp; omega)); intro v1 w9 hR hb hg hat; have HR := Lib.hid (And.intro hR hb); clear hR hb hg hat)
  go_ret
  exact ⟨v1, rfl, HR.out.1, HR.out.2⟩
/-- An own row is one that may be sorted. -/
theorem Rs.sr {W : World} {base : Nat} {v : Value} {l : List Sh} (h : Rs W base v l) (h0 : 0 < l.length) (hp : ∀ x ∈ l, 0 ≤ x.p ∧ x.p ≤ 5000) : ∃ g cap, v = .slice (some ⟨g, 0, none⟩) l.length cap ∧ base ≤ g ∧ SR W g l.toArray W := by
  obtain ⟨_, inner, ho, _⟩ := id h
  obtain ⟨A, c, e, hc, hC⟩ := Kd.R_reads h
  rcases ho.2 with ⟨e1, _⟩ | ⟨g, cap, cur, e1, hg, hh, _⟩
  · rw [e] at e1
    injection e1 with _ e2
    omega
  · rw [e1] at e
    injection e with e2 _ e3
    subst e2 e3
    have cl : ∀ i, i < l.length → cur[i * 3]? = some (.int .i64 l.toArray[i]!.q) ∧ cur[i * 3 + 1]? = some (.int .i64 l.toArray[i]!.r) ∧ cur[i * 3 + 2]? = some (.int .i64 l.toArray[i]!.p) := fun i hi => by
      obtain ⟨ad, cs, ea, _, hK, hu⟩ := Kd.C_get hC ⟨0, 0, 0⟩ (i : Int) (by omega) (by omega)
      injection ea with ea
      subst ea
      have hu' : ∀ j u, cs[j]? = some u → W.cell? ((⟨g, 0, none⟩ : Addr).add (i * 3 + j)) = some u := hu
      have ex : l.toArray[i]! = l.getD i ⟨0, 0, 0⟩ := by
        rw [getElem!_pos l.toArray i (by simpa using hi), List.getD_eq_getElem?_getD, List.getElem?_eq_getElem hi]
        simp
      rw [ex]
      have hK' : kSh.K W (l.getD i ⟨0, 0, 0⟩) cs := hK
      rw [kSh_open hK'] at hu'
      have q0 := hu' 0 _ rfl
      have q1 := hu' 1 _ rfl
      have q2 := hu' 2 _ rfl
      rw [add_plain, blk_cell hh] at q0 q1 q2
      exact ⟨q0, q1, q2⟩
    refine ⟨g, _, e1, hg, ⟨⟨cur, hh, ?_, fun i hi => cl i (by simpa using hi)⟩, rfl, rfl, rfl, Nat.le_refl _, fun _ _ _ => rfl, fun i hi => ?_⟩⟩
    · have := (cl (l.length - 1) (by omega)).2.2
      have hlt := (Array.getElem?_eq_some_iff.1 this).1
      simp
      omega
    · have hi' : i < l.length := by simpa using hi
      rw [getElem!_pos l.toArray i hi]
      exact hp _ (by simp)
set_option maxRecDepth 100000 in
set_option maxHeartbeats 4000000 in
theorem ordered_is (w : World) (A : Option Addr) (c : Nat) (xs : List Sh) (hC : Kd.C kSh w A xs.length xs) (h0 : 0 < xs.length) (hn : xs.length ≤ 5000) (hp : ∀ x ∈ xs, 0 ≤ x.p ∧ x.p ≤ 5000) :
    Calls Try.prog 17 #[.slice A xs.length c, fv] w fun e w' => ∃ g cap d w1, e = .returned (.slice (some ⟨g, 0, none⟩) xs.length cap) ∧ w.heap.size ≤ g ∧ SR w1 g d w' ∧ Below w.heap.size w w1 ∧ PermIn 0 xs.length xs.toArray d ∧ SortedIn St.lt 0 xs.length d := by
  have HC := Lib.hid (clone_is w A c xs hC h0 hn)
  have HP := Lib.hid hp
  have HN := Lib.hid (And.intro h0 hn)
  clear hC h0 hn hp
  go_enter Try.func17, Try.ntmps17
  go_wp2_with fail
  refine HC.out.mono ?_
  rintro e w1 ⟨v, rfl, hR, hB⟩
  obtain ⟨g, cap, rfl, hg, hS⟩ := hR.sr HN.out.1 HP.out
  have HS := Lib.hid (And.intro hg (And.intro hS hB))
  have HX := Lib.hid (sortStable_is w1 w1 g cap xs.length xs.toArray hS (by simp) HN.out.2)
  clear hR hB hg hS HC
  go_wp2_with fail
  refine HX.out.mono ?_
  rintro e w2 ⟨rfl, d, S2, P2, Q2⟩
  go_wp2
  go_ret
  exact ⟨g, cap, d, w1, rfl, HS.out.1, S2, HS.out.2.2, P2, Q2⟩
end Go.Proofs.Ytlllgfkdapjomaa.srt
