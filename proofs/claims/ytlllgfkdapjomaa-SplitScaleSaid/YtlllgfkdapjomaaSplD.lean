/- split.Split: what lies in memory; where it is refused (a walk). No conditions but that numbers are of 64 bits. -/
import Derived.Test.YtlllgfkdapjomaaSplC
import Derived.Test.YtlllgfkdapjomaaPAr
namespace Go.Proofs.Ytlllgfkdapjomaa.spl
open Go.RowKit Go.Proofs.Ytlllgfkdapjomaa.base St Go.Proofs.Ytlllgfkdapjomaa.srt
open Go.Proofs.YtlllgfkdapjomaaW.PrintWords
set_option linter.unusedSimpArgs false
attribute [local go_sem] Oper.semAt_some
abbrev Ri (W : World) (base : Nat) (v : Value) (l : List Int) : Prop := Kd.R (Kd.int .i64) 2 W base (fun _ => True) v l
theorem Ri.own {W : World} {base : Nat} {v : Value} {l : List Int} (h : Ri W base v l) : W.ownsRow base 2 1 v l.length (encs (Value.int .i64) l) := Kd.own_of_R h
theorem Ri.of {W : World} {base : Nat} {v : Value} {l : List Int} (h : W.ownsRow base 2 1 v l.length (encs (Value.int .i64) l)) : Ri W base v l := Kd.R_of_own h (fun _ _ => trivial)
theorem Ri.move {W V : World} {base : Nat} {v : Value} {l : List Int} (h : Ri W base v l) (hm : ∀ k, v.ownBlock = some k → V.heap[k]? = W.heap[k]?) : Ri V base v l := .of (own_move h.own hm)
/-- What is left, what each has, the shares. -/
structure M1 (w : World) (gl go n cap : Nat) (vl : Value) (left : Int) (out : List Int) (sh : List Sh) (W : World) : Prop where
  lb : Lb gl left W
  ro : Ri W w.heap.size (.slice (some ⟨go, 0, none⟩) n cap) out
  rl : Rs W w.heap.size vl sh
  ne : go ≠ gl
  gg : w.heap.size ≤ gl
  bel : Below w.heap.size w W
variable {w W V : World} {gl go n cap : Nat} {vl v1 : Value} {left : Int} {out : List Int} {sh l : List Sh}
theorem M1.own_go (_h : M1 w gl go n cap vl left out sh W) : (Value.slice (some ⟨go, 0, none⟩) n cap).ownBlock = some go := by simp [Value.ownBlock]
theorem M1.goL (h : M1 w gl go n cap vl left out sh W) : ∃ cells, W.heap[go]? = some (.cells cells 2 (0, 0)) := own_typed h.ro.own go h.own_go
theorem M1.below (h : M1 w gl go n cap vl left out sh W) (hB : Below W.heap.size W V) : M1 w gl go n cap vl left out sh V :=
  ⟨(hB.block gl (Array.getElem?_eq_some_iff.1 h.lb).1).trans h.lb, Kd.R_below h.ro hB, Kd.R_below h.rl hB, h.ne, h.gg, h.bel.trans (hB.mono h.bel.size)⟩
theorem M1.share (h : M1 w gl go n cap vl left out sh W) (hR : Rs V w.heap.size v1 l) (hb : Below w.heap.size w V) (hg : W.grownBy V vl.ownBlock) : M1 w gl go n cap v1 left out l V := by
  obtain ⟨cells, hgo⟩ := h.goL
  refine ⟨blk_grown h.lb hg (Kd.R_ne h.rl h.lb (by decide)), h.ro.move (fun k hk => ?_), hR, h.ne, h.gg, hb⟩
  rw [h.own_go] at hk
  injection hk with hk
  subst hk
  exact (blk_grown hgo hg (Kd.R_ne h.rl hgo (by decide))).trans hgo.symm
theorem M1.take (h : M1 w gl go n cap vl left out sh W) (x : Int) : M1 w gl go n cap vl x out sh (W.setCell ⟨gl, 0, none⟩ (.int .i64 x)) := by
  refine ⟨?_, h.ro.move (fun k hk => ?_), Kd.R_set h.rl h.lb (by decide) 0 _, h.ne, h.gg, h.bel.setCell h.gg _⟩
  · have := blk_set h.lb 0 (.int .i64 x)
    simpa [Lb] using this
  · rw [h.own_go] at hk
    injection hk with hk
    subst hk
    exact Below.heap_setCell _ _ _ _ h.ne
theorem M1.put (h : M1 w gl go n cap vl left out sh W) (i : Nat) (x : Int) : M1 w gl go n cap vl left (out.set i x) sh (W.setCell ⟨go, i, none⟩ (.int .i64 x)) := by
  obtain ⟨cells, hgo⟩ := h.goL
  have hbase : w.heap.size ≤ go := own_base h.ro.own go h.own_go
  have hp := (Kd.R_putg h.ro (i : Int) x).1
  exact ⟨(Below.heap_setCell _ _ _ _ (Ne.symm h.ne)).trans h.lb, hp, Kd.R_set h.rl hgo (by decide) i _, h.ne, h.gg, h.bel.setCell hbase _⟩
set_option maxRecDepth 100000 in
set_option maxHeartbeats 1000000 in
theorem split_no (w : World) (T : Int) (A : Option Addr) (c : Nat) (xs : List Int) (hC : Kd.C (Kd.int .i64) w A xs.length xs) (hc : xs.length ≤ c) (hf : ∀ x ∈ xs, Ar.fits x = true) (h : Sp.sumB xs = false ∨ T < 0 ∨ 4611686018427387904 ≤ T) :
    Calls Try.prog 8 #[.int .i64 T, .slice A xs.length c] w fun e w' => e = .returned (.tuple #[.slice none 0 0, .int .i64 2]) ∧ Below w.heap.size w w' := by
  have HS := Lib.hid (sum_is w A c xs hC hc hf)
  clear hC hc hf
  generalize xs.length = n at HS ⊢
  generalize Sp.sumV xs = v at HS ⊢
  generalize Sp.sumB xs = b at HS h ⊢
  by_cases hb : b = false
  · subst hb
    clear h
    go_enter Try.func8, Try.ntmps8
    go_wp2_with fail
    refine HS.out.mono ?_
    rintro e w1 ⟨rfl, B1⟩
    have HB := Lib.hid B1
    clear B1
    go_wp2
    go_ret2
    exact ⟨rfl, HB.out⟩
  · obtain rfl : b = true := by simpa using hb
    by_cases h1 : T < 0
    · have g1 : decide (T < 0) = true := decide_eq_true h1
      clear h
      go_enter Try.func8, Try.ntmps8
      go_wp2_with fail
      refine HS.out.mono ?_
      rintro e w1 ⟨rfl, B1⟩
      have HB := Lib.hid B1
      clear B1
      go_wp2
      go_ret2
      exact ⟨rfl, HB.out⟩
    · have h2 : 4611686018427387904 ≤ T := by
        rcases h with h | h | h
        · cases h
        · exact absurd h h1
        · exact h
      have g1 : decide (T < 0) = false := decide_eq_false h1
      have g2 : decide (T ≥ 4611686018427387904) = true := decide_eq_true h2
      have g3 : decide (4611686018427387904 ≤ T) = true := decide_eq_true h2
      clear h
      go_enter Try.func8, Try.ntmps8
      go_wp2_with fail
      refine HS.out.mono ?_
      rintro e w1 ⟨rfl, B1⟩
      have HB := Lib.hid B1
      clear B1
      go_wp2
      go_ret2
      exact ⟨rfl, HB.out⟩
end Go.Proofs.Ytlllgfkdapjomaa.spl
