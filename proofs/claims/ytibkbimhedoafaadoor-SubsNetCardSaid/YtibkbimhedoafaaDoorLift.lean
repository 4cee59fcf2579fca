/- A region of plain operations inside a fence, a round of it among them: walked as everywhere. -/
import Derived.BigRegion
import Derived.BigRegionIn
import Derived.OwnWalkIn
import Derived.RangeFuncCalls
import Derived.Test.YtibkbimhedoafaaDoorWLast
namespace Go.Proofs.YtibkbimhedoafaaDoor.lift
open Go Go.Proofs.YtibkbimhedoafaaDoorW.PrintLast

/-- A walk that comes to its end in no other way than the normal one. -/
def only (K : Act → World → Prop) : Exit → Act → World → Prop
  | .normal, a, w => K a w
  | _, _, _ => False

/-- The operations that neither call, nor wait, nor put a call off. -/
def plainOp (o : Oper) : Bool := match o.op with
  | .move _ | .assign _ | .pick .. | .alloc _ | .box .. | .build .. | .buildSlice .. | .load .. | .store .. | .binOp .. | .unOp .. | .convert .. | .fieldAddr .. | .field .. | .indexAddr .. | .index ..
  | .extract .. | .makeInterface .. | .makeFunc .. | .slice .. | .makeSlice .. => true
  | _ => false

theorem value_bind {α : Type} {P : Program} (s : Sem α) (g : α → Value) (w : World) (x : Next) (w' : World) (h : Sem.run P (do pure (Next.value (g (← s)))) w = .ok x w') : ∃ v, x = .value v := by
  rw [Sem.run_bind] at h
  cases hs : Sem.run P s w with
  | ok v w1 => rw [hs] at h; simp only [Result.andThen_ok, Sem.run_pure] at h; cases h; exact ⟨_, rfl⟩
  | halt e w1 => rw [hs] at h; cases h
theorem skip_bind {P : Program} (s : Sem Unit) (w : World) (x : Next) (w' : World) (h : Sem.run P (do s; pure Next.skip) w = .ok x w') : x = .skip := by
  rw [Sem.run_bind] at h
  cases hs : Sem.run P s w with
  | ok v w1 => rw [hs] at h; simp only [Result.andThen_ok, Sem.run_pure] at h; cases h; rfl
  | halt e w1 => rw [hs] at h; cases h

theorem plain_run {P : Program} {o : Oper} (hp : plainOp o = true) (ρ : Operand → Value) (w : World) (x : Next) (w' : World) (h : (execOp ρ o).run P w = .ok x w') : (∃ v, x = .value v) ∨ x = .skip := by
  unfold plainOp at hp
  unfold execOp at h
  cases ho : o.op <;> simp only [ho, Bool.false_eq_true] at hp h
  all_goals first
    | exact .inl (value_bind _ (fun v => v) _ _ _ h)
    | (rename_i c x y; exact .inl (value_bind _ (fun b => if b = true then ρ x else ρ y) _ _ _ h))
    | exact .inr (skip_bind _ _ _ _ h)
    | (simp only [Sem.run_pure] at h; cases h; exact .inl ⟨_, rfl⟩)
    | (injection h with h1 h2; exact .inl ⟨_, h1.symm⟩)

theorem plain_about {P : Program} {o : Oper} (hp : plainOp o = true) (w : World) (ρ : Operand → Value) : o.about P w ρ = none := by
  unfold plainOp at hp
  unfold Oper.about
  cases ho : o.op <;> simp only [ho, Bool.false_eq_true] at hp ⊢

theorem plain_defer {o : Oper} (hp : plainOp o = true) : ∀ c, o.op ≠ .defer c := by
  intro c ho
  simp [plainOp, ho] at hp

section
variable {F : Fence} {n : Nat} {P : Program} {ops : Array Oper} {K : Act → World → Prop} {Q : Exit → Act → World → Prop} {md : Region.Mode}

theorem no_out (K : Act → World → Prop) : ¬ LetsOut (only K) := fun ⟨_, _, h⟩ => h

theorem op_lift {o : Oper} (hp : plainOp o = true) (a : Act) (w : World) (N : Act → World → Prop) (N' : Act → World → Prop) (hN : ∀ a w, N a w → N' a w) (h : o.wp P a w N (only K)) : o.wpIn F n P a w N' Q := by
  unfold Oper.wpIn
  rw [Oper.semAt_plain F _ _ (plain_defer hp)]
  refine ⟨fun f hf => (by rw [plain_about hp] at hf; cases hf), ?_⟩
  unfold Oper.wp at h
  cases hr : (execOp a.eval o).run P w with
  | halt e w1 => rw [hr] at h; cases e <;> exact h.elim
  | ok x w1 =>
    rw [hr] at h
    rcases plain_run hp _ _ _ _ hr with ⟨v, rfl⟩ | rfl
    · exact hN _ _ h
    · exact hN _ _ h

theorem any_lift (hp : ops.all plainOp = true) (hQ : ∀ a w, K a w → Q .normal a w) : ∀ (fuel : Nat) (listed : Array Bool) (a : Act) (w : World), wpAny P md ops (only K) fuel listed a w → wpAnyIn F n P md ops Q fuel listed a w := by
  have hp' : ∀ i o, ops[i]? = some o → plainOp o = true := fun i o ho => by
    rw [Array.all_eq_true] at hp
    obtain ⟨hi, rfl⟩ := Array.getElem?_eq_some_iff.1 ho
    exact hp i hi
  intro fuel
  induction fuel with
  | zero => intro listed a w h; exact ⟨h.1, hQ _ _ h.2⟩
  | succ fuel ih =>
    intro listed a w h
    refine ⟨fun e => hQ _ _ (h.1 e), fun i hi => ?_⟩
    have h2 := h.2 i hi
    unfold wpOp at h2
    unfold wpOpIn
    cases ho : ops[i]? with
    | none => simp only [ho] at h2 ⊢; exact ih _ _ _ h2
    | some o =>
      simp only [ho] at h2 ⊢
      split
      · rename_i hw
        rw [if_pos hw] at h2
        exact op_lift (hp' i o ho) a w _ _ (fun a w => ih _ a w) (h2.resolve_right fun e => no_out K e.2)
      · rename_i hw
        rw [if_neg hw] at h2
        exact ⟨fun f hf => (by rw [plain_about (hp' i o ho)] at hf; cases hf), ih _ _ _ h2⟩

/-- The region that draws its order, walked by 'wpAny'. -/
theorem region_lift {id : Nat} {a : Act} {w : World} (hm : P.follows .mixedOrders = true) (hp : ops.all plainOp = true) (hQ : ∀ a w, K a w → Q .normal a w)
    (h : wpAny P .any ops (only K) ops.size (Array.replicate ops.size false) a { w with drawn := w.drawn + 1 }) : (Code.region id ops true).wpIn F n P Q a w :=
  wpIn_region_any hm (any_lift hp hQ _ _ _ _ h)

theorem start_in {S : World → Prop} {ds : List Nat} {id m : Nat} {a : Act} {w : World} (l : Array Bool) (hm : P.follows .mixedOrders = true) (hp : ops.all plainOp = true) (hQ : ∀ a w, K a w → Q .normal a w) (hn : ops.size = m) (hl : Array.replicate m false = l) (hS : S w.drew)
    (h : S w.drew → wpAnyLast P .any ops (only K) S ds m l a w.drew) : (Code.region id ops true).wpIn F n P Q a w := by
  subst hn
  subst hl
  exact region_lift hm hp hQ (wpAny_of_last _ _ _ _ (h hS))
/-- The same where the fence lets every function in: calls may stand in the region. -/
theorem op_wide {o : Oper} {l n : Nat} (hp : ∀ c, o.op ≠ .defer c) (a : Act) (w : World) (N : Act → World → Prop) (N' : Act → World → Prop) (hN : ∀ a w, N a w → N' a w) (h : o.wp P a w N (only K)) : o.wpIn (Fence.wide.inRound l) n P a w N' Q := by
  unfold Oper.wpIn
  rw [Oper.semAt_plain (Fence.wide.inRound l) _ _ hp]
  refine ⟨fun f _ => trivial, ?_⟩
  unfold Oper.wp at h
  cases hr : (execOp a.eval o).run P w with
  | halt e w1 => rw [hr] at h; cases e <;> exact h.elim
  | ok x w1 =>
    rw [hr] at h
    cases x <;> simp only [Oper.upon] at h <;> simp only [Oper.uponIn] <;> first
      | exact hN _ _ h
      | exact h.elim
      | skip
    case enter f args =>
      refine ⟨fun e => (by cases e), (CallsIn.inRound l (callsIn_wide.2 h)).mono fun e w2 he => ?_⟩
      cases e with
      | returned v => exact hN _ _ he
      | panicked c => exact he.elim
      | outgrown => exact (no_out K he).elim
    case row row args => exact ⟨fun e => (by cases e), fun c cs _ => let ⟨v, w2, r, s⟩ := h c cs; ⟨v, w2, hN _ _ r, stepsIn_wide.2 s⟩⟩
def noDefer (o : Oper) : Bool := match o.op with
  | .defer _ => false
  | _ => true
theorem any_wide {l n : Nat} (hp : ops.all noDefer = true) (hQ : ∀ a w, K a w → Q .normal a w) : ∀ (fuel : Nat) (listed : Array Bool) (a : Act) (w : World), wpAny P md ops (only K) fuel listed a w → wpAnyIn (Fence.wide.inRound l) n P md ops Q fuel listed a w := by
  have hp' : ∀ (i : Nat) (o : Oper), ops[i]? = some o → ∀ c, o.op ≠ .defer c := by
    intro i o ho c hc
    rw [Array.all_eq_true] at hp
    obtain ⟨hi, rfl⟩ := Array.getElem?_eq_some_iff.1 ho
    have := hp i hi
    unfold noDefer at this
    rw [hc] at this
    cases this
  intro fuel
  induction fuel with
  | zero => intro listed a w h; exact ⟨h.1, hQ _ _ h.2⟩
  | succ fuel ih =>
    intro listed a w h
    refine ⟨fun e => hQ _ _ (h.1 e), fun i hi => ?_⟩
    have h2 := h.2 i hi
    unfold wpOp at h2
    unfold wpOpIn
    cases ho : ops[i]? with
    | none => simp only [ho] at h2 ⊢; exact ih _ _ _ h2
    | some o =>
      simp only [ho] at h2 ⊢
      split
      · rename_i hw
        rw [if_pos hw] at h2
        exact op_wide (hp' i o ho) a w _ _ (fun a w => ih _ a w) (h2.resolve_right fun e => no_out K e.2)
      · rename_i hw
        rw [if_neg hw] at h2
        exact ⟨fun f hf => trivial, ih _ _ _ h2⟩
theorem start_wide {S : World → Prop} {ds : List Nat} {id m l n : Nat} {a : Act} {w : World} (li : Array Bool) (hm : P.follows .mixedOrders = true) (hp : ops.all noDefer = true) (hQ : ∀ a w, K a w → Q .normal a w) (hn : ops.size = m) (hl : Array.replicate m false = li) (hS : S w.drew)
    (h : S w.drew → wpAnyLast P .any ops (only K) S ds m li a w.drew) : (Code.region id ops true).wpIn (Fence.wide.inRound l) n P Q a w := by
  subst hn
  subst hl
  exact wpIn_region_any hm (any_wide hp hQ _ _ _ _ (wpAny_of_last _ _ _ _ (h hS)))
/-- A call of a function value that holds its first arguments. -/
theorem goesV_ {oi : Oper} {N : Option Tmp} {a : Act} {w : World} {K' : Act → World → Prop} {f : FuncId} {fn : Func} {t : Tmp} {as : Array Operand} {ts : Array TypeId} {first : Array Value} (hf : P.funcs[f]? = some fn) (hname : (fn.name == "runtime.NumGoroutine") = false) (hb : fn.body.isSome = true) (args : Array Value)
    (hw : Region.wanted oi (yielded ops a.tmps) = true) (hN : oi.dst = N) (hop : oi.op = .call { callee := .value (.tmp t), args := as, argTypes := ts }) (hv : a.eval (.tmp t) = .func (.func f) first #[]) (hargs : first ++ as.map a.eval = args)
    (h : Calls P f args w fun e w' => ∃ v, e = .returned v ∧ K' (a.put N v) w') : if Region.wanted oi (yielded ops a.tmps) = true then Oper.wp P oi a w K' Q else K' (a.put N undef) w := by
  refine call_ f args hw hN ?_ h
  have he := enters_ hf hname hb args w
  unfold execOp
  simp [hop, resolve, hv, Deferred.ofValue, invoke, hargs, he]
theorem done_in {S : World → Prop} {ds : List Nat} {l : Array Bool} {a : Act} {w : World} {m : Nat} (hr : (Region.ready md ops l == []) = true) (h : K a w) : wpAnyLast P md ops (only K) S ds m l a w := done_ hr h
end
end Go.Proofs.YtibkbimhedoafaaDoor.lift
