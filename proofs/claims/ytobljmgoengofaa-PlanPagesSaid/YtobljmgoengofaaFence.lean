import Derived.Test.YtobljmgoengofaaBase
import Derived.RangeFuncBox
import Derived.RangeFuncLeaves
import Derived.RangeFuncWrites
import Derived.Shelf.Abstract
import Derived.WalkKit
import Derived.OwnWalkIn
import Derived.TacticsInMore
import Derived.LoopNIn
import Derived.LoopIn
import Derived.Sort.QuietIn
/- A builtin's law inside a fence, out of the same law outside. -/
namespace Go.Proofs.Ytobljmgoengofaa.Fence0
open Go.RowKit
set_option linter.unusedSimpArgs false
set_option linter.unusedVariables false

theorem in_builtin {F : Fence} {n : Nat} {P : Program} {ops : Array Oper} {Q : Exit → Act → World → Prop} {rest : List Oper} {o : Oper} {a : Act} {w : World} (hgd : o.guard = none) {b : Builtin} {args : Array Operand} {ts : Array TypeId}
    (ho : o.op = .call { callee := .builtin b, args := args, argTypes := ts }) (hb : b = .append ∨ b = .copy) (h : wpList P ops (fun e a w => e = .normal ∧ wpListIn F n P ops Q rest a w) [o] a w) : wpListIn F n P ops Q (o :: rest) a w := by
  refine wpListIn_plain hgd fun K hK => ?_
  simp only [wpList, Region.wanted, hgd, if_true] at h
  unfold Oper.wpIn
  refine ⟨by simp [Oper.about, ho, resolve, Target.leads, Sem.run_pure], ?_⟩
  rw [Oper.semAt_plain F _ _ (by rw [ho]; intro c hc; cases hc)]
  rcases h with h | ⟨_, _, _, h, _⟩
  · unfold Oper.wp at h
    revert h
    rcases hb with rfl | rfl
    all_goals
      simp only [execOp, ho, resolve, invoke, builtin, Sem.run_bind, Sem.run_pure, Result.andThen_ok]
      generalize Sem.run P _ w = r
      cases r with
      | ok v w' => intro h; exact hK _ _ h.2
      | halt x w' => cases x <;> (intro h; first | exact absurd h.1 (by simp) | exact h.elim)
  · exact absurd h (by simp)
theorem in_make {F : Fence} {n : Nat} {P : Program} {ops : Array Oper} {Q : Exit → Act → World → Prop} {rest : List Oper} {o : Oper} {a : Act} {w : World} (hgd : o.guard = none) {t : TypeId} {x y : Operand}
    (ho : o.op = .makeSlice t x y) (h : wpList P ops (fun e a w => e = .normal ∧ wpListIn F n P ops Q rest a w) [o] a w) : wpListIn F n P ops Q (o :: rest) a w := by
  refine wpListIn_plain hgd fun K hK => ?_
  simp only [wpList, Region.wanted, hgd, if_true] at h
  unfold Oper.wpIn
  refine ⟨by simp [Oper.about, ho, resolve, Target.leads, Sem.run_pure], ?_⟩
  rw [Oper.semAt_plain F _ _ (by rw [ho]; intro c hc; cases hc)]
  rcases h with h | ⟨_, _, _, h, _⟩
  · unfold Oper.wp at h
    revert h
    simp only [execOp, ho, resolve, invoke, builtin, Sem.run_bind, Sem.run_pure, Result.andThen_ok]
    generalize Sem.run P _ w = r
    cases r with
    | ok v w' => intro h; exact hK _ _ h.2
    | halt x w' => cases x <;> (intro h; first | exact absurd h.1 (by simp) | exact h.elim)
  · exact absurd h (by simp)
/-- Operations that enter no function. -/
def calm (o : Oper) : Bool :=
  match o.op with
  | .move _ | .assign _ | .load .. | .store .. | .slice .. => true
  | .call c => match c.callee with
    | .builtin .append => true
    | _ => false
  | _ => false
def calmR : Result Next → Prop
  | .ok (.value _) _ => True
  | .ok .skip _ => True
  | .halt _ _ => True
  | _ => False
theorem calm_run {P : Program} {o : Oper} (h : calm o = true) (ρ : Operand → Value) (w : World) : calmR ((execOp ρ o).run P w) ∧ (∀ c, o.op ≠ .defer c) ∧ (∀ w, o.about P w ρ = none) := by
  unfold calm at h
  cases ho : o.op with
  | move x => exact ⟨by simp [execOp, ho, calmR, Sem.run_pure], (by intro c hc; cases hc), fun w => by simp [Oper.about, ho]⟩
  | assign x => exact ⟨by simp [execOp, ho, calmR, Sem.run_pure], (by intro c hc; cases hc), fun w => by simp [Oper.about, ho]⟩
  | load t x =>
    refine ⟨?_, (by intro c hc; cases hc), fun w => by simp [Oper.about, ho]⟩
    simp only [execOp, ho, Sem.run_bind, Sem.run_pure]
    generalize Sem.run P _ w = r
    cases r <;> simp [Result.andThen, calmR]
  | store t x y =>
    refine ⟨?_, (by intro c hc; cases hc), fun w => by simp [Oper.about, ho]⟩
    simp only [execOp, ho, Sem.run_bind, Sem.run_pure]
    generalize Sem.run P _ w = r
    cases r <;> simp [Result.andThen, calmR]
  | slice t x a b c =>
    refine ⟨?_, (by intro c hc; cases hc), fun w => by simp [Oper.about, ho]⟩
    simp only [execOp, ho, Sem.run_bind, Sem.run_pure]
    generalize Sem.run P _ w = r
    cases r <;> simp [Result.andThen, calmR]
  | call c =>
    obtain ⟨callee, args, ts⟩ := c
    rw [ho] at h
    cases callee with
    | builtin b =>
      cases b with
      | append =>
        refine ⟨?_, (by intro c hc; cases hc), fun w => by simp [Oper.about, ho, resolve, Target.leads, Sem.run_pure]⟩
        simp only [execOp, ho, resolve, invoke, builtin, Sem.run_bind, Sem.run_pure, Result.andThen_ok]
        generalize Sem.run P _ w = r
        cases r <;> simp [Result.andThen, calmR]
      | _ => cases h
    | _ => cases h
  | _ => rw [ho] at h; cases h
theorem calm_in {F : Fence} {n : Nat} {P : Program} {o : Oper} {a : Act} {w : World} {K : Act → World → Prop} {Q : Exit → Act → World → Prop} (h : calm o = true) (hp : o.wp P a w K Q) : o.wpIn F n P a w K Q := by
  obtain ⟨h1, h2, h3⟩ := calm_run (P := P) h a.eval w
  unfold Oper.wpIn
  refine ⟨(fun f hf => by rw [h3 w] at hf; cases hf), ?_⟩
  rw [Oper.semAt_plain F _ _ h2]
  unfold Oper.wp at hp
  generalize Sem.run P (execOp a.eval o) w = r at h1 hp ⊢
  cases r with
  | ok x w' => cases x <;> first | exact hp | exact h1.elim
  | halt x w' => cases x <;> first | exact hp | exact hp.elim
theorem any_in {F : Fence} {n : Nat} {P : Program} {md : Region.Mode} {ops : Array Oper} {Q : Exit → Act → World → Prop} (hc : ∀ (i : Nat) (o : Oper), ops[i]? = some o → calm o = true) (hq : ∀ a w, ¬ Q .outgrown a w) :
    ∀ (fuel : Nat) (listed : Array Bool) (a : Act) (w : World), wpAny P md ops Q fuel listed a w → wpAnyIn F n P md ops Q fuel listed a w := by
  intro fuel
  induction fuel with
  | zero => intro listed a w h; exact h
  | succ fuel ih =>
    intro listed a w h
    refine ⟨h.1, fun i hi => ?_⟩
    have h2 := h.2 i hi
    unfold wpOp at h2
    unfold wpOpIn
    split
    · rename_i ho
      rw [ho] at h2
      exact ih _ _ _ h2
    · rename_i o ho
      rw [ho] at h2
      dsimp only at h2
      split
      · rename_i hw
        rw [if_pos hw] at h2
        rcases h2 with h2 | ⟨_, _, _, h2⟩
        · exact Oper.wpIn_mono (fun a w => ih _ a w) (calm_in (hc i o ho) h2)
        · exact absurd h2 (hq _ _)
      · rename_i hw
        rw [if_neg hw] at h2
        exact ⟨(fun f hf => by rw [(calm_run (P := P) (hc i o ho) a.eval w).2.2 w] at hf; cases hf), ih _ _ _ h2⟩
theorem region_in {F : Fence} {n : Nat} {P : Program} {id : Nat} {ops : Array Oper} {Q : Exit → Act → World → Prop} {a : Act} {w : World} (hm : P.follows .mixedOrders = true) (hc : ops.all calm = true) (hq : ∀ a w, ¬ Q .outgrown a w)
    (h : wpAny P .any ops Q ops.size (Array.replicate ops.size false) a w.drew) : (Code.region id ops true).wpIn F n P Q a w :=
  wpIn_region_any hm (any_in (fun i o ho => by
    obtain ⟨hi, e⟩ := Array.getElem?_eq_some_iff.1 ho
    rw [Array.all_eq_true] at hc
    rw [← e]; exact hc i hi) hq _ _ _ _ h)
end Go.Proofs.Ytobljmgoengofaa.Fence0
