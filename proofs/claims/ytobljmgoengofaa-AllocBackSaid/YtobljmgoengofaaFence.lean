import Derived.Test.YtobljmgoengofaaBase
import Derived.RangeFuncBox
import Derived.RangeFuncLeaves
import Derived.RangeFuncWrites
import Derived.Shelf.Abstract
import Derived.WalkKit
import Derived.OwnWalkIn
import Derived.TacticsInMore
import Derived.LoopNIn
import Derived.LoopIn
import Derived.Sort.QuietIn
/- A builtin's law inside a fence, out of the same law outside. -/
namespace Go.Proofs.Ytobljmgoengofaa.Fence0
open Go.RowKit

theorem in_builtin {F : Fence} {n : Nat} {P : Program} {ops : Array Oper} {Q : Exit → Act → World → Prop} {rest : List Oper} {o : Oper} {a : Act} {w : World} (hgd : o.guard = none) {b : Builtin} {args : Array Operand} {ts : Array TypeId}
    (ho : o.op = .call { callee := .builtin b, args := args, argTypes := ts }) (hb : b = .append ∨ b = .copy) (h : wpList P ops (fun e a w => e = .normal ∧ wpListIn F n P ops Q rest a w) [o] a w) : wpListIn F n P ops Q (o :: rest) a w := by
  refine wpListIn_plain hgd fun K hK => ?_
  simp only [wpList, Region.wanted, hgd, if_true] at h
  unfold Oper.wpIn
  refine ⟨by simp [Oper.about, ho, resolve, Target.leads, Sem.run_pure], ?_⟩
  rw [Oper.semAt_plain F _ _ (by rw [ho]; intro c hc; cases hc)]
  rcases h with h | ⟨_, _, _, h, _⟩
  · unfold Oper.wp at h
    revert h
    rcases hb with rfl | rfl
    all_goals
      simp only [execOp, ho, resolve, invoke, builtin, Sem.run_bind, Sem.run_pure, Result.andThen_ok]
      generalize Sem.run P _ w = r
      cases r with
      | ok v w' => intro h; exact hK _ _ h.2
      | halt x w' => cases x <;> (intro h; first | exact absurd h.1 (by simp) | exact h.elim)
  · exact absurd h (by simp)
theorem in_make {F : Fence} {n : Nat} {P : Program} {ops : Array Oper} {Q : Exit → Act → World → Prop} {rest : List Oper} {o : Oper} {a : Act} {w : World} (hgd : o.guard = none) {t : TypeId} {x y : Operand}
    (ho : o.op = .makeSlice t x y) (h : wpList P ops (fun e a w => e = .normal ∧ wpListIn F n P ops Q rest a w) [o] a w) : wpListIn F n P ops Q (o :: rest) a w := by
  refine wpListIn_plain hgd fun K hK => ?_
  simp only [wpList, Region.wanted, hgd, if_true] at h
  unfold Oper.wpIn
  refine ⟨by simp [Oper.about, ho, resolve, Target.leads, Sem.run_pure], ?_⟩
  rw [Oper.semAt_plain F _ _ (by rw [ho]; intro c hc; cases hc)]
  rcases h with h | ⟨_, _, _, h, _⟩
  · unfold Oper.wp at h
    revert h
    simp only [execOp, ho, resolve, invoke, builtin, Sem.run_bind, Sem.run_pure, Result.andThen_ok]
    generalize Sem.run P _ w = r
    cases r with
    | ok v w' => intro h; exact hK _ _ h.2
    | halt x w' => cases x <;> (intro h; first | exact absurd h.1 (by simp) | exact h.elim)
  · exact absurd h (by simp)
end Go.Proofs.Ytobljmgoengofaa.Fence0
