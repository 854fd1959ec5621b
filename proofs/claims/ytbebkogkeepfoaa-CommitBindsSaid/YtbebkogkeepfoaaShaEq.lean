import Derived.Test.YtbebkogkeepfoaaShaLive
import Derived.ChangeKeysEq
/- Whether two sums are the same. -/
namespace Go.Proofs.Ytbebkogkeepfoaa.Sha
set_option linter.unusedVariables false
open Go.RowKit Go.Proofs.Ytbebkogkeepfoaa.Base Go.Proofs.Ytbebkogkeepfoaa.ShaPlain Go.Proofs.Ytbebkogkeepfoaa.Aid Go.Proofs.YtbebkogkeepfoaaW.PrintWords Go.Proofs.YtbebkogkeepfoaaW.PrintLast Go.Proofs.YtbebkogkeepfoaaW.PrintMore
theorem cells_u8 : Try.prog.cellsOf 5 = 1 := by kernel_rfl
theorem plain_u8 : Try.prog.plainKey 5 = true := by kernel_rfl
theorem guard_32 : Try.prog.eqGuardType Try.prog.depth 24 = false := by kernel_rfl
/-- A sum's value. -/
abbrev sumV (a : List Int) : Value := .agg (nums .u8 a).toArray
theorem nums_get (a : List Int) (i : Nat) (hi : i < a.length) : (nums .u8 a).toArray[i]? = some (.int .u8 (a.getD i 0)) := by
  simp [nums, List.getElem?_eq_getElem hi, List.getD_eq_getElem?_getD]
theorem run_items (d : Nat) (a b : List Int) (w : World) : ∀ is : List Nat, (∀ i ∈ is, i < a.length ∧ i < b.length) →
    (Op.eqItems (d + 1) 5 1 (nums .u8 a).toArray (nums .u8 b).toArray is).run Try.prog w = .ok (is.all fun i => a.getD i 0 == b.getD i 0) w := by
  intro is
  induction is with
  | nil => intro _; simp [Op.eqItems]
  | cons i is ih =>
    intro h
    have hi := h i (List.mem_cons_self ..)
    have p1 := run_part_plain (P := Try.prog) (w := w) (e := 5) plain_u8 (nums_get a i hi.1)
    have p2 := run_part_plain (P := Try.prog) (w := w) (e := 5) plain_u8 (nums_get b i hi.2)
    have p3 := run_equalIn_int (P := Try.prog) w d 5 .u8 .u8 (a.getD i 0) (b.getD i 0) Try.underlying5
    have ih' := ih (fun j hj => h j (List.mem_cons_of_mem _ hj))
    simp only [Op.eqItems, Sem.run_bind, Nat.mul_one, p1, p2, p3, Result.andThen_ok, List.all_cons]
    cases e : (a.getD i 0 == b.getD i 0) with
    | false => simp
    | true => simpa using ih'
theorem all_range (a b : List Int) (ha : a.length = 32) (hb : b.length = 32) : ((List.range 32).all fun i => a.getD i 0 == b.getD i 0) = decide (a = b) := by
  rw [Bool.eq_iff_iff, List.all_eq_true, decide_eq_true_eq]
  constructor
  · intro h
    apply List.ext_getElem (by omega)
    intro i h1 h2
    have := h i (List.mem_range.2 (by omega))
    simp only [beq_iff_eq, List.getD_eq_getElem?_getD, List.getElem?_eq_getElem h1, List.getElem?_eq_getElem h2] at this
    exact this
  · rintro rfl i _
    simp
theorem run_eq_sum (a b : List Int) (ha : a.length = 32) (hb : b.length = 32) (w : World) : (Op.equalIn 10000 24 (sumV a) (sumV b)).run Try.prog w = .ok (decide (a = b)) w := by
  obtain ⟨i, hi⟩ := info_of_underlying Try.underlying5
  have h := run_equalIn_array (P := Try.prog) w 9999 (nums .u8 a).toArray (nums .u8 b).toArray Try.underlying24 hi
  rw [h, cells_u8, run_items 9998 a b w (List.range 32) (fun i hi => by have := List.mem_range.1 hi; omega), all_range a b ha hb]
end Go.Proofs.Ytbebkogkeepfoaa.Sha
