import Derived.Test.YtbebkogkeepfoaaShaTurn
import Derived.StillTailTactics
import Derived.Great.BuildSlice
import Derived.Deep.WholeRow
/- The document's keys walked. -/
namespace Go.Proofs.Ytbebkogkeepfoaa.Sha
set_option linter.unusedVariables false
open Go.RowKit Go.Proofs.Ytbebkogkeepfoaa.Base Go.Proofs.Ytbebkogkeepfoaa.ShaPlain Go.Proofs.Ytbebkogkeepfoaa.Aid Go.Proofs.YtbebkogkeepfoaaW.PrintWords Go.Proofs.YtbebkogkeepfoaaW.PrintLast Go.Proofs.YtbebkogkeepfoaaW.PrintMore
theorem info_64 : (Try.prog.info? 89).map (·.size) = some 64 := by kernel_rfl
theorem info_8 : (Try.prog.info? 36).map (·.size) = some 8 := by kernel_rfl
abbrev wordsV (l : List Int) : Value := .agg (nums .u32 l).toArray
set_option maxHeartbeats 4000000 in
set_option maxRecDepth 100000 in
theorem keys_c (w : World) : Calls Try.prog 68 #[] w fun e w' => e = .returned (wordsV keys) ∧ Below w.heap.size w w' := by
  obtain ⟨D, hD⟩ : ∃ D, (nums .u32 keys).toArray = D := ⟨_, rfl⟩
  have hds : D.size = 64 := by rw [← hD]; rfl
  have HI := Aside0.mk (show (Try.prog.info? 89).map (·.size) = some D.size by rw [hds]; exact info_64)
  have HONE := Aside0.mk (show D.all (·.oneCell') = true by rw [← hD]; exact nums_one _ _)
  have HS := Aside0.mk (show (64 : Nat) = D.size from hds.symm)
  have HD := Aside0.mk hD
  clear hD hds
  go_enter Try.func68, Try.ntmps68
  go_wp2_with ((with_reducible refine gate_store (t := 89) (p := 0) (v := .tmp 1) rfl ?_); go_must (refine wpList_store_row rfl 89 (.tmp 0) (.tmp 1) rfl w.heap.size D rfl (by rw [← HD.out]; rfl) 89 _ (by exact blk_new _ _) HI.out (by exact HS.out) HONE.out ?_); rw [World.setRow_alloc_new])
  refine bodyPost_ret (v := .agg D) (results_cell_row rfl _ _ w.heap.size 89 D (0, 0) _ rfl (blk_new w _) Try.underlying89 rfl HI.out) rfl ⟨by rw [← HD.out], below_alloc (Below.refl _ _) _⟩
end Go.Proofs.Ytbebkogkeepfoaa.Sha
