import Derived.Test.YtbebkogkeepfoaaShaRof
import Derived.Test.YtbebkogkeepfoaaShaRhex
import Derived.Test.YtbebkogkeepfoaaShaParts
import Derived.Deep.RegionLaw
import Derived.Deep.RegionHeld3
import Derived.Deep.MidRow
/- ShaSums: the law's walk. -/
namespace Go.Proofs.Ytbebkogkeepfoaa.Sha
set_option linter.unusedVariables false
set_option linter.unusedSimpArgs false
open Go.RowKit Go.Proofs.Ytbebkogkeepfoaa.Base Go.Proofs.Ytbebkogkeepfoaa.ShaPlain Go.Proofs.Ytbebkogkeepfoaa.Aid Go.Proofs.YtbebkogkeepfoaaW.PrintWords Go.Proofs.YtbebkogkeepfoaaW.PrintLast Go.Proofs.YtbebkogkeepfoaaW.PrintMore
theorem range_blk {w : World} {g T : Nat} {cs : List Value} (h : w.heap[g]? = some (.cells cs.toArray T (0, 0))) : w.rangeAt g 0 cs := fun j v hv => by
  rw [Nat.zero_add, blk_cell h j]
  simpa using hv
set_option maxHeartbeats 4000000 in
set_option maxRecDepth 100000 in
theorem sums_walk (w : World) (A : Option Addr) (c : Nat) (b : List Int) (hr : Rb w A b) (hc : b.length ≤ c) (hu : ∀ x ∈ b, 0 ≤ x ∧ x ≤ 255) :
    Calls Try.prog 3 #[.slice A b.length c] w fun e w' => e = .returned (.bool true) ∧ Below w.heap.size w w' := by
  by_cases hl : 3000 < b.length
  · have hd : decide ((3000 : Int) < (b.length : Int)) = true := decide_eq_true (by omega)
    clear hr hc hu
    go_enter Try.func3, Try.ntmps3
    go_wp2_with (go_at_call 13; refine (live_c _).mono ?_; rintro e w' ⟨rfl, hb⟩)
    go_ret
    exact ⟨rfl, hb⟩
  · have hd : decide ((3000 : Int) < (b.length : Int)) = false := decide_eq_false (by omega)
    have HR := Aside0.mk hr
    have HC := Aside0.mk hc
    have HU := Aside0.mk hu
    have HL := Aside0.mk (show b.length ≤ 3000 by omega)
    obtain ⟨cs, hcs⟩ : ∃ cs, nums .u8 (shaB b) = cs := ⟨_, rfl⟩
    obtain ⟨hx, hhx⟩ : ∃ s, strOfNums (hexB (shaB b)) = s := ⟨_, rfl⟩
    have hlen : cs.length = 32 := by rw [← hcs]; simp [nums, shaB_len]
    have HLEN := Aside0.mk hlen
    have HOF := Aside0.mk (show ∀ W, Rb W A b → Calls Try.prog 14 #[.slice (some ⟨W.heap.size, 0, none⟩) 1 1] (W.alloc (.cells #[.slice A b.length c] 22)) fun e w' => e = .returned (.agg cs.toArray) ∧ Below W.heap.size W w' by
      intro W hW
      refine (of_c (some ⟨W.heap.size, 0, none⟩) 1 [b] _ (one_row W A c 22 b hW HC.out) (by simp) (by simpa using HU.out) (by have := HL.out; simp; omega) (by simp)).mono ?_
      rintro e w' ⟨rfl, h⟩
      rw [show [b].flatten = b from by simp, hcs]
      exact ⟨rfl, below_step (below_alloc (Below.refl _ _) _) h⟩)
    have HROF := Aside0.mk (show ∀ W, Rb W A b → Calls Try.prog 15 #[.slice A b.length c] W fun e w' => e = .returned (.agg cs.toArray) ∧ Below W.heap.size W w' by
      intro W hW
      rw [← hcs]
      exact rof_c A c b W hW HC.out HU.out (by have := HL.out; omega))
    have HHEX := Aside0.mk (show ∀ W, Calls Try.prog 16 #[.agg cs.toArray] W fun e w' => e = .returned (.string hx) ∧ Below W.heap.size W w' by
      intro W
      rw [← hcs, ← hhx]
      exact hex_c (shaB b) (shaB_len _) (shaB_u8 _) W)
    have HRHEX := Aside0.mk (show ∀ W, Calls Try.prog 17 #[.agg cs.toArray] W fun e w' => e = .returned (.string hx) ∧ Below W.heap.size W w' by
      intro W
      rw [← hcs, ← hhx]
      exact rhex_c (shaB b) (shaB_len _) (shaB_u8 _) W)
    have HEQ := Aside0.mk (show ∀ W, (Op.equalIn 10000 24 (.agg cs.toArray) (.agg cs.toArray)).run Try.prog W = .ok true W by
      intro W
      have h := run_eq_sum (shaB b) (shaB b) (shaB_len _) (shaB_len _) W
      rw [decide_eq_true rfl] at h
      rw [← hcs]
      exact h)
    have HIF := Aside0.mk (show (Try.prog.info? 24).map (·.size) = some cs.length by rw [hlen]; exact info_32)
    have HIA := Aside0.mk (show (Try.prog.info? 24).map (·.size) = some cs.toArray.size by simp only [List.size_toArray]; rw [hlen]; exact info_32)
    have HSZ := Aside0.mk (show Z32.size = cs.toArray.size by simp [Z32, nums, hlen])
    have HONE := Aside0.mk (show cs.toArray.all (·.oneCell') = true by rw [← hcs]; exact nums_one _ _)
    clear hr hc hu hl hcs hhx hlen
    go_enter Try.func3, Try.ntmps3
    go_wp2_with (fail)
    refine (HOF.out _ HR.out).mono ?_
    rintro e w1 ⟨rfl, hb⟩
    have HB1 := Aside0.mk hb
    clear hb
    go_wp2_with ((with_reducible refine gate_store (t := 24) (p := 3) (v := .tmp 10) rfl ?_); refine wpList_store_row rfl 24 (.tmp 3) (.tmp 10) rfl w1.heap.size cs.toArray rfl rfl 24 Z32 (by exact blk_new _ _) HIA.out HSZ.out HONE.out ?_; rw [World.setRow_alloc_new])
    obtain ⟨g, hg⟩ : ∃ g, w1.heap.size = g := ⟨_, rfl⟩
    obtain ⟨W, hW⟩ : ∃ W, w1.alloc (.cells cs.toArray 24) = W := ⟨_, rfl⟩
    have HG1 := Aside0.mk (show W.heap[g]? = some (.cells cs.toArray 24 (0, 0)) by rw [← hW, ← hg]; exact blk_new _ _)
    have HB2 := Aside0.mk (show Below w.heap.size w W by rw [← hW]; exact below_alloc HB1.out _)
    rw [hW, hg]
    clear hW hg HB1 HSZ HIA HONE HOF HC HU
    have hguard := guard_32
    have heq := HEQ.out
    have hu24 := Try.underlying24
    have hi24 := HIF.out
    have s1 : W.rangeAt g 0 cs := range_blk HG1.out
    go_wp2_with (fail)
    refine wp_region_held_drew (S := fun w' => w'.rangeAt g 0 cs) (by kernel_rfl) s1 (fun hHeld => ?_)
    refine wpAnyH_take (i := 0) rfl (by kernel_rfl) (by kernel_rfl) (by kernel_rfl) (fun _ _ _ h => h) (yieldsIf_load_mid (by rfl) _ _ rfl _ _ rfl _ _ (fun _ h => h) (by assumption) rfl HIF.out) (by assumption) ?_
    (try simp only [Act.put, List.getElem_toArray, List.getElem_cons_zero, List.getElem_cons_succ, List.setIfInBounds_toArray, List.set_cons_zero, List.set_cons_succ])
    refine wpAnyH_take (i := 1) (v := ?_) rfl (by kernel_rfl) (by kernel_rfl) (by kernel_rfl) (fun _ _ _ h => h) (Or.inl ⟨by rfl, ?_⟩) (by assumption) ?_
    case' refine_2 => (intro w hSw; go_simp; try with_reducible rfl)
    (try simp only [Act.put, List.getElem_toArray, List.getElem_cons_zero, List.getElem_cons_succ, List.setIfInBounds_toArray, List.set_cons_zero, List.set_cons_succ])
    refine wpAnyH_ready (rs := [2]) (by kernel_rfl) (by simp) (AllReadyH.cons rfl (fun K hK => ?_) AllReadyH.nil)
    go_simp
    refine (HROF.out _ (Kd.C_below HR.out (below_drew1 HB2.out))).mono ?_
    rintro e w3 ⟨rfl, hb⟩
    have HG3 := Aside0.mk (blk_below HG1.out (below_drew_of hb))
    have HB3 := Aside0.mk (below_step HB2.out (below_drew_of hb))
    clear hb
    refine Shut.out hK _ _ (range_blk HG3.out) (fun hHeld => ?_)
    clear hK K
    (try simp only [Act.put, List.getElem_toArray, List.getElem_cons_zero, List.getElem_cons_succ, List.setIfInBounds_toArray, List.set_cons_zero, List.set_cons_succ])
    refine wpAnyH_take (i := 3) (v := ?_) rfl (by kernel_rfl) (by kernel_rfl) (by kernel_rfl) (fun _ _ _ h => h) (Or.inl ⟨by rfl, ?_⟩) (by assumption) ?_
    case' refine_2 => (intro w hSw; go_simp; try with_reducible rfl)
    (try simp only [Act.put, List.getElem_toArray, List.getElem_cons_zero, List.getElem_cons_succ, List.setIfInBounds_toArray, List.set_cons_zero, List.set_cons_succ])
    refine wpAnyH_take (i := 4) (v := ?_) rfl (by kernel_rfl) (by kernel_rfl) (by kernel_rfl) (fun _ _ _ h => h) (Or.inl ⟨by rfl, ?_⟩) (by assumption) ?_
    case' refine_2 => (intro w hSw; go_simp; try with_reducible rfl)
    (try simp only [Act.put, List.getElem_toArray, List.getElem_cons_zero, List.getElem_cons_succ, List.setIfInBounds_toArray, List.set_cons_zero, List.set_cons_succ])
    refine wpAnyH_take (i := 5) rfl (by kernel_rfl) (by kernel_rfl) (by kernel_rfl) (fun _ _ _ h => h) (yieldsIf_load_mid (by rfl) _ _ rfl _ _ rfl _ _ (fun _ h => h) (by assumption) rfl HIF.out) (by assumption) ?_
    (try simp only [Act.put, List.getElem_toArray, List.getElem_cons_zero, List.getElem_cons_succ, List.setIfInBounds_toArray, List.set_cons_zero, List.set_cons_succ])
    refine wpAnyH_take (i := 7) rfl (by kernel_rfl) (by kernel_rfl) (by kernel_rfl) (fun _ _ _ h => h) (yieldsIf_load_mid (by rfl) _ _ rfl _ _ rfl _ _ (fun _ h => h) (by assumption) rfl HIF.out) (by assumption) ?_
    (try simp only [Act.put, List.getElem_toArray, List.getElem_cons_zero, List.getElem_cons_succ, List.setIfInBounds_toArray, List.set_cons_zero, List.set_cons_succ])
    refine wpAnyH_ready (rs := [6]) (by kernel_rfl) (by simp) (AllReadyH.cons rfl (fun K hK => ?_) AllReadyH.nil)
    go_simp
    refine (HHEX.out _).mono ?_
    rintro e w4 ⟨rfl, hb⟩
    have HG4 := Aside0.mk (blk_below HG3.out hb)
    have HB4 := Aside0.mk (below_step HB3.out hb)
    clear hb
    refine Shut.out hK _ _ (range_blk HG4.out) (fun hHeld => ?_)
    clear hK K
    (try simp only [Act.put, List.getElem_toArray, List.getElem_cons_zero, List.getElem_cons_succ, List.setIfInBounds_toArray, List.set_cons_zero, List.set_cons_succ])
    refine wpAnyH_ready (rs := [8]) (by kernel_rfl) (by simp) (AllReadyH.cons rfl (fun K hK => ?_) AllReadyH.nil)
    go_simp
    refine (HRHEX.out _).mono ?_
    rintro e w5 ⟨rfl, hb⟩
    have HG5 := Aside0.mk (blk_below HG4.out hb)
    have HB5 := Aside0.mk (below_step HB4.out hb)
    clear hb
    refine Shut.out hK _ _ (range_blk HG5.out) (fun hHeld => ?_)
    clear hK K
    (try simp only [Act.put, List.getElem_toArray, List.getElem_cons_zero, List.getElem_cons_succ, List.setIfInBounds_toArray, List.set_cons_zero, List.set_cons_succ])
    refine wpAnyH_take (i := 9) (v := ?_) rfl (by kernel_rfl) (by kernel_rfl) (by kernel_rfl) (fun _ _ _ h => h) (Or.inl ⟨by rfl, ?_⟩) (by assumption) ?_
    case' refine_2 => (intro w hSw; go_simp; try with_reducible rfl)
    (try simp only [Act.put, List.getElem_toArray, List.getElem_cons_zero, List.getElem_cons_succ, List.setIfInBounds_toArray, List.set_cons_zero, List.set_cons_succ])
    refine wpAnyH_take (i := 10) (v := ?_) rfl (by kernel_rfl) (by kernel_rfl) (by kernel_rfl) (fun _ _ _ h => h) (Or.inl ⟨by rfl, ?_⟩) (by assumption) ?_
    case' refine_2 => (intro w hSw; go_simp; try with_reducible rfl)
    (try simp only [Act.put, List.getElem_toArray, List.getElem_cons_zero, List.getElem_cons_succ, List.setIfInBounds_toArray, List.set_cons_zero, List.set_cons_succ])
    refine wpAnyH_take (i := 11) (v := ?_) rfl (by kernel_rfl) (by kernel_rfl) (by kernel_rfl) (fun _ _ _ h => h) (Or.inl ⟨by rfl, ?_⟩) (by assumption) ?_
    case' refine_2 => (intro w hSw; go_simp; try with_reducible rfl)
    (try simp only [Act.put, List.getElem_toArray, List.getElem_cons_zero, List.getElem_cons_succ, List.setIfInBounds_toArray, List.set_cons_zero, List.set_cons_succ])
    refine wpAnyH_ready (rs := [12]) (by kernel_rfl) (by simp) (AllReadyH.cons rfl (fun K hK => ?_) AllReadyH.nil)
    go_simp
    refine (live_c _).mono ?_
    rintro e w6 ⟨rfl, hb⟩
    have HG6 := Aside0.mk (blk_below HG5.out hb)
    have HB6 := Aside0.mk (below_step HB5.out hb)
    clear hb
    refine Shut.out hK _ _ (range_blk HG6.out) (fun hHeld => ?_)
    clear hK K
    (try simp only [Act.put, List.getElem_toArray, List.getElem_cons_zero, List.getElem_cons_succ, List.setIfInBounds_toArray, List.set_cons_zero, List.set_cons_succ])
    refine wpAnyH_take (i := 13) (v := ?_) rfl (by kernel_rfl) (by kernel_rfl) (by kernel_rfl) (fun _ _ _ h => h) (Or.inl ⟨by rfl, ?_⟩) (by assumption) ?_
    case' refine_2 => (intro w hSw; go_simp; try with_reducible rfl)
    (try simp only [Act.put, List.getElem_toArray, List.getElem_cons_zero, List.getElem_cons_succ, List.setIfInBounds_toArray, List.set_cons_zero, List.set_cons_succ])
    refine wpAnyH_take (i := 14) (v := ?_) rfl (by kernel_rfl) (by kernel_rfl) (by kernel_rfl) (fun _ _ _ h => h) (Or.inl ⟨by rfl, ?_⟩) (by assumption) ?_
    case' refine_2 => (intro w hSw; go_simp; try with_reducible rfl)
    (try simp only [Act.put, List.getElem_toArray, List.getElem_cons_zero, List.getElem_cons_succ, List.setIfInBounds_toArray, List.set_cons_zero, List.set_cons_succ])
    refine wpAnyH_done (by kernel_rfl) ?_ _
    go_wp2_with (fail)
    go_ret
    exact ⟨rfl, HB6.out⟩
theorem sumsWalk (w : World) (A : Option Addr) (c : Nat) (b : List Int) (hr : Kd.C (Kd.int .u8) w A b.length b) (hc : b.length ≤ c) (ok : ∀ x ∈ b, (Lit.int .u8 x).wf = true) :
    Calls Try.prog 3 #[.slice A b.length c] w fun e w' => e = .returned (.bool true) ∧ Below w.heap.size w w' := sums_walk w A c b hr hc (fun x hx => byte_wf (ok x hx))
end Go.Proofs.Ytbebkogkeepfoaa.Sha
