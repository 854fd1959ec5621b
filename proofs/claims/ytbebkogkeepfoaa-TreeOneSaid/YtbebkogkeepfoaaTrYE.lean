/- Own and printed texts, laid together. -/
import Derived.Test.YtbebkogkeepfoaaTrYD
import Derived.Lib.SliceRun
/- tree: up walked. -/
namespace Go.Proofs.Ytbebkogkeepfoaa.Tree
set_option linter.unusedVariables false
set_option linter.unusedSimpArgs false
open Go.RowKit Go.Proofs.Ytbebkogkeepfoaa.Base Go.Proofs.Ytbebkogkeepfoaa.TlvPlain Go.Proofs.Ytbebkogkeepfoaa.ShaPlain Go.Proofs.Ytbebkogkeepfoaa.Sha Go.Proofs.Ytbebkogkeepfoaa.Com Go.Proofs.Ytbebkogkeepfoaa.Aid Go.Proofs.YtbebkogkeepfoaaW.PrintWords Go.Proofs.YtbebkogkeepfoaaW.PrintLast Go.Proofs.YtbebkogkeepfoaaW.PrintMore
abbrev Ret2 (w : World) (d : List Int) (b : Bool) : Ending → World → Prop := fun e w' => e = .returned (.tuple #[sumV d, .bool b]) ∧ Below w.heap.size w w'
theorem SumF.infoT {D : Array Value} {d : List Int} (h : SumF D d) : (Try.prog.info? 24).map (·.size) = some D.toList.length := by rw [Array.length_toList]; exact h.info
set_option maxHeartbeats 4000000 in
set_option maxRecDepth 100000 in
theorem up_one_c (leaf : Sm) (hl : leaf.length = 32) (hu : U8' leaf) (i : Int) (A : Option Addr) (m c : Nat) (w : World) :
    Calls Try.prog 55 #[sumV leaf, .int .i64 i, .int .i64 1, .slice A m c] w (Ret2 w (leafH leaf) (decide (m = 0))) := by
  obtain ⟨L, hL⟩ := sumF leaf hl
  have HL := Aside0.mk hL
  have HLI := Aside0.mk hL.info
  have HLT := Aside0.mk hL.infoT
  have HG := Aside0.mk (show ((w.alloc (.cells L 24)).alloc (.cells Z32 24)).heap[w.heap.size]? = some (.cells L 24 (0, 0)) from blk_alloc (blk_new _ _) _)
  have HZ := Aside0.mk (show ((w.alloc (.cells L 24)).alloc (.cells Z32 24)).heap[w.heap.size + 1]? = some (.cells Z32 24 (0, 0)) from second_new' _ _ _)
  have HB := Aside0.mk (show Below w.heap.size w ((w.alloc (.cells L 24)).alloc (.cells Z32 24)) from below_alloc (below_alloc (Below.refl _ _) _) _)
  obtain ⟨D, hD⟩ := sumF (leafH leaf) (leafH_len leaf)
  have HD := Aside0.mk hD
  have HIF := Aside0.mk hD.info
  have HF := Aside0.mk (leaf_c leaf hl hu)
  obtain ⟨bb, hbb⟩ : ∃ bb, decide (m = 0) = bb := ⟨_, rfl⟩
  have hb0 : ((m : Int) == 0) = bb := by rw [← hbb, Bool.eq_iff_iff, beq_iff_eq, decide_eq_true_eq]; omega
  unfold Ret2
  unfold Ret at HF
  rw [hbb]
  rw [hL.v] at HF ⊢
  rw [hD.v] at HF ⊢
  clear hL hD hl hu hbb
  go_enter Try.func55, Try.ntmps55
  go_wp2_with ((with_reducible refine gate_dst (N := 18) rfl ?_); refine wpList_load_row rfl 24 (.tmp 4) rfl w.heap.size rfl 24 L (0, 0) _ (by exact HG.out) Try.underlying24 rfl HLI.out ?_)
  refine (HF.out _).mono ?_
  rintro e w3 ⟨rfl, hb⟩
  have m_HZ := Aside0.mk (blk_below HZ.out hb)
  have m_HB := Aside0.mk (below_step HB.out hb)
  clear HZ HB
  have HZ := m_HZ
  have HB := m_HB
  clear m_HZ m_HB
  clear hb
  go_wp2_with ((with_reducible refine gate_store (t := 24) (p := 8) (v := .tmp 19) rfl ?_); refine wpList_store_row rfl 24 (.tmp 8) (.tmp 19) rfl (w.heap.size + 1) D rfl rfl 24 Z32 HZ.out HIF.out HD.out.zs HD.out.one ?_)
  have HSR := setRow_heap w3 (w.heap.size + 1) Z32 D _ _ HZ.out
  refine bodyPost_ret (results_ct rfl _ _ (w.heap.size + 1) 24 D (0, 0) _ rfl HSR Try.underlying24 rfl HIF.out) rfl ?_
  exact ⟨rfl, below_setRow HB.out (by omega) D⟩
set_option maxHeartbeats 4000000 in
set_option maxRecDepth 100000 in
theorem up_nil_c (leaf : Sm) (hl : leaf.length = 32) (i : Int) (n : Int) (hn : n ≠ 1) (A : Option Addr) (c : Nat) (w : World) :
    Calls Try.prog 55 #[sumV leaf, .int .i64 i, .int .i64 n, .slice A 0 c] w (Ret2 w Z false) := by
  obtain ⟨L, hL⟩ := sumF leaf hl
  have HL := Aside0.mk hL
  have HLI := Aside0.mk hL.info
  have HLT := Aside0.mk hL.infoT
  have HG := Aside0.mk (show ((w.alloc (.cells L 24)).alloc (.cells Z32 24)).heap[w.heap.size]? = some (.cells L 24 (0, 0)) from blk_alloc (blk_new _ _) _)
  have HZ := Aside0.mk (show ((w.alloc (.cells L 24)).alloc (.cells Z32 24)).heap[w.heap.size + 1]? = some (.cells Z32 24 (0, 0)) from second_new' _ _ _)
  have HB := Aside0.mk (show Below w.heap.size w ((w.alloc (.cells L 24)).alloc (.cells Z32 24)) from below_alloc (below_alloc (Below.refl _ _) _) _)
  have HIF := Aside0.mk (show (Try.prog.info? 24).map (·.size) = some Z32.size from info_32)
  have HON := Aside0.mk (show Z32.all (·.oneCell') = true from nums_one _ _)
  have d1 : (n == 1) = false := by simp [hn]
  show Calls _ _ _ _ (fun e w' => e = .returned (.tuple #[.agg Z32, .bool false]) ∧ Below w.heap.size w w')
  rw [hL.v]
  clear hL hl hn
  go_enter Try.func55, Try.ntmps55
  go_wp2_with ((with_reducible refine gate_store (t := 24) (p := 8) (v := .tmp 28) rfl ?_); refine wpList_store_row rfl 24 (.tmp 8) (.tmp 28) rfl (w.heap.size + 1) Z32 rfl rfl 24 Z32 HZ.out HIF.out rfl HON.out ?_)
  have HSR := setRow_heap ((w.alloc (.cells L 24)).alloc (.cells Z32 24)) (w.heap.size + 1) Z32 Z32 _ _ HZ.out
  refine bodyPost_ret (results_ct rfl _ _ (w.heap.size + 1) 24 Z32 (0, 0) _ rfl HSR Try.underlying24 rfl HIF.out) rfl ?_
  exact ⟨rfl, below_setRow HB.out (by omega) Z32⟩
set_option maxHeartbeats 4000000 in
set_option maxRecDepth 100000 in
theorem up_left_c (leaf : Sm) (hl : leaf.length = 32) (d x : Sm) (hd : d.length = 32) (hx : x.length = 32) (hdu : U8' d) (hxu : U8' x) (b : Bool) (i n k : Nat) (hk2 : hlf n = k) (h2 : 2 ≤ n) (hm : n ≤ 1048576) (hik : i < k) (hin : i < n) (ad : Addr) (m c : Nat) (hc : m + 1 ≤ c) (hmm : m ≤ 1000000000) (w : World) (hat : AtC w (ad.add (m * 32)) (nums .u8 x))
    (hU : ∀ W, Below w.heap.size w W → Calls Try.prog 55 #[sumV leaf, .int .i64 (i : Int), .int .i64 (k : Int), .slice (some ad) m c] W (Ret2 W d b)) :
    Calls Try.prog 55 #[sumV leaf, .int .i64 (i : Int), .int .i64 (n : Int), .slice (some ad) (m + 1) c] w (Ret2 w (nodeH d x) b) := by
  obtain ⟨L, hL⟩ := sumF leaf hl
  have HL := Aside0.mk hL
  have HLI := Aside0.mk hL.info
  have HLT := Aside0.mk hL.infoT
  have HG := Aside0.mk (show ((w.alloc (.cells L 24)).alloc (.cells Z32 24)).heap[w.heap.size]? = some (.cells L 24 (0, 0)) from blk_alloc (blk_new _ _) _)
  have HZ := Aside0.mk (show ((w.alloc (.cells L 24)).alloc (.cells Z32 24)).heap[w.heap.size + 1]? = some (.cells Z32 24 (0, 0)) from second_new' _ _ _)
  have HB := Aside0.mk (show Below w.heap.size w ((w.alloc (.cells L 24)).alloc (.cells Z32 24)) from below_alloc (below_alloc (Below.refl _ _) _) _)
  obtain ⟨D, hD⟩ := sumF (nodeH d x) (nodeH_len _ _)
  have HD := Aside0.mk hD
  have HIF := Aside0.mk hD.info
  obtain ⟨X, hX⟩ := sumF x hx
  obtain ⟨Y, hY⟩ := sumF d hd
  have HXI := Aside0.mk hX.infoL
  have HYI := Aside0.mk hY.info
  have HYT := Aside0.mk hY.infoT
  have HXE := Aside0.mk hX.eq
  have HYZ := Aside0.mk hY.zs
  have HYO := Aside0.mk hY.one
  have HT := Aside0.mk (two_c d x hd hx hdu hxu)
  have HAT := Aside0.mk hat
  have hk := hlf_lt h2
  have HKB := Aside0.mk (fun W => below_c n h2 (by omega) W)
  rw [hk2] at HKB hk
  unfold Ret at HT
  unfold Ret2 at hU ⊢
  rw [hX.v] at HT
  rw [hY.v] at HT hU
  rw [hL.v] at hU ⊢
  rw [hD.v] at HT ⊢
  have HU := Aside0.mk hU
  have hc1 := cut_a (some ad) (m + 1) c m (by omega) hc
  have d1 : ((n : Int) == 1) = false := by simp; omega
  have d2 : decide ((m : Int) < 0) = false := by simp
  have q1 : ((m : Int) < (m : Int) + 1) = True := eq_true (by omega)
  have d3 : decide ((i : Int) < (k : Int)) = true := by simp; omega
  have HC1 := Aside0.mk hc1
  have HE1 := Aside0.mk (show IntKind.i64.wrap ((i : Int) - (k : Int)) = (i : Int) - (k : Int) by rw [i64_w]; exact w64 (by omega) (by omega))
  have HE2 := Aside0.mk (show IntKind.i64.wrap ((n : Int) - (k : Int)) = (n : Int) - (k : Int) by rw [i64_w]; exact w64 (by omega) (by omega))
  have HNUM := Aside0.mk (And.intro hc (And.intro hin (And.intro hm (And.intro hmm (And.intro hk h2)))))
  clear hD hX hY hL hU hl hd hx hdu hxu hk2 hc1 hat
  go_enter Try.func55, Try.ntmps55
  go_wp2_with (go_at_call 57; refine (HKB.out _).mono ?_; rintro e w' ⟨rfl, rfl⟩)
  obtain ⟨W, hW⟩ : ∃ W, ((w.alloc (.cells L 24)).alloc (.cells Z32 24)) = W := ⟨_, rfl⟩
  rw [hW] at HG HZ HB
  rw [show (w.alloc (.cells L 24)).alloc (.cells #[.int .u8 0, .int .u8 0, .int .u8 0, .int .u8 0, .int .u8 0, .int .u8 0, .int .u8 0, .int .u8 0, .int .u8 0, .int .u8 0, .int .u8 0, .int .u8 0, .int .u8 0, .int .u8 0, .int .u8 0, .int .u8 0, .int .u8 0, .int .u8 0, .int .u8 0, .int .u8 0, .int .u8 0, .int .u8 0, .int .u8 0, .int .u8 0, .int .u8 0, .int .u8 0, .int .u8 0, .int .u8 0, .int .u8 0, .int .u8 0, .int .u8 0, .int .u8 0] 24) = W from hW]
  clear hW
  have hq1 := HC1.out
  have hu24 := Try.underlying24
  refine wp_region_held_drew (S := fun w' => w'.rangeAt w.heap.size 0 L.toList) (by kernel_rfl) (range_blk HG.out) (fun hHeld => ?_)
  (refine wpAnyH_take (i := 0) rfl (by kernel_rfl) (by kernel_rfl) (by kernel_rfl) (fun _ _ _ h => h) (yieldsIf_load_mid (by rfl) _ _ rfl _ _ rfl _ _ (fun _ h => h) (by assumption) rfl HLT.out) (by assumption) ?_; (try simp only [Act.put, List.getElem_toArray, List.getElem_cons_zero, List.getElem_cons_succ, List.setIfInBounds_toArray, List.set_cons_zero, List.set_cons_succ]))
  (refine wpAnyH_take (i := 1) (v := ?_) rfl (by kernel_rfl) (by kernel_rfl) (by kernel_rfl) (fun _ _ _ h => h) (Or.inl ⟨by rfl, ?_⟩) (by assumption) ?_; (case' refine_2 => (intro w hSw; go_simp; try with_reducible rfl)); (try simp only [Act.put, List.getElem_toArray, List.getElem_cons_zero, List.getElem_cons_succ, List.setIfInBounds_toArray, List.set_cons_zero, List.set_cons_succ]))
  (refine wpAnyH_take (i := 2) (v := ?_) rfl (by kernel_rfl) (by kernel_rfl) (by kernel_rfl) (fun _ _ _ h => h) (Or.inl ⟨by rfl, ?_⟩) (by assumption) ?_; (case' refine_2 => (intro w hSw; go_simp; try with_reducible rfl)); (try simp only [Act.put, List.getElem_toArray, List.getElem_cons_zero, List.getElem_cons_succ, List.setIfInBounds_toArray, List.set_cons_zero, List.set_cons_succ]))
  (refine wpAnyH_take (i := 3) (v := ?_) rfl (by kernel_rfl) (by kernel_rfl) (by kernel_rfl) (fun _ _ _ h => h) (Or.inl ⟨by rfl, ?_⟩) (by assumption) ?_; (case' refine_2 => (intro w hSw; go_simp; try with_reducible rfl)); (try simp only [Act.put, List.getElem_toArray, List.getElem_cons_zero, List.getElem_cons_succ, List.setIfInBounds_toArray, List.set_cons_zero, List.set_cons_succ]))
  (refine wpAnyH_take (i := 4) (v := ?_) rfl (by kernel_rfl) (by kernel_rfl) (by kernel_rfl) (fun _ _ _ h => h) (Or.inl ⟨by rfl, ?_⟩) (by assumption) ?_; (case' refine_2 => (intro w hSw; go_simp; try with_reducible rfl)); (try simp only [Act.put, List.getElem_toArray, List.getElem_cons_zero, List.getElem_cons_succ, List.setIfInBounds_toArray, List.set_cons_zero, List.set_cons_succ]))
  (refine wpAnyH_take (i := 5) (v := ?_) rfl (by kernel_rfl) (by kernel_rfl) (by kernel_rfl) (fun _ _ _ h => h) (Or.inl ⟨by rfl, ?_⟩) (by assumption) ?_; (case' refine_2 => (intro w hSw; go_simp; try with_reducible rfl)); (try simp only [Act.put, List.getElem_toArray, List.getElem_cons_zero, List.getElem_cons_succ, List.setIfInBounds_toArray, List.set_cons_zero, List.set_cons_succ]))
  refine wpAnyH_ready (rs := [6, 10]) (by kernel_rfl) (by simp) (AllReadyH.cons rfl (fun K hK => ?_) (AllReadyH.cons rfl (fun K hK => ?_) AllReadyH.nil))
  · go_simp
    refine (HU.out _ (below_drew1 HB.out)).mono ?_
    rintro e w3 ⟨rfl, hb⟩
    have m_HZ := Aside0.mk (blk_below HZ.out (below_drew_of hb))
    have m_HG := Aside0.mk (blk_below HG.out (below_drew_of hb))
    have m_HB := Aside0.mk (below_step HB.out (below_drew_of hb))
    clear HZ HG HB
    have HZ := m_HZ
    have HG := m_HG
    have HB := m_HB
    clear m_HZ m_HG m_HB
    clear hb
    (refine Shut.out hK _ _ (range_blk HG.out) (fun hHeld => ?_); clear hK K; (try simp only [Act.put, List.getElem_toArray, List.getElem_cons_zero, List.getElem_cons_succ, List.setIfInBounds_toArray, List.set_cons_zero, List.set_cons_succ]))
    (refine wpAnyH_take (i := 7) (v := ?_) rfl (by kernel_rfl) (by kernel_rfl) (by kernel_rfl) (fun _ _ _ h => h) (Or.inl ⟨by rfl, ?_⟩) (by assumption) ?_; (case' refine_2 => (intro w hSw; go_simp; try with_reducible rfl)); (try simp only [Act.put, List.getElem_toArray, List.getElem_cons_zero, List.getElem_cons_succ, List.setIfInBounds_toArray, List.set_cons_zero, List.set_cons_succ]))
    (refine wpAnyH_take (i := 8) (v := ?_) rfl (by kernel_rfl) (by kernel_rfl) (by kernel_rfl) (fun _ _ _ h => h) (Or.inl ⟨by rfl, ?_⟩) (by assumption) ?_; (case' refine_2 => (intro w hSw; go_simp; try with_reducible rfl)); (try simp only [Act.put, List.getElem_toArray, List.getElem_cons_zero, List.getElem_cons_succ, List.setIfInBounds_toArray, List.set_cons_zero, List.set_cons_succ]))
    (refine wpAnyH_take (i := 9) (v := ?_) rfl (by kernel_rfl) (by kernel_rfl) (by kernel_rfl) (fun _ _ _ h => h) (Or.inl ⟨by rfl, ?_⟩) (by assumption) ?_; (case' refine_2 => (intro w hSw; go_simp; try with_reducible rfl)); (try simp only [Act.put, List.getElem_toArray, List.getElem_cons_zero, List.getElem_cons_succ, List.setIfInBounds_toArray, List.set_cons_zero, List.set_cons_succ]))
    (refine wpAnyH_ready (rs := [10]) (by kernel_rfl) (by simp) (AllReadyH.cons rfl (fun K hK => ?_) AllReadyH.nil); go_simp)
    have HY4 := Aside0.mk (show (w3.alloc (.cells Z32 24)).heap[w3.heap.size]? = some (.cells Z32 24 (0, 0)) from blk_new _ _)
    have hb := below_alloc (Below.refl w3.heap.size w3) (.cells Z32 24)
    have HW3 := Aside0.mk (show w.heap.size + 1 < w3.heap.size from (Array.getElem?_eq_some_iff.1 HZ.out).1)
    have m_HZ := Aside0.mk (blk_below HZ.out hb)
    have m_HG := Aside0.mk (blk_below HG.out hb)
    have m_HB := Aside0.mk (below_step HB.out hb)
    clear HZ HG HB
    have HZ := m_HZ
    have HG := m_HG
    have HB := m_HB
    clear m_HZ m_HG m_HB
    clear hb
    obtain ⟨g4, hg4⟩ : ∃ g, w3.heap.size = g := ⟨_, rfl⟩
    obtain ⟨w4, hw4⟩ : ∃ w4, w3.alloc (.cells Z32 24) = w4 := ⟨_, rfl⟩
    rw [hw4] at HZ HG HB HY4
    rw [show w3.alloc (.cells #[.int .u8 0, .int .u8 0, .int .u8 0, .int .u8 0, .int .u8 0, .int .u8 0, .int .u8 0, .int .u8 0, .int .u8 0, .int .u8 0, .int .u8 0, .int .u8 0, .int .u8 0, .int .u8 0, .int .u8 0, .int .u8 0, .int .u8 0, .int .u8 0, .int .u8 0, .int .u8 0, .int .u8 0, .int .u8 0, .int .u8 0, .int .u8 0, .int .u8 0, .int .u8 0, .int .u8 0, .int .u8 0, .int .u8 0, .int .u8 0, .int .u8 0, .int .u8 0] 24) = w4 from hw4]
    rw [hg4] at HY4 HW3 ⊢
    clear hg4 hw4
    (refine Shut.out hK _ _ (range_blk HG.out) (fun hHeld => ?_); clear hK K; (try simp only [Act.put, List.getElem_toArray, List.getElem_cons_zero, List.getElem_cons_succ, List.setIfInBounds_toArray, List.set_cons_zero, List.set_cons_succ]))
    refine wpAnyH_ready (rs := [11]) (by kernel_rfl) (by simp) (AllReadyH.cons rfl (fun K hK => ?_) AllReadyH.nil)
    rw [if_pos (by rfl)]
    refine wp_store_row 24 (.tmp 12) (.tmp 42) rfl g4 Y rfl rfl 24 Z32 HY4.out HYI.out HYZ.out HYO.out ?_
    have HSY := Aside0.mk (setRow_heap w4 g4 Z32 Y _ _ HY4.out)
    have hne1 : w.heap.size ≠ g4 := by have := HW3.out; omega
    have hne2 : w.heap.size + 1 ≠ g4 := by have := HW3.out; omega
    have m_HZ := Aside0.mk ((setRow_other w4 g4 (w.heap.size + 1) Y hne2).trans HZ.out)
    have m_HG := Aside0.mk ((setRow_other w4 g4 w.heap.size Y hne1).trans HG.out)
    have m_HB := Aside0.mk (show Below w.heap.size w (w4.setRow g4 Y) from below_setRow HB.out (by have := HW3.out; omega) Y)
    clear HZ HG HB hne1 hne2
    have HZ := m_HZ
    have HG := m_HG
    have HB := m_HB
    clear m_HZ m_HG m_HB
    obtain ⟨w5, hw5⟩ : ∃ w5, w4.setRow g4 Y = w5 := ⟨_, rfl⟩
    rw [hw5] at HZ HG HB HSY ⊢
    clear hw5
    (refine Shut.out hK _ _ (range_blk HG.out) (fun hHeld => ?_); clear hK K; (try simp only [Act.put, List.getElem_toArray, List.getElem_cons_zero, List.getElem_cons_succ, List.setIfInBounds_toArray, List.set_cons_zero, List.set_cons_succ]))
    (refine wpAnyH_take (i := 12) (v := ?_) rfl (by kernel_rfl) (by kernel_rfl) (by kernel_rfl) (fun _ _ _ h => h) (Or.inl ⟨by rfl, ?_⟩) (by assumption) ?_; (case' refine_2 => (intro w hSw; go_simp; try with_reducible rfl)); (try simp only [Act.put, List.getElem_toArray, List.getElem_cons_zero, List.getElem_cons_succ, List.setIfInBounds_toArray, List.set_cons_zero, List.set_cons_succ]))
    refine wpAnyH_done (by kernel_rfl) ?_ _
    go_wp2_with (fail)
    have HAT5 := Aside0.mk (AtC.below HAT.out HB.out)
    have HAT6 := Aside0.mk (show AtC w5.drew (ad.add (m * 32)) (nums .u8 x) from HAT5.out)
    refine wp_region_held_drew (S := fun w' => w'.rangeAt g4 0 Y.toList ∧ AtC w' (ad.add (m * 32)) (nums .u8 x)) (by kernel_rfl) (And.intro (range_blk HSY.out) HAT5.out) (fun hHeld => ?_)
    (refine wpAnyH_take (i := 0) rfl (by kernel_rfl) (by kernel_rfl) (by kernel_rfl) (fun _ _ _ h => h) (yieldsIf_load_mid (by rfl) _ _ rfl _ _ rfl _ _ (fun _ h => h.1) (by assumption) rfl HYT.out) (by assumption) ?_; (try simp only [Act.put, List.getElem_toArray, List.getElem_cons_zero, List.getElem_cons_succ, List.setIfInBounds_toArray, List.set_cons_zero, List.set_cons_succ]))
    (refine wpAnyH_take (i := 1) (v := ?_) rfl (by kernel_rfl) (by kernel_rfl) (by kernel_rfl) (fun _ _ _ h => h) (Or.inl ⟨by rfl, ?_⟩) (by assumption) ?_; (case' refine_2 => (intro w hSw; go_simp; try with_reducible rfl)); (try simp only [Act.put, List.getElem_toArray, List.getElem_cons_zero, List.getElem_cons_succ, List.setIfInBounds_toArray, List.set_cons_zero, List.set_cons_succ]))
    (refine wpAnyH_take (i := 2) (v := ?_) rfl (by kernel_rfl) (by kernel_rfl) (by kernel_rfl) (fun _ _ _ h => h) (Or.inl ⟨by rfl, ?_⟩) (by assumption) ?_; (case' refine_2 => (intro w hSw; go_simp; try with_reducible rfl)); (try simp only [Act.put, List.getElem_toArray, List.getElem_cons_zero, List.getElem_cons_succ, List.setIfInBounds_toArray, List.set_cons_zero, List.set_cons_succ]))
    (refine wpAnyH_take (i := 3) (v := ?_) rfl (by kernel_rfl) (by kernel_rfl) (by kernel_rfl) (fun _ _ _ h => h) (Or.inl ⟨by rfl, ?_⟩) (by assumption) ?_; (case' refine_2 => (intro w hSw; go_simp; try with_reducible rfl)); (try simp only [Act.put, List.getElem_toArray, List.getElem_cons_zero, List.getElem_cons_succ, List.setIfInBounds_toArray, List.set_cons_zero, List.set_cons_succ]))
    (refine wpAnyH_take (i := 4) rfl (by kernel_rfl) (by kernel_rfl) (by kernel_rfl) (fun _ _ _ h => h) (yieldsIf_load_at (by rfl) _ _ rfl (ad.add (m * 32)) rfl (nums .u8 x) _ (fun _ h => h.2) (by assumption) rfl HXI.out) (by assumption) ?_; (try simp only [Act.put, List.getElem_toArray, List.getElem_cons_zero, List.getElem_cons_succ, List.setIfInBounds_toArray, List.set_cons_zero, List.set_cons_succ]))
    rw [HXE.out]
    (refine wpAnyH_take (i := 6) (v := ?_) rfl (by kernel_rfl) (by kernel_rfl) (by kernel_rfl) (fun _ _ _ h => h) (Or.inl ⟨by rfl, ?_⟩) (by assumption) ?_; (case' refine_2 => (intro w hSw; go_simp; try with_reducible rfl)); (try simp only [Act.put, List.getElem_toArray, List.getElem_cons_zero, List.getElem_cons_succ, List.setIfInBounds_toArray, List.set_cons_zero, List.set_cons_succ]))
    (refine wpAnyH_ready (rs := [5]) (by kernel_rfl) (by simp) (AllReadyH.cons rfl (fun K hK => ?_) AllReadyH.nil); go_simp)
    refine (HT.out _).mono ?_
    rintro e w6 ⟨rfl, hb⟩
    have hbd := below_drew_of hb
    have m_HZ := Aside0.mk (blk_below HZ.out hbd)
    have m_HB := Aside0.mk (below_step HB.out hbd)
    have HSY6 := Aside0.mk (blk_below HSY.out hbd)
    have HAT7 := Aside0.mk (AtC.below HAT5.out hbd)
    clear HZ HB hb hbd
    have HZ := m_HZ
    have HB := m_HB
    clear m_HZ m_HB
    (refine Shut.out hK _ _ (And.intro (range_blk HSY6.out) HAT7.out) (fun hHeld => ?_); clear hK K; (try simp only [Act.put, List.getElem_toArray, List.getElem_cons_zero, List.getElem_cons_succ, List.setIfInBounds_toArray, List.set_cons_zero, List.set_cons_succ]))
    refine wpAnyH_ready (rs := [7]) (by kernel_rfl) (by simp) (AllReadyH.cons rfl (fun K hK => ?_) AllReadyH.nil)
    rw [if_pos (by rfl)]
    refine wp_store_row 24 (.tmp 8) (.tmp 49) rfl (w.heap.size + 1) D rfl rfl 24 Z32 HZ.out HIF.out HD.out.zs HD.out.one ?_
    have hne3 : g4 ≠ w.heap.size + 1 := by have := HW3.out; omega
    have HSY8 := Aside0.mk ((setRow_other w6 (w.heap.size + 1) g4 D hne3).trans HSY6.out)
    have HAT8 := Aside0.mk (AtC.below HAT.out (show Below w.heap.size w (w6.setRow (w.heap.size + 1) D) from below_setRow HB.out (Nat.le_succ _) D))
    (refine Shut.out hK _ _ (And.intro (range_blk HSY8.out) HAT8.out) (fun hHeld => ?_); clear hK K; (try simp only [Act.put, List.getElem_toArray, List.getElem_cons_zero, List.getElem_cons_succ, List.setIfInBounds_toArray, List.set_cons_zero, List.set_cons_succ]))
    (refine wpAnyH_take (i := 8) (v := ?_) rfl (by kernel_rfl) (by kernel_rfl) (by kernel_rfl) (fun _ _ _ h => h) (Or.inl ⟨by rfl, ?_⟩) (by assumption) ?_; (case' refine_2 => (intro w hSw; go_simp; try with_reducible rfl)); (try simp only [Act.put, List.getElem_toArray, List.getElem_cons_zero, List.getElem_cons_succ, List.setIfInBounds_toArray, List.set_cons_zero, List.set_cons_succ]))
    refine wpAnyH_done (by kernel_rfl) ?_ _
    go_wp2_with (fail)
    have HSR := setRow_heap w6 (w.heap.size + 1) Z32 D _ _ HZ.out
    refine bodyPost_ret (results_ct rfl _ _ (w.heap.size + 1) 24 D (0, 0) _ rfl HSR Try.underlying24 rfl HIF.out) rfl ?_
    exact ⟨rfl, below_setRow HB.out (by omega) D⟩
  · go_simp
    have HY3 := Aside0.mk (show (W.alloc (.cells Z32 24)).drew.heap[W.heap.size]? = some (.cells Z32 24 (0, 0)) from blk_new W _)
    have hb := below_drew (below_alloc (Below.refl W.heap.size W) (.cells Z32 24))
    have HW3 := Aside0.mk (show w.heap.size + 1 < W.heap.size from (Array.getElem?_eq_some_iff.1 HZ.out).1)
    have m_HZ := Aside0.mk (blk_below HZ.out hb)
    have m_HG := Aside0.mk (blk_below HG.out hb)
    have m_HB := Aside0.mk (below_step HB.out hb)
    clear HZ HG HB
    have HZ := m_HZ
    have HG := m_HG
    have HB := m_HB
    clear m_HZ m_HG m_HB
    clear hb
    obtain ⟨g4, hg4⟩ : ∃ g, W.heap.size = g := ⟨_, rfl⟩
    obtain ⟨w3, hw3⟩ : ∃ w3, (W.alloc (.cells Z32 24)).drew = w3 := ⟨_, rfl⟩
    rw [hw3] at HZ HG HB HY3
    rw [show (W.alloc (.cells #[.int .u8 0, .int .u8 0, .int .u8 0, .int .u8 0, .int .u8 0, .int .u8 0, .int .u8 0, .int .u8 0, .int .u8 0, .int .u8 0, .int .u8 0, .int .u8 0, .int .u8 0, .int .u8 0, .int .u8 0, .int .u8 0, .int .u8 0, .int .u8 0, .int .u8 0, .int .u8 0, .int .u8 0, .int .u8 0, .int .u8 0, .int .u8 0, .int .u8 0, .int .u8 0, .int .u8 0, .int .u8 0, .int .u8 0, .int .u8 0, .int .u8 0, .int .u8 0] 24)).drew = w3 from hw3]
    rw [hg4] at HY3 HW3 ⊢
    clear hg4 hw3
    (refine Shut.out hK _ _ (range_blk HG.out) (fun hHeld => ?_); clear hK K; (try simp only [Act.put, List.getElem_toArray, List.getElem_cons_zero, List.getElem_cons_succ, List.setIfInBounds_toArray, List.set_cons_zero, List.set_cons_succ]))
    (refine wpAnyH_ready (rs := [6]) (by kernel_rfl) (by simp) (AllReadyH.cons rfl (fun K hK => ?_) AllReadyH.nil); go_simp)
    refine (HU.out _ HB.out).mono ?_
    rintro e w4 ⟨rfl, hb⟩
    have HY4 := Aside0.mk (blk_below HY3.out hb)
    have m_HZ := Aside0.mk (blk_below HZ.out hb)
    have m_HG := Aside0.mk (blk_below HG.out hb)
    have m_HB := Aside0.mk (below_step HB.out hb)
    clear HZ HG HB
    have HZ := m_HZ
    have HG := m_HG
    have HB := m_HB
    clear m_HZ m_HG m_HB
    clear hb HY3
    (refine Shut.out hK _ _ (range_blk HG.out) (fun hHeld => ?_); clear hK K; (try simp only [Act.put, List.getElem_toArray, List.getElem_cons_zero, List.getElem_cons_succ, List.setIfInBounds_toArray, List.set_cons_zero, List.set_cons_succ]))
    (refine wpAnyH_take (i := 7) (v := ?_) rfl (by kernel_rfl) (by kernel_rfl) (by kernel_rfl) (fun _ _ _ h => h) (Or.inl ⟨by rfl, ?_⟩) (by assumption) ?_; (case' refine_2 => (intro w hSw; go_simp; try with_reducible rfl)); (try simp only [Act.put, List.getElem_toArray, List.getElem_cons_zero, List.getElem_cons_succ, List.setIfInBounds_toArray, List.set_cons_zero, List.set_cons_succ]))
    (refine wpAnyH_take (i := 8) (v := ?_) rfl (by kernel_rfl) (by kernel_rfl) (by kernel_rfl) (fun _ _ _ h => h) (Or.inl ⟨by rfl, ?_⟩) (by assumption) ?_; (case' refine_2 => (intro w hSw; go_simp; try with_reducible rfl)); (try simp only [Act.put, List.getElem_toArray, List.getElem_cons_zero, List.getElem_cons_succ, List.setIfInBounds_toArray, List.set_cons_zero, List.set_cons_succ]))
    (refine wpAnyH_take (i := 9) (v := ?_) rfl (by kernel_rfl) (by kernel_rfl) (by kernel_rfl) (fun _ _ _ h => h) (Or.inl ⟨by rfl, ?_⟩) (by assumption) ?_; (case' refine_2 => (intro w hSw; go_simp; try with_reducible rfl)); (try simp only [Act.put, List.getElem_toArray, List.getElem_cons_zero, List.getElem_cons_succ, List.setIfInBounds_toArray, List.set_cons_zero, List.set_cons_succ]))
    refine wpAnyH_ready (rs := [11]) (by kernel_rfl) (by simp) (AllReadyH.cons rfl (fun K hK => ?_) AllReadyH.nil)
    rw [if_pos (by rfl)]
    refine wp_store_row 24 (.tmp 12) (.tmp 42) rfl g4 Y rfl rfl 24 Z32 HY4.out HYI.out HYZ.out HYO.out ?_
    have HSY := Aside0.mk (setRow_heap w4 g4 Z32 Y _ _ HY4.out)
    have hne1 : w.heap.size ≠ g4 := by have := HW3.out; omega
    have hne2 : w.heap.size + 1 ≠ g4 := by have := HW3.out; omega
    have m_HZ := Aside0.mk ((setRow_other w4 g4 (w.heap.size + 1) Y hne2).trans HZ.out)
    have m_HG := Aside0.mk ((setRow_other w4 g4 w.heap.size Y hne1).trans HG.out)
    have m_HB := Aside0.mk (show Below w.heap.size w (w4.setRow g4 Y) from below_setRow HB.out (by have := HW3.out; omega) Y)
    clear HZ HG HB hne1 hne2
    have HZ := m_HZ
    have HG := m_HG
    have HB := m_HB
    clear m_HZ m_HG m_HB
    obtain ⟨w5, hw5⟩ : ∃ w5, w4.setRow g4 Y = w5 := ⟨_, rfl⟩
    rw [hw5] at HZ HG HB HSY ⊢
    clear hw5
    (refine Shut.out hK _ _ (range_blk HG.out) (fun hHeld => ?_); clear hK K; (try simp only [Act.put, List.getElem_toArray, List.getElem_cons_zero, List.getElem_cons_succ, List.setIfInBounds_toArray, List.set_cons_zero, List.set_cons_succ]))
    (refine wpAnyH_take (i := 12) (v := ?_) rfl (by kernel_rfl) (by kernel_rfl) (by kernel_rfl) (fun _ _ _ h => h) (Or.inl ⟨by rfl, ?_⟩) (by assumption) ?_; (case' refine_2 => (intro w hSw; go_simp; try with_reducible rfl)); (try simp only [Act.put, List.getElem_toArray, List.getElem_cons_zero, List.getElem_cons_succ, List.setIfInBounds_toArray, List.set_cons_zero, List.set_cons_succ]))
    refine wpAnyH_done (by kernel_rfl) ?_ _
    go_wp2_with (fail)
    have HAT5 := Aside0.mk (AtC.below HAT.out HB.out)
    have HAT6 := Aside0.mk (show AtC w5.drew (ad.add (m * 32)) (nums .u8 x) from HAT5.out)
    refine wp_region_held_drew (S := fun w' => w'.rangeAt g4 0 Y.toList ∧ AtC w' (ad.add (m * 32)) (nums .u8 x)) (by kernel_rfl) (And.intro (range_blk HSY.out) HAT5.out) (fun hHeld => ?_)
    (refine wpAnyH_take (i := 0) rfl (by kernel_rfl) (by kernel_rfl) (by kernel_rfl) (fun _ _ _ h => h) (yieldsIf_load_mid (by rfl) _ _ rfl _ _ rfl _ _ (fun _ h => h.1) (by assumption) rfl HYT.out) (by assumption) ?_; (try simp only [Act.put, List.getElem_toArray, List.getElem_cons_zero, List.getElem_cons_succ, List.setIfInBounds_toArray, List.set_cons_zero, List.set_cons_succ]))
    (refine wpAnyH_take (i := 1) (v := ?_) rfl (by kernel_rfl) (by kernel_rfl) (by kernel_rfl) (fun _ _ _ h => h) (Or.inl ⟨by rfl, ?_⟩) (by assumption) ?_; (case' refine_2 => (intro w hSw; go_simp; try with_reducible rfl)); (try simp only [Act.put, List.getElem_toArray, List.getElem_cons_zero, List.getElem_cons_succ, List.setIfInBounds_toArray, List.set_cons_zero, List.set_cons_succ]))
    (refine wpAnyH_take (i := 2) (v := ?_) rfl (by kernel_rfl) (by kernel_rfl) (by kernel_rfl) (fun _ _ _ h => h) (Or.inl ⟨by rfl, ?_⟩) (by assumption) ?_; (case' refine_2 => (intro w hSw; go_simp; try with_reducible rfl)); (try simp only [Act.put, List.getElem_toArray, List.getElem_cons_zero, List.getElem_cons_succ, List.setIfInBounds_toArray, List.set_cons_zero, List.set_cons_succ]))
    (refine wpAnyH_take (i := 3) (v := ?_) rfl (by kernel_rfl) (by kernel_rfl) (by kernel_rfl) (fun _ _ _ h => h) (Or.inl ⟨by rfl, ?_⟩) (by assumption) ?_; (case' refine_2 => (intro w hSw; go_simp; try with_reducible rfl)); (try simp only [Act.put, List.getElem_toArray, List.getElem_cons_zero, List.getElem_cons_succ, List.setIfInBounds_toArray, List.set_cons_zero, List.set_cons_succ]))
    (refine wpAnyH_take (i := 4) rfl (by kernel_rfl) (by kernel_rfl) (by kernel_rfl) (fun _ _ _ h => h) (yieldsIf_load_at (by rfl) _ _ rfl (ad.add (m * 32)) rfl (nums .u8 x) _ (fun _ h => h.2) (by assumption) rfl HXI.out) (by assumption) ?_; (try simp only [Act.put, List.getElem_toArray, List.getElem_cons_zero, List.getElem_cons_succ, List.setIfInBounds_toArray, List.set_cons_zero, List.set_cons_succ]))
    rw [HXE.out]
    (refine wpAnyH_take (i := 6) (v := ?_) rfl (by kernel_rfl) (by kernel_rfl) (by kernel_rfl) (fun _ _ _ h => h) (Or.inl ⟨by rfl, ?_⟩) (by assumption) ?_; (case' refine_2 => (intro w hSw; go_simp; try with_reducible rfl)); (try simp only [Act.put, List.getElem_toArray, List.getElem_cons_zero, List.getElem_cons_succ, List.setIfInBounds_toArray, List.set_cons_zero, List.set_cons_succ]))
    (refine wpAnyH_ready (rs := [5]) (by kernel_rfl) (by simp) (AllReadyH.cons rfl (fun K hK => ?_) AllReadyH.nil); go_simp)
    refine (HT.out _).mono ?_
    rintro e w6 ⟨rfl, hb⟩
    have hbd := below_drew_of hb
    have m_HZ := Aside0.mk (blk_below HZ.out hbd)
    have m_HB := Aside0.mk (below_step HB.out hbd)
    have HSY6 := Aside0.mk (blk_below HSY.out hbd)
    have HAT7 := Aside0.mk (AtC.below HAT5.out hbd)
    clear HZ HB hb hbd
    have HZ := m_HZ
    have HB := m_HB
    clear m_HZ m_HB
    (refine Shut.out hK _ _ (And.intro (range_blk HSY6.out) HAT7.out) (fun hHeld => ?_); clear hK K; (try simp only [Act.put, List.getElem_toArray, List.getElem_cons_zero, List.getElem_cons_succ, List.setIfInBounds_toArray, List.set_cons_zero, List.set_cons_succ]))
    refine wpAnyH_ready (rs := [7]) (by kernel_rfl) (by simp) (AllReadyH.cons rfl (fun K hK => ?_) AllReadyH.nil)
    rw [if_pos (by rfl)]
    refine wp_store_row 24 (.tmp 8) (.tmp 49) rfl (w.heap.size + 1) D rfl rfl 24 Z32 HZ.out HIF.out HD.out.zs HD.out.one ?_
    have hne3 : g4 ≠ w.heap.size + 1 := by have := HW3.out; omega
    have HSY8 := Aside0.mk ((setRow_other w6 (w.heap.size + 1) g4 D hne3).trans HSY6.out)
    have HAT8 := Aside0.mk (AtC.below HAT.out (show Below w.heap.size w (w6.setRow (w.heap.size + 1) D) from below_setRow HB.out (Nat.le_succ _) D))
    (refine Shut.out hK _ _ (And.intro (range_blk HSY8.out) HAT8.out) (fun hHeld => ?_); clear hK K; (try simp only [Act.put, List.getElem_toArray, List.getElem_cons_zero, List.getElem_cons_succ, List.setIfInBounds_toArray, List.set_cons_zero, List.set_cons_succ]))
    (refine wpAnyH_take (i := 8) (v := ?_) rfl (by kernel_rfl) (by kernel_rfl) (by kernel_rfl) (fun _ _ _ h => h) (Or.inl ⟨by rfl, ?_⟩) (by assumption) ?_; (case' refine_2 => (intro w hSw; go_simp; try with_reducible rfl)); (try simp only [Act.put, List.getElem_toArray, List.getElem_cons_zero, List.getElem_cons_succ, List.setIfInBounds_toArray, List.set_cons_zero, List.set_cons_succ]))
    refine wpAnyH_done (by kernel_rfl) ?_ _
    go_wp2_with (fail)
    have HSR := setRow_heap w6 (w.heap.size + 1) Z32 D _ _ HZ.out
    refine bodyPost_ret (results_ct rfl _ _ (w.heap.size + 1) 24 D (0, 0) _ rfl HSR Try.underlying24 rfl HIF.out) rfl ?_
    exact ⟨rfl, below_setRow HB.out (by omega) D⟩
set_option maxHeartbeats 4000000 in
set_option maxRecDepth 100000 in
theorem up_right_c (leaf : Sm) (hl : leaf.length = 32) (d x : Sm) (hd : d.length = 32) (hx : x.length = 32) (hdu : U8' d) (hxu : U8' x) (b : Bool) (i n k : Nat) (hk2 : hlf n = k) (h2 : 2 ≤ n) (hm : n ≤ 1048576) (hik : k ≤ i) (hin : i < n) (ad : Addr) (m c : Nat) (hc : m + 1 ≤ c) (hmm : m ≤ 1000000000) (w : World) (hat : AtC w (ad.add (m * 32)) (nums .u8 x))
    (hU : ∀ W, Below w.heap.size w W → Calls Try.prog 55 #[sumV leaf, .int .i64 ((i : Int) - (k : Int)), .int .i64 ((n : Int) - (k : Int)), .slice (some ad) m c] W (Ret2 W d b)) :
    Calls Try.prog 55 #[sumV leaf, .int .i64 (i : Int), .int .i64 (n : Int), .slice (some ad) (m + 1) c] w (Ret2 w (nodeH x d) b) := by
  obtain ⟨L, hL⟩ := sumF leaf hl
  have HL := Aside0.mk hL
  have HLI := Aside0.mk hL.info
  have HLT := Aside0.mk hL.infoT
  have HG := Aside0.mk (show ((w.alloc (.cells L 24)).alloc (.cells Z32 24)).heap[w.heap.size]? = some (.cells L 24 (0, 0)) from blk_alloc (blk_new _ _) _)
  have HZ := Aside0.mk (show ((w.alloc (.cells L 24)).alloc (.cells Z32 24)).heap[w.heap.size + 1]? = some (.cells Z32 24 (0, 0)) from second_new' _ _ _)
  have HB := Aside0.mk (show Below w.heap.size w ((w.alloc (.cells L 24)).alloc (.cells Z32 24)) from below_alloc (below_alloc (Below.refl _ _) _) _)
  obtain ⟨D, hD⟩ := sumF (nodeH x d) (nodeH_len _ _)
  have HD := Aside0.mk hD
  have HIF := Aside0.mk hD.info
  obtain ⟨X, hX⟩ := sumF x hx
  obtain ⟨Y, hY⟩ := sumF d hd
  have HXI := Aside0.mk hX.infoL
  have HYI := Aside0.mk hY.info
  have HYT := Aside0.mk hY.infoT
  have HXE := Aside0.mk hX.eq
  have HYZ := Aside0.mk hY.zs
  have HYO := Aside0.mk hY.one
  have HT := Aside0.mk (two_c x d hx hd hxu hdu)
  have HAT := Aside0.mk hat
  have hk := hlf_lt h2
  have HKB := Aside0.mk (fun W => below_c n h2 (by omega) W)
  rw [hk2] at HKB hk
  unfold Ret at HT
  unfold Ret2 at hU ⊢
  rw [hX.v] at HT
  rw [hY.v] at HT hU
  rw [hL.v] at hU ⊢
  rw [hD.v] at HT ⊢
  have HU := Aside0.mk hU
  have hc1 := cut_a (some ad) (m + 1) c m (by omega) hc
  have d1 : ((n : Int) == 1) = false := by simp; omega
  have d2 : decide ((m : Int) < 0) = false := by simp
  have q1 : ((m : Int) < (m : Int) + 1) = True := eq_true (by omega)
  have d3 : decide ((i : Int) < (k : Int)) = false := by simp; omega
  have HC1 := Aside0.mk hc1
  have HE1 := Aside0.mk (show IntKind.i64.wrap ((i : Int) - (k : Int)) = (i : Int) - (k : Int) by rw [i64_w]; exact w64 (by omega) (by omega))
  have HE2 := Aside0.mk (show IntKind.i64.wrap ((n : Int) - (k : Int)) = (n : Int) - (k : Int) by rw [i64_w]; exact w64 (by omega) (by omega))
  have HNUM := Aside0.mk (And.intro hc (And.intro hin (And.intro hm (And.intro hmm (And.intro hk h2)))))
  clear hD hX hY hL hU hl hd hx hdu hxu hk2 hc1 hat
  go_enter Try.func55, Try.ntmps55
  go_wp2_with (go_at_call 57; refine (HKB.out _).mono ?_; rintro e w' ⟨rfl, rfl⟩)
  obtain ⟨W, hW⟩ : ∃ W, ((w.alloc (.cells L 24)).alloc (.cells Z32 24)) = W := ⟨_, rfl⟩
  rw [hW] at HG HZ HB
  rw [show (w.alloc (.cells L 24)).alloc (.cells #[.int .u8 0, .int .u8 0, .int .u8 0, .int .u8 0, .int .u8 0, .int .u8 0, .int .u8 0, .int .u8 0, .int .u8 0, .int .u8 0, .int .u8 0, .int .u8 0, .int .u8 0, .int .u8 0, .int .u8 0, .int .u8 0, .int .u8 0, .int .u8 0, .int .u8 0, .int .u8 0, .int .u8 0, .int .u8 0, .int .u8 0, .int .u8 0, .int .u8 0, .int .u8 0, .int .u8 0, .int .u8 0, .int .u8 0, .int .u8 0, .int .u8 0, .int .u8 0] 24) = W from hW]
  clear hW
  have hq1 := HC1.out
  have hu24 := Try.underlying24
  refine wp_region_held_drew (S := fun w' => w'.rangeAt w.heap.size 0 L.toList) (by kernel_rfl) (range_blk HG.out) (fun hHeld => ?_)
  (refine wpAnyH_take (i := 0) rfl (by kernel_rfl) (by kernel_rfl) (by kernel_rfl) (fun _ _ _ h => h) (yieldsIf_load_mid (by rfl) _ _ rfl _ _ rfl _ _ (fun _ h => h) (by assumption) rfl HLT.out) (by assumption) ?_; (try simp only [Act.put, List.getElem_toArray, List.getElem_cons_zero, List.getElem_cons_succ, List.setIfInBounds_toArray, List.set_cons_zero, List.set_cons_succ]))
  (refine wpAnyH_take (i := 1) (v := ?_) rfl (by kernel_rfl) (by kernel_rfl) (by kernel_rfl) (fun _ _ _ h => h) (Or.inl ⟨by rfl, ?_⟩) (by assumption) ?_; (case' refine_2 => (intro w hSw; go_simp; try with_reducible rfl)); (try simp only [Act.put, List.getElem_toArray, List.getElem_cons_zero, List.getElem_cons_succ, List.setIfInBounds_toArray, List.set_cons_zero, List.set_cons_succ]))
  (refine wpAnyH_take (i := 2) (v := ?_) rfl (by kernel_rfl) (by kernel_rfl) (by kernel_rfl) (fun _ _ _ h => h) (Or.inl ⟨by rfl, ?_⟩) (by assumption) ?_; (case' refine_2 => (intro w hSw; go_simp; try with_reducible rfl)); (try simp only [Act.put, List.getElem_toArray, List.getElem_cons_zero, List.getElem_cons_succ, List.setIfInBounds_toArray, List.set_cons_zero, List.set_cons_succ]))
  (refine wpAnyH_take (i := 3) (v := ?_) rfl (by kernel_rfl) (by kernel_rfl) (by kernel_rfl) (fun _ _ _ h => h) (Or.inl ⟨by rfl, ?_⟩) (by assumption) ?_; (case' refine_2 => (intro w hSw; go_simp; try with_reducible rfl)); (try simp only [Act.put, List.getElem_toArray, List.getElem_cons_zero, List.getElem_cons_succ, List.setIfInBounds_toArray, List.set_cons_zero, List.set_cons_succ]))
  (refine wpAnyH_take (i := 4) (v := ?_) rfl (by kernel_rfl) (by kernel_rfl) (by kernel_rfl) (fun _ _ _ h => h) (Or.inl ⟨by rfl, ?_⟩) (by assumption) ?_; (case' refine_2 => (intro w hSw; go_simp; try with_reducible rfl)); (try simp only [Act.put, List.getElem_toArray, List.getElem_cons_zero, List.getElem_cons_succ, List.setIfInBounds_toArray, List.set_cons_zero, List.set_cons_succ]))
  (refine wpAnyH_take (i := 5) (v := ?_) rfl (by kernel_rfl) (by kernel_rfl) (by kernel_rfl) (fun _ _ _ h => h) (Or.inl ⟨by rfl, ?_⟩) (by assumption) ?_; (case' refine_2 => (intro w hSw; go_simp; try with_reducible rfl)); (try simp only [Act.put, List.getElem_toArray, List.getElem_cons_zero, List.getElem_cons_succ, List.setIfInBounds_toArray, List.set_cons_zero, List.set_cons_succ]))
  (refine wpAnyH_take (i := 6) (v := ?_) rfl (by kernel_rfl) (by kernel_rfl) (by kernel_rfl) (fun _ _ _ h => h) (Or.inl ⟨by rfl, ?_⟩) (by assumption) ?_; (case' refine_2 => (intro w hSw; go_simp; try with_reducible rfl)); (try simp only [Act.put, List.getElem_toArray, List.getElem_cons_zero, List.getElem_cons_succ, List.setIfInBounds_toArray, List.set_cons_zero, List.set_cons_succ]))
  (refine wpAnyH_take (i := 7) (v := ?_) rfl (by kernel_rfl) (by kernel_rfl) (by kernel_rfl) (fun _ _ _ h => h) (Or.inl ⟨by rfl, ?_⟩) (by assumption) ?_; (case' refine_2 => (intro w hSw; go_simp; try with_reducible rfl)); (try simp only [Act.put, List.getElem_toArray, List.getElem_cons_zero, List.getElem_cons_succ, List.setIfInBounds_toArray, List.set_cons_zero, List.set_cons_succ]))
  (refine wpAnyH_take (i := 8) (v := ?_) rfl (by kernel_rfl) (by kernel_rfl) (by kernel_rfl) (fun _ _ _ h => h) (Or.inl ⟨by rfl, ?_⟩) (by assumption) ?_; (case' refine_2 => (intro w hSw; go_simp; try with_reducible rfl)); (try simp only [Act.put, List.getElem_toArray, List.getElem_cons_zero, List.getElem_cons_succ, List.setIfInBounds_toArray, List.set_cons_zero, List.set_cons_succ]))
  (refine wpAnyH_take (i := 9) (v := ?_) rfl (by kernel_rfl) (by kernel_rfl) (by kernel_rfl) (fun _ _ _ h => h) (Or.inl ⟨by rfl, ?_⟩) (by assumption) ?_; (case' refine_2 => (intro w hSw; go_simp; try with_reducible rfl)); (try simp only [Act.put, List.getElem_toArray, List.getElem_cons_zero, List.getElem_cons_succ, List.setIfInBounds_toArray, List.set_cons_zero, List.set_cons_succ]))
  refine wpAnyH_ready (rs := [10, 14]) (by kernel_rfl) (by simp) (AllReadyH.cons rfl (fun K hK => ?_) (AllReadyH.cons rfl (fun K hK => ?_) AllReadyH.nil))
  · go_simp
    rw [HE1.out, HE2.out]
    refine (HU.out _ (below_drew1 HB.out)).mono ?_
    rintro e w3 ⟨rfl, hb⟩
    have m_HZ := Aside0.mk (blk_below HZ.out (below_drew_of hb))
    have m_HG := Aside0.mk (blk_below HG.out (below_drew_of hb))
    have m_HB := Aside0.mk (below_step HB.out (below_drew_of hb))
    clear HZ HG HB
    have HZ := m_HZ
    have HG := m_HG
    have HB := m_HB
    clear m_HZ m_HG m_HB
    clear hb
    (refine Shut.out hK _ _ (range_blk HG.out) (fun hHeld => ?_); clear hK K; (try simp only [Act.put, List.getElem_toArray, List.getElem_cons_zero, List.getElem_cons_succ, List.setIfInBounds_toArray, List.set_cons_zero, List.set_cons_succ]))
    (refine wpAnyH_take (i := 11) (v := ?_) rfl (by kernel_rfl) (by kernel_rfl) (by kernel_rfl) (fun _ _ _ h => h) (Or.inl ⟨by rfl, ?_⟩) (by assumption) ?_; (case' refine_2 => (intro w hSw; go_simp; try with_reducible rfl)); (try simp only [Act.put, List.getElem_toArray, List.getElem_cons_zero, List.getElem_cons_succ, List.setIfInBounds_toArray, List.set_cons_zero, List.set_cons_succ]))
    (refine wpAnyH_take (i := 12) (v := ?_) rfl (by kernel_rfl) (by kernel_rfl) (by kernel_rfl) (fun _ _ _ h => h) (Or.inl ⟨by rfl, ?_⟩) (by assumption) ?_; (case' refine_2 => (intro w hSw; go_simp; try with_reducible rfl)); (try simp only [Act.put, List.getElem_toArray, List.getElem_cons_zero, List.getElem_cons_succ, List.setIfInBounds_toArray, List.set_cons_zero, List.set_cons_succ]))
    (refine wpAnyH_take (i := 13) (v := ?_) rfl (by kernel_rfl) (by kernel_rfl) (by kernel_rfl) (fun _ _ _ h => h) (Or.inl ⟨by rfl, ?_⟩) (by assumption) ?_; (case' refine_2 => (intro w hSw; go_simp; try with_reducible rfl)); (try simp only [Act.put, List.getElem_toArray, List.getElem_cons_zero, List.getElem_cons_succ, List.setIfInBounds_toArray, List.set_cons_zero, List.set_cons_succ]))
    (refine wpAnyH_ready (rs := [14]) (by kernel_rfl) (by simp) (AllReadyH.cons rfl (fun K hK => ?_) AllReadyH.nil); go_simp)
    have HY4 := Aside0.mk (show (w3.alloc (.cells Z32 24)).heap[w3.heap.size]? = some (.cells Z32 24 (0, 0)) from blk_new _ _)
    have hb := below_alloc (Below.refl w3.heap.size w3) (.cells Z32 24)
    have HW3 := Aside0.mk (show w.heap.size + 1 < w3.heap.size from (Array.getElem?_eq_some_iff.1 HZ.out).1)
    have m_HZ := Aside0.mk (blk_below HZ.out hb)
    have m_HG := Aside0.mk (blk_below HG.out hb)
    have m_HB := Aside0.mk (below_step HB.out hb)
    clear HZ HG HB
    have HZ := m_HZ
    have HG := m_HG
    have HB := m_HB
    clear m_HZ m_HG m_HB
    clear hb
    obtain ⟨g4, hg4⟩ : ∃ g, w3.heap.size = g := ⟨_, rfl⟩
    obtain ⟨w4, hw4⟩ : ∃ w4, w3.alloc (.cells Z32 24) = w4 := ⟨_, rfl⟩
    rw [hw4] at HZ HG HB HY4
    rw [show w3.alloc (.cells #[.int .u8 0, .int .u8 0, .int .u8 0, .int .u8 0, .int .u8 0, .int .u8 0, .int .u8 0, .int .u8 0, .int .u8 0, .int .u8 0, .int .u8 0, .int .u8 0, .int .u8 0, .int .u8 0, .int .u8 0, .int .u8 0, .int .u8 0, .int .u8 0, .int .u8 0, .int .u8 0, .int .u8 0, .int .u8 0, .int .u8 0, .int .u8 0, .int .u8 0, .int .u8 0, .int .u8 0, .int .u8 0, .int .u8 0, .int .u8 0, .int .u8 0, .int .u8 0] 24) = w4 from hw4]
    rw [hg4] at HY4 HW3 ⊢
    clear hg4 hw4
    (refine Shut.out hK _ _ (range_blk HG.out) (fun hHeld => ?_); clear hK K; (try simp only [Act.put, List.getElem_toArray, List.getElem_cons_zero, List.getElem_cons_succ, List.setIfInBounds_toArray, List.set_cons_zero, List.set_cons_succ]))
    refine wpAnyH_ready (rs := [15]) (by kernel_rfl) (by simp) (AllReadyH.cons rfl (fun K hK => ?_) AllReadyH.nil)
    rw [if_pos (by rfl)]
    refine wp_store_row 24 (.tmp 14) (.tmp 63) rfl g4 Y rfl rfl 24 Z32 HY4.out HYI.out HYZ.out HYO.out ?_
    have HSY := Aside0.mk (setRow_heap w4 g4 Z32 Y _ _ HY4.out)
    have hne1 : w.heap.size ≠ g4 := by have := HW3.out; omega
    have hne2 : w.heap.size + 1 ≠ g4 := by have := HW3.out; omega
    have m_HZ := Aside0.mk ((setRow_other w4 g4 (w.heap.size + 1) Y hne2).trans HZ.out)
    have m_HG := Aside0.mk ((setRow_other w4 g4 w.heap.size Y hne1).trans HG.out)
    have m_HB := Aside0.mk (show Below w.heap.size w (w4.setRow g4 Y) from below_setRow HB.out (by have := HW3.out; omega) Y)
    clear HZ HG HB hne1 hne2
    have HZ := m_HZ
    have HG := m_HG
    have HB := m_HB
    clear m_HZ m_HG m_HB
    obtain ⟨w5, hw5⟩ : ∃ w5, w4.setRow g4 Y = w5 := ⟨_, rfl⟩
    rw [hw5] at HZ HG HB HSY ⊢
    clear hw5
    (refine Shut.out hK _ _ (range_blk HG.out) (fun hHeld => ?_); clear hK K; (try simp only [Act.put, List.getElem_toArray, List.getElem_cons_zero, List.getElem_cons_succ, List.setIfInBounds_toArray, List.set_cons_zero, List.set_cons_succ]))
    (refine wpAnyH_take (i := 16) (v := ?_) rfl (by kernel_rfl) (by kernel_rfl) (by kernel_rfl) (fun _ _ _ h => h) (Or.inl ⟨by rfl, ?_⟩) (by assumption) ?_; (case' refine_2 => (intro w hSw; go_simp; try with_reducible rfl)); (try simp only [Act.put, List.getElem_toArray, List.getElem_cons_zero, List.getElem_cons_succ, List.setIfInBounds_toArray, List.set_cons_zero, List.set_cons_succ]))
    refine wpAnyH_done (by kernel_rfl) ?_ _
    go_wp2_with (fail)
    have HAT5 := Aside0.mk (AtC.below HAT.out HB.out)
    have HAT6 := Aside0.mk (show AtC w5.drew (ad.add (m * 32)) (nums .u8 x) from HAT5.out)
    refine wp_region_held_drew (S := fun w' => w'.rangeAt g4 0 Y.toList ∧ AtC w' (ad.add (m * 32)) (nums .u8 x)) (by kernel_rfl) (And.intro (range_blk HSY.out) HAT5.out) (fun hHeld => ?_)
    (refine wpAnyH_take (i := 4) rfl (by kernel_rfl) (by kernel_rfl) (by kernel_rfl) (fun _ _ _ h => h) (yieldsIf_load_mid (by rfl) _ _ rfl _ _ rfl _ _ (fun _ h => h.1) (by assumption) rfl HYT.out) (by assumption) ?_; (try simp only [Act.put, List.getElem_toArray, List.getElem_cons_zero, List.getElem_cons_succ, List.setIfInBounds_toArray, List.set_cons_zero, List.set_cons_succ]))
    (refine wpAnyH_take (i := 0) (v := ?_) rfl (by kernel_rfl) (by kernel_rfl) (by kernel_rfl) (fun _ _ _ h => h) (Or.inl ⟨by rfl, ?_⟩) (by assumption) ?_; (case' refine_2 => (intro w hSw; go_simp; try with_reducible rfl)); (try simp only [Act.put, List.getElem_toArray, List.getElem_cons_zero, List.getElem_cons_succ, List.setIfInBounds_toArray, List.set_cons_zero, List.set_cons_succ]))
    (refine wpAnyH_take (i := 1) (v := ?_) rfl (by kernel_rfl) (by kernel_rfl) (by kernel_rfl) (fun _ _ _ h => h) (Or.inl ⟨by rfl, ?_⟩) (by assumption) ?_; (case' refine_2 => (intro w hSw; go_simp; try with_reducible rfl)); (try simp only [Act.put, List.getElem_toArray, List.getElem_cons_zero, List.getElem_cons_succ, List.setIfInBounds_toArray, List.set_cons_zero, List.set_cons_succ]))
    (refine wpAnyH_take (i := 2) (v := ?_) rfl (by kernel_rfl) (by kernel_rfl) (by kernel_rfl) (fun _ _ _ h => h) (Or.inl ⟨by rfl, ?_⟩) (by assumption) ?_; (case' refine_2 => (intro w hSw; go_simp; try with_reducible rfl)); (try simp only [Act.put, List.getElem_toArray, List.getElem_cons_zero, List.getElem_cons_succ, List.setIfInBounds_toArray, List.set_cons_zero, List.set_cons_succ]))
    (refine wpAnyH_take (i := 3) rfl (by kernel_rfl) (by kernel_rfl) (by kernel_rfl) (fun _ _ _ h => h) (yieldsIf_load_at (by rfl) _ _ rfl (ad.add (m * 32)) rfl (nums .u8 x) _ (fun _ h => h.2) (by assumption) rfl HXI.out) (by assumption) ?_; (try simp only [Act.put, List.getElem_toArray, List.getElem_cons_zero, List.getElem_cons_succ, List.setIfInBounds_toArray, List.set_cons_zero, List.set_cons_succ]))
    rw [HXE.out]
    (refine wpAnyH_take (i := 6) (v := ?_) rfl (by kernel_rfl) (by kernel_rfl) (by kernel_rfl) (fun _ _ _ h => h) (Or.inl ⟨by rfl, ?_⟩) (by assumption) ?_; (case' refine_2 => (intro w hSw; go_simp; try with_reducible rfl)); (try simp only [Act.put, List.getElem_toArray, List.getElem_cons_zero, List.getElem_cons_succ, List.setIfInBounds_toArray, List.set_cons_zero, List.set_cons_succ]))
    (refine wpAnyH_ready (rs := [5]) (by kernel_rfl) (by simp) (AllReadyH.cons rfl (fun K hK => ?_) AllReadyH.nil); go_simp)
    refine (HT.out _).mono ?_
    rintro e w6 ⟨rfl, hb⟩
    have hbd := below_drew_of hb
    have m_HZ := Aside0.mk (blk_below HZ.out hbd)
    have m_HB := Aside0.mk (below_step HB.out hbd)
    have HSY6 := Aside0.mk (blk_below HSY.out hbd)
    have HAT7 := Aside0.mk (AtC.below HAT5.out hbd)
    clear HZ HB hb hbd
    have HZ := m_HZ
    have HB := m_HB
    clear m_HZ m_HB
    (refine Shut.out hK _ _ (And.intro (range_blk HSY6.out) HAT7.out) (fun hHeld => ?_); clear hK K; (try simp only [Act.put, List.getElem_toArray, List.getElem_cons_zero, List.getElem_cons_succ, List.setIfInBounds_toArray, List.set_cons_zero, List.set_cons_succ]))
    refine wpAnyH_ready (rs := [7]) (by kernel_rfl) (by simp) (AllReadyH.cons rfl (fun K hK => ?_) AllReadyH.nil)
    rw [if_pos (by rfl)]
    refine wp_store_row 24 (.tmp 8) (.tmp 70) rfl (w.heap.size + 1) D rfl rfl 24 Z32 HZ.out HIF.out HD.out.zs HD.out.one ?_
    have hne3 : g4 ≠ w.heap.size + 1 := by have := HW3.out; omega
    have HSY8 := Aside0.mk ((setRow_other w6 (w.heap.size + 1) g4 D hne3).trans HSY6.out)
    have HAT8 := Aside0.mk (AtC.below HAT.out (show Below w.heap.size w (w6.setRow (w.heap.size + 1) D) from below_setRow HB.out (Nat.le_succ _) D))
    (refine Shut.out hK _ _ (And.intro (range_blk HSY8.out) HAT8.out) (fun hHeld => ?_); clear hK K; (try simp only [Act.put, List.getElem_toArray, List.getElem_cons_zero, List.getElem_cons_succ, List.setIfInBounds_toArray, List.set_cons_zero, List.set_cons_succ]))
    (refine wpAnyH_take (i := 8) (v := ?_) rfl (by kernel_rfl) (by kernel_rfl) (by kernel_rfl) (fun _ _ _ h => h) (Or.inl ⟨by rfl, ?_⟩) (by assumption) ?_; (case' refine_2 => (intro w hSw; go_simp; try with_reducible rfl)); (try simp only [Act.put, List.getElem_toArray, List.getElem_cons_zero, List.getElem_cons_succ, List.setIfInBounds_toArray, List.set_cons_zero, List.set_cons_succ]))
    refine wpAnyH_done (by kernel_rfl) ?_ _
    go_wp2_with (fail)
    have HSR := setRow_heap w6 (w.heap.size + 1) Z32 D _ _ HZ.out
    refine bodyPost_ret (results_ct rfl _ _ (w.heap.size + 1) 24 D (0, 0) _ rfl HSR Try.underlying24 rfl HIF.out) rfl ?_
    exact ⟨rfl, below_setRow HB.out (by omega) D⟩
  · go_simp
    have HY3 := Aside0.mk (show (W.alloc (.cells Z32 24)).drew.heap[W.heap.size]? = some (.cells Z32 24 (0, 0)) from blk_new W _)
    have hb := below_drew (below_alloc (Below.refl W.heap.size W) (.cells Z32 24))
    have HW3 := Aside0.mk (show w.heap.size + 1 < W.heap.size from (Array.getElem?_eq_some_iff.1 HZ.out).1)
    have m_HZ := Aside0.mk (blk_below HZ.out hb)
    have m_HG := Aside0.mk (blk_below HG.out hb)
    have m_HB := Aside0.mk (below_step HB.out hb)
    clear HZ HG HB
    have HZ := m_HZ
    have HG := m_HG
    have HB := m_HB
    clear m_HZ m_HG m_HB
    clear hb
    obtain ⟨g4, hg4⟩ : ∃ g, W.heap.size = g := ⟨_, rfl⟩
    obtain ⟨w3, hw3⟩ : ∃ w3, (W.alloc (.cells Z32 24)).drew = w3 := ⟨_, rfl⟩
    rw [hw3] at HZ HG HB HY3
    rw [show (W.alloc (.cells #[.int .u8 0, .int .u8 0, .int .u8 0, .int .u8 0, .int .u8 0, .int .u8 0, .int .u8 0, .int .u8 0, .int .u8 0, .int .u8 0, .int .u8 0, .int .u8 0, .int .u8 0, .int .u8 0, .int .u8 0, .int .u8 0, .int .u8 0, .int .u8 0, .int .u8 0, .int .u8 0, .int .u8 0, .int .u8 0, .int .u8 0, .int .u8 0, .int .u8 0, .int .u8 0, .int .u8 0, .int .u8 0, .int .u8 0, .int .u8 0, .int .u8 0, .int .u8 0] 24)).drew = w3 from hw3]
    rw [hg4] at HY3 HW3 ⊢
    clear hg4 hw3
    (refine Shut.out hK _ _ (range_blk HG.out) (fun hHeld => ?_); clear hK K; (try simp only [Act.put, List.getElem_toArray, List.getElem_cons_zero, List.getElem_cons_succ, List.setIfInBounds_toArray, List.set_cons_zero, List.set_cons_succ]))
    (refine wpAnyH_ready (rs := [10]) (by kernel_rfl) (by simp) (AllReadyH.cons rfl (fun K hK => ?_) AllReadyH.nil); go_simp)
    rw [HE1.out, HE2.out]
    refine (HU.out _ HB.out).mono ?_
    rintro e w4 ⟨rfl, hb⟩
    have HY4 := Aside0.mk (blk_below HY3.out hb)
    have m_HZ := Aside0.mk (blk_below HZ.out hb)
    have m_HG := Aside0.mk (blk_below HG.out hb)
    have m_HB := Aside0.mk (below_step HB.out hb)
    clear HZ HG HB
    have HZ := m_HZ
    have HG := m_HG
    have HB := m_HB
    clear m_HZ m_HG m_HB
    clear hb HY3
    (refine Shut.out hK _ _ (range_blk HG.out) (fun hHeld => ?_); clear hK K; (try simp only [Act.put, List.getElem_toArray, List.getElem_cons_zero, List.getElem_cons_succ, List.setIfInBounds_toArray, List.set_cons_zero, List.set_cons_succ]))
    (refine wpAnyH_take (i := 11) (v := ?_) rfl (by kernel_rfl) (by kernel_rfl) (by kernel_rfl) (fun _ _ _ h => h) (Or.inl ⟨by rfl, ?_⟩) (by assumption) ?_; (case' refine_2 => (intro w hSw; go_simp; try with_reducible rfl)); (try simp only [Act.put, List.getElem_toArray, List.getElem_cons_zero, List.getElem_cons_succ, List.setIfInBounds_toArray, List.set_cons_zero, List.set_cons_succ]))
    (refine wpAnyH_take (i := 12) (v := ?_) rfl (by kernel_rfl) (by kernel_rfl) (by kernel_rfl) (fun _ _ _ h => h) (Or.inl ⟨by rfl, ?_⟩) (by assumption) ?_; (case' refine_2 => (intro w hSw; go_simp; try with_reducible rfl)); (try simp only [Act.put, List.getElem_toArray, List.getElem_cons_zero, List.getElem_cons_succ, List.setIfInBounds_toArray, List.set_cons_zero, List.set_cons_succ]))
    (refine wpAnyH_take (i := 13) (v := ?_) rfl (by kernel_rfl) (by kernel_rfl) (by kernel_rfl) (fun _ _ _ h => h) (Or.inl ⟨by rfl, ?_⟩) (by assumption) ?_; (case' refine_2 => (intro w hSw; go_simp; try with_reducible rfl)); (try simp only [Act.put, List.getElem_toArray, List.getElem_cons_zero, List.getElem_cons_succ, List.setIfInBounds_toArray, List.set_cons_zero, List.set_cons_succ]))
    refine wpAnyH_ready (rs := [15]) (by kernel_rfl) (by simp) (AllReadyH.cons rfl (fun K hK => ?_) AllReadyH.nil)
    rw [if_pos (by rfl)]
    refine wp_store_row 24 (.tmp 14) (.tmp 63) rfl g4 Y rfl rfl 24 Z32 HY4.out HYI.out HYZ.out HYO.out ?_
    have HSY := Aside0.mk (setRow_heap w4 g4 Z32 Y _ _ HY4.out)
    have hne1 : w.heap.size ≠ g4 := by have := HW3.out; omega
    have hne2 : w.heap.size + 1 ≠ g4 := by have := HW3.out; omega
    have m_HZ := Aside0.mk ((setRow_other w4 g4 (w.heap.size + 1) Y hne2).trans HZ.out)
    have m_HG := Aside0.mk ((setRow_other w4 g4 w.heap.size Y hne1).trans HG.out)
    have m_HB := Aside0.mk (show Below w.heap.size w (w4.setRow g4 Y) from below_setRow HB.out (by have := HW3.out; omega) Y)
    clear HZ HG HB hne1 hne2
    have HZ := m_HZ
    have HG := m_HG
    have HB := m_HB
    clear m_HZ m_HG m_HB
    obtain ⟨w5, hw5⟩ : ∃ w5, w4.setRow g4 Y = w5 := ⟨_, rfl⟩
    rw [hw5] at HZ HG HB HSY ⊢
    clear hw5
    (refine Shut.out hK _ _ (range_blk HG.out) (fun hHeld => ?_); clear hK K; (try simp only [Act.put, List.getElem_toArray, List.getElem_cons_zero, List.getElem_cons_succ, List.setIfInBounds_toArray, List.set_cons_zero, List.set_cons_succ]))
    (refine wpAnyH_take (i := 16) (v := ?_) rfl (by kernel_rfl) (by kernel_rfl) (by kernel_rfl) (fun _ _ _ h => h) (Or.inl ⟨by rfl, ?_⟩) (by assumption) ?_; (case' refine_2 => (intro w hSw; go_simp; try with_reducible rfl)); (try simp only [Act.put, List.getElem_toArray, List.getElem_cons_zero, List.getElem_cons_succ, List.setIfInBounds_toArray, List.set_cons_zero, List.set_cons_succ]))
    refine wpAnyH_done (by kernel_rfl) ?_ _
    go_wp2_with (fail)
    have HAT5 := Aside0.mk (AtC.below HAT.out HB.out)
    have HAT6 := Aside0.mk (show AtC w5.drew (ad.add (m * 32)) (nums .u8 x) from HAT5.out)
    refine wp_region_held_drew (S := fun w' => w'.rangeAt g4 0 Y.toList ∧ AtC w' (ad.add (m * 32)) (nums .u8 x)) (by kernel_rfl) (And.intro (range_blk HSY.out) HAT5.out) (fun hHeld => ?_)
    (refine wpAnyH_take (i := 4) rfl (by kernel_rfl) (by kernel_rfl) (by kernel_rfl) (fun _ _ _ h => h) (yieldsIf_load_mid (by rfl) _ _ rfl _ _ rfl _ _ (fun _ h => h.1) (by assumption) rfl HYT.out) (by assumption) ?_; (try simp only [Act.put, List.getElem_toArray, List.getElem_cons_zero, List.getElem_cons_succ, List.setIfInBounds_toArray, List.set_cons_zero, List.set_cons_succ]))
    (refine wpAnyH_take (i := 0) (v := ?_) rfl (by kernel_rfl) (by kernel_rfl) (by kernel_rfl) (fun _ _ _ h => h) (Or.inl ⟨by rfl, ?_⟩) (by assumption) ?_; (case' refine_2 => (intro w hSw; go_simp; try with_reducible rfl)); (try simp only [Act.put, List.getElem_toArray, List.getElem_cons_zero, List.getElem_cons_succ, List.setIfInBounds_toArray, List.set_cons_zero, List.set_cons_succ]))
    (refine wpAnyH_take (i := 1) (v := ?_) rfl (by kernel_rfl) (by kernel_rfl) (by kernel_rfl) (fun _ _ _ h => h) (Or.inl ⟨by rfl, ?_⟩) (by assumption) ?_; (case' refine_2 => (intro w hSw; go_simp; try with_reducible rfl)); (try simp only [Act.put, List.getElem_toArray, List.getElem_cons_zero, List.getElem_cons_succ, List.setIfInBounds_toArray, List.set_cons_zero, List.set_cons_succ]))
    (refine wpAnyH_take (i := 2) (v := ?_) rfl (by kernel_rfl) (by kernel_rfl) (by kernel_rfl) (fun _ _ _ h => h) (Or.inl ⟨by rfl, ?_⟩) (by assumption) ?_; (case' refine_2 => (intro w hSw; go_simp; try with_reducible rfl)); (try simp only [Act.put, List.getElem_toArray, List.getElem_cons_zero, List.getElem_cons_succ, List.setIfInBounds_toArray, List.set_cons_zero, List.set_cons_succ]))
    (refine wpAnyH_take (i := 3) rfl (by kernel_rfl) (by kernel_rfl) (by kernel_rfl) (fun _ _ _ h => h) (yieldsIf_load_at (by rfl) _ _ rfl (ad.add (m * 32)) rfl (nums .u8 x) _ (fun _ h => h.2) (by assumption) rfl HXI.out) (by assumption) ?_; (try simp only [Act.put, List.getElem_toArray, List.getElem_cons_zero, List.getElem_cons_succ, List.setIfInBounds_toArray, List.set_cons_zero, List.set_cons_succ]))
    rw [HXE.out]
    (refine wpAnyH_take (i := 6) (v := ?_) rfl (by kernel_rfl) (by kernel_rfl) (by kernel_rfl) (fun _ _ _ h => h) (Or.inl ⟨by rfl, ?_⟩) (by assumption) ?_; (case' refine_2 => (intro w hSw; go_simp; try with_reducible rfl)); (try simp only [Act.put, List.getElem_toArray, List.getElem_cons_zero, List.getElem_cons_succ, List.setIfInBounds_toArray, List.set_cons_zero, List.set_cons_succ]))
    (refine wpAnyH_ready (rs := [5]) (by kernel_rfl) (by simp) (AllReadyH.cons rfl (fun K hK => ?_) AllReadyH.nil); go_simp)
    refine (HT.out _).mono ?_
    rintro e w6 ⟨rfl, hb⟩
    have hbd := below_drew_of hb
    have m_HZ := Aside0.mk (blk_below HZ.out hbd)
    have m_HB := Aside0.mk (below_step HB.out hbd)
    have HSY6 := Aside0.mk (blk_below HSY.out hbd)
    have HAT7 := Aside0.mk (AtC.below HAT5.out hbd)
    clear HZ HB hb hbd
    have HZ := m_HZ
    have HB := m_HB
    clear m_HZ m_HB
    (refine Shut.out hK _ _ (And.intro (range_blk HSY6.out) HAT7.out) (fun hHeld => ?_); clear hK K; (try simp only [Act.put, List.getElem_toArray, List.getElem_cons_zero, List.getElem_cons_succ, List.setIfInBounds_toArray, List.set_cons_zero, List.set_cons_succ]))
    refine wpAnyH_ready (rs := [7]) (by kernel_rfl) (by simp) (AllReadyH.cons rfl (fun K hK => ?_) AllReadyH.nil)
    rw [if_pos (by rfl)]
    refine wp_store_row 24 (.tmp 8) (.tmp 70) rfl (w.heap.size + 1) D rfl rfl 24 Z32 HZ.out HIF.out HD.out.zs HD.out.one ?_
    have hne3 : g4 ≠ w.heap.size + 1 := by have := HW3.out; omega
    have HSY8 := Aside0.mk ((setRow_other w6 (w.heap.size + 1) g4 D hne3).trans HSY6.out)
    have HAT8 := Aside0.mk (AtC.below HAT.out (show Below w.heap.size w (w6.setRow (w.heap.size + 1) D) from below_setRow HB.out (Nat.le_succ _) D))
    (refine Shut.out hK _ _ (And.intro (range_blk HSY8.out) HAT8.out) (fun hHeld => ?_); clear hK K; (try simp only [Act.put, List.getElem_toArray, List.getElem_cons_zero, List.getElem_cons_succ, List.setIfInBounds_toArray, List.set_cons_zero, List.set_cons_succ]))
    (refine wpAnyH_take (i := 8) (v := ?_) rfl (by kernel_rfl) (by kernel_rfl) (by kernel_rfl) (fun _ _ _ h => h) (Or.inl ⟨by rfl, ?_⟩) (by assumption) ?_; (case' refine_2 => (intro w hSw; go_simp; try with_reducible rfl)); (try simp only [Act.put, List.getElem_toArray, List.getElem_cons_zero, List.getElem_cons_succ, List.setIfInBounds_toArray, List.set_cons_zero, List.set_cons_succ]))
    refine wpAnyH_done (by kernel_rfl) ?_ _
    go_wp2_with (fail)
    have HSR := setRow_heap w6 (w.heap.size + 1) Z32 D _ _ HZ.out
    refine bodyPost_ret (results_ct rfl _ _ (w.heap.size + 1) 24 D (0, 0) _ rfl HSR Try.underlying24 rfl HIF.out) rfl ?_
    exact ⟨rfl, below_setRow HB.out (by omega) D⟩
theorem up_c (leaf : Sm) (hl : leaf.length = 32) (hu : U8' leaf) : ∀ (r : List Sm) (i n : Nat), i < n → n ≤ 1048576 → r.length ≤ 1000000000 → ∀ (A : Option Addr) (c : Nat) (w : World), Rs w A r.reverse → r.length ≤ c → Lu r →
    Calls Try.prog 55 #[sumV leaf, .int .i64 (i : Int), .int .i64 (n : Int), .slice A r.length c] w (Ret2 w (upN leaf i n r).1 (upN leaf i n r).2.1) := by
  intro r
  induction r with
  | nil =>
    intro i n hi hn hlr A c w hr hc hr'
    by_cases h1 : n = 1
    · subst h1
      exact up_one_c leaf hl hu i A 0 c w
    · rw [show upN leaf i n [] = (Z, false, []) by unfold upN; rw [if_neg h1]]
      exact up_nil_c leaf hl i n (by omega) A c w
  | cons x r ih =>
    intro i n hi hn hlr A c w hr hc hr'
    by_cases h1 : n = 1
    · subst h1
      exact up_one_c leaf hl hu i A (r.length + 1) c w
    · have hk := hlf_lt (n := n) (by omega)
      have hp := hlf_pos n
      have hx := hr' x (by simp)
      have hrl : (r.reverse ++ [x]).length = r.length + 1 := by simp
      rw [List.reverse_cons] at hr
      obtain ⟨ad, rfl, hat, _⟩ := rs_at hr r.length (by simp)
      have hg : (r.reverse ++ [x])[r.length]'(by simp) = x := by
        rw [List.getElem_append_right (by simp)]
        simp
      rw [hg] at hat
      have hr2 : ∀ W, Below w.heap.size w W → Rs W (some ad) r.reverse := fun W hW => by
        have h2 := Rs.take (Kd.C_below hr hW) (k := r.length) (by simp)
        rwa [show (r.reverse ++ [x]).take r.length = r.reverse by rw [← List.length_reverse, List.take_left]] at h2
      have hru : Lu r := fun y hy => hr' y (by simp [hy])
      rw [List.length_cons] at hlr hc
      by_cases hik : i < hlf n
      · rw [show upN leaf i n (x :: r) = (nodeH (upN leaf i (hlf n) r).1 x, (upN leaf i (hlf n) r).2.1, (upN leaf i (hlf n) r).2.2 ++ [nodeX (upN leaf i (hlf n) r).1 x]) by rw [upN, if_neg h1, if_pos hik]]
        exact up_left_c leaf hl _ x (upN_len _ _ _ _) hx.1 (upN_u8 _ _ _ _) hx.2 _ i n _ rfl (by omega) hn hik hi ad r.length c hc (by omega) w hat (fun W hW => ih i (hlf n) hik (by omega) (by omega) (some ad) c W (hr2 W hW) (by omega) hru)
      · rw [show upN leaf i n (x :: r) = (nodeH x (upN leaf (i - hlf n) (n - hlf n) r).1, (upN leaf (i - hlf n) (n - hlf n) r).2.1, (upN leaf (i - hlf n) (n - hlf n) r).2.2 ++ [nodeX x (upN leaf (i - hlf n) (n - hlf n) r).1]) by rw [upN, if_neg h1, if_neg hik]]
        refine up_right_c leaf hl _ x (upN_len _ _ _ _) hx.1 (upN_u8 _ _ _ _) hx.2 _ i n _ rfl (by omega) hn (by omega) hi ad r.length c hc (by omega) w hat (fun W hW => ?_)
        have h2 := ih (i - hlf n) (n - hlf n) (by omega) (by omega) (by omega) (some ad) c W (hr2 W hW) (by omega) hru
        rwa [show ((i - hlf n : Nat) : Int) = (i : Int) - (hlf n : Int) by omega, show ((n - hlf n : Nat) : Int) = (n : Int) - (hlf n : Int) by omega] at h2
end Go.Proofs.Ytbebkogkeepfoaa.Tree
/- tree: Check walked. -/
namespace Go.Proofs.Ytbebkogkeepfoaa.Tree
set_option linter.unusedVariables false
set_option linter.unusedSimpArgs false
open Go.RowKit Go.Proofs.Ytbebkogkeepfoaa.Base Go.Proofs.Ytbebkogkeepfoaa.TlvPlain Go.Proofs.Ytbebkogkeepfoaa.ShaPlain Go.Proofs.Ytbebkogkeepfoaa.Sha Go.Proofs.Ytbebkogkeepfoaa.Com Go.Proofs.Ytbebkogkeepfoaa.Aid Go.Proofs.YtbebkogkeepfoaaW.PrintWords Go.Proofs.YtbebkogkeepfoaaW.PrintLast Go.Proofs.YtbebkogkeepfoaaW.PrintMore
abbrev RetB (w : World) (b : Bool) : Ending → World → Prop := fun e w' => e = .returned (.bool b) ∧ Below w.heap.size w w'
set_option maxHeartbeats 4000000 in
set_option maxRecDepth 100000 in
theorem chk_bad (root leaf : Sm) (hr : root.length = 32) (hl : leaf.length = 32) (i n : Int) (h : i < 0 ∨ n ≤ i ∨ 1048576 < n) (A : Option Addr) (m c : Nat) (w : World) :
    Calls Try.prog 30 #[sumV root, sumV leaf, .int .i64 i, .int .i64 n, .slice A m c] w (RetB w false) := by
  obtain ⟨R, hR⟩ := sumF root hr
  obtain ⟨L, hL⟩ := sumF leaf hl
  have HB := Aside0.mk (show Below w.heap.size w ((w.alloc (.cells R 24)).alloc (.cells L 24)) from below_alloc (below_alloc (Below.refl _ _) _) _)
  unfold RetB
  rw [hR.v, hL.v]
  clear hR hL hr hl
  by_cases h1 : i < 0
  · have d1 : decide (i < 0) = true := decide_eq_true h1
    clear h h1
    go_enter Try.func30, Try.ntmps30
    go_wp2_with (fail)
    go_ret
    exact ⟨rfl, HB.out⟩
  · have d1 : decide (i < 0) = false := decide_eq_false h1
    by_cases h2 : n ≤ i
    · have d2 : decide (n ≤ i) = true := decide_eq_true h2
      clear h h1 h2
      go_enter Try.func30, Try.ntmps30
      go_wp2_with (fail)
      go_ret
      exact ⟨rfl, HB.out⟩
    · have d2 : decide (n ≤ i) = false := decide_eq_false h2
      have d3 : decide (1048576 < n) = true := decide_eq_true (by omega)
      clear h h1 h2
      go_enter Try.func30, Try.ntmps30
      go_wp2_with (fail)
      go_ret
      exact ⟨rfl, HB.out⟩
set_option maxHeartbeats 4000000 in
set_option maxRecDepth 100000 in
theorem chk_good (root leaf : Sm) (hr : root.length = 32) (hl : leaf.length = 32) (i n : Int) (h0 : 0 ≤ i) (h : i < n) (hn : n ≤ 1048576) (A : Option Addr) (m c : Nat) (w : World) (d : Sm) (hd : d.length = 32) (b : Bool)
    (hU : ∀ W, Below w.heap.size w W → Calls Try.prog 55 #[sumV leaf, .int .i64 i, .int .i64 n, .slice A m c] W (Ret2 W d b)) :
    Calls Try.prog 30 #[sumV root, sumV leaf, .int .i64 i, .int .i64 n, .slice A m c] w (RetB w (b && decide (d = root))) := by
  obtain ⟨R, hR⟩ := sumF root hr
  obtain ⟨L, hL⟩ := sumF leaf hl
  obtain ⟨D, hD⟩ := sumF d hd
  have HR := Aside0.mk hR
  have HRI := Aside0.mk hR.info
  have HLI := Aside0.mk hL.info
  have HDI := Aside0.mk hD.info
  have HDZ := Aside0.mk hD.zs
  have HDO := Aside0.mk hD.one
  have HG := Aside0.mk (show ((w.alloc (.cells R 24)).alloc (.cells L 24)).heap[w.heap.size]? = some (.cells R 24 (0, 0)) from blk_alloc (blk_new _ _) _)
  have HH := Aside0.mk (show ((w.alloc (.cells R 24)).alloc (.cells L 24)).heap[w.heap.size + 1]? = some (.cells L 24 (0, 0)) from second_new' _ _ _)
  have HB := Aside0.mk (show Below w.heap.size w ((w.alloc (.cells R 24)).alloc (.cells L 24)) from below_alloc (below_alloc (Below.refl _ _) _) _)
  have HEQ := Aside0.mk (run_eq_sum d root hd hr)
  obtain ⟨bb, hbb⟩ : ∃ bb, decide (d = root) = bb := ⟨_, rfl⟩
  unfold RetB
  unfold Ret2 at hU
  rw [hbb] at HEQ ⊢
  rw [hR.v, hD.v] at HEQ
  rw [hL.v, hD.v] at hU
  rw [hR.v, hL.v]
  have HU := Aside0.mk hU
  have d1 : decide (i < 0) = false := decide_eq_false (by omega)
  have d2 : decide (n ≤ i) = false := decide_eq_false (by omega)
  have d3 : decide ((1048576 : Int) < n) = false := decide_eq_false (by omega)
  clear hR hL hD hr hl hd hU hbb h hn h0
  go_enter Try.func30, Try.ntmps30
  go_wp2_with ((with_reducible refine gate_dst (N := 25) rfl ?_); refine wpList_load_row rfl 24 (.tmp 6) rfl (w.heap.size + 1) rfl 24 L (0, 0) _ (by exact HH.out) Try.underlying24 rfl HLI.out ?_)
  refine (HU.out _ HB.out).mono ?_
  rintro e w3 ⟨rfl, hb⟩
  have HG3 := Aside0.mk (blk_below HG.out hb)
  have HB3 := Aside0.mk (below_step HB.out hb)
  clear hb
  have HGL := Aside0.mk (show w.heap.size < w3.heap.size from (Array.getElem?_eq_some_iff.1 HG3.out).1)
  have HY := Aside0.mk (show (w3.alloc (.cells Z32 24)).heap[w3.heap.size]? = some (.cells Z32 24 (0, 0)) from blk_new _ _)
  have HG4 := Aside0.mk (show (w3.alloc (.cells Z32 24)).heap[w.heap.size]? = some (.cells R 24 (0, 0)) from blk_alloc HG3.out _)
  have HB4 := Aside0.mk (below_alloc HB3.out (.cells Z32 24))
  have HG5 := Aside0.mk ((setRow_other (w3.alloc (.cells Z32 24)) w3.heap.size w.heap.size D (by have := HGL.out; omega)).trans HG4.out)
  have HY5 := Aside0.mk (setRow_heap (w3.alloc (.cells Z32 24)) w3.heap.size Z32 D _ _ HY.out)
  have HB5 := Aside0.mk (show Below w.heap.size w ((w3.alloc (.cells Z32 24)).setRow w3.heap.size D) from below_setRow HB4.out (by have := HGL.out; omega) D)
  have hguard := guard_32
  cases b with
  | false =>
    go_wp2_with ((with_reducible refine gate_store (t := 24) (p := 11) (v := .tmp 30) rfl ?_); refine wpList_store_row rfl 24 (.tmp 11) (.tmp 30) rfl w3.heap.size D rfl rfl 24 Z32 HY.out HDI.out HDZ.out HDO.out ?_)
    go_ret
    exact ⟨rfl, HB5.out⟩
  | true =>
    have heq := HEQ.out
    go_wp2_with (first
      | ((with_reducible refine gate_store (t := 24) (p := 11) (v := .tmp 30) rfl ?_); refine wpList_store_row rfl 24 (.tmp 11) (.tmp 30) rfl w3.heap.size D rfl rfl 24 Z32 HY.out HDI.out HDZ.out HDO.out ?_)
      | ((with_reducible refine gate_dst (N := 34) rfl ?_); (try (refine gate_guard (by rfl) ?_; dsimp only)); refine wpList_load_row rfl 24 (.tmp 11) rfl w3.heap.size rfl 24 D (0, 0) _ (by exact HY5.out) Try.underlying24 rfl HDI.out ?_)
      | ((with_reducible refine gate_dst (N := 35) rfl ?_); (try (refine gate_guard (by rfl) ?_; dsimp only)); refine wpList_load_row rfl 24 (.tmp 5) rfl w.heap.size rfl 24 R (0, 0) _ (by exact HG5.out) Try.underlying24 rfl HRI.out ?_))
    go_ret
    exact ⟨rfl, HB5.out⟩
end Go.Proofs.Ytbebkogkeepfoaa.Tree
/- tree.Fold walked. -/
namespace Go.Proofs.Ytbebkogkeepfoaa.Tree
set_option linter.unusedVariables false
set_option linter.unusedSimpArgs false
open Go.RowKit Go.Proofs.Ytbebkogkeepfoaa.Base Go.Proofs.Ytbebkogkeepfoaa.TlvPlain Go.Proofs.Ytbebkogkeepfoaa.ShaPlain Go.Proofs.Ytbebkogkeepfoaa.Sha Go.Proofs.Ytbebkogkeepfoaa.Com Go.Proofs.Ytbebkogkeepfoaa.Aid Go.Proofs.YtbebkogkeepfoaaW.PrintWords Go.Proofs.YtbebkogkeepfoaaW.PrintLast Go.Proofs.YtbebkogkeepfoaaW.PrintMore
/-- The world in the rounds: the result's cells, and the sum so far. -/
structure FoldI (w : World) (d : Sm) (W : World) : Prop where
  z : W.heap[w.heap.size]? = some (.cells Z32 24 (0, 0))
  d : W.heap[w.heap.size + 1]? = some (.cells (nums .u8 d).toArray 24 (0, 0))
  b : Below w.heap.size w W
end Go.Proofs.Ytbebkogkeepfoaa.Tree
/- slices.Clone at sums, tree.Grow walked. -/
namespace Go.Proofs.Ytbebkogkeepfoaa.Tree
set_option linter.unusedVariables false
set_option linter.unusedSimpArgs false
open Go.RowKit Go.Proofs.Ytbebkogkeepfoaa.Base Go.Proofs.Ytbebkogkeepfoaa.TlvPlain Go.Proofs.Ytbebkogkeepfoaa.ShaPlain Go.Proofs.Ytbebkogkeepfoaa.Sha Go.Proofs.Ytbebkogkeepfoaa.Com Go.Proofs.Ytbebkogkeepfoaa.Aid Go.Proofs.YtbebkogkeepfoaaW.PrintWords Go.Proofs.YtbebkogkeepfoaaW.PrintLast Go.Proofs.YtbebkogkeepfoaaW.PrintMore
/-- The world in the rounds: the sum so far in its block, the rest a row of one's own, younger than that block. -/
structure GrowI (w : World) (b g : Nat) (d : Sm) (F : List Sm) (N : Nat) (goal : List Sm) (v : Value) (W : World) : Prop where
  db : W.heap[g]? = some (.cells (nums .u8 d).toArray 24 (0, 0))
  o : Os W b v F
  g0 : w.heap.size ≤ g
  g1 : g < b
  bs : b ≤ W.heap.size
  bw : Below w.heap.size w W
  dl : d.length = 32
  du : U8' d
  u : Lu F
  c : F.length = ones N
  hm : N ≤ 1048576
  e : growT F N d = goal
  s : F.length ≤ 1000
end Go.Proofs.Ytbebkogkeepfoaa.Tree
/- The document's Root. -/
namespace Go.Proofs.Ytbebkogkeepfoaa.Tree
set_option linter.unusedVariables false
set_option linter.unusedSimpArgs false
open Go.RowKit Go.Proofs.Ytbebkogkeepfoaa.Base Go.Proofs.Ytbebkogkeepfoaa.TlvPlain Go.Proofs.Ytbebkogkeepfoaa.ShaPlain Go.Proofs.Ytbebkogkeepfoaa.Sha Go.Proofs.Ytbebkogkeepfoaa.Com Go.Proofs.Ytbebkogkeepfoaa.Aid Go.Proofs.YtbebkogkeepfoaaW.PrintWords Go.Proofs.YtbebkogkeepfoaaW.PrintLast Go.Proofs.YtbebkogkeepfoaaW.PrintMore
theorem leafX_u8 {a : Sm} (h : U8' a) : ∀ x ∈ leafX a, 0 ≤ x ∧ x ≤ 255 := fun x hx => by
  rcases List.mem_cons.1 hx with rfl | hx
  · decide
  · exact h x hx
theorem nodeX_u8 {a b : Sm} (h : U8' a) (h2 : U8' b) : ∀ x ∈ nodeX a b, 0 ≤ x ∧ x ≤ 255 := fun x hx => by
  rcases List.mem_cons.1 hx with rfl | hx
  · decide
  · exact (List.mem_append.1 hx).elim (h x) (h2 x)
theorem leafX_len {a : Sm} (h : a.length = 32) : (leafX a).length = 33 := by unfold leafX; rw [List.length_cons, h]
theorem nodeX_len {a b : Sm} (h : a.length = 32) (h2 : b.length = 32) : (nodeX a b).length = 65 := by unfold nodeX; rw [List.length_cons, List.length_append, h, h2]
/-- The document's sum of bytes of one's own. -/
theorem rof_o (l : List Int) (hu : ∀ x ∈ l, 0 ≤ x ∧ x ≤ 255) (hl : l.length ≤ 1000) (base : Nat) (v : Value) (w : World) (h : Ob w base v l) : Calls Try.prog 15 #[v] w (Ret w (shaB l)) := by
  obtain ⟨A, c, rfl, hc, hr⟩ := Ob.reads h
  exact rof_c A c l w hr hc hu (by omega)
set_option maxHeartbeats 4000000 in
set_option maxRecDepth 100000 in
theorem rroot_nil (A : Option Addr) (c : Nat) (w : World) : Calls Try.prog 42 #[.slice A 0 c] w (Ret w Z) := by
  have HZ := Aside0.mk (show (w.alloc (.cells Z32 24)).heap[w.heap.size]? = some (.cells Z32 24 (0, 0)) from blk_new _ _)
  have HB := Aside0.mk (below_alloc (Below.refl w.heap.size w) (.cells Z32 24))
  have HIF := Aside0.mk (show (Try.prog.info? 24).map (·.size) = some Z32.size from info_32)
  have HON := Aside0.mk (show Z32.all (·.oneCell') = true from nums_one _ _)
  show Calls _ _ _ _ (fun e w' => e = .returned (.agg Z32) ∧ Below w.heap.size w w')
  go_enter Try.func42, Try.ntmps42
  go_wp2_with ((with_reducible refine gate_store (t := 24) (p := 2) (v := .tmp 7) rfl ?_); refine wpList_store_row rfl 24 (.tmp 2) (.tmp 7) rfl w.heap.size Z32 rfl rfl 24 Z32 HZ.out HIF.out rfl HON.out ?_)
  have HSR := setRow_heap (w.alloc (.cells Z32 24)) w.heap.size Z32 Z32 _ _ HZ.out
  refine bodyPost_ret (v := .agg Z32) (results_cell_row rfl _ _ w.heap.size 24 Z32 (0, 0) _ rfl HSR Try.underlying24 rfl HIF.out) rfl ⟨rfl, below_setRow HB.out (Nat.le_refl _) Z32⟩
set_option maxHeartbeats 4000000 in
set_option maxRecDepth 100000 in
theorem rroot_one (a : Sm) (hu : U8' a) (A : Option Addr) (c : Nat) (w : World) (hr : Rs w A [a]) :
    Calls Try.prog 42 #[.slice A 1 c] w (Ret w (leafH a)) := by
  have HZ := Aside0.mk (show (w.alloc (.cells Z32 24)).heap[w.heap.size]? = some (.cells Z32 24 (0, 0)) from blk_new _ _)
  have HB := Aside0.mk (below_alloc (Below.refl w.heap.size w) (.cells Z32 24))
  obtain ⟨D, hD⟩ := sumF (leafH a) (leafH_len a)
  have HD := Aside0.mk hD
  have HIF := Aside0.mk HD.out.info
  unfold Ret
  rw [hD.v]
  obtain ⟨ad, rfl, hat, hal⟩ := rs_at hr 0 (by simp)
  obtain ⟨C, hC⟩ := sumF a hal
  have HA := Aside0.mk (show AtC (w.alloc (.cells Z32 24)) ad (nums .u8 a) from hat.below HB.out)
  have HC := Aside0.mk hC
  have HCI := Aside0.mk hC.infoL
  have HL := Aside0.mk (rleafx_c a hal)
  have HS := Aside0.mk (rof_o (leafX a) (leafX_u8 hu) (by rw [leafX_len (a := a) hal]; decide))
  unfold MakesU at HL
  unfold Ret at HS
  rw [hC.v] at HL
  rw [← leafH_eq, HD.out.v] at HS
  clear hD hr hu hat hal hC
  go_enter Try.func42, Try.ntmps42
  go_wp2_with ((with_reducible refine gate_dst (N := 13) rfl ?_); refine wpList_load_at rfl 24 (.tmp 12) rfl ad rfl (nums .u8 a) _ HA.out Try.underlying24 rfl HCI.out ?_; rw [HC.out.eq])
  refine (HL.out _).mono ?_
  rintro e w3 ⟨v, rfl, ho, hb⟩
  have HZ3 := Aside0.mk (blk_below HZ.out hb)
  have HB3 := Aside0.mk (below_step HB.out hb)
  have HS3 := Aside0.mk (HS.out _ v w3 ho)
  clear hb ho
  go_wp2_with (fail)
  refine HS3.out.mono ?_
  rintro e w6 ⟨rfl, hb⟩
  have HZ6 := Aside0.mk (blk_below HZ3.out hb)
  have HB6 := Aside0.mk (below_step HB3.out hb)
  clear hb
  go_wp2_with ((with_reducible refine gate_store (t := 24) (p := 2) (v := .tmp 15) rfl ?_); refine wpList_store_row rfl 24 (.tmp 2) (.tmp 15) rfl w.heap.size D rfl rfl 24 Z32 HZ6.out HIF.out HD.out.zs HD.out.one ?_)
  have HSR := setRow_heap w6 w.heap.size Z32 D _ _ HZ6.out
  refine bodyPost_ret (v := .agg D) (results_cell_row rfl _ _ w.heap.size 24 D (0, 0) _ rfl HSR Try.underlying24 rfl HIF.out) rfl ⟨rfl, below_setRow HB6.out (Nat.le_refl _) D⟩
set_option maxHeartbeats 4000000 in
set_option maxRecDepth 100000 in
theorem rroot_two (x y : Sm) (hx : x.length = 32) (hy : y.length = 32) (hu : U8' x) (hv : U8' y) (n k : Nat) (hk2 : hlf n = k) (h2 : 2 ≤ n) (hm : n ≤ 1000000) (A : Option Addr) (c : Nat) (hc : n ≤ c) (w : World)
    (hX : ∀ W, Below w.heap.size w W → Calls Try.prog 42 #[.slice A k c] W (Ret W x))
    (hY : ∀ W, Below w.heap.size w W → Calls Try.prog 42 #[.slice (restA A c k) (n - k) (c - k)] W (Ret W y)) :
    Calls Try.prog 42 #[.slice A n c] w (Ret w (nodeH x y)) := by
  have HZ := Aside0.mk (show (w.alloc (.cells Z32 24)).heap[w.heap.size]? = some (.cells Z32 24 (0, 0)) from blk_new _ _)
  have HB := Aside0.mk (below_alloc (Below.refl w.heap.size w) (.cells Z32 24))
  obtain ⟨D, hD⟩ := sumF (nodeH x y) (nodeH_len x y)
  have HD := Aside0.mk hD
  have HIF := Aside0.mk HD.out.info
  have hk := hlf_lt h2
  have HKB := Aside0.mk (fun W => half_c n h2 (by omega) W)
  rw [hk2] at HKB hk
  obtain ⟨X, hX'⟩ := sumF x hx
  obtain ⟨Y, hY'⟩ := sumF y hy
  have HT := Aside0.mk (rnodex_c x y hx hy)
  have HS := Aside0.mk (rof_o (nodeX x y) (nodeX_u8 hu hv) (by rw [nodeX_len hx hy]; decide))
  unfold Ret at hX hY HS ⊢
  unfold MakesU at HT
  rw [hX'.v] at hX HT
  rw [hY'.v] at hY HT
  rw [← nodeH_eq, HD.out.v] at HS
  have HX := Aside0.mk hX
  have HY := Aside0.mk hY
  rw [hD.v]
  have hc1 := cut_a A n c k (by omega) hc
  have hc2 := cut_b A n c k (by omega)
  have d0 : ((n : Int) == 0) = false := by simp; omega
  have d1 : ((n : Int) == 1) = false := by simp; omega
  have HC1 := Aside0.mk hc1
  have HC2 := Aside0.mk hc2
  clear hD hX hY hX' hY' hx hy hu hv hk hc hm h2 hk2 hc1 hc2
  go_enter Try.func42, Try.ntmps42
  go_wp2_with (go_at_call 60; refine (HKB.out _).mono ?_; rintro e w2 ⟨rfl, hd⟩; have HZ2 := Aside0.mk (blk_below HZ.out (Drawn0.below hd)); have HB2 := Aside0.mk (below_step HB.out (Drawn0.below hd)); clear hd)
  clear HZ HB
  have hq1 := HC1.out
  have hq2 := HC2.out
  refine wp_region_held_drew (S := fun _ => True) (by kernel_rfl) trivial (fun hHeld => ?_)
  (refine wpAnyH_take (i := 0) (v := ?_) rfl (by kernel_rfl) (by kernel_rfl) (by kernel_rfl) (fun _ _ _ h => h) (Or.inl ⟨by rfl, ?_⟩) (by assumption) ?_; (case' refine_2 => (intro w hSw; go_simp; try with_reducible rfl)); (try simp only [Act.put, List.getElem_toArray, List.getElem_cons_zero, List.getElem_cons_succ, List.setIfInBounds_toArray, List.set_cons_zero, List.set_cons_succ]))
  (refine wpAnyH_take (i := 1) (v := ?_) rfl (by kernel_rfl) (by kernel_rfl) (by kernel_rfl) (fun _ _ _ h => h) (Or.inl ⟨by rfl, ?_⟩) (by assumption) ?_; (case' refine_2 => (intro w hSw; go_simp; try with_reducible rfl)); (try simp only [Act.put, List.getElem_toArray, List.getElem_cons_zero, List.getElem_cons_succ, List.setIfInBounds_toArray, List.set_cons_zero, List.set_cons_succ]))
  (refine wpAnyH_take (i := 2) (v := ?_) rfl (by kernel_rfl) (by kernel_rfl) (by kernel_rfl) (fun _ _ _ h => h) (Or.inl ⟨by rfl, ?_⟩) (by assumption) ?_; (case' refine_2 => (intro w hSw; go_simp; try with_reducible rfl)); (try simp only [Act.put, List.getElem_toArray, List.getElem_cons_zero, List.getElem_cons_succ, List.setIfInBounds_toArray, List.set_cons_zero, List.set_cons_succ]))
  (refine wpAnyH_take (i := 4) (v := ?_) rfl (by kernel_rfl) (by kernel_rfl) (by kernel_rfl) (fun _ _ _ h => h) (Or.inl ⟨by rfl, ?_⟩) (by assumption) ?_; (case' refine_2 => (intro w hSw; go_simp; try with_reducible rfl)); (try simp only [Act.put, List.getElem_toArray, List.getElem_cons_zero, List.getElem_cons_succ, List.setIfInBounds_toArray, List.set_cons_zero, List.set_cons_succ]))
  (refine wpAnyH_take (i := 5) (v := ?_) rfl (by kernel_rfl) (by kernel_rfl) (by kernel_rfl) (fun _ _ _ h => h) (Or.inl ⟨by rfl, ?_⟩) (by assumption) ?_; (case' refine_2 => (intro w hSw; go_simp; try with_reducible rfl)); (try simp only [Act.put, List.getElem_toArray, List.getElem_cons_zero, List.getElem_cons_succ, List.setIfInBounds_toArray, List.set_cons_zero, List.set_cons_succ]))
  (refine wpAnyH_take (i := 6) (v := ?_) rfl (by kernel_rfl) (by kernel_rfl) (by kernel_rfl) (fun _ _ _ h => h) (Or.inl ⟨by rfl, ?_⟩) (by assumption) ?_; (case' refine_2 => (intro w hSw; go_simp; try with_reducible rfl)); (try simp only [Act.put, List.getElem_toArray, List.getElem_cons_zero, List.getElem_cons_succ, List.setIfInBounds_toArray, List.set_cons_zero, List.set_cons_succ]))
  (refine wpAnyH_ready (rs := [3]) (by kernel_rfl) (by simp) (AllReadyH.cons rfl (fun K hK => ?_) AllReadyH.nil); go_simp)
  refine (HX.out _ (below_drew1 HB2.out)).mono ?_
  rintro e w3 ⟨rfl, hb⟩
  have HZ3 := Aside0.mk (blk_below HZ2.out (below_drew_of hb))
  have HB3 := Aside0.mk (below_step HB2.out (below_drew_of hb))
  clear hb
  (refine Shut.out hK _ _ trivial (fun hHeld => ?_); clear hK K; (try simp only [Act.put, List.getElem_toArray, List.getElem_cons_zero, List.getElem_cons_succ, List.setIfInBounds_toArray, List.set_cons_zero, List.set_cons_succ]))
  (refine wpAnyH_ready (rs := [7]) (by kernel_rfl) (by simp) (AllReadyH.cons rfl (fun K hK => ?_) AllReadyH.nil); go_simp)
  refine (HY.out _ HB3.out).mono ?_
  rintro e w4 ⟨rfl, hb⟩
  have HZ4 := Aside0.mk (blk_below HZ3.out hb)
  have HB4 := Aside0.mk (below_step HB3.out hb)
  clear hb
  (refine Shut.out hK _ _ trivial (fun hHeld => ?_); clear hK K; (try simp only [Act.put, List.getElem_toArray, List.getElem_cons_zero, List.getElem_cons_succ, List.setIfInBounds_toArray, List.set_cons_zero, List.set_cons_succ]))
  (refine wpAnyH_ready (rs := [8]) (by kernel_rfl) (by simp) (AllReadyH.cons rfl (fun K hK => ?_) AllReadyH.nil); go_simp)
  refine (HT.out _).mono ?_
  rintro e w5 ⟨v, rfl, ho, hb⟩
  have HZ5 := Aside0.mk (blk_below HZ4.out hb)
  have HB5 := Aside0.mk (below_step HB4.out hb)
  have HS5 := Aside0.mk (HS.out _ v w5 ho)
  clear hb ho
  (refine Shut.out hK _ _ trivial (fun hHeld => ?_); clear hK K; (try simp only [Act.put, List.getElem_toArray, List.getElem_cons_zero, List.getElem_cons_succ, List.setIfInBounds_toArray, List.set_cons_zero, List.set_cons_succ]))
  (refine wpAnyH_ready (rs := [9]) (by kernel_rfl) (by simp) (AllReadyH.cons rfl (fun K hK => ?_) AllReadyH.nil); go_simp)
  refine HS5.out.mono ?_
  rintro e w6 ⟨rfl, hb⟩
  have HZ6 := Aside0.mk (blk_below HZ5.out hb)
  have HB6 := Aside0.mk (below_step HB5.out hb)
  clear hb
  (refine Shut.out hK _ _ trivial (fun hHeld => ?_); clear hK K; (try simp only [Act.put, List.getElem_toArray, List.getElem_cons_zero, List.getElem_cons_succ, List.setIfInBounds_toArray, List.set_cons_zero, List.set_cons_succ]))
  refine wpAnyH_ready (rs := [10]) (by kernel_rfl) (by simp) (AllReadyH.cons rfl (fun K hK => ?_) AllReadyH.nil)
  rw [if_pos (by rfl)]
  refine wp_store_row 24 (.tmp 2) (.tmp 28) rfl w.heap.size D rfl rfl 24 Z32 HZ6.out HIF.out HD.out.zs HD.out.one ?_
  (refine Shut.out hK _ _ trivial (fun hHeld => ?_); clear hK K; (try simp only [Act.put, List.getElem_toArray, List.getElem_cons_zero, List.getElem_cons_succ, List.setIfInBounds_toArray, List.set_cons_zero, List.set_cons_succ]))
  refine wpAnyH_done (by kernel_rfl) ?_ _
  go_wp2_with (fail)
  have HSR := setRow_heap w6 w.heap.size Z32 D _ _ HZ6.out
  refine bodyPost_ret (v := .agg D) (results_cell_row rfl _ _ w.heap.size 24 D (0, 0) _ rfl HSR Try.underlying24 rfl HIF.out) rfl ⟨rfl, below_setRow HB6.out (Nat.le_refl _) D⟩
theorem rroot_c : ∀ (n : Nat) (l : List Sm), l.length = n → n ≤ 1000000 → ∀ (A : Option Addr) (c : Nat) (w : World), Rs w A l → n ≤ c → Lu l →
    Calls Try.prog 42 #[.slice A n c] w (Ret w (rootT l)) := by
  intro n
  induction n using Nat.strongRecOn with
  | ind n ih =>
  intro l hn hm A c w hr hc hu
  by_cases h0 : n = 0
  · subst h0
    have h1 : l = [] := List.length_eq_zero_iff.1 hn
    subst h1
    rw [rootT_nil]
    exact rroot_nil A c w
  · by_cases h1 : n = 1
    · subst h1
      obtain ⟨a, rfl⟩ := List.length_eq_one_iff.1 hn
      rw [rootT_one]
      exact rroot_one a (hu a (by simp)).2 A c w hr
    · have hk := hlf_lt (n := n) (by omega)
      have hp := hlf_pos n
      rw [rootT_two (l := l) (by omega), hn]
      exact rroot_two _ _ (rootT_len _) (rootT_len _) (rootT_u8 _) (rootT_u8 _) n _ rfl (by omega) hm A c hc w
        (fun W hW => ih _ hk (l.take (hlf n)) (by rw [List.length_take]; omega) (by omega) A c W (Rs.take (Kd.C_below hr hW) (by omega)) (by omega) (hu.take _))
        (fun W hW => ih (n - hlf n) (by omega) (l.drop (hlf n)) (by rw [List.length_drop]; omega) (by omega) _ (c - hlf n) W (Rs.drop (Kd.C_below hr hW) (by omega) (by omega)) (by omega) (hu.drop _))
end Go.Proofs.Ytbebkogkeepfoaa.Tree
/- The document's Path, Frontier. -/
namespace Go.Proofs.Ytbebkogkeepfoaa.Tree
set_option linter.unusedVariables false
set_option linter.unusedSimpArgs false
open Go.RowKit Go.Proofs.Ytbebkogkeepfoaa.Base Go.Proofs.Ytbebkogkeepfoaa.TlvPlain Go.Proofs.Ytbebkogkeepfoaa.ShaPlain Go.Proofs.Ytbebkogkeepfoaa.Sha Go.Proofs.Ytbebkogkeepfoaa.Com Go.Proofs.Ytbebkogkeepfoaa.Aid Go.Proofs.YtbebkogkeepfoaaW.PrintWords Go.Proofs.YtbebkogkeepfoaaW.PrintLast Go.Proofs.YtbebkogkeepfoaaW.PrintMore
end Go.Proofs.Ytbebkogkeepfoaa.Tree
/- The document's Frontier. -/
namespace Go.Proofs.Ytbebkogkeepfoaa.Tree
set_option linter.unusedVariables false
set_option linter.unusedSimpArgs false
open Go.RowKit Go.Proofs.Ytbebkogkeepfoaa.Base Go.Proofs.Ytbebkogkeepfoaa.TlvPlain Go.Proofs.Ytbebkogkeepfoaa.ShaPlain Go.Proofs.Ytbebkogkeepfoaa.Sha Go.Proofs.Ytbebkogkeepfoaa.Com Go.Proofs.Ytbebkogkeepfoaa.Aid Go.Proofs.YtbebkogkeepfoaaW.PrintWords Go.Proofs.YtbebkogkeepfoaaW.PrintLast Go.Proofs.YtbebkogkeepfoaaW.PrintMore
end Go.Proofs.Ytbebkogkeepfoaa.Tree
/- The document's Fold. -/
namespace Go.Proofs.Ytbebkogkeepfoaa.Tree
set_option linter.unusedVariables false
set_option linter.unusedSimpArgs false
open Go.RowKit Go.Proofs.Ytbebkogkeepfoaa.Base Go.Proofs.Ytbebkogkeepfoaa.TlvPlain Go.Proofs.Ytbebkogkeepfoaa.ShaPlain Go.Proofs.Ytbebkogkeepfoaa.Sha Go.Proofs.Ytbebkogkeepfoaa.Com Go.Proofs.Ytbebkogkeepfoaa.Aid Go.Proofs.YtbebkogkeepfoaaW.PrintWords Go.Proofs.YtbebkogkeepfoaaW.PrintLast Go.Proofs.YtbebkogkeepfoaaW.PrintMore
/-- The world in the rounds: the result's cells, and the sum so far. -/
structure FoldG (w : World) (g : Nat) (d : Sm) (W : World) : Prop where
  z : W.heap[w.heap.size]? = some (.cells Z32 24 (0, 0))
  d : W.heap[g]? = some (.cells (nums .u8 d).toArray 24 (0, 0))
  b : Below w.heap.size w W
  h : w.heap.size < g
end Go.Proofs.Ytbebkogkeepfoaa.Tree
/- The law's Same. -/
namespace Go.Proofs.Ytbebkogkeepfoaa.Tree
set_option linter.unusedVariables false
set_option linter.unusedSimpArgs false
open Go.RowKit Go.Proofs.Ytbebkogkeepfoaa.Base Go.Proofs.Ytbebkogkeepfoaa.TlvPlain Go.Proofs.Ytbebkogkeepfoaa.ShaPlain Go.Proofs.Ytbebkogkeepfoaa.Sha Go.Proofs.Ytbebkogkeepfoaa.Com Go.Proofs.Ytbebkogkeepfoaa.Aid Go.Proofs.YtbebkogkeepfoaaW.PrintWords Go.Proofs.YtbebkogkeepfoaaW.PrintLast Go.Proofs.YtbebkogkeepfoaaW.PrintMore
set_option maxHeartbeats 4000000 in
set_option maxRecDepth 100000 in
theorem same_c (a b : List Sm) (A0 A1 : Option Addr) (c0 c1 : Nat) (w : World) (h0 : Rs w A0 a) (h1 : Rs w A1 b) (hl : a.length ≤ 1000000) (hl2 : b.length ≤ 1000000) :
    Calls Try.prog 43 #[.slice A0 a.length c0, .slice A1 b.length c1] w (RetB w (decide (a = b))) := by
  unfold RetB
  have H0 := Aside0.mk h0
  have H1 := Aside0.mk h1
  have HB := Aside0.mk (Below.refl w.heap.size w)
  by_cases hn : a.length = b.length
  · obtain ⟨m, hm⟩ : ∃ m, a.length = m := ⟨_, rfl⟩
    have hm2 : b.length = m := by omega
    rw [hm, hm2]
    have HM := Aside0.mk hm
    have HM2 := Aside0.mk hm2
    rw [hm] at hl
    have q0 : (m : Int) ≤ 1000000 := by omega
    have q1 : ((m : Int) != (m : Int)) = false := by simp
    clear h0 h1 hn hm hm2 hl2 hl
    go_enter Try.func43, Try.ntmps43
    go_wp2_with (fail)
    go_loopw [5] (fun i wr => ∃ k : Nat, k ≤ m ∧ i = .int .i64 k ∧ Aside0 (a.take k = b.take k) ∧ Below w.heap.size w wr) (fun i _ => m - (intOf i).toNat)
    case atStart => exact ⟨0, Nat.zero_le _, rfl, ⟨rfl⟩, HB.out⟩
    case round =>
      clear HB
      obtain ⟨k, hk, rfl, HE, hb⟩ := hrel
      have HB := Aside0.mk hb
      clear hb
      obtain ⟨W, hwy⟩ : ∃ wy, wy = wr := ⟨_, rfl⟩
      subst hwy
      by_cases hlt : k < m
      · obtain ⟨ad0, rfl, hx, hxl⟩ := rs_at H0.out k (by have := HM.out; omega)
        obtain ⟨ad1, rfl, hy, hyl⟩ := rs_at H1.out k (by have := HM2.out; omega)
        have HX := Aside0.mk (take_snoc a k (by have := HM.out; omega))
        have HY := Aside0.mk (take_snoc b k (by have := HM2.out; omega))
        obtain ⟨x, hxx⟩ : ∃ x, a[k]'(by have := HM.out; omega) = x := ⟨_, rfl⟩
        obtain ⟨y, hyy⟩ : ∃ y, b[k]'(by have := HM2.out; omega) = y := ⟨_, rfl⟩
        rw [hxx] at hx hxl HX
        rw [hyy] at hy hyl HY
        obtain ⟨X, hX⟩ := sumF x hxl
        obtain ⟨Y, hY⟩ := sumF y hyl
        have HXI := Aside0.mk hX.infoL
        have HXE := Aside0.mk hX.eq
        have HYI := Aside0.mk hY.infoL
        have HYE := Aside0.mk hY.eq
        have HAX := Aside0.mk (show AtC W (ad0.add (k * 32)) (nums .u8 x) from hx.below HB.out)
        have HAY := Aside0.mk (show AtC W (ad1.add (k * 32)) (nums .u8 y) from hy.below HB.out)
        have hk0 : (0 : Int) ≤ (k : Int) := by omega
        have hk1 : (k : Int) < (m : Int) := by omega
        have heq := run_eq_sum x y hxl hyl
        rw [hX.v, hY.v] at heq
        have hguard := guard_32
        have hu24 := Try.underlying24
        obtain ⟨bb, hbb⟩ : ∃ bb, decide (x = y) = bb := ⟨_, rfl⟩
        rw [hbb] at heq
        have HBB := Aside0.mk hbb
        have HK := Aside0.mk hlt
        clear hx hy hxl hyl hX hY hxx hyy hbb hk hlt
        go_wp2_with (fail)
        refine wp_region_held_drew (S := fun w' => AtC w' (ad0.add (k * 32)) (nums .u8 x) ∧ AtC w' (ad1.add (k * 32)) (nums .u8 y)) (by kernel_rfl) (And.intro HAX.out HAY.out) (fun hHeld => ?_)
        (refine wpAnyH_take (i := 0) (v := ?_) rfl (by kernel_rfl) (by kernel_rfl) (by kernel_rfl) (fun _ _ _ h => h) (Or.inl ⟨by rfl, ?_⟩) (by assumption) ?_; (case' refine_2 => (intro w hSw; go_simp; try with_reducible rfl)); (try simp only [Act.put, List.getElem_toArray, List.getElem_cons_zero, List.getElem_cons_succ, List.setIfInBounds_toArray, List.set_cons_zero, List.set_cons_succ]))
        (refine wpAnyH_take (i := 1) (v := ?_) rfl (by kernel_rfl) (by kernel_rfl) (by kernel_rfl) (fun _ _ _ h => h) (Or.inl ⟨by rfl, ?_⟩) (by assumption) ?_; (case' refine_2 => (intro w hSw; go_simp; try with_reducible rfl)); (try simp only [Act.put, List.getElem_toArray, List.getElem_cons_zero, List.getElem_cons_succ, List.setIfInBounds_toArray, List.set_cons_zero, List.set_cons_succ]))
        (refine wpAnyH_take (i := 2) (v := ?_) rfl (by kernel_rfl) (by kernel_rfl) (by kernel_rfl) (fun _ _ _ h => h) (Or.inl ⟨by rfl, ?_⟩) (by assumption) ?_; (case' refine_2 => (intro w hSw; go_simp; try with_reducible rfl)); (try simp only [Act.put, List.getElem_toArray, List.getElem_cons_zero, List.getElem_cons_succ, List.setIfInBounds_toArray, List.set_cons_zero, List.set_cons_succ]))
        (refine wpAnyH_take (i := 3) rfl (by kernel_rfl) (by kernel_rfl) (by kernel_rfl) (fun _ _ _ h => h) (yieldsIf_load_at (by rfl) _ _ rfl (ad0.add (k * 32)) rfl (nums .u8 x) _ (fun _ h => h.1) (by assumption) rfl HXI.out) (by assumption) ?_; (try simp only [Act.put, List.getElem_toArray, List.getElem_cons_zero, List.getElem_cons_succ, List.setIfInBounds_toArray, List.set_cons_zero, List.set_cons_succ]))
        rw [HXE.out]
        (refine wpAnyH_take (i := 4) (v := ?_) rfl (by kernel_rfl) (by kernel_rfl) (by kernel_rfl) (fun _ _ _ h => h) (Or.inl ⟨by rfl, ?_⟩) (by assumption) ?_; (case' refine_2 => (intro w hSw; go_simp; try with_reducible rfl)); (try simp only [Act.put, List.getElem_toArray, List.getElem_cons_zero, List.getElem_cons_succ, List.setIfInBounds_toArray, List.set_cons_zero, List.set_cons_succ]))
        (refine wpAnyH_take (i := 5) (v := ?_) rfl (by kernel_rfl) (by kernel_rfl) (by kernel_rfl) (fun _ _ _ h => h) (Or.inl ⟨by rfl, ?_⟩) (by assumption) ?_; (case' refine_2 => (intro w hSw; go_simp; try with_reducible rfl)); (try simp only [Act.put, List.getElem_toArray, List.getElem_cons_zero, List.getElem_cons_succ, List.setIfInBounds_toArray, List.set_cons_zero, List.set_cons_succ]))
        (refine wpAnyH_take (i := 6) (v := ?_) rfl (by kernel_rfl) (by kernel_rfl) (by kernel_rfl) (fun _ _ _ h => h) (Or.inl ⟨by rfl, ?_⟩) (by assumption) ?_; (case' refine_2 => (intro w hSw; go_simp; try with_reducible rfl)); (try simp only [Act.put, List.getElem_toArray, List.getElem_cons_zero, List.getElem_cons_succ, List.setIfInBounds_toArray, List.set_cons_zero, List.set_cons_succ]))
        (refine wpAnyH_take (i := 7) rfl (by kernel_rfl) (by kernel_rfl) (by kernel_rfl) (fun _ _ _ h => h) (yieldsIf_load_at (by rfl) _ _ rfl (ad1.add (k * 32)) rfl (nums .u8 y) _ (fun _ h => h.2) (by assumption) rfl HYI.out) (by assumption) ?_; (try simp only [Act.put, List.getElem_toArray, List.getElem_cons_zero, List.getElem_cons_succ, List.setIfInBounds_toArray, List.set_cons_zero, List.set_cons_succ]))
        rw [HYE.out]
        (refine wpAnyH_take (i := 8) (v := ?_) rfl (by kernel_rfl) (by kernel_rfl) (by kernel_rfl) (fun _ _ _ h => h) (Or.inl ⟨by rfl, ?_⟩) (by assumption) ?_; (case' refine_2 => (intro w hSw; go_simp; try with_reducible rfl)); (try simp only [Act.put, List.getElem_toArray, List.getElem_cons_zero, List.getElem_cons_succ, List.setIfInBounds_toArray, List.set_cons_zero, List.set_cons_succ]))
        refine wpAnyH_done (by kernel_rfl) ?_ _
        have HB2 := Aside0.mk (below_drew1 HB.out)
        cases bb with
        | false =>
          have HF := Aside0.mk (show a ≠ b from fun h => by
            have h1 := HX.out
            rw [h, HY.out, ← h, HE.out] at h1
            have := List.append_cancel_left h1
            simp at this
            exact (of_decide_eq_false HBB.out) this.symm)
          clear heq
          go_wp2_with (fail)
          go_ret
          exact ⟨(congrArg (fun b => Ending.returned (Value.bool b)) (decide_eq_false HF.out).symm), HB2.out⟩
        | true =>
          have HEQ := Aside0.mk (show a.take (k + 1) = b.take (k + 1) from by rw [HX.out, HY.out, HE.out, of_decide_eq_true HBB.out])
          clear heq
          go_wp2_with (fail)
          go_roundw
          case rel => exact ⟨k + 1, by have := HK.out; omega, by go_num, HEQ, HB2.out⟩
          case measure => have := HK.out; simp [intOf]; omega
      · have hkm : k = m := by omega
        subst hkm
        have HF := Aside0.mk (show a = b by
          have h := HE.out
          rwa [List.take_of_length_le (by have := HM.out; omega), List.take_of_length_le (by have := HM2.out; omega)] at h)
        clear hlt hk
        go_wp2_with (fail)
        go_ret
        exact ⟨(congrArg (fun b => Ending.returned (Value.bool b)) (decide_eq_true HF.out).symm), HB.out⟩
  · have HF := Aside0.mk (show a ≠ b from fun h => hn (by rw [h]))
    have e1 : ((a.length : Int) == (b.length : Int)) = false := by rw [beq_eq_false_iff_ne]; omega
    have e2 : ((a.length : Int) != (b.length : Int)) = true := by rw [bne_iff_ne]; omega
    have e3 : (a.length == b.length) = false := by rw [beq_eq_false_iff_ne]; exact hn
    have hn2 : ¬ a.length = b.length := hn
    clear h0 h1 hl hl2 hn
    go_enter Try.func43, Try.ntmps43
    go_wp2_with (fail)
    go_ret
    exact ⟨(congrArg (fun b => Ending.returned (Value.bool b)) (decide_eq_false HF.out).symm), HB.out⟩
end Go.Proofs.Ytbebkogkeepfoaa.Tree
/- tree.Check's contract; the law's example. -/
namespace Go.Proofs.Ytbebkogkeepfoaa.Tree
set_option linter.unusedVariables false
set_option linter.unusedSimpArgs false
open Go.RowKit Go.Proofs.Ytbebkogkeepfoaa.Base Go.Proofs.Ytbebkogkeepfoaa.TlvPlain Go.Proofs.Ytbebkogkeepfoaa.ShaPlain Go.Proofs.Ytbebkogkeepfoaa.Sha Go.Proofs.Ytbebkogkeepfoaa.Com Go.Proofs.Ytbebkogkeepfoaa.Aid Go.Proofs.YtbebkogkeepfoaaW.PrintWords Go.Proofs.YtbebkogkeepfoaaW.PrintLast Go.Proofs.YtbebkogkeepfoaaW.PrintMore
/-- Whether a leaf checks. -/
def checkT (root leaf : Sm) (i n : Int) (p : List Sm) : Bool :=
  decide (0 ≤ i ∧ i < n ∧ n ≤ 1048576) && ((upN leaf i.toNat n.toNat p.reverse).2.1 && decide ((upN leaf i.toNat n.toNat p.reverse).1 = root))
theorem check_c (root leaf : Sm) (hr : root.length = 32) (hl : leaf.length = 32) (hu : U8' leaf) (i n : Int) (p : List Sm) (hp : p.length ≤ 1000000000) (hpu : Lu p) (A : Option Addr) (c : Nat) (hc : p.length ≤ c) (w : World) (hrs : Rs w A p) :
    Calls Try.prog 30 #[sumV root, sumV leaf, .int .i64 i, .int .i64 n, .slice A p.length c] w (RetB w (checkT root leaf i n p)) := by
  unfold checkT
  by_cases h : 0 ≤ i ∧ i < n ∧ n ≤ 1048576
  · rw [decide_eq_true h, Bool.true_and]
    obtain ⟨k, rfl⟩ : ∃ k : Nat, (k : Int) = i := ⟨i.toNat, by omega⟩
    obtain ⟨m, rfl⟩ : ∃ m : Nat, (m : Int) = n := ⟨n.toNat, by omega⟩
    rw [Int.toNat_natCast, Int.toNat_natCast]
    refine chk_good root leaf hr hl (k : Int) (m : Int) h.1 h.2.1 h.2.2 A p.length c w _ (upN_len _ _ _ _) _ (fun W hW => ?_)
    have h2 := up_c leaf hl hu p.reverse k m (by omega) (by omega) (by rw [List.length_reverse]; exact hp) A c W (by rw [List.reverse_reverse]; exact Kd.C_below hrs hW) (by rw [List.length_reverse]; exact hc) (fun x hx => hpu x (List.mem_reverse.1 hx))
    rwa [List.length_reverse] at h2
  · rw [decide_eq_false h, Bool.false_and]
    exact chk_bad root leaf hr hl i n (by omega) A p.length c w
theorem check_path (l : List Sm) (i : Nat) (hi : i < l.length) (hm : l.length ≤ 1048576) : checkT (rootT l) (l.getD i Z) (i : Int) (l.length : Int) (pathT l i) = true := by
  have h := path_up l i hi
  unfold checkT
  rw [Int.toNat_natCast, Int.toNat_natCast, h.1, h.2, decide_eq_true (by omega)]
  simp
theorem run_sum2 (W : World) (a b : List Value) (ha : a.length = 32) (hb : b.length = 32) : (Instr.buildSlice 52 2 #[(0, .agg a.toArray), (1, .agg b.toArray)]).run Try.prog W = .ok (.slice (some ⟨W.heap.size, 0, none⟩) 2 2) (W.alloc (.cells (a ++ b).toArray 24)) := by
  have h := run_sums W [a, b] (fun x hx => by
    rcases List.mem_cons.1 hx with rfl | hx
    · exact ha
    · rw [List.mem_singleton.1 hx]; exact hb) (by simp) (by simp)
  rw [show [a, b].flatten = a ++ b from by simp] at h
  exact h
theorem wpList_sum2 {ops : Array Oper} {rest : List Oper} {o : Oper} {a : Act} {w : World} {Q : Exit → Act → World → Prop} (hg : o.guard = none) (x y : Operand) (ho : o.op = .buildSlice 52 2 #[(0, x), (1, y)]) (cs ds : List Value) (hx : a.eval x = .agg cs.toArray) (hy : a.eval y = .agg ds.toArray) (hc : cs.length = 32) (hd : ds.length = 32)
    (h : wpList Try.prog ops Q rest (a.put o.dst (.slice (some ⟨w.heap.size, 0, none⟩) 2 2)) (w.alloc (.cells (cs ++ ds).toArray 24))) : wpList Try.prog ops Q (o :: rest) a w :=
  wpList_plain hg fun _ hK => by
    have hp : (#[((0 : Nat), x), (1, y)].map fun (i, z) => (i, a.eval z)) = #[(0, .agg cs.toArray), (1, .agg ds.toArray)] := by simp [hx, hy]
    unfold Oper.wp execOp
    simp only [ho, hp, Sem.run_bind, run_sum2 w cs ds hc hd, Result.andThen_ok]
    exact hK _ _ h
theorem wp_sum2 {o : Oper} {a : Act} {w : World} {K : Act → World → Prop} {Q : Exit → Act → World → Prop} (x y : Operand) (ho : o.op = .buildSlice 52 2 #[(0, x), (1, y)]) (cs ds : List Value) (hx : a.eval x = .agg cs.toArray) (hy : a.eval y = .agg ds.toArray) (hc : cs.length = 32) (hd : ds.length = 32)
    (h : K (a.put o.dst (.slice (some ⟨w.heap.size, 0, none⟩) 2 2)) (w.alloc (.cells (cs ++ ds).toArray 24))) : Oper.wp Try.prog o a w K Q := by
  have hp : (#[((0 : Nat), x), (1, y)].map fun (i, z) => (i, a.eval z)) = #[(0, .agg cs.toArray), (1, .agg ds.toArray)] := by simp [hx, hy]
  unfold Oper.wp execOp
  simp only [ho, hp, Sem.run_bind, run_sum2 w cs ds hc hd, Result.andThen_ok]
  exact h
theorem rs_two {cs ds : List Value} {x y : Sm} (h : SumC cs x) (h2 : SumC ds y) (W : World) : Rs (W.alloc (.cells (cs ++ ds).toArray 24)) (some ⟨W.heap.size, 0, none⟩) [x, y] := by
  have ho : Os (W.alloc (.cells (cs ++ ds).toArray 24)) W.heap.size (.slice (some ⟨W.heap.size, 0, none⟩) 2 2) [x, y] := by
    refine lit_R KS W 24 (okp := fun _ => False) (xs := [x, y]) (inner := cs ++ ds) ⟨by rw [List.length_append, h.lenC, h2.lenC]; rfl, fun j p hj => ?_⟩ (by simp)
    match j, hj with
    | 0, hj =>
      cases hj
      rw [show ((cs ++ ds).drop (0 * KS.sz)).take KS.sz = cs from by
        rw [Nat.zero_mul, List.drop_zero, List.take_left' (by rw [h.lenC]; rfl)]]
      exact h.m W _
    | 1, hj =>
      cases hj
      rw [show ((cs ++ ds).drop (1 * KS.sz)).take KS.sz = ds from by
        rw [Nat.one_mul, List.drop_left' (by rw [h.lenC]; rfl), List.take_of_length_le (by rw [h2.lenC]; exact Nat.le_refl _)]]
      exact h2.m W _
  obtain ⟨A, c, he, _, hr⟩ := Kd.R_reads ho
  injection he with he
  subst he
  exact hr
theorem path_two (x y : Sm) : pathT [x, y] 1 = [leafH x] := by
  have h1 : hlf 2 = 1 := by decide
  have e : ([x, y] : List Sm).length = 2 := rfl
  rw [pathT, dif_neg (by rw [e]; decide), e, h1, if_neg (by decide), show ([x, y] : List Sm).drop 1 = [y] from rfl, show ([x, y] : List Sm).take 1 = [x] from rfl, pathT, dif_pos (show ([y] : List Sm).length ≤ 1 from Nat.le_refl _), rootT_one]
  rfl
/-- A new block's cells. -/
theorem atC_blk {W : World} {g T : Nat} {cs : List Value} {fr : Nat × Nat} (h : W.heap[g]? = some (.cells cs.toArray T fr)) : AtC W ⟨g, 0, none⟩ cs := fun j v hj => by
  rw [add_plain]
  unfold World.cell?
  dsimp only
  rw [h]
  simpa using hj
set_option maxHeartbeats 4000000 in
set_option maxRecDepth 100000 in
theorem live26_c (w : World) : Calls Try.prog 32 #[] w (RetB w true) := by
  obtain ⟨a, ha⟩ : ∃ a : Sm, a = 1 :: List.replicate 31 0 := ⟨_, rfl⟩
  obtain ⟨b, hb⟩ : ∃ b : Sm, b = 2 :: List.replicate 31 0 := ⟨_, rfl⟩
  have hal : a.length = 32 := by rw [ha]; rfl
  have hbl : b.length = 32 := by rw [hb]; rfl
  have hau : U8' a := by rw [ha]; intro y hy; rcases List.mem_cons.1 hy with rfl | hy; · decide
                         have := List.eq_of_mem_replicate hy; omega
  have hbu : U8' b := by rw [hb]; intro y hy; rcases List.mem_cons.1 hy with rfl | hy; · decide
                         have := List.eq_of_mem_replicate hy; omega
  obtain ⟨X, hX⟩ := sumC a hal
  obtain ⟨Y, hY⟩ := sumC b hbl
  have HXE := Aside0.mk (show X.toArray = (nums .u8 (1 :: List.replicate 31 0)).toArray from by rw [← hX.eq, ha])
  have HYE := Aside0.mk (show Y.toArray = (nums .u8 (2 :: List.replicate 31 0)).toArray from by rw [← hY.eq, hb])
  have hlu : Lu [a, b] := fun x hx => by
    rcases List.mem_cons.1 hx with rfl | hx
    · exact ⟨hal, hau⟩
    · rw [List.mem_singleton.1 hx]; exact ⟨hbl, hbu⟩
  clear ha hb
  have HX := Aside0.mk hX
  have HY := Aside0.mk hY
  have HU := Aside0.mk (And.intro hal (And.intro hbl (And.intro hau (And.intro hbu hlu))))
  have HIX := Aside0.mk (show (Try.prog.info? 24).map (·.size) = some X.toArray.size from by simp [hX.lenC, info_32])
  have HIY := Aside0.mk (show (Try.prog.info? 24).map (·.size) = some Y.toArray.size from by simp [hY.lenC, info_32])
  have HOX := Aside0.mk (show X.toArray.all (·.oneCell') = true from by rw [← hX.eq]; exact nums_one _ _)
  have HOY := Aside0.mk (show Y.toArray.all (·.oneCell') = true from by rw [← hY.eq]; exact nums_one _ _)
  have HSX := Aside0.mk (show Z32.size = X.toArray.size from by simp [Z32, nums, hX.lenC])
  have HSY := Aside0.mk (show Z32.size = Y.toArray.size from by simp [Z32, nums, hY.lenC])
  have HG1 := Aside0.mk (show ((w.alloc (.cells Z32 24)).alloc (.cells Z32 24)).heap[w.heap.size]? = some (.cells Z32 24 (0, 0)) from blk_alloc (blk_new _ _) _)
  have HG2 := Aside0.mk (show (((w.alloc (.cells Z32 24)).alloc (.cells Z32 24)).setRow w.heap.size X.toArray).heap[w.heap.size + 1]? = some (.cells Z32 24 (0, 0)) from (setRow_other _ _ _ _ (by omega)).trans (second_new' _ _ _))
  have HL1 := Aside0.mk (show ((((w.alloc (.cells Z32 24)).alloc (.cells Z32 24)).setRow w.heap.size X.toArray).setRow (w.heap.size + 1) Y.toArray).heap[w.heap.size]? = some (.cells X.toArray 24 (0, 0)) from (setRow_other _ _ _ _ (by omega)).trans (setRow_heap _ _ Z32 X.toArray _ _ HG1.out))
  have HL2 := Aside0.mk (show ((((w.alloc (.cells Z32 24)).alloc (.cells Z32 24)).setRow w.heap.size X.toArray).setRow (w.heap.size + 1) Y.toArray).heap[w.heap.size + 1]? = some (.cells Y.toArray 24 (0, 0)) from setRow_heap _ _ Z32 Y.toArray _ _ HG2.out)
  have HBL := Aside0.mk (show Below w.heap.size w ((((w.alloc (.cells Z32 24)).alloc (.cells Z32 24)).setRow w.heap.size X.toArray).setRow (w.heap.size + 1) Y.toArray) from below_setRow (below_setRow (below_alloc (below_alloc (Below.refl _ _) _) _) (Nat.le_refl _) _) (Nat.le_succ _) _)
  clear hX hY hal hbl hau hbu hlu
  unfold RetB
  go_enter Try.func32, Try.ntmps32
  go_upto_region 2 with (first
    | ((with_reducible refine gate_store (t := 24) (p := 1) (v := .tmp 5) rfl ?_); refine wpList_store_row rfl 24 (.tmp 1) (.tmp 5) rfl w.heap.size X.toArray rfl (by rw [HXE.out]; rfl) 24 Z32 HG1.out HIX.out HSX.out HOX.out ?_)
    | ((with_reducible refine gate_store (t := 24) (p := 2) (v := .tmp 6) rfl ?_); refine wpList_store_row rfl 24 (.tmp 2) (.tmp 6) rfl (w.heap.size + 1) Y.toArray rfl (by rw [HYE.out]; rfl) 24 Z32 HG2.out HIY.out HSY.out HOY.out ?_))
  obtain ⟨WL, hWL⟩ : ∃ W, ((((w.alloc (.cells Z32 24)).alloc (.cells Z32 24)).setRow w.heap.size X.toArray).setRow (w.heap.size + 1) Y.toArray) = W := ⟨_, rfl⟩
  rw [hWL] at HL1 HL2 HBL
  rw [show ((((w.alloc (.cells #[.int .u8 0, .int .u8 0, .int .u8 0, .int .u8 0, .int .u8 0, .int .u8 0, .int .u8 0, .int .u8 0, .int .u8 0, .int .u8 0, .int .u8 0, .int .u8 0, .int .u8 0, .int .u8 0, .int .u8 0, .int .u8 0, .int .u8 0, .int .u8 0, .int .u8 0, .int .u8 0, .int .u8 0, .int .u8 0, .int .u8 0, .int .u8 0, .int .u8 0, .int .u8 0, .int .u8 0, .int .u8 0, .int .u8 0, .int .u8 0, .int .u8 0, .int .u8 0] 24)).alloc (.cells #[.int .u8 0, .int .u8 0, .int .u8 0, .int .u8 0, .int .u8 0, .int .u8 0, .int .u8 0, .int .u8 0, .int .u8 0, .int .u8 0, .int .u8 0, .int .u8 0, .int .u8 0, .int .u8 0, .int .u8 0, .int .u8 0, .int .u8 0, .int .u8 0, .int .u8 0, .int .u8 0, .int .u8 0, .int .u8 0, .int .u8 0, .int .u8 0, .int .u8 0, .int .u8 0, .int .u8 0, .int .u8 0, .int .u8 0, .int .u8 0, .int .u8 0, .int .u8 0] 24)).setRow w.heap.size X.toArray).setRow (w.heap.size + 1) Y.toArray) = WL from hWL]
  clear hWL HG1 HG2
  go_wp2_with (first
    | ((with_reducible refine gate_dst (N := 8) rfl ?_); refine wpList_load_row rfl 24 (.tmp 1) rfl w.heap.size rfl 24 X.toArray (0, 0) _ (by exact HL1.out) Try.underlying24 rfl HIX.out ?_)
    | ((with_reducible refine gate_dst (N := 9) rfl ?_); refine wpList_load_row rfl 24 (.tmp 2) rfl (w.heap.size + 1) rfl 24 Y.toArray (0, 0) _ (by exact HL2.out) Try.underlying24 rfl HIY.out ?_)
    | ((with_reducible refine gate_dst (N := 10) rfl ?_); refine wpList_sum2 rfl (.tmp 8) (.tmp 9) rfl X Y rfl rfl HX.out.lenC HY.out.lenC ?_))
  have HR2 := Aside0.mk (rs_two HX.out HY.out WL)
  refine (path_c [a, b] 2 rfl (by decide) HU.out.2.2.2.2 1 (by decide) _ 2 (Nat.le_refl _) _ HR2.out).mono ?_
  rintro e w3 ⟨v, rfl, ho, hb⟩
  rw [path_two] at ho
  obtain ⟨gp, cap, rfl, hgp, hgs, _⟩ := Kd.R_form ho (by simp)
  obtain ⟨hat, hal⟩ := os_at ho 0 (by simp)
  obtain ⟨P, hP⟩ := sumC (leafH a) (leafH_len a)
  rw [show ([leafH a] : List Sm).getD 0 Z = leafH a from rfl, hP.eq, Nat.zero_mul] at hat
  have hba := below_alloc (Below.refl WL.heap.size WL) (.cells (X ++ Y).toArray 24)
  have HA1 := Aside0.mk (AtC.below (AtC.below (atC_blk HL1.out) hba) hb)
  have HA2 := Aside0.mk (AtC.below (AtC.below (atC_blk HL2.out) hba) hb)
  have HA3 := Aside0.mk hat
  have HB3 := Aside0.mk (below_step (below_step HBL.out hba) hb)
  obtain ⟨_, _, he, hcp, hrp⟩ := Kd.R_reads ho
  injection he with he1 he2 he3
  subst he1
  subst he3
  have HRP := Aside0.mk hrp
  have HCP := Aside0.mk hcp
  have HP := Aside0.mk hP
  clear ho hb hba hgp hgs hat hal he2 hcp hrp hP
  rw [show ([leafH a] : List Sm).length = 1 from rfl]
  have HIP := Aside0.mk (show (Try.prog.info? 24).map (·.size) = some P.length from by rw [HP.out.lenC]; exact info_32)
  have HJX := Aside0.mk (show (Try.prog.info? 24).map (·.size) = some X.length from by rw [HX.out.lenC]; exact info_32)
  have HJY := Aside0.mk (show (Try.prog.info? 24).map (·.size) = some Y.length from by rw [HY.out.lenC]; exact info_32)
  have HT := Aside0.mk (rleafx_c a HU.out.1)
  have HS := Aside0.mk (rof_o (leafX a) (leafX_u8 HU.out.2.2.1) (by rw [leafX_len HU.out.1]; decide))
  have HRT := Aside0.mk (fun W => root_c 2 [a, b] rfl (by decide) _ 2 (W.alloc (.cells (X ++ Y).toArray 24)) (rs_two HX.out HY.out W) (Nat.le_refl _) HU.out.2.2.2.2)
  have HCK := Aside0.mk (fun W hW => check_c (rootT [a, b]) b (rootT_len _) HU.out.2.1 HU.out.2.2.2.1 1 2 [leafH a] (by simp) (fun x hx => by rw [List.mem_singleton.1 hx]; exact ⟨leafH_len _, leafH_u8 _⟩) (some ⟨gp, 0, none⟩) cap HCP.out W (Kd.C_below HRP.out hW))
  have hck : checkT (rootT [a, b]) b 1 2 [leafH a] = true := by
    have h := check_path [a, b] 1 (by simp) (by simp)
    rwa [path_two] at h
  obtain ⟨G, hG⟩ := sumF (rootT [a, b]) (rootT_len _)
  unfold MakesU at HT
  unfold Ret at HS HRT
  unfold RetB at HCK
  rw [hck] at HCK
  rw [HX.out.v] at HT
  rw [← leafH_eq, HP.out.v] at HS
  rw [hG.v] at HRT HCK
  rw [HY.out.v] at HCK
  rw [show ([leafH a] : List Sm).length = 1 from rfl] at HCK
  have heq := run_eq_sum (leafH a) (leafH a) (leafH_len _) (leafH_len _)
  rw [HP.out.v, decide_eq_true rfl] at heq
  have hguard := guard_32
  have hu24 := Try.underlying24
  have HW3 := Aside0.mk (Below.refl w3.heap.size w3)
  clear hck hG HRP
  go_wp2_with (fail)
  refine wp_region_held_drew (S := fun w' => AtC w' ⟨w.heap.size, 0, none⟩ X ∧ AtC w' ⟨w.heap.size + 1, 0, none⟩ Y ∧ AtC w' ⟨gp, 0, none⟩ P) (by kernel_rfl) (And.intro HA1.out (And.intro HA2.out HA3.out)) (fun hHeld => ?_)
  (refine wpAnyH_take (i := 0) (v := ?_) rfl (by kernel_rfl) (by kernel_rfl) (by kernel_rfl) (fun _ _ _ h => h) (Or.inl ⟨by rfl, ?_⟩) (by assumption) ?_; (case' refine_2 => (intro w hSw; go_simp; try with_reducible rfl)); (try simp only [Act.put, List.getElem_toArray, List.getElem_cons_zero, List.getElem_cons_succ, List.setIfInBounds_toArray, List.set_cons_zero, List.set_cons_succ]))
  (refine wpAnyH_take (i := 1) (v := ?_) rfl (by kernel_rfl) (by kernel_rfl) (by kernel_rfl) (fun _ _ _ h => h) (Or.inl ⟨by rfl, ?_⟩) (by assumption) ?_; (case' refine_2 => (intro w hSw; go_simp; try with_reducible rfl)); (try simp only [Act.put, List.getElem_toArray, List.getElem_cons_zero, List.getElem_cons_succ, List.setIfInBounds_toArray, List.set_cons_zero, List.set_cons_succ]))
  (refine wpAnyH_take (i := 2) (v := ?_) rfl (by kernel_rfl) (by kernel_rfl) (by kernel_rfl) (fun _ _ _ h => h) (Or.inl ⟨by rfl, ?_⟩) (by assumption) ?_; (case' refine_2 => (intro w hSw; go_simp; try with_reducible rfl)); (try simp only [Act.put, List.getElem_toArray, List.getElem_cons_zero, List.getElem_cons_succ, List.setIfInBounds_toArray, List.set_cons_zero, List.set_cons_succ]))
  (refine wpAnyH_take (i := 3) (v := ?_) rfl (by kernel_rfl) (by kernel_rfl) (by kernel_rfl) (fun _ _ _ h => h) (Or.inl ⟨by rfl, ?_⟩) (by assumption) ?_; (case' refine_2 => (intro w hSw; go_simp; try with_reducible rfl)); (try simp only [Act.put, List.getElem_toArray, List.getElem_cons_zero, List.getElem_cons_succ, List.setIfInBounds_toArray, List.set_cons_zero, List.set_cons_succ]))
  (refine wpAnyH_take (i := 4) (v := ?_) rfl (by kernel_rfl) (by kernel_rfl) (by kernel_rfl) (fun _ _ _ h => h) (Or.inl ⟨by rfl, ?_⟩) (by assumption) ?_; (case' refine_2 => (intro w hSw; go_simp; try with_reducible rfl)); (try simp only [Act.put, List.getElem_toArray, List.getElem_cons_zero, List.getElem_cons_succ, List.setIfInBounds_toArray, List.set_cons_zero, List.set_cons_succ]))
  (refine wpAnyH_take (i := 5) (v := ?_) rfl (by kernel_rfl) (by kernel_rfl) (by kernel_rfl) (fun _ _ _ h => h) (Or.inl ⟨by rfl, ?_⟩) (by assumption) ?_; (case' refine_2 => (intro w hSw; go_simp; try with_reducible rfl)); (try simp only [Act.put, List.getElem_toArray, List.getElem_cons_zero, List.getElem_cons_succ, List.setIfInBounds_toArray, List.set_cons_zero, List.set_cons_succ]))
  (refine wpAnyH_take (i := 6) (v := ?_) rfl (by kernel_rfl) (by kernel_rfl) (by kernel_rfl) (fun _ _ _ h => h) (Or.inl ⟨by rfl, ?_⟩) (by assumption) ?_; (case' refine_2 => (intro w hSw; go_simp; try with_reducible rfl)); (try simp only [Act.put, List.getElem_toArray, List.getElem_cons_zero, List.getElem_cons_succ, List.setIfInBounds_toArray, List.set_cons_zero, List.set_cons_succ]))
  (refine wpAnyH_take (i := 7) (v := ?_) rfl (by kernel_rfl) (by kernel_rfl) (by kernel_rfl) (fun _ _ _ h => h) (Or.inl ⟨by rfl, ?_⟩) (by assumption) ?_; (case' refine_2 => (intro w hSw; go_simp; try with_reducible rfl)); (try simp only [Act.put, List.getElem_toArray, List.getElem_cons_zero, List.getElem_cons_succ, List.setIfInBounds_toArray, List.set_cons_zero, List.set_cons_succ]))
  (refine wpAnyH_take (i := 8) (v := ?_) rfl (by kernel_rfl) (by kernel_rfl) (by kernel_rfl) (fun _ _ _ h => h) (Or.inl ⟨by rfl, ?_⟩) (by assumption) ?_; (case' refine_2 => (intro w hSw; go_simp; try with_reducible rfl)); (try simp only [Act.put, List.getElem_toArray, List.getElem_cons_zero, List.getElem_cons_succ, List.setIfInBounds_toArray, List.set_cons_zero, List.set_cons_succ]))
  (refine wpAnyH_take (i := 9) rfl (by kernel_rfl) (by kernel_rfl) (by kernel_rfl) (fun _ _ _ h => h) (yieldsIf_load_at (by rfl) _ _ rfl ⟨gp, 0, none⟩ rfl P _ (fun _ h => h.2.2) (by assumption) rfl HIP.out) (by assumption) ?_; (try simp only [Act.put, List.getElem_toArray, List.getElem_cons_zero, List.getElem_cons_succ, List.setIfInBounds_toArray, List.set_cons_zero, List.set_cons_succ]))
  (refine wpAnyH_take (i := 10) rfl (by kernel_rfl) (by kernel_rfl) (by kernel_rfl) (fun _ _ _ h => h) (yieldsIf_load_at (by rfl) _ _ rfl ⟨w.heap.size, 0, none⟩ rfl X _ (fun _ h => h.1) (by assumption) rfl HJX.out) (by assumption) ?_; (try simp only [Act.put, List.getElem_toArray, List.getElem_cons_zero, List.getElem_cons_succ, List.setIfInBounds_toArray, List.set_cons_zero, List.set_cons_succ]))
  (refine wpAnyH_ready (rs := [11]) (by kernel_rfl) (by simp) (AllReadyH.cons rfl (fun K hK => ?_) AllReadyH.nil); go_simp)
  refine (HT.out _).mono ?_
  rintro e w4 ⟨v, rfl, ho, hb0⟩
  have HS4 := Aside0.mk (HS.out _ v w4 ho)
  have hb := below_drew_of hb0
  have HW4 := Aside0.mk (below_step HW3.out hb)
  have n1_ := Aside0.mk (HA1.out.below hb)
  have n2_ := Aside0.mk (HA2.out.below hb)
  have n3_ := Aside0.mk (HA3.out.below hb)
  have n4_ := Aside0.mk (below_step HB3.out hb)
  clear HA1 HA2 HA3 HB3
  have HA1 := n1_
  have HA2 := n2_
  have HA3 := n3_
  have HB3 := n4_
  clear n1_ n2_ n3_ n4_
  clear ho hb hb0
  (refine Shut.out hK _ _ (And.intro HA1.out (And.intro HA2.out HA3.out)) (fun hHeld => ?_); clear hK K; (try simp only [Act.put, List.getElem_toArray, List.getElem_cons_zero, List.getElem_cons_succ, List.setIfInBounds_toArray, List.set_cons_zero, List.set_cons_succ]))
  (refine wpAnyH_ready (rs := [12]) (by kernel_rfl) (by simp) (AllReadyH.cons rfl (fun K hK => ?_) AllReadyH.nil); go_simp)
  refine HS4.out.mono ?_
  rintro e w5 ⟨rfl, hb⟩
  have HW5 := Aside0.mk (below_step HW4.out hb)
  have n1_ := Aside0.mk (HA1.out.below hb)
  have n2_ := Aside0.mk (HA2.out.below hb)
  have n3_ := Aside0.mk (HA3.out.below hb)
  have n4_ := Aside0.mk (below_step HB3.out hb)
  clear HA1 HA2 HA3 HB3
  have HA1 := n1_
  have HA2 := n2_
  have HA3 := n3_
  have HB3 := n4_
  clear n1_ n2_ n3_ n4_
  clear hb
  (refine Shut.out hK _ _ (And.intro HA1.out (And.intro HA2.out HA3.out)) (fun hHeld => ?_); clear hK K; (try simp only [Act.put, List.getElem_toArray, List.getElem_cons_zero, List.getElem_cons_succ, List.setIfInBounds_toArray, List.set_cons_zero, List.set_cons_succ]))
  (refine wpAnyH_take (i := 13) (v := ?_) rfl (by kernel_rfl) (by kernel_rfl) (by kernel_rfl) (fun _ _ _ h => h) (Or.inl ⟨by rfl, ?_⟩) (by assumption) ?_; (case' refine_2 => (intro w hSw; go_simp; try with_reducible rfl)); (try simp only [Act.put, List.getElem_toArray, List.getElem_cons_zero, List.getElem_cons_succ, List.setIfInBounds_toArray, List.set_cons_zero, List.set_cons_succ]))
  (refine wpAnyH_take (i := 14) (v := ?_) rfl (by kernel_rfl) (by kernel_rfl) (by kernel_rfl) (fun _ _ _ h => h) (Or.inl ⟨by rfl, ?_⟩) (by assumption) ?_; (case' refine_2 => (intro w hSw; go_simp; try with_reducible rfl)); (try simp only [Act.put, List.getElem_toArray, List.getElem_cons_zero, List.getElem_cons_succ, List.setIfInBounds_toArray, List.set_cons_zero, List.set_cons_succ]))
  (refine wpAnyH_take (i := 15) (v := ?_) rfl (by kernel_rfl) (by kernel_rfl) (by kernel_rfl) (fun _ _ _ h => h) (Or.inl ⟨by rfl, ?_⟩) (by assumption) ?_; (case' refine_2 => (intro w hSw; go_simp; try with_reducible rfl)); (try simp only [Act.put, List.getElem_toArray, List.getElem_cons_zero, List.getElem_cons_succ, List.setIfInBounds_toArray, List.set_cons_zero, List.set_cons_succ]))
  (refine wpAnyH_take (i := 16) rfl (by kernel_rfl) (by kernel_rfl) (by kernel_rfl) (fun _ _ _ h => h) (yieldsIf_load_at (by rfl) _ _ rfl ⟨w.heap.size, 0, none⟩ rfl X _ (fun _ h => h.1) (by assumption) rfl HJX.out) (by assumption) ?_; (try simp only [Act.put, List.getElem_toArray, List.getElem_cons_zero, List.getElem_cons_succ, List.setIfInBounds_toArray, List.set_cons_zero, List.set_cons_succ]))
  (refine wpAnyH_take (i := 17) rfl (by kernel_rfl) (by kernel_rfl) (by kernel_rfl) (fun _ _ _ h => h) (yieldsIf_load_at (by rfl) _ _ rfl ⟨w.heap.size + 1, 0, none⟩ rfl Y _ (fun _ h => h.2.1) (by assumption) rfl HJY.out) (by assumption) ?_; (try simp only [Act.put, List.getElem_toArray, List.getElem_cons_zero, List.getElem_cons_succ, List.setIfInBounds_toArray, List.set_cons_zero, List.set_cons_succ]))
  (refine wpAnyH_take (i := 20) rfl (by kernel_rfl) (by kernel_rfl) (by kernel_rfl) (fun _ _ _ h => h) (yieldsIf_load_at (by rfl) _ _ rfl ⟨w.heap.size + 1, 0, none⟩ rfl Y _ (fun _ h => h.2.1) (by assumption) rfl HJY.out) (by assumption) ?_; (try simp only [Act.put, List.getElem_toArray, List.getElem_cons_zero, List.getElem_cons_succ, List.setIfInBounds_toArray, List.set_cons_zero, List.set_cons_succ]))
  (refine wpAnyH_take (i := 21) (v := ?_) rfl (by kernel_rfl) (by kernel_rfl) (by kernel_rfl) (fun _ _ _ h => h) (Or.inl ⟨by rfl, ?_⟩) (by assumption) ?_; (case' refine_2 => (intro w hSw; go_simp; try with_reducible rfl)); (try simp only [Act.put, List.getElem_toArray, List.getElem_cons_zero, List.getElem_cons_succ, List.setIfInBounds_toArray, List.set_cons_zero, List.set_cons_succ]))
  refine wpAnyH_ready (rs := [18]) (by kernel_rfl) (by simp) (AllReadyH.cons rfl (fun K hK => ?_) AllReadyH.nil)
  rw [if_pos (by rfl)]
  refine wp_sum2 (.tmp 30) (.tmp 31) rfl X Y rfl rfl HX.out.lenC HY.out.lenC ?_
  have HR5 := Aside0.mk (HRT.out w5)
  have hb := below_alloc (Below.refl w5.heap.size w5) (.cells (X ++ Y).toArray 24)
  have HW6 := Aside0.mk (below_step HW5.out hb)
  have n1_ := Aside0.mk (HA1.out.below hb)
  have n2_ := Aside0.mk (HA2.out.below hb)
  have n3_ := Aside0.mk (HA3.out.below hb)
  have n4_ := Aside0.mk (below_step HB3.out hb)
  clear HA1 HA2 HA3 HB3
  have HA1 := n1_
  have HA2 := n2_
  have HA3 := n3_
  have HB3 := n4_
  clear n1_ n2_ n3_ n4_
  clear hb
  (refine Shut.out hK _ _ (And.intro HA1.out (And.intro HA2.out HA3.out)) (fun hHeld => ?_); clear hK K; (try simp only [Act.put, List.getElem_toArray, List.getElem_cons_zero, List.getElem_cons_succ, List.setIfInBounds_toArray, List.set_cons_zero, List.set_cons_succ]))
  (refine wpAnyH_ready (rs := [19]) (by kernel_rfl) (by simp) (AllReadyH.cons rfl (fun K hK => ?_) AllReadyH.nil); go_simp)
  refine HR5.out.mono ?_
  rintro e w7 ⟨rfl, hb⟩
  have HW7 := Aside0.mk (below_step HW6.out hb)
  have n1_ := Aside0.mk (HA1.out.below hb)
  have n2_ := Aside0.mk (HA2.out.below hb)
  have n3_ := Aside0.mk (HA3.out.below hb)
  have n4_ := Aside0.mk (below_step HB3.out hb)
  clear HA1 HA2 HA3 HB3
  have HA1 := n1_
  have HA2 := n2_
  have HA3 := n3_
  have HB3 := n4_
  clear n1_ n2_ n3_ n4_
  clear hb
  (refine Shut.out hK _ _ (And.intro HA1.out (And.intro HA2.out HA3.out)) (fun hHeld => ?_); clear hK K; (try simp only [Act.put, List.getElem_toArray, List.getElem_cons_zero, List.getElem_cons_succ, List.setIfInBounds_toArray, List.set_cons_zero, List.set_cons_succ]))
  (refine wpAnyH_ready (rs := [22]) (by kernel_rfl) (by simp) (AllReadyH.cons rfl (fun K hK => ?_) AllReadyH.nil); go_simp)
  refine (HCK.out _ HW7.out).mono ?_
  rintro e w8 ⟨rfl, hb⟩
  have n1_ := Aside0.mk (HA1.out.below hb)
  have n2_ := Aside0.mk (HA2.out.below hb)
  have n3_ := Aside0.mk (HA3.out.below hb)
  have n4_ := Aside0.mk (below_step HB3.out hb)
  clear HA1 HA2 HA3 HB3
  have HA1 := n1_
  have HA2 := n2_
  have HA3 := n3_
  have HB3 := n4_
  clear n1_ n2_ n3_ n4_
  clear hb
  (refine Shut.out hK _ _ (And.intro HA1.out (And.intro HA2.out HA3.out)) (fun hHeld => ?_); clear hK K; (try simp only [Act.put, List.getElem_toArray, List.getElem_cons_zero, List.getElem_cons_succ, List.setIfInBounds_toArray, List.set_cons_zero, List.set_cons_succ]))
  (refine wpAnyH_take (i := 23) (v := ?_) rfl (by kernel_rfl) (by kernel_rfl) (by kernel_rfl) (fun _ _ _ h => h) (Or.inl ⟨by rfl, ?_⟩) (by assumption) ?_; (case' refine_2 => (intro w hSw; go_simp; try with_reducible rfl)); (try simp only [Act.put, List.getElem_toArray, List.getElem_cons_zero, List.getElem_cons_succ, List.setIfInBounds_toArray, List.set_cons_zero, List.set_cons_succ]))
  (refine wpAnyH_take (i := 24) (v := ?_) rfl (by kernel_rfl) (by kernel_rfl) (by kernel_rfl) (fun _ _ _ h => h) (Or.inl ⟨by rfl, ?_⟩) (by assumption) ?_; (case' refine_2 => (intro w hSw; go_simp; try with_reducible rfl)); (try simp only [Act.put, List.getElem_toArray, List.getElem_cons_zero, List.getElem_cons_succ, List.setIfInBounds_toArray, List.set_cons_zero, List.set_cons_succ]))
  refine wpAnyH_done (by kernel_rfl) ?_ _
  go_wp2_with (fail)
  go_ret
  exact ⟨rfl, HB3.out⟩
end Go.Proofs.Ytbebkogkeepfoaa.Tree
/- The law TreeRoots walked. -/
namespace Go.Proofs.Ytbebkogkeepfoaa.Tree
set_option linter.unusedVariables false
set_option linter.unusedSimpArgs false
open Go.RowKit Go.Proofs.Ytbebkogkeepfoaa.Base Go.Proofs.Ytbebkogkeepfoaa.TlvPlain Go.Proofs.Ytbebkogkeepfoaa.ShaPlain Go.Proofs.Ytbebkogkeepfoaa.Sha Go.Proofs.Ytbebkogkeepfoaa.Com Go.Proofs.Ytbebkogkeepfoaa.Aid Go.Proofs.YtbebkogkeepfoaaW.PrintWords Go.Proofs.YtbebkogkeepfoaaW.PrintLast Go.Proofs.YtbebkogkeepfoaaW.PrintMore
end Go.Proofs.Ytbebkogkeepfoaa.Tree
