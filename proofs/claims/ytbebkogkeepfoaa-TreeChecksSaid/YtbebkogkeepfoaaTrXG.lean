/- Own and printed texts, laid together. -/
import Derived.Test.YtbebkogkeepfoaaTrXE
/- The document's Up. -/
namespace Go.Proofs.Ytbebkogkeepfoaa.Tree
set_option linter.unusedVariables false
set_option linter.unusedSimpArgs false
open Go.RowKit Go.Proofs.Ytbebkogkeepfoaa.Base Go.Proofs.Ytbebkogkeepfoaa.TlvPlain Go.Proofs.Ytbebkogkeepfoaa.ShaPlain Go.Proofs.Ytbebkogkeepfoaa.Sha Go.Proofs.Ytbebkogkeepfoaa.Com Go.Proofs.Ytbebkogkeepfoaa.Aid Go.Proofs.YtbebkogkeepfoaaW.PrintWords Go.Proofs.YtbebkogkeepfoaaW.PrintLast Go.Proofs.YtbebkogkeepfoaaW.PrintMore
/-- Texts of one's own, in a row of one's own. -/
abbrev DX : Kd (List Int) := Kd.slice 5 (Kd.int .u8)
abbrev Ot (w : World) (base : Nat) (v : Value) (l : List (List Int)) : Prop := Kd.R DX 22 w base (fun _ => True) v l
theorem info_text : (Try.prog.info? 22).map (fun i => (i.zero, i.size, i.bytes)) = some (some (.slice none 0 0), DX.sz, 24) := by kernel_rfl
abbrev RetU (w : World) (d : Sm) (b : Bool) (t : List (List Int)) : Ending → World → Prop := fun e w' => ∃ v, e = .returned (.tuple #[sumV d, v, .bool b]) ∧ Ot w' w.heap.size v t ∧ Below w.heap.size w w'
theorem ob_apart {w : World} {base : Nat} {v u : Value} {x : List Int} {t : List (List Int)} (h : Ob w base v x) (ht : Ot w base u t) : Kd.R (Kd.int .u8) 5 w base (fun k => True ∧ some k ≠ u.ownBlock) v x :=
  Kd.R_apartR h ht (fun q hq => by simp [Kd.E, Kd.int, Kd.scalar] at hq; subst hq; decide)
theorem SumC.blk {cs : List Value} {d : Sm} (h : SumC cs d) : (Try.prog.info? 24).map (·.size) = some cs.length := by rw [h.lenC]; exact info_32
theorem SumC.blkA {cs : List Value} {d : Sm} (h : SumC cs d) : (Try.prog.info? 24).map (·.size) = some cs.toArray.size := by simp [h.lenC, info_32]
theorem SumC.oneA {cs : List Value} {d : Sm} (h : SumC cs d) : cs.toArray.all (·.oneCell') = true := by rw [← h.eq]; exact nums_one _ _
theorem SumC.zsA {cs : List Value} {d : Sm} (h : SumC cs d) : Z32.size = cs.toArray.size := by simp [Z32, nums, h.lenC]
theorem ob_setRow {W : World} {g b : Nat} {v : Value} {t : List Int} {cs D : Array Value} (h : Ob W b v t) (hg : W.heap[g]? = some (.cells cs 24 (0, 0))) : Ob (W.setRow g D) b v t :=
  Kd.R_mono (Kd.R_step (Kd.R_types h hg (fun q hq => by simp [Kd.E, Kd.int, Kd.scalar] at hq; subst hq; decide)) (fun k hk _ => setRow_other W g k D hk.2)) (fun _ _ => trivial)
theorem ot_setRow {W : World} {g b : Nat} {v : Value} {t : List (List Int)} {cs D : Array Value} (h : Ot W b v t) (hg : W.heap[g]? = some (.cells cs 24 (0, 0))) : Ot (W.setRow g D) b v t :=
  Kd.R_mono (Kd.R_step (Kd.R_types h hg (fun q hq => by simp [Kd.E, Kd.slice, Kd.int, Kd.scalar] at hq; rcases hq with rfl | rfl <;> decide)) (fun k hk _ => setRow_other W g k D hk.2)) (fun _ _ => trivial)
theorem atC_grown {W w1 : World} {g : Nat} {cs : List Value} {row : Option Nat} (h : AtC W ⟨g, 0, none⟩ cs) (hg : W.grownBy w1 row) (hne : some g ≠ row) : AtC w1 ⟨g, 0, none⟩ cs := fun j v hj => by
  have h1 := h j v hj
  have hlt := World.block_lt_of_cell? _ _ h1
  rw [add_plain] at h1 hlt ⊢
  unfold World.cell? at h1 ⊢
  dsimp only at h1 hlt ⊢
  rw [hg.block g hlt hne]
  exact h1
theorem atC_setRow {W : World} {g g2 : Nat} {cs : List Value} {D : Array Value} (h : AtC W ⟨g, 0, none⟩ cs) (hne : g ≠ g2) : AtC (W.setRow g2 D) ⟨g, 0, none⟩ cs := fun j v hj => by
  have h1 := h j v hj
  rw [add_plain] at h1 ⊢
  unfold World.cell? at h1 ⊢
  dsimp only at h1 ⊢
  rw [setRow_other W g2 g D hne]
  exact h1
set_option maxHeartbeats 16000000 in
set_option maxRecDepth 100000 in
theorem rup_nil_c (leaf : Sm) (hl : leaf.length = 32) (i n : Int) (hn : n ≠ 1) (A : Option Addr) (c : Nat) (w : World) :
    Calls Try.prog 33 #[sumV leaf, .int .i64 i, .int .i64 n, .slice A 0 c] w (RetU w Z false []) := by
  obtain ⟨L, hL⟩ := sumC leaf hl
  have HL := Aside0.mk hL
  have HG := Aside0.mk (show AtC ((w.alloc (.cells L.toArray 24)).alloc (.cells Z32 24)) ⟨w.heap.size, 0, none⟩ L from atC_blk (fr := (0, 0)) (T := 24) (blk_alloc (blk_new w (.cells L.toArray 24)) _))
  have HZ := Aside0.mk (show ((w.alloc (.cells L.toArray 24)).alloc (.cells Z32 24)).heap[w.heap.size + 1]? = some (.cells Z32 24 (0, 0)) from second_new' _ _ _)
  have HB := Aside0.mk (show Below w.heap.size w ((w.alloc (.cells L.toArray 24)).alloc (.cells Z32 24)) from below_alloc (below_alloc (Below.refl _ _) _) _)
  have HIF := Aside0.mk (show (Try.prog.info? 24).map (·.size) = some Z32.size from info_32)
  have HON := Aside0.mk (show Z32.all (·.oneCell') = true from nums_one _ _)
  have d1 : (n == 1) = false := by simp [hn]
  show Calls _ _ _ _ (fun e w' => ∃ v, e = .returned (.tuple #[.agg Z32, v, .bool false]) ∧ Ot w' w.heap.size v [] ∧ Below w.heap.size w w')
  rw [hL.v]
  clear hL hl hn
  go_enter Try.func33, Try.ntmps33
  go_wp2_with ((with_reducible refine gate_store (t := 24) (p := 8) (v := .tmp 35) rfl ?_); refine wpList_store_row rfl 24 (.tmp 8) (.tmp 35) rfl (w.heap.size + 1) Z32 rfl rfl 24 Z32 HZ.out HIF.out rfl HON.out ?_)
  have HSR := setRow_heap _ (w.heap.size + 1) Z32 Z32 _ _ HZ.out
  refine bodyPost_ret (results_ctt rfl _ _ (w.heap.size + 1) 24 Z32 (0, 0) _ rfl HSR Try.underlying24 rfl HIF.out) rfl ?_
  exact ⟨_, rfl, Kd.R_nil _ _ _ _ _, below_setRow HB.out (Nat.le_succ _) Z32⟩
set_option maxHeartbeats 16000000 in
set_option maxRecDepth 100000 in
theorem rup_one_c (leaf : Sm) (hl : leaf.length = 32) (hu : U8' leaf) (i : Int) (A : Option Addr) (m c : Nat) (w : World) :
    Calls Try.prog 33 #[sumV leaf, .int .i64 i, .int .i64 1, .slice A m c] w (RetU w (leafH leaf) (decide (m = 0)) [leafX leaf]) := by
  obtain ⟨L, hL⟩ := sumC leaf hl
  have HL := Aside0.mk hL
  have HG := Aside0.mk (show AtC ((w.alloc (.cells L.toArray 24)).alloc (.cells Z32 24)) ⟨w.heap.size, 0, none⟩ L from atC_blk (fr := (0, 0)) (T := 24) (blk_alloc (blk_new w (.cells L.toArray 24)) _))
  have HZ := Aside0.mk (show ((w.alloc (.cells L.toArray 24)).alloc (.cells Z32 24)).heap[w.heap.size + 1]? = some (.cells Z32 24 (0, 0)) from second_new' _ _ _)
  have HB := Aside0.mk (show Below w.heap.size w ((w.alloc (.cells L.toArray 24)).alloc (.cells Z32 24)) from below_alloc (below_alloc (Below.refl _ _) _) _)
  obtain ⟨D, hD⟩ := sumC (leafH leaf) (leafH_len leaf)
  have HD := Aside0.mk hD
  have HIL := Aside0.mk hL.blk
  have HT := Aside0.mk (rleafx_c leaf hl)
  have HS := Aside0.mk (rof_o (leafX leaf) (leafX_u8 hu) (by rw [leafX_len hl]; decide))
  obtain ⟨bb, hbb⟩ : ∃ bb, decide (m = 0) = bb := ⟨_, rfl⟩
  have hb0 : ((m : Int) == 0) = bb := by rw [← hbb, Bool.eq_iff_iff, beq_iff_eq, decide_eq_true_eq]; omega
  unfold RetU
  unfold MakesU at HT
  unfold Ret at HS
  rw [hbb]
  rw [hL.v] at HT ⊢
  rw [← leafH_eq, hD.v] at HS
  rw [hD.v]
  clear hL hD hl hu hbb
  go_enter Try.func33, Try.ntmps33
  go_wp2_with (fail)
  obtain ⟨W, hW⟩ : ∃ W, ((w.alloc (.cells L.toArray 24)).alloc (.cells Z32 24)) = W := ⟨_, rfl⟩
  rw [hW] at HG HZ HB
  rw [show ((w.alloc (.cells L.toArray 24)).alloc (.cells #[.int .u8 0, .int .u8 0, .int .u8 0, .int .u8 0, .int .u8 0, .int .u8 0, .int .u8 0, .int .u8 0, .int .u8 0, .int .u8 0, .int .u8 0, .int .u8 0, .int .u8 0, .int .u8 0, .int .u8 0, .int .u8 0, .int .u8 0, .int .u8 0, .int .u8 0, .int .u8 0, .int .u8 0, .int .u8 0, .int .u8 0, .int .u8 0, .int .u8 0, .int .u8 0, .int .u8 0, .int .u8 0, .int .u8 0, .int .u8 0, .int .u8 0, .int .u8 0] 24)) = W from hW]
  clear hW
  have hu24 := Try.underlying24
  refine wp_region_held_drew (S := fun w' => AtC w' ⟨w.heap.size, 0, none⟩ L) (by kernel_rfl) HG.out (fun hHeld => ?_)
  (refine wpAnyH_take (i := 0) rfl (by kernel_rfl) (by kernel_rfl) (by kernel_rfl) (fun _ _ _ h => h) (yieldsIf_load_at (by rfl) _ _ rfl ⟨w.heap.size, 0, none⟩ rfl L _ (fun _ h => h) (by assumption) rfl HIL.out) (by assumption) ?_; (try simp only [Act.put, List.getElem_toArray, List.getElem_cons_zero, List.getElem_cons_succ, List.setIfInBounds_toArray, List.set_cons_zero, List.set_cons_succ]))
  (refine wpAnyH_take (i := 3) rfl (by kernel_rfl) (by kernel_rfl) (by kernel_rfl) (fun _ _ _ h => h) (yieldsIf_load_at (by rfl) _ _ rfl ⟨w.heap.size, 0, none⟩ rfl L _ (fun _ h => h) (by assumption) rfl HIL.out) (by assumption) ?_; (try simp only [Act.put, List.getElem_toArray, List.getElem_cons_zero, List.getElem_cons_succ, List.setIfInBounds_toArray, List.set_cons_zero, List.set_cons_succ]))
  (refine wpAnyH_take (i := 6) (v := ?_) rfl (by kernel_rfl) (by kernel_rfl) (by kernel_rfl) (fun _ _ _ h => h) (Or.inl ⟨by rfl, ?_⟩) (by assumption) ?_; (case' refine_2 => (intro w hSw; go_simp; try with_reducible rfl)); (try simp only [Act.put, List.getElem_toArray, List.getElem_cons_zero, List.getElem_cons_succ, List.setIfInBounds_toArray, List.set_cons_zero, List.set_cons_succ]))
  (refine wpAnyH_take (i := 7) (v := ?_) rfl (by kernel_rfl) (by kernel_rfl) (by kernel_rfl) (fun _ _ _ h => h) (Or.inl ⟨by rfl, ?_⟩) (by assumption) ?_; (case' refine_2 => (intro w hSw; go_simp; try with_reducible rfl)); (try simp only [Act.put, List.getElem_toArray, List.getElem_cons_zero, List.getElem_cons_succ, List.setIfInBounds_toArray, List.set_cons_zero, List.set_cons_succ]))
  (refine wpAnyH_take (i := 8) (v := ?_) rfl (by kernel_rfl) (by kernel_rfl) (by kernel_rfl) (fun _ _ _ h => h) (Or.inl ⟨by rfl, ?_⟩) (by assumption) ?_; (case' refine_2 => (intro w hSw; go_simp; try with_reducible rfl)); (try simp only [Act.put, List.getElem_toArray, List.getElem_cons_zero, List.getElem_cons_succ, List.setIfInBounds_toArray, List.set_cons_zero, List.set_cons_succ]))
  (refine wpAnyH_ready (rs := [1]) (by kernel_rfl) (by simp) (AllReadyH.cons rfl (fun K hK => ?_) AllReadyH.nil); go_simp)
  refine (HT.out _).mono ?_
  rintro e w3 ⟨v, rfl, ho, hb0⟩
  have hb := below_drew_of hb0
  have HZ3 := Aside0.mk (blk_below HZ.out hb)
  have HB3 := Aside0.mk (below_step HB.out hb)
  have HG3 := Aside0.mk (HG.out.below hb)
  have HS3 := Aside0.mk (HS.out _ v w3 ho)
  clear hb hb0 ho
  (refine Shut.out hK _ _ HG3.out (fun hHeld => ?_); clear hK K; (try simp only [Act.put, List.getElem_toArray, List.getElem_cons_zero, List.getElem_cons_succ, List.setIfInBounds_toArray, List.set_cons_zero, List.set_cons_succ]))
  (refine wpAnyH_ready (rs := [2]) (by kernel_rfl) (by simp) (AllReadyH.cons rfl (fun K hK => ?_) AllReadyH.nil); go_simp)
  refine HS3.out.mono ?_
  rintro e w4 ⟨rfl, hb⟩
  have HZ4 := Aside0.mk (blk_below HZ3.out hb)
  have HB4 := Aside0.mk (below_step HB3.out hb)
  have HG4 := Aside0.mk (HG3.out.below hb)
  clear hb
  (refine Shut.out hK _ _ HG4.out (fun hHeld => ?_); clear hK K; (try simp only [Act.put, List.getElem_toArray, List.getElem_cons_zero, List.getElem_cons_succ, List.setIfInBounds_toArray, List.set_cons_zero, List.set_cons_succ]))
  (refine wpAnyH_ready (rs := [4]) (by kernel_rfl) (by simp) (AllReadyH.cons rfl (fun K hK => ?_) AllReadyH.nil); go_simp)
  refine (HT.out _).mono ?_
  rintro e w5 ⟨v2, rfl, ho, hb⟩
  have HZ5 := Aside0.mk (blk_below HZ4.out hb)
  have HB5 := Aside0.mk (below_step HB4.out hb)
  have HG5 := Aside0.mk (HG4.out.below hb)
  obtain ⟨A2, c2, rfl⟩ := Kd.R_slice ho
  have HO5 := Aside0.mk (Kd.R_lower ho HB4.out.size)
  clear hb ho
  (refine Shut.out hK _ _ HG5.out (fun hHeld => ?_); clear hK K; (try simp only [Act.put, List.getElem_toArray, List.getElem_cons_zero, List.getElem_cons_succ, List.setIfInBounds_toArray, List.set_cons_zero, List.set_cons_succ]))
  refine wpAnyH_ready (rs := [5, 9]) (by kernel_rfl) (by simp) (AllReadyH.cons rfl (fun K hK => ?_) (AllReadyH.cons rfl (fun K hK => ?_) AllReadyH.nil))
  · refine Kd.R_lit_step DX (w0 := w) w.heap.size 22 rfl (N := 28) rfl (xs := [leafX leaf]) (inner := [.slice A2 (leafX leaf).length c2]) (ok := fun _ => True) (okp := fun _ => True) (by first | (go_simp; done) | (go_simp; rfl)) ⟨rfl, fun j p hj => ?_⟩ (fun _ hk => hk) trivial HB5.out HB5.out.size (by simp) ?_
    · match j, hj with
      | 0, hj => cases hj; exact ⟨_, rfl, HO5.out⟩
    intro v6 w6 ho hb hg hat
    have HO6 := Aside0.mk (show Ot w6 w.heap.size v6 [leafX leaf] from ho)
    have HB6 := Aside0.mk hb
    have HZ6 := Aside0.mk (blk_grown HZ5.out hg (by simp))
    have HG6 := Aside0.mk (show AtC w6 ⟨w.heap.size, 0, none⟩ L from atC_grown HG5.out hg (fun h => by cases h))
    clear ho hb hg hat
    (refine Shut.out hK _ _ HG6.out (fun hHeld => ?_); clear hK K; (try simp only [Act.put, List.getElem_toArray, List.getElem_cons_zero, List.getElem_cons_succ, List.setIfInBounds_toArray, List.set_cons_zero, List.set_cons_succ]))
    refine wpAnyH_ready (rs := [9]) (by kernel_rfl) (by simp) (AllReadyH.cons rfl (fun K hK => ?_) AllReadyH.nil)
    rw [if_pos (by rfl)]
    refine wp_store_row 24 (.tmp 8) (.tmp 25) rfl (w.heap.size + 1) D.toArray rfl rfl 24 Z32 HZ6.out HD.out.blkA HD.out.zsA HD.out.oneA ?_
    have HG7 := Aside0.mk (show AtC (w6.setRow (w.heap.size + 1) D.toArray) ⟨w.heap.size, 0, none⟩ L from atC_setRow HG6.out (by simp))
    have HSR := Aside0.mk (setRow_heap w6 (w.heap.size + 1) Z32 D.toArray _ _ HZ6.out)
    have HOF := Aside0.mk (ot_setRow (D := D.toArray) HO6.out HZ6.out)
    have HBF := Aside0.mk (below_setRow HB6.out (Nat.le_succ _) D.toArray)
    (refine Shut.out hK _ _ HG7.out (fun hHeld => ?_); clear hK K; (try simp only [Act.put, List.getElem_toArray, List.getElem_cons_zero, List.getElem_cons_succ, List.setIfInBounds_toArray, List.set_cons_zero, List.set_cons_succ]))
    (refine wpAnyH_take (i := 10) (v := ?_) rfl (by kernel_rfl) (by kernel_rfl) (by kernel_rfl) (fun _ _ _ h => h) (Or.inl ⟨by rfl, ?_⟩) (by assumption) ?_; (case' refine_2 => (intro w hSw; go_simp; try with_reducible rfl)); (try simp only [Act.put, List.getElem_toArray, List.getElem_cons_zero, List.getElem_cons_succ, List.setIfInBounds_toArray, List.set_cons_zero, List.set_cons_succ]))
    (refine wpAnyH_take (i := 11) (v := ?_) rfl (by kernel_rfl) (by kernel_rfl) (by kernel_rfl) (fun _ _ _ h => h) (Or.inl ⟨by rfl, ?_⟩) (by assumption) ?_; (case' refine_2 => (intro w hSw; go_simp; try with_reducible rfl)); (try simp only [Act.put, List.getElem_toArray, List.getElem_cons_zero, List.getElem_cons_succ, List.setIfInBounds_toArray, List.set_cons_zero, List.set_cons_succ]))
    refine wpAnyH_done (by kernel_rfl) ?_ _
    go_wp2_with (fail)
    refine bodyPost_ret (results_ctt rfl _ _ (w.heap.size + 1) 24 D.toArray (0, 0) _ rfl HSR.out Try.underlying24 rfl HD.out.blkA) rfl ?_
    exact ⟨_, rfl, HOF.out, HBF.out⟩
  · rw [if_pos (by rfl)]
    refine wp_store_row 24 (.tmp 8) (.tmp 25) rfl (w.heap.size + 1) D.toArray rfl rfl 24 Z32 HZ5.out HD.out.blkA HD.out.zsA HD.out.oneA ?_
    have HG6 := Aside0.mk (show AtC (w5.setRow (w.heap.size + 1) D.toArray) ⟨w.heap.size, 0, none⟩ L from atC_setRow HG5.out (by simp))
    have HS5 := Aside0.mk (setRow_heap w5 (w.heap.size + 1) Z32 D.toArray _ _ HZ5.out)
    have HO6b := Aside0.mk (ob_setRow (D := D.toArray) HO5.out HZ5.out)
    have HB6b := Aside0.mk (below_setRow HB5.out (Nat.le_succ _) D.toArray)
    (refine Shut.out hK _ _ HG6.out (fun hHeld => ?_); clear hK K; (try simp only [Act.put, List.getElem_toArray, List.getElem_cons_zero, List.getElem_cons_succ, List.setIfInBounds_toArray, List.set_cons_zero, List.set_cons_succ]))
    refine wpAnyH_ready (rs := [5]) (by kernel_rfl) (by simp) (AllReadyH.cons rfl (fun K hK => ?_) AllReadyH.nil)
    refine Kd.R_lit_step DX (w0 := w) w.heap.size 22 rfl (N := 28) rfl (xs := [leafX leaf]) (inner := [.slice A2 (leafX leaf).length c2]) (ok := fun _ => True) (okp := fun _ => True) (by first | (go_simp; done) | (go_simp; rfl)) ⟨rfl, fun j p hj => ?_⟩ (fun _ hk => hk) trivial HB6b.out HB6b.out.size (by simp) ?_
    · match j, hj with
      | 0, hj => cases hj; exact ⟨_, rfl, HO6b.out⟩
    intro v6 w6 ho hb hg hat
    have HO6 := Aside0.mk (show Ot w6 w.heap.size v6 [leafX leaf] from ho)
    have HB6 := Aside0.mk hb
    have HSR := Aside0.mk (blk_grown HS5.out hg (by simp))
    have HG7 := Aside0.mk (show AtC w6 ⟨w.heap.size, 0, none⟩ L from atC_grown HG6.out hg (fun h => by cases h))
    have HOF := HO6
    have HBF := HB6
    clear ho hb hg hat
    (refine Shut.out hK _ _ HG7.out (fun hHeld => ?_); clear hK K; (try simp only [Act.put, List.getElem_toArray, List.getElem_cons_zero, List.getElem_cons_succ, List.setIfInBounds_toArray, List.set_cons_zero, List.set_cons_succ]))
    (refine wpAnyH_take (i := 10) (v := ?_) rfl (by kernel_rfl) (by kernel_rfl) (by kernel_rfl) (fun _ _ _ h => h) (Or.inl ⟨by rfl, ?_⟩) (by assumption) ?_; (case' refine_2 => (intro w hSw; go_simp; try with_reducible rfl)); (try simp only [Act.put, List.getElem_toArray, List.getElem_cons_zero, List.getElem_cons_succ, List.setIfInBounds_toArray, List.set_cons_zero, List.set_cons_succ]))
    (refine wpAnyH_take (i := 11) (v := ?_) rfl (by kernel_rfl) (by kernel_rfl) (by kernel_rfl) (fun _ _ _ h => h) (Or.inl ⟨by rfl, ?_⟩) (by assumption) ?_; (case' refine_2 => (intro w hSw; go_simp; try with_reducible rfl)); (try simp only [Act.put, List.getElem_toArray, List.getElem_cons_zero, List.getElem_cons_succ, List.setIfInBounds_toArray, List.set_cons_zero, List.set_cons_succ]))
    refine wpAnyH_done (by kernel_rfl) ?_ _
    go_wp2_with (fail)
    refine bodyPost_ret (results_ctt rfl _ _ (w.heap.size + 1) 24 D.toArray (0, 0) _ rfl HSR.out Try.underlying24 rfl HD.out.blkA) rfl ?_
    exact ⟨_, rfl, HOF.out, HBF.out⟩
theorem atC_lt {W : World} {g : Nat} {cs : List Value} (h : AtC W ⟨g, 0, none⟩ cs) (hl : cs.length = 32) : g < W.heap.size := by
  have h1 := h 0 (cs[0]'(by omega)) (List.getElem?_eq_getElem (by omega))
  exact World.block_lt_of_cell? _ _ h1
set_option maxHeartbeats 16000000 in
set_option maxRecDepth 100000 in
theorem rup_left_c (leaf : Sm) (hl : leaf.length = 32) (d x : Sm) (hd : d.length = 32) (hx : x.length = 32) (hdu : U8' d) (hxu : U8' x) (b : Bool) (tx : List (List Int)) (htl : tx.length ≤ 1000) (i n k : Nat) (hk2 : hlf n = k) (h2 : 2 ≤ n) (hm : n ≤ 1048576) (hik : i < k) (hin : i < n) (ad : Addr) (m c : Nat) (hc : m + 1 ≤ c) (hmm : m ≤ 1000) (w : World) (hat : AtC w (ad.add (m * 32)) (nums .u8 x))
    (hU : ∀ W, Below w.heap.size w W → Calls Try.prog 33 #[sumV leaf, .int .i64 (i : Int), .int .i64 (k : Int), .slice (some ad) m c] W (RetU W d b tx)) :
    Calls Try.prog 33 #[sumV leaf, .int .i64 (i : Int), .int .i64 (n : Int), .slice (some ad) (m + 1) c] w (RetU w (nodeH d x) b (tx ++ [nodeX d x])) := by
  obtain ⟨L, hL⟩ := sumC leaf hl
  have HL := Aside0.mk hL
  have HG := Aside0.mk (show AtC ((w.alloc (.cells L.toArray 24)).alloc (.cells Z32 24)) ⟨w.heap.size, 0, none⟩ L from atC_blk (fr := (0, 0)) (T := 24) (blk_alloc (blk_new w (.cells L.toArray 24)) _))
  have HZ := Aside0.mk (show ((w.alloc (.cells L.toArray 24)).alloc (.cells Z32 24)).heap[w.heap.size + 1]? = some (.cells Z32 24 (0, 0)) from second_new' _ _ _)
  have HB := Aside0.mk (show Below w.heap.size w ((w.alloc (.cells L.toArray 24)).alloc (.cells Z32 24)) from below_alloc (below_alloc (Below.refl _ _) _) _)
  obtain ⟨E, hE⟩ := sumC (nodeH d x) (nodeH_len _ _)
  obtain ⟨X, hX⟩ := sumC x hx
  obtain ⟨Y, hY⟩ := sumC d hd
  have HE := Aside0.mk hE
  have HX := Aside0.mk hX
  have HYC := Aside0.mk hY
  have HIL := Aside0.mk hL.blk
  have HIX := Aside0.mk hX.blk
  have HIY := Aside0.mk hY.blk
  have HT := Aside0.mk (rnodex_c d x hd hx)
  have HS := Aside0.mk (rof_o (nodeX d x) (nodeX_u8 hdu hxu) (by rw [nodeX_len hd hx]; decide))
  rw [hX.eq] at hat
  have HAT := Aside0.mk hat
  have HTL := Aside0.mk htl
  have hk := hlf_lt h2
  have HKB := Aside0.mk (fun W => half_c n h2 (by omega) W)
  rw [hk2] at HKB hk
  unfold MakesU at HT
  unfold Ret at HS
  unfold RetU at hU ⊢
  rw [hX.v, hY.v] at HT
  rw [← nodeH_eq, hE.v] at HS
  rw [hL.v] at hU ⊢
  rw [hY.v] at hU
  rw [hE.v]
  have HU := Aside0.mk hU
  have HC1 := Aside0.mk (cut_a (some ad) (m + 1) c m (by omega) hc)
  have d1 : ((n : Int) == 1) = false := by simp; omega
  have d2 : (((m + 1 : Nat) : Int) == 0) = false := by simp; omega
  have d2' : ((m : Int) + 1 == 0) = false := by simp; omega
  have d3 : decide ((i : Int) < (k : Int)) = true := by simp; omega
  have d4 : decide (i < k) = true := by simp; omega
  have q1 : ((m : Int) < (m : Int) + 1) = True := eq_true (by omega)
  have e1 : IntKind.i64.wrap (m : Int) = (m : Int) := by rw [i64_w, w64 (by omega) (by omega)]
  have HE1 := Aside0.mk (show IntKind.i64.wrap ((i : Int) - (k : Int)) = (i : Int) - (k : Int) by rw [i64_w]; exact w64 (by omega) (by omega))
  have HE2 := Aside0.mk (show IntKind.i64.wrap ((n : Int) - (k : Int)) = (n : Int) - (k : Int) by rw [i64_w]; exact w64 (by omega) (by omega))
  have HNUM := Aside0.mk (And.intro hc (And.intro hin (And.intro hm (And.intro hmm (And.intro hk h2)))))
  clear hE hX hY hL hU hl hd hx hdu hxu hk2 hat htl hk hc hin hm hmm h2 hik
  go_enter Try.func33, Try.ntmps33
  go_wp2_with (fail)
  obtain ⟨W, hW⟩ : ∃ W, ((w.alloc (.cells L.toArray 24)).alloc (.cells Z32 24)) = W := ⟨_, rfl⟩
  rw [hW] at HG HZ HB
  rw [show ((w.alloc (.cells L.toArray 24)).alloc (.cells #[.int .u8 0, .int .u8 0, .int .u8 0, .int .u8 0, .int .u8 0, .int .u8 0, .int .u8 0, .int .u8 0, .int .u8 0, .int .u8 0, .int .u8 0, .int .u8 0, .int .u8 0, .int .u8 0, .int .u8 0, .int .u8 0, .int .u8 0, .int .u8 0, .int .u8 0, .int .u8 0, .int .u8 0, .int .u8 0, .int .u8 0, .int .u8 0, .int .u8 0, .int .u8 0, .int .u8 0, .int .u8 0, .int .u8 0, .int .u8 0, .int .u8 0, .int .u8 0] 24)) = W from hW]
  clear hW
  have hu24 := Try.underlying24
  have HAX := Aside0.mk (HAT.out.below HB.out)
  refine wp_region_held_drew (S := fun w' => AtC w' (ad.add (m * 32)) X) (by kernel_rfl) HAX.out (fun hHeld => ?_)
  (refine wpAnyH_take (i := 0) (v := ?_) rfl (by kernel_rfl) (by kernel_rfl) (by kernel_rfl) (fun _ _ _ h => h) (Or.inl ⟨by rfl, ?_⟩) (by assumption) ?_; (case' refine_2 => (intro w hSw; go_simp; try with_reducible rfl)); (try simp only [Act.put, List.getElem_toArray, List.getElem_cons_zero, List.getElem_cons_succ, List.setIfInBounds_toArray, List.set_cons_zero, List.set_cons_succ]))
  (refine wpAnyH_take (i := 2) (v := ?_) rfl (by kernel_rfl) (by kernel_rfl) (by kernel_rfl) (fun _ _ _ h => h) (Or.inl ⟨by rfl, ?_⟩) (by assumption) ?_; (case' refine_2 => (intro w hSw; go_simp; try with_reducible rfl)); (try simp only [Act.put, List.getElem_toArray, List.getElem_cons_zero, List.getElem_cons_succ, List.setIfInBounds_toArray, List.set_cons_zero, List.set_cons_succ]))
  (refine wpAnyH_take (i := 3) (v := ?_) rfl (by kernel_rfl) (by kernel_rfl) (by kernel_rfl) (fun _ _ _ h => h) (Or.inl ⟨by rfl, ?_⟩) (by assumption) ?_; (case' refine_2 => (intro w hSw; go_simp; try with_reducible rfl)); (try simp only [Act.put, List.getElem_toArray, List.getElem_cons_zero, List.getElem_cons_succ, List.setIfInBounds_toArray, List.set_cons_zero, List.set_cons_succ]))
  (refine wpAnyH_take (i := 4) (v := ?_) rfl (by kernel_rfl) (by kernel_rfl) (by kernel_rfl) (fun _ _ _ h => h) (Or.inl ⟨by rfl, ?_⟩) (by assumption) ?_; (case' refine_2 => (intro w hSw; go_simp; try with_reducible rfl)); (try simp only [Act.put, List.getElem_toArray, List.getElem_cons_zero, List.getElem_cons_succ, List.setIfInBounds_toArray, List.set_cons_zero, List.set_cons_succ]))
  (refine wpAnyH_take (i := 5) (v := ?_) rfl (by kernel_rfl) (by kernel_rfl) (by kernel_rfl) (fun _ _ _ h => h) (Or.inl ⟨by rfl, ?_⟩) (by assumption) ?_; (case' refine_2 => (intro w hSw; go_simp; try with_reducible rfl)); (try simp only [Act.put, List.getElem_toArray, List.getElem_cons_zero, List.getElem_cons_succ, List.setIfInBounds_toArray, List.set_cons_zero, List.set_cons_succ]))
  (refine wpAnyH_take (i := 6) (v := ?_) rfl (by kernel_rfl) (by kernel_rfl) (by kernel_rfl) (fun _ _ _ h => h) (Or.inl ⟨by rfl, ?_⟩) (by assumption) ?_; (case' refine_2 => (intro w hSw; go_simp; try with_reducible rfl)); (try simp only [Act.put, List.getElem_toArray, List.getElem_cons_zero, List.getElem_cons_succ, List.setIfInBounds_toArray, List.set_cons_zero, List.set_cons_succ]))
  (refine wpAnyH_take (i := 7) rfl (by kernel_rfl) (by kernel_rfl) (by kernel_rfl) (fun _ _ _ h => h) (yieldsIf_load_at (by rfl) _ _ rfl (ad.add (m * 32)) rfl X _ (fun _ h => h) (by assumption) rfl HIX.out) (by assumption) ?_; (try simp only [Act.put, List.getElem_toArray, List.getElem_cons_zero, List.getElem_cons_succ, List.setIfInBounds_toArray, List.set_cons_zero, List.set_cons_succ]))
  refine wpAnyH_ready (rs := [1, 8]) (by kernel_rfl) (by simp) (AllReadyH.cons rfl (fun K hK => ?_) (AllReadyH.cons rfl (fun K hK => ?_) AllReadyH.nil))
  · go_simp
    refine (HKB.out _).mono ?_
    rintro e w2 ⟨rfl, hd_⟩
    have hb := below_drew_of (Drawn0.below hd_)
    have x_HZ := Aside0.mk (blk_below HZ.out hb)
    have x_HG := Aside0.mk (HG.out.below hb)
    have x_HB := Aside0.mk (below_step HB.out hb)
    have x_HAX := Aside0.mk (HAX.out.below hb)
    clear HZ HG HB HAX
    have HZ := x_HZ
    have HG := x_HG
    have HB := x_HB
    have HAX := x_HAX
    clear x_HZ x_HG x_HB x_HAX
    clear hb hd_
    (refine Shut.out hK _ _ HAX.out (fun hHeld => ?_); clear hK K; (try simp only [Act.put, List.getElem_toArray, List.getElem_cons_zero, List.getElem_cons_succ, List.setIfInBounds_toArray, List.set_cons_zero, List.set_cons_succ]))
    refine wpAnyH_ready (rs := [8]) (by kernel_rfl) (by simp) (AllReadyH.cons rfl (fun K hK => ?_) AllReadyH.nil)
    go_simp
    have HN := Aside0.mk (show (w2.alloc (.cells Z32 24)).heap[w2.heap.size]? = some (.cells Z32 24 (0, 0)) from blk_new w2 _)
    have hb := below_alloc (Below.refl w2.heap.size w2) (.cells Z32 24)
    have HQ := Aside0.mk (show w.heap.size + 1 < w2.heap.size from (Array.getElem?_eq_some_iff.1 HZ.out).1)
    have x_HZ := Aside0.mk (blk_below HZ.out hb)
    have x_HG := Aside0.mk (HG.out.below hb)
    have x_HB := Aside0.mk (below_step HB.out hb)
    have x_HAX := Aside0.mk (HAX.out.below hb)
    clear HZ HG HB HAX
    have HZ := x_HZ
    have HG := x_HG
    have HB := x_HB
    have HAX := x_HAX
    clear x_HZ x_HG x_HB x_HAX
    clear hb
    obtain ⟨w4, hw4⟩ : ∃ W', w2.alloc (.cells Z32 24) = W' := ⟨_, rfl⟩
    rw [hw4] at HN HZ HG HB HAX
    rw [show w2.alloc (.cells #[.int .u8 0, .int .u8 0, .int .u8 0, .int .u8 0, .int .u8 0, .int .u8 0, .int .u8 0, .int .u8 0, .int .u8 0, .int .u8 0, .int .u8 0, .int .u8 0, .int .u8 0, .int .u8 0, .int .u8 0, .int .u8 0, .int .u8 0, .int .u8 0, .int .u8 0, .int .u8 0, .int .u8 0, .int .u8 0, .int .u8 0, .int .u8 0, .int .u8 0, .int .u8 0, .int .u8 0, .int .u8 0, .int .u8 0, .int .u8 0, .int .u8 0, .int .u8 0] 24) = w4 from hw4]
    clear hw4
    obtain ⟨g12, hg12⟩ : ∃ g, w2.heap.size = g := ⟨_, rfl⟩
    rw [hg12] at HN HQ ⊢
    clear hg12
    (refine Shut.out hK _ _ HAX.out (fun hHeld => ?_); clear hK K; (try simp only [Act.put, List.getElem_toArray, List.getElem_cons_zero, List.getElem_cons_succ, List.setIfInBounds_toArray, List.set_cons_zero, List.set_cons_succ]))
    (refine wpAnyH_take (i := 9) (v := ?_) rfl (by kernel_rfl) (by kernel_rfl) (by kernel_rfl) (fun _ _ _ h => h) (Or.inl ⟨by rfl, ?_⟩) (by assumption) ?_; (case' refine_2 => (intro w hSw; go_simp; try with_reducible rfl)); (try simp only [Act.put, List.getElem_toArray, List.getElem_cons_zero, List.getElem_cons_succ, List.setIfInBounds_toArray, List.set_cons_zero, List.set_cons_succ]))
    refine wpAnyH_ready (rs := [10]) (by kernel_rfl) (by simp) (AllReadyH.cons rfl (fun K hK => ?_) AllReadyH.nil)
    rw [if_pos (by rfl)]
    refine wp_store_row 24 (.tmp 12) (.tmp 43) rfl g12 X.toArray rfl rfl 24 Z32 HN.out HX.out.blkA HX.out.zsA HX.out.oneA ?_
    have H12 := Aside0.mk (atC_blk (setRow_heap w4 g12 Z32 X.toArray _ _ HN.out))
    have hne1 : w.heap.size + 1 ≠ g12 := by have := HQ.out; omega
    have hne2 : w.heap.size ≠ g12 := by have := HQ.out; omega
    have H12L := Aside0.mk (show w.heap.size + 1 < g12 from HQ.out)
    have x_HZ := Aside0.mk ((setRow_other w4 g12 (w.heap.size + 1) X.toArray hne1).trans HZ.out)
    have x_HG := Aside0.mk (atC_setRow (D := X.toArray) HG.out hne2)
    have x_HB := Aside0.mk (below_setRow HB.out (show w.heap.size ≤ g12 from by have := HQ.out; omega) X.toArray)
    clear HZ HG HB
    have HZ := x_HZ
    have HG := x_HG
    have HB := x_HB
    clear x_HZ x_HG x_HB
    have x_HAX := Aside0.mk (HAT.out.below HB.out)
    clear HAX HN HQ hne1 hne2
    have HAX := x_HAX
    clear x_HAX
    obtain ⟨w5, hw5⟩ : ∃ W', w4.setRow g12 X.toArray = W' := ⟨_, rfl⟩
    rw [hw5] at H12 HZ HG HB HAX ⊢
    clear hw5
    (refine Shut.out hK _ _ HAX.out (fun hHeld => ?_); clear hK K; (try simp only [Act.put, List.getElem_toArray, List.getElem_cons_zero, List.getElem_cons_succ, List.setIfInBounds_toArray, List.set_cons_zero, List.set_cons_succ]))
    refine wpAnyH_done (by kernel_rfl) ?_ _
    go_wp2_with (fail)
    have hq1 := HC1.out
    refine wp_region_held_drew (S := fun w' => AtC w' ⟨w.heap.size, 0, none⟩ L) (by kernel_rfl) HG.out (fun hHeld => ?_)
    (refine wpAnyH_take (i := 0) rfl (by kernel_rfl) (by kernel_rfl) (by kernel_rfl) (fun _ _ _ h => h) (yieldsIf_load_at (by rfl) _ _ rfl ⟨w.heap.size, 0, none⟩ rfl L _ (fun _ h => h) (by assumption) rfl HIL.out) (by assumption) ?_; (try simp only [Act.put, List.getElem_toArray, List.getElem_cons_zero, List.getElem_cons_succ, List.setIfInBounds_toArray, List.set_cons_zero, List.set_cons_succ]))
    (refine wpAnyH_take (i := 1) (v := ?_) rfl (by kernel_rfl) (by kernel_rfl) (by kernel_rfl) (fun _ _ _ h => h) (Or.inl ⟨by rfl, ?_⟩) (by assumption) ?_; (case' refine_2 => (intro w hSw; go_simp; try with_reducible rfl)); (try simp only [Act.put, List.getElem_toArray, List.getElem_cons_zero, List.getElem_cons_succ, List.setIfInBounds_toArray, List.set_cons_zero, List.set_cons_succ]))
    (refine wpAnyH_take (i := 2) (v := ?_) rfl (by kernel_rfl) (by kernel_rfl) (by kernel_rfl) (fun _ _ _ h => h) (Or.inl ⟨by rfl, ?_⟩) (by assumption) ?_; (case' refine_2 => (intro w hSw; go_simp; try with_reducible rfl)); (try simp only [Act.put, List.getElem_toArray, List.getElem_cons_zero, List.getElem_cons_succ, List.setIfInBounds_toArray, List.set_cons_zero, List.set_cons_succ]))
    (refine wpAnyH_take (i := 3) (v := ?_) rfl (by kernel_rfl) (by kernel_rfl) (by kernel_rfl) (fun _ _ _ h => h) (Or.inl ⟨by rfl, ?_⟩) (by assumption) ?_; (case' refine_2 => (intro w hSw; go_simp; try with_reducible rfl)); (try simp only [Act.put, List.getElem_toArray, List.getElem_cons_zero, List.getElem_cons_succ, List.setIfInBounds_toArray, List.set_cons_zero, List.set_cons_succ]))
    (refine wpAnyH_take (i := 4) (v := ?_) rfl (by kernel_rfl) (by kernel_rfl) (by kernel_rfl) (fun _ _ _ h => h) (Or.inl ⟨by rfl, ?_⟩) (by assumption) ?_; (case' refine_2 => (intro w hSw; go_simp; try with_reducible rfl)); (try simp only [Act.put, List.getElem_toArray, List.getElem_cons_zero, List.getElem_cons_succ, List.setIfInBounds_toArray, List.set_cons_zero, List.set_cons_succ]))
    (refine wpAnyH_take (i := 5) (v := ?_) rfl (by kernel_rfl) (by kernel_rfl) (by kernel_rfl) (fun _ _ _ h => h) (Or.inl ⟨by rfl, ?_⟩) (by assumption) ?_; (case' refine_2 => (intro w hSw; go_simp; try with_reducible rfl)); (try simp only [Act.put, List.getElem_toArray, List.getElem_cons_zero, List.getElem_cons_succ, List.setIfInBounds_toArray, List.set_cons_zero, List.set_cons_succ]))
    (refine wpAnyH_take (i := 6) (v := ?_) rfl (by kernel_rfl) (by kernel_rfl) (by kernel_rfl) (fun _ _ _ h => h) (Or.inl ⟨by rfl, ?_⟩) (by assumption) ?_; (case' refine_2 => (intro w hSw; go_simp; try with_reducible rfl)); (try simp only [Act.put, List.getElem_toArray, List.getElem_cons_zero, List.getElem_cons_succ, List.setIfInBounds_toArray, List.set_cons_zero, List.set_cons_succ]))
    (refine wpAnyH_take (i := 7) (v := ?_) rfl (by kernel_rfl) (by kernel_rfl) (by kernel_rfl) (fun _ _ _ h => h) (Or.inl ⟨by rfl, ?_⟩) (by assumption) ?_; (case' refine_2 => (intro w hSw; go_simp; try with_reducible rfl)); (try simp only [Act.put, List.getElem_toArray, List.getElem_cons_zero, List.getElem_cons_succ, List.setIfInBounds_toArray, List.set_cons_zero, List.set_cons_succ]))
    refine wpAnyH_ready (rs := [8, 13]) (by kernel_rfl) (by simp) (AllReadyH.cons rfl (fun K hK => ?_) (AllReadyH.cons rfl (fun K hK => ?_) AllReadyH.nil))
    · go_simp
      refine (HU.out _ (below_drew1 HB.out)).mono ?_
      rintro e w7 ⟨vt, rfl, ho, hb0⟩
      have hb := below_drew_of hb0
      have HOT := Aside0.mk (show Ot w7 w.heap.size vt tx from Kd.R_lower ho (show w.heap.size ≤ w5.drew.heap.size from HB.out.size))
      have x_HZ := Aside0.mk (blk_below HZ.out hb)
      have x_HG := Aside0.mk (HG.out.below hb)
      have x_HB := Aside0.mk (below_step HB.out hb)
      have x_H12 := Aside0.mk (H12.out.below hb)
      clear HZ HG HB H12
      have HZ := x_HZ
      have HG := x_HG
      have HB := x_HB
      have H12 := x_H12
      clear x_HZ x_HG x_HB x_H12
      clear hb hb0 ho
      (refine Shut.out hK _ _ HG.out (fun hHeld => ?_); clear hK K; (try simp only [Act.put, List.getElem_toArray, List.getElem_cons_zero, List.getElem_cons_succ, List.setIfInBounds_toArray, List.set_cons_zero, List.set_cons_succ]))
      (refine wpAnyH_take (i := 9) (v := ?_) rfl (by kernel_rfl) (by kernel_rfl) (by kernel_rfl) (fun _ _ _ h => h) (Or.inl ⟨by rfl, ?_⟩) (by assumption) ?_; (case' refine_2 => (intro w hSw; go_simp; try with_reducible rfl)); (try simp only [Act.put, List.getElem_toArray, List.getElem_cons_zero, List.getElem_cons_succ, List.setIfInBounds_toArray, List.set_cons_zero, List.set_cons_succ]))
      (refine wpAnyH_take (i := 10) (v := ?_) rfl (by kernel_rfl) (by kernel_rfl) (by kernel_rfl) (fun _ _ _ h => h) (Or.inl ⟨by rfl, ?_⟩) (by assumption) ?_; (case' refine_2 => (intro w hSw; go_simp; try with_reducible rfl)); (try simp only [Act.put, List.getElem_toArray, List.getElem_cons_zero, List.getElem_cons_succ, List.setIfInBounds_toArray, List.set_cons_zero, List.set_cons_succ]))
      (refine wpAnyH_take (i := 11) (v := ?_) rfl (by kernel_rfl) (by kernel_rfl) (by kernel_rfl) (fun _ _ _ h => h) (Or.inl ⟨by rfl, ?_⟩) (by assumption) ?_; (case' refine_2 => (intro w hSw; go_simp; try with_reducible rfl)); (try simp only [Act.put, List.getElem_toArray, List.getElem_cons_zero, List.getElem_cons_succ, List.setIfInBounds_toArray, List.set_cons_zero, List.set_cons_succ]))
      (refine wpAnyH_take (i := 12) (v := ?_) rfl (by kernel_rfl) (by kernel_rfl) (by kernel_rfl) (fun _ _ _ h => h) (Or.inl ⟨by rfl, ?_⟩) (by assumption) ?_; (case' refine_2 => (intro w hSw; go_simp; try with_reducible rfl)); (try simp only [Act.put, List.getElem_toArray, List.getElem_cons_zero, List.getElem_cons_succ, List.setIfInBounds_toArray, List.set_cons_zero, List.set_cons_succ]))
      refine wpAnyH_ready (rs := [13]) (by kernel_rfl) (by simp) (AllReadyH.cons rfl (fun K hK => ?_) AllReadyH.nil)
      have H12S := Aside0.mk (atC_lt H12.out HX.out.lenC)
      go_simp
      have HN := Aside0.mk (show (w7.alloc (.cells Z32 24)).heap[w7.heap.size]? = some (.cells Z32 24 (0, 0)) from blk_new w7 _)
      have hb := below_alloc (Below.refl w7.heap.size w7) (.cells Z32 24)
      have HQ := Aside0.mk (show w.heap.size + 1 < w7.heap.size from (Array.getElem?_eq_some_iff.1 HZ.out).1)
      have x_HZ := Aside0.mk (blk_below HZ.out hb)
      have x_HG := Aside0.mk (HG.out.below hb)
      have x_HB := Aside0.mk (below_step HB.out hb)
      have x_H12 := Aside0.mk (H12.out.below hb)
      have x_HOT := Aside0.mk (Kd.R_below HOT.out hb)
      clear HZ HG HB H12 HOT
      have HZ := x_HZ
      have HG := x_HG
      have HB := x_HB
      have H12 := x_H12
      have HOT := x_HOT
      clear x_HZ x_HG x_HB x_H12 x_HOT
      clear hb
      obtain ⟨w8, hw8⟩ : ∃ W', w7.alloc (.cells Z32 24) = W' := ⟨_, rfl⟩
      rw [hw8] at HN HZ HG HB H12 HOT
      rw [show w7.alloc (.cells #[.int .u8 0, .int .u8 0, .int .u8 0, .int .u8 0, .int .u8 0, .int .u8 0, .int .u8 0, .int .u8 0, .int .u8 0, .int .u8 0, .int .u8 0, .int .u8 0, .int .u8 0, .int .u8 0, .int .u8 0, .int .u8 0, .int .u8 0, .int .u8 0, .int .u8 0, .int .u8 0, .int .u8 0, .int .u8 0, .int .u8 0, .int .u8 0, .int .u8 0, .int .u8 0, .int .u8 0, .int .u8 0, .int .u8 0, .int .u8 0, .int .u8 0, .int .u8 0] 24) = w8 from hw8]
      clear hw8
      obtain ⟨g13, hg13⟩ : ∃ g, w7.heap.size = g := ⟨_, rfl⟩
      have H1213 := Aside0.mk (show g12 < w7.heap.size from H12S.out)
      rw [hg13] at HN HQ H1213 ⊢
      clear H12S hg13
      (refine Shut.out hK _ _ HG.out (fun hHeld => ?_); clear hK K; (try simp only [Act.put, List.getElem_toArray, List.getElem_cons_zero, List.getElem_cons_succ, List.setIfInBounds_toArray, List.set_cons_zero, List.set_cons_succ]))
      refine wpAnyH_ready (rs := [14]) (by kernel_rfl) (by simp) (AllReadyH.cons rfl (fun K hK => ?_) AllReadyH.nil)
      rw [if_pos (by rfl)]
      refine wp_store_row 24 (.tmp 13) (.tmp 57) rfl g13 Y.toArray rfl rfl 24 Z32 HN.out HYC.out.blkA HYC.out.zsA HYC.out.oneA ?_
      have H13 := Aside0.mk (atC_blk (setRow_heap w8 g13 Z32 Y.toArray _ _ HN.out))
      have hne1 : w.heap.size + 1 ≠ g13 := by have := HQ.out; omega
      have hne2 : w.heap.size ≠ g13 := by have := HQ.out; omega
      have hne3 : g12 ≠ g13 := by have := H1213.out; omega
      have x_HZ := Aside0.mk ((setRow_other w8 g13 (w.heap.size + 1) Y.toArray hne1).trans HZ.out)
      have x_HG := Aside0.mk (atC_setRow (D := Y.toArray) HG.out hne2)
      have x_HB := Aside0.mk (below_setRow HB.out (show w.heap.size ≤ g13 from by have := HQ.out; omega) Y.toArray)
      have x_H12 := Aside0.mk (atC_setRow (D := Y.toArray) H12.out hne3)
      have x_HOT := Aside0.mk (ot_setRow (D := Y.toArray) HOT.out HN.out)
      clear HZ HG HB H12 HOT
      have HZ := x_HZ
      have HG := x_HG
      have HB := x_HB
      have H12 := x_H12
      have HOT := x_HOT
      clear x_HZ x_HG x_HB x_H12 x_HOT
      clear HN HQ hne1 hne2 hne3
      obtain ⟨w9, hw9⟩ : ∃ W', w8.setRow g13 Y.toArray = W' := ⟨_, rfl⟩
      rw [hw9] at H12 H13 HZ HG HB HOT ⊢
      clear hw9
      (refine Shut.out hK _ _ HG.out (fun hHeld => ?_); clear hK K; (try simp only [Act.put, List.getElem_toArray, List.getElem_cons_zero, List.getElem_cons_succ, List.setIfInBounds_toArray, List.set_cons_zero, List.set_cons_succ]))
      (refine wpAnyH_take (i := 15) (v := ?_) rfl (by kernel_rfl) (by kernel_rfl) (by kernel_rfl) (fun _ _ _ h => h) (Or.inl ⟨by rfl, ?_⟩) (by assumption) ?_; (case' refine_2 => (intro w hSw; go_simp; try with_reducible rfl)); (try simp only [Act.put, List.getElem_toArray, List.getElem_cons_zero, List.getElem_cons_succ, List.setIfInBounds_toArray, List.set_cons_zero, List.set_cons_succ]))
      (refine wpAnyH_take (i := 16) (v := ?_) rfl (by kernel_rfl) (by kernel_rfl) (by kernel_rfl) (fun _ _ _ h => h) (Or.inl ⟨by rfl, ?_⟩) (by assumption) ?_; (case' refine_2 => (intro w hSw; go_simp; try with_reducible rfl)); (try simp only [Act.put, List.getElem_toArray, List.getElem_cons_zero, List.getElem_cons_succ, List.setIfInBounds_toArray, List.set_cons_zero, List.set_cons_succ]))
      refine wpAnyH_done (by kernel_rfl) ?_ _
      go_wp2_with (first
        | ((with_reducible refine gate_dst (N := 60) rfl ?_); refine wpList_load_at rfl 24 (.tmp 13) rfl ⟨g13, 0, none⟩ rfl Y _ H13.out Try.underlying24 rfl HIY.out ?_)
        | ((with_reducible refine gate_dst (N := 61) rfl ?_); refine wpList_load_at rfl 24 (.tmp 12) rfl ⟨g12, 0, none⟩ rfl X _ H12.out Try.underlying24 rfl HIX.out ?_))
      refine (HT.out _).mono ?_
      rintro e w10 ⟨vx, rfl, ho, hb⟩
      obtain ⟨Ax, cx, rfl⟩ := Kd.R_slice ho
      have HOX := Aside0.mk (show Ob w10 w.heap.size _ (nodeX d x) from Kd.R_lower ho HB.out.size)
      have HS10 := Aside0.mk (HS.out _ _ w10 ho)
      have HZ10 := Aside0.mk (blk_below HZ.out hb)
      have HB10 := Aside0.mk (below_step HB.out hb)
      have HOT10 := Aside0.mk (Kd.R_below HOT.out hb)
      clear ho hb
      go_wp2_with (fail)
      refine HS10.out.mono ?_
      rintro e w11 ⟨rfl, hb⟩
      have HOX11 := Aside0.mk (Kd.R_below HOX.out hb)
      have HZ11 := Aside0.mk (blk_below HZ10.out hb)
      have HB11 := Aside0.mk (below_step HB10.out hb)
      have HOT11 := Aside0.mk (Kd.R_below HOT10.out hb)
      clear hb
      go_wp2_with (first
        | ((with_reducible refine gate_builtin (b := .append) (xs := #[.tmp 65, .tmp 67]) rfl ?_); at_builtin; refine Kd.R_append DX (w0 := w) w.heap.size rfl (.tmp 65) (.tmp 67) 29 22 (.slice none 0 0) 24 rfl Try.underlying29 info_text rfl (by decide) (by decide) vt tx (nodeX d x) [.slice Ax (nodeX d x).length cx] (fun _ => True) (fun k => True ∧ some k ≠ vt.ownBlock) rfl rfl ⟨_, rfl, ob_apart HOX11.out HOT11.out⟩ (fun _ h => h) (fun _ _ => trivial) HOT11.out HB11.out HB11.out.size (by have := HTL.out; omega) ?_; intro v12 w12 ho hb hg hat; have HO12 := Aside0.mk ho; have HB12 := Aside0.mk hb; have HZ12 := Aside0.mk (blk_grown HZ11.out hg (Kd.R_ne HOT11.out HZ11.out (by decide))); clear ho hb hg hat)
        | ((with_reducible refine gate_store (t := 24) (p := 8) (v := .tmp 64) rfl ?_); refine wpList_store_row rfl 24 (.tmp 8) (.tmp 64) rfl (w.heap.size + 1) E.toArray rfl rfl 24 Z32 HZ12.out HE.out.blkA HE.out.zsA HE.out.oneA ?_))
      have HSR := Aside0.mk (setRow_heap w12 (w.heap.size + 1) Z32 E.toArray _ _ HZ12.out)
      refine bodyPost_ret (results_ctt rfl _ _ (w.heap.size + 1) 24 E.toArray (0, 0) _ rfl HSR.out Try.underlying24 rfl HE.out.blkA) rfl ?_
      exact ⟨_, rfl, ot_setRow (D := E.toArray) HO12.out HZ12.out, below_setRow HB12.out (Nat.le_succ _) E.toArray⟩
    · have H12S := Aside0.mk (atC_lt H12.out HX.out.lenC)
      go_simp
      have HN := Aside0.mk (show ((w5.alloc (.cells Z32 24)).drew).heap[w5.heap.size]? = some (.cells Z32 24 (0, 0)) from blk_new w5 _)
      have hb := below_drew (below_alloc (Below.refl w5.heap.size w5) (.cells Z32 24))
      have HQ := Aside0.mk (show w.heap.size + 1 < w5.heap.size from (Array.getElem?_eq_some_iff.1 HZ.out).1)
      have x_HZ := Aside0.mk (blk_below HZ.out hb)
      have x_HG := Aside0.mk (HG.out.below hb)
      have x_HB := Aside0.mk (below_step HB.out hb)
      have x_H12 := Aside0.mk (H12.out.below hb)
      clear HZ HG HB H12
      have HZ := x_HZ
      have HG := x_HG
      have HB := x_HB
      have H12 := x_H12
      clear x_HZ x_HG x_HB x_H12
      clear hb
      obtain ⟨w8, hw8⟩ : ∃ W', (w5.alloc (.cells Z32 24)).drew = W' := ⟨_, rfl⟩
      rw [hw8] at HN HZ HG HB H12
      rw [show (w5.alloc (.cells #[.int .u8 0, .int .u8 0, .int .u8 0, .int .u8 0, .int .u8 0, .int .u8 0, .int .u8 0, .int .u8 0, .int .u8 0, .int .u8 0, .int .u8 0, .int .u8 0, .int .u8 0, .int .u8 0, .int .u8 0, .int .u8 0, .int .u8 0, .int .u8 0, .int .u8 0, .int .u8 0, .int .u8 0, .int .u8 0, .int .u8 0, .int .u8 0, .int .u8 0, .int .u8 0, .int .u8 0, .int .u8 0, .int .u8 0, .int .u8 0, .int .u8 0, .int .u8 0] 24)).drew = w8 from hw8]
      clear hw8
      obtain ⟨g13, hg13⟩ : ∃ g, w5.heap.size = g := ⟨_, rfl⟩
      have H1213 := Aside0.mk (show g12 < w5.heap.size from H12S.out)
      rw [hg13] at HN HQ H1213 ⊢
      clear H12S hg13
      (refine Shut.out hK _ _ HG.out (fun hHeld => ?_); clear hK K; (try simp only [Act.put, List.getElem_toArray, List.getElem_cons_zero, List.getElem_cons_succ, List.setIfInBounds_toArray, List.set_cons_zero, List.set_cons_succ]))
      refine wpAnyH_ready (rs := [8]) (by kernel_rfl) (by simp) (AllReadyH.cons rfl (fun K hK => ?_) AllReadyH.nil)
      go_simp
      refine (HU.out _ HB.out).mono ?_
      rintro e w7 ⟨vt, rfl, ho, hb0⟩
      have hb := hb0
      have HOT := Aside0.mk (show Ot w7 w.heap.size vt tx from Kd.R_lower ho HB.out.size)
      have x_HZ := Aside0.mk (blk_below HZ.out hb)
      have x_HG := Aside0.mk (HG.out.below hb)
      have x_HB := Aside0.mk (below_step HB.out hb)
      have x_H12 := Aside0.mk (H12.out.below hb)
      have x_HN := Aside0.mk (blk_below HN.out hb)
      clear HZ HG HB H12 HN
      have HZ := x_HZ
      have HG := x_HG
      have HB := x_HB
      have H12 := x_H12
      have HN := x_HN
      clear x_HZ x_HG x_HB x_H12 x_HN
      clear hb hb0 ho
      (refine Shut.out hK _ _ HG.out (fun hHeld => ?_); clear hK K; (try simp only [Act.put, List.getElem_toArray, List.getElem_cons_zero, List.getElem_cons_succ, List.setIfInBounds_toArray, List.set_cons_zero, List.set_cons_succ]))
      (refine wpAnyH_take (i := 9) (v := ?_) rfl (by kernel_rfl) (by kernel_rfl) (by kernel_rfl) (fun _ _ _ h => h) (Or.inl ⟨by rfl, ?_⟩) (by assumption) ?_; (case' refine_2 => (intro w hSw; go_simp; try with_reducible rfl)); (try simp only [Act.put, List.getElem_toArray, List.getElem_cons_zero, List.getElem_cons_succ, List.setIfInBounds_toArray, List.set_cons_zero, List.set_cons_succ]))
      (refine wpAnyH_take (i := 10) (v := ?_) rfl (by kernel_rfl) (by kernel_rfl) (by kernel_rfl) (fun _ _ _ h => h) (Or.inl ⟨by rfl, ?_⟩) (by assumption) ?_; (case' refine_2 => (intro w hSw; go_simp; try with_reducible rfl)); (try simp only [Act.put, List.getElem_toArray, List.getElem_cons_zero, List.getElem_cons_succ, List.setIfInBounds_toArray, List.set_cons_zero, List.set_cons_succ]))
      (refine wpAnyH_take (i := 11) (v := ?_) rfl (by kernel_rfl) (by kernel_rfl) (by kernel_rfl) (fun _ _ _ h => h) (Or.inl ⟨by rfl, ?_⟩) (by assumption) ?_; (case' refine_2 => (intro w hSw; go_simp; try with_reducible rfl)); (try simp only [Act.put, List.getElem_toArray, List.getElem_cons_zero, List.getElem_cons_succ, List.setIfInBounds_toArray, List.set_cons_zero, List.set_cons_succ]))
      (refine wpAnyH_take (i := 12) (v := ?_) rfl (by kernel_rfl) (by kernel_rfl) (by kernel_rfl) (fun _ _ _ h => h) (Or.inl ⟨by rfl, ?_⟩) (by assumption) ?_; (case' refine_2 => (intro w hSw; go_simp; try with_reducible rfl)); (try simp only [Act.put, List.getElem_toArray, List.getElem_cons_zero, List.getElem_cons_succ, List.setIfInBounds_toArray, List.set_cons_zero, List.set_cons_succ]))
      refine wpAnyH_ready (rs := [14]) (by kernel_rfl) (by simp) (AllReadyH.cons rfl (fun K hK => ?_) AllReadyH.nil)
      rw [if_pos (by rfl)]
      refine wp_store_row 24 (.tmp 13) (.tmp 57) rfl g13 Y.toArray rfl rfl 24 Z32 HN.out HYC.out.blkA HYC.out.zsA HYC.out.oneA ?_
      have H13 := Aside0.mk (atC_blk (setRow_heap w7 g13 Z32 Y.toArray _ _ HN.out))
      have hne1 : w.heap.size + 1 ≠ g13 := by have := HQ.out; omega
      have hne2 : w.heap.size ≠ g13 := by have := HQ.out; omega
      have hne3 : g12 ≠ g13 := by have := H1213.out; omega
      have x_HZ := Aside0.mk ((setRow_other w7 g13 (w.heap.size + 1) Y.toArray hne1).trans HZ.out)
      have x_HG := Aside0.mk (atC_setRow (D := Y.toArray) HG.out hne2)
      have x_HB := Aside0.mk (below_setRow HB.out (show w.heap.size ≤ g13 from by have := HQ.out; omega) Y.toArray)
      have x_H12 := Aside0.mk (atC_setRow (D := Y.toArray) H12.out hne3)
      have x_HOT := Aside0.mk (ot_setRow (D := Y.toArray) HOT.out HN.out)
      clear HZ HG HB H12 HOT
      have HZ := x_HZ
      have HG := x_HG
      have HB := x_HB
      have H12 := x_H12
      have HOT := x_HOT
      clear x_HZ x_HG x_HB x_H12 x_HOT
      clear HN HQ hne1 hne2 hne3
      obtain ⟨w9, hw9⟩ : ∃ W', w7.setRow g13 Y.toArray = W' := ⟨_, rfl⟩
      rw [hw9] at H12 H13 HZ HG HB HOT ⊢
      clear hw9
      (refine Shut.out hK _ _ HG.out (fun hHeld => ?_); clear hK K; (try simp only [Act.put, List.getElem_toArray, List.getElem_cons_zero, List.getElem_cons_succ, List.setIfInBounds_toArray, List.set_cons_zero, List.set_cons_succ]))
      (refine wpAnyH_take (i := 15) (v := ?_) rfl (by kernel_rfl) (by kernel_rfl) (by kernel_rfl) (fun _ _ _ h => h) (Or.inl ⟨by rfl, ?_⟩) (by assumption) ?_; (case' refine_2 => (intro w hSw; go_simp; try with_reducible rfl)); (try simp only [Act.put, List.getElem_toArray, List.getElem_cons_zero, List.getElem_cons_succ, List.setIfInBounds_toArray, List.set_cons_zero, List.set_cons_succ]))
      (refine wpAnyH_take (i := 16) (v := ?_) rfl (by kernel_rfl) (by kernel_rfl) (by kernel_rfl) (fun _ _ _ h => h) (Or.inl ⟨by rfl, ?_⟩) (by assumption) ?_; (case' refine_2 => (intro w hSw; go_simp; try with_reducible rfl)); (try simp only [Act.put, List.getElem_toArray, List.getElem_cons_zero, List.getElem_cons_succ, List.setIfInBounds_toArray, List.set_cons_zero, List.set_cons_succ]))
      refine wpAnyH_done (by kernel_rfl) ?_ _
      go_wp2_with (first
        | ((with_reducible refine gate_dst (N := 60) rfl ?_); refine wpList_load_at rfl 24 (.tmp 13) rfl ⟨g13, 0, none⟩ rfl Y _ H13.out Try.underlying24 rfl HIY.out ?_)
        | ((with_reducible refine gate_dst (N := 61) rfl ?_); refine wpList_load_at rfl 24 (.tmp 12) rfl ⟨g12, 0, none⟩ rfl X _ H12.out Try.underlying24 rfl HIX.out ?_))
      refine (HT.out _).mono ?_
      rintro e w10 ⟨vx, rfl, ho, hb⟩
      obtain ⟨Ax, cx, rfl⟩ := Kd.R_slice ho
      have HOX := Aside0.mk (show Ob w10 w.heap.size _ (nodeX d x) from Kd.R_lower ho HB.out.size)
      have HS10 := Aside0.mk (HS.out _ _ w10 ho)
      have HZ10 := Aside0.mk (blk_below HZ.out hb)
      have HB10 := Aside0.mk (below_step HB.out hb)
      have HOT10 := Aside0.mk (Kd.R_below HOT.out hb)
      clear ho hb
      go_wp2_with (fail)
      refine HS10.out.mono ?_
      rintro e w11 ⟨rfl, hb⟩
      have HOX11 := Aside0.mk (Kd.R_below HOX.out hb)
      have HZ11 := Aside0.mk (blk_below HZ10.out hb)
      have HB11 := Aside0.mk (below_step HB10.out hb)
      have HOT11 := Aside0.mk (Kd.R_below HOT10.out hb)
      clear hb
      go_wp2_with (first
        | ((with_reducible refine gate_builtin (b := .append) (xs := #[.tmp 65, .tmp 67]) rfl ?_); at_builtin; refine Kd.R_append DX (w0 := w) w.heap.size rfl (.tmp 65) (.tmp 67) 29 22 (.slice none 0 0) 24 rfl Try.underlying29 info_text rfl (by decide) (by decide) vt tx (nodeX d x) [.slice Ax (nodeX d x).length cx] (fun _ => True) (fun k => True ∧ some k ≠ vt.ownBlock) rfl rfl ⟨_, rfl, ob_apart HOX11.out HOT11.out⟩ (fun _ h => h) (fun _ _ => trivial) HOT11.out HB11.out HB11.out.size (by have := HTL.out; omega) ?_; intro v12 w12 ho hb hg hat; have HO12 := Aside0.mk ho; have HB12 := Aside0.mk hb; have HZ12 := Aside0.mk (blk_grown HZ11.out hg (Kd.R_ne HOT11.out HZ11.out (by decide))); clear ho hb hg hat)
        | ((with_reducible refine gate_store (t := 24) (p := 8) (v := .tmp 64) rfl ?_); refine wpList_store_row rfl 24 (.tmp 8) (.tmp 64) rfl (w.heap.size + 1) E.toArray rfl rfl 24 Z32 HZ12.out HE.out.blkA HE.out.zsA HE.out.oneA ?_))
      have HSR := Aside0.mk (setRow_heap w12 (w.heap.size + 1) Z32 E.toArray _ _ HZ12.out)
      refine bodyPost_ret (results_ctt rfl _ _ (w.heap.size + 1) 24 E.toArray (0, 0) _ rfl HSR.out Try.underlying24 rfl HE.out.blkA) rfl ?_
      exact ⟨_, rfl, ot_setRow (D := E.toArray) HO12.out HZ12.out, below_setRow HB12.out (Nat.le_succ _) E.toArray⟩
  · go_simp
    have HN := Aside0.mk (show ((W.alloc (.cells Z32 24)).drew).heap[W.heap.size]? = some (.cells Z32 24 (0, 0)) from blk_new W _)
    have hb := below_drew (below_alloc (Below.refl W.heap.size W) (.cells Z32 24))
    have HQ := Aside0.mk (show w.heap.size + 1 < W.heap.size from (Array.getElem?_eq_some_iff.1 HZ.out).1)
    have x_HZ := Aside0.mk (blk_below HZ.out hb)
    have x_HG := Aside0.mk (HG.out.below hb)
    have x_HB := Aside0.mk (below_step HB.out hb)
    have x_HAX := Aside0.mk (HAX.out.below hb)
    clear HZ HG HB HAX
    have HZ := x_HZ
    have HG := x_HG
    have HB := x_HB
    have HAX := x_HAX
    clear x_HZ x_HG x_HB x_HAX
    clear hb
    obtain ⟨w4, hw4⟩ : ∃ W', (W.alloc (.cells Z32 24)).drew = W' := ⟨_, rfl⟩
    rw [hw4] at HN HZ HG HB HAX
    rw [show (W.alloc (.cells #[.int .u8 0, .int .u8 0, .int .u8 0, .int .u8 0, .int .u8 0, .int .u8 0, .int .u8 0, .int .u8 0, .int .u8 0, .int .u8 0, .int .u8 0, .int .u8 0, .int .u8 0, .int .u8 0, .int .u8 0, .int .u8 0, .int .u8 0, .int .u8 0, .int .u8 0, .int .u8 0, .int .u8 0, .int .u8 0, .int .u8 0, .int .u8 0, .int .u8 0, .int .u8 0, .int .u8 0, .int .u8 0, .int .u8 0, .int .u8 0, .int .u8 0, .int .u8 0] 24)).drew = w4 from hw4]
    clear hw4
    obtain ⟨g12, hg12⟩ : ∃ g, W.heap.size = g := ⟨_, rfl⟩
    rw [hg12] at HN HQ ⊢
    clear hg12
    (refine Shut.out hK _ _ HAX.out (fun hHeld => ?_); clear hK K; (try simp only [Act.put, List.getElem_toArray, List.getElem_cons_zero, List.getElem_cons_succ, List.setIfInBounds_toArray, List.set_cons_zero, List.set_cons_succ]))
    refine wpAnyH_ready (rs := [1]) (by kernel_rfl) (by simp) (AllReadyH.cons rfl (fun K hK => ?_) AllReadyH.nil)
    go_simp
    refine (HKB.out _).mono ?_
    rintro e w6 ⟨rfl, hd_⟩
    have hb := Drawn0.below hd_
    have x_HZ := Aside0.mk (blk_below HZ.out hb)
    have x_HG := Aside0.mk (HG.out.below hb)
    have x_HB := Aside0.mk (below_step HB.out hb)
    have x_HAX := Aside0.mk (HAX.out.below hb)
    have x_HN := Aside0.mk (blk_below HN.out hb)
    clear HZ HG HB HAX HN
    have HZ := x_HZ
    have HG := x_HG
    have HB := x_HB
    have HAX := x_HAX
    have HN := x_HN
    clear x_HZ x_HG x_HB x_HAX x_HN
    clear hb hd_
    (refine Shut.out hK _ _ HAX.out (fun hHeld => ?_); clear hK K; (try simp only [Act.put, List.getElem_toArray, List.getElem_cons_zero, List.getElem_cons_succ, List.setIfInBounds_toArray, List.set_cons_zero, List.set_cons_succ]))
    (refine wpAnyH_take (i := 9) (v := ?_) rfl (by kernel_rfl) (by kernel_rfl) (by kernel_rfl) (fun _ _ _ h => h) (Or.inl ⟨by rfl, ?_⟩) (by assumption) ?_; (case' refine_2 => (intro w hSw; go_simp; try with_reducible rfl)); (try simp only [Act.put, List.getElem_toArray, List.getElem_cons_zero, List.getElem_cons_succ, List.setIfInBounds_toArray, List.set_cons_zero, List.set_cons_succ]))
    refine wpAnyH_ready (rs := [10]) (by kernel_rfl) (by simp) (AllReadyH.cons rfl (fun K hK => ?_) AllReadyH.nil)
    rw [if_pos (by rfl)]
    refine wp_store_row 24 (.tmp 12) (.tmp 43) rfl g12 X.toArray rfl rfl 24 Z32 HN.out HX.out.blkA HX.out.zsA HX.out.oneA ?_
    have H12 := Aside0.mk (atC_blk (setRow_heap w6 g12 Z32 X.toArray _ _ HN.out))
    have hne1 : w.heap.size + 1 ≠ g12 := by have := HQ.out; omega
    have hne2 : w.heap.size ≠ g12 := by have := HQ.out; omega
    have H12L := Aside0.mk (show w.heap.size + 1 < g12 from HQ.out)
    have x_HZ := Aside0.mk ((setRow_other w6 g12 (w.heap.size + 1) X.toArray hne1).trans HZ.out)
    have x_HG := Aside0.mk (atC_setRow (D := X.toArray) HG.out hne2)
    have x_HB := Aside0.mk (below_setRow HB.out (show w.heap.size ≤ g12 from by have := HQ.out; omega) X.toArray)
    clear HZ HG HB
    have HZ := x_HZ
    have HG := x_HG
    have HB := x_HB
    clear x_HZ x_HG x_HB
    have x_HAX := Aside0.mk (HAT.out.below HB.out)
    clear HAX HN HQ hne1 hne2
    have HAX := x_HAX
    clear x_HAX
    obtain ⟨w5, hw5⟩ : ∃ W', w6.setRow g12 X.toArray = W' := ⟨_, rfl⟩
    rw [hw5] at H12 HZ HG HB HAX ⊢
    clear hw5
    (refine Shut.out hK _ _ HAX.out (fun hHeld => ?_); clear hK K; (try simp only [Act.put, List.getElem_toArray, List.getElem_cons_zero, List.getElem_cons_succ, List.setIfInBounds_toArray, List.set_cons_zero, List.set_cons_succ]))
    refine wpAnyH_done (by kernel_rfl) ?_ _
    go_wp2_with (fail)
    have hq1 := HC1.out
    refine wp_region_held_drew (S := fun w' => AtC w' ⟨w.heap.size, 0, none⟩ L) (by kernel_rfl) HG.out (fun hHeld => ?_)
    (refine wpAnyH_take (i := 0) rfl (by kernel_rfl) (by kernel_rfl) (by kernel_rfl) (fun _ _ _ h => h) (yieldsIf_load_at (by rfl) _ _ rfl ⟨w.heap.size, 0, none⟩ rfl L _ (fun _ h => h) (by assumption) rfl HIL.out) (by assumption) ?_; (try simp only [Act.put, List.getElem_toArray, List.getElem_cons_zero, List.getElem_cons_succ, List.setIfInBounds_toArray, List.set_cons_zero, List.set_cons_succ]))
    (refine wpAnyH_take (i := 1) (v := ?_) rfl (by kernel_rfl) (by kernel_rfl) (by kernel_rfl) (fun _ _ _ h => h) (Or.inl ⟨by rfl, ?_⟩) (by assumption) ?_; (case' refine_2 => (intro w hSw; go_simp; try with_reducible rfl)); (try simp only [Act.put, List.getElem_toArray, List.getElem_cons_zero, List.getElem_cons_succ, List.setIfInBounds_toArray, List.set_cons_zero, List.set_cons_succ]))
    (refine wpAnyH_take (i := 2) (v := ?_) rfl (by kernel_rfl) (by kernel_rfl) (by kernel_rfl) (fun _ _ _ h => h) (Or.inl ⟨by rfl, ?_⟩) (by assumption) ?_; (case' refine_2 => (intro w hSw; go_simp; try with_reducible rfl)); (try simp only [Act.put, List.getElem_toArray, List.getElem_cons_zero, List.getElem_cons_succ, List.setIfInBounds_toArray, List.set_cons_zero, List.set_cons_succ]))
    (refine wpAnyH_take (i := 3) (v := ?_) rfl (by kernel_rfl) (by kernel_rfl) (by kernel_rfl) (fun _ _ _ h => h) (Or.inl ⟨by rfl, ?_⟩) (by assumption) ?_; (case' refine_2 => (intro w hSw; go_simp; try with_reducible rfl)); (try simp only [Act.put, List.getElem_toArray, List.getElem_cons_zero, List.getElem_cons_succ, List.setIfInBounds_toArray, List.set_cons_zero, List.set_cons_succ]))
    (refine wpAnyH_take (i := 4) (v := ?_) rfl (by kernel_rfl) (by kernel_rfl) (by kernel_rfl) (fun _ _ _ h => h) (Or.inl ⟨by rfl, ?_⟩) (by assumption) ?_; (case' refine_2 => (intro w hSw; go_simp; try with_reducible rfl)); (try simp only [Act.put, List.getElem_toArray, List.getElem_cons_zero, List.getElem_cons_succ, List.setIfInBounds_toArray, List.set_cons_zero, List.set_cons_succ]))
    (refine wpAnyH_take (i := 5) (v := ?_) rfl (by kernel_rfl) (by kernel_rfl) (by kernel_rfl) (fun _ _ _ h => h) (Or.inl ⟨by rfl, ?_⟩) (by assumption) ?_; (case' refine_2 => (intro w hSw; go_simp; try with_reducible rfl)); (try simp only [Act.put, List.getElem_toArray, List.getElem_cons_zero, List.getElem_cons_succ, List.setIfInBounds_toArray, List.set_cons_zero, List.set_cons_succ]))
    (refine wpAnyH_take (i := 6) (v := ?_) rfl (by kernel_rfl) (by kernel_rfl) (by kernel_rfl) (fun _ _ _ h => h) (Or.inl ⟨by rfl, ?_⟩) (by assumption) ?_; (case' refine_2 => (intro w hSw; go_simp; try with_reducible rfl)); (try simp only [Act.put, List.getElem_toArray, List.getElem_cons_zero, List.getElem_cons_succ, List.setIfInBounds_toArray, List.set_cons_zero, List.set_cons_succ]))
    (refine wpAnyH_take (i := 7) (v := ?_) rfl (by kernel_rfl) (by kernel_rfl) (by kernel_rfl) (fun _ _ _ h => h) (Or.inl ⟨by rfl, ?_⟩) (by assumption) ?_; (case' refine_2 => (intro w hSw; go_simp; try with_reducible rfl)); (try simp only [Act.put, List.getElem_toArray, List.getElem_cons_zero, List.getElem_cons_succ, List.setIfInBounds_toArray, List.set_cons_zero, List.set_cons_succ]))
    refine wpAnyH_ready (rs := [8, 13]) (by kernel_rfl) (by simp) (AllReadyH.cons rfl (fun K hK => ?_) (AllReadyH.cons rfl (fun K hK => ?_) AllReadyH.nil))
    · go_simp
      refine (HU.out _ (below_drew1 HB.out)).mono ?_
      rintro e w7 ⟨vt, rfl, ho, hb0⟩
      have hb := below_drew_of hb0
      have HOT := Aside0.mk (show Ot w7 w.heap.size vt tx from Kd.R_lower ho (show w.heap.size ≤ w5.drew.heap.size from HB.out.size))
      have x_HZ := Aside0.mk (blk_below HZ.out hb)
      have x_HG := Aside0.mk (HG.out.below hb)
      have x_HB := Aside0.mk (below_step HB.out hb)
      have x_H12 := Aside0.mk (H12.out.below hb)
      clear HZ HG HB H12
      have HZ := x_HZ
      have HG := x_HG
      have HB := x_HB
      have H12 := x_H12
      clear x_HZ x_HG x_HB x_H12
      clear hb hb0 ho
      (refine Shut.out hK _ _ HG.out (fun hHeld => ?_); clear hK K; (try simp only [Act.put, List.getElem_toArray, List.getElem_cons_zero, List.getElem_cons_succ, List.setIfInBounds_toArray, List.set_cons_zero, List.set_cons_succ]))
      (refine wpAnyH_take (i := 9) (v := ?_) rfl (by kernel_rfl) (by kernel_rfl) (by kernel_rfl) (fun _ _ _ h => h) (Or.inl ⟨by rfl, ?_⟩) (by assumption) ?_; (case' refine_2 => (intro w hSw; go_simp; try with_reducible rfl)); (try simp only [Act.put, List.getElem_toArray, List.getElem_cons_zero, List.getElem_cons_succ, List.setIfInBounds_toArray, List.set_cons_zero, List.set_cons_succ]))
      (refine wpAnyH_take (i := 10) (v := ?_) rfl (by kernel_rfl) (by kernel_rfl) (by kernel_rfl) (fun _ _ _ h => h) (Or.inl ⟨by rfl, ?_⟩) (by assumption) ?_; (case' refine_2 => (intro w hSw; go_simp; try with_reducible rfl)); (try simp only [Act.put, List.getElem_toArray, List.getElem_cons_zero, List.getElem_cons_succ, List.setIfInBounds_toArray, List.set_cons_zero, List.set_cons_succ]))
      (refine wpAnyH_take (i := 11) (v := ?_) rfl (by kernel_rfl) (by kernel_rfl) (by kernel_rfl) (fun _ _ _ h => h) (Or.inl ⟨by rfl, ?_⟩) (by assumption) ?_; (case' refine_2 => (intro w hSw; go_simp; try with_reducible rfl)); (try simp only [Act.put, List.getElem_toArray, List.getElem_cons_zero, List.getElem_cons_succ, List.setIfInBounds_toArray, List.set_cons_zero, List.set_cons_succ]))
      (refine wpAnyH_take (i := 12) (v := ?_) rfl (by kernel_rfl) (by kernel_rfl) (by kernel_rfl) (fun _ _ _ h => h) (Or.inl ⟨by rfl, ?_⟩) (by assumption) ?_; (case' refine_2 => (intro w hSw; go_simp; try with_reducible rfl)); (try simp only [Act.put, List.getElem_toArray, List.getElem_cons_zero, List.getElem_cons_succ, List.setIfInBounds_toArray, List.set_cons_zero, List.set_cons_succ]))
      refine wpAnyH_ready (rs := [13]) (by kernel_rfl) (by simp) (AllReadyH.cons rfl (fun K hK => ?_) AllReadyH.nil)
      have H12S := Aside0.mk (atC_lt H12.out HX.out.lenC)
      go_simp
      have HN := Aside0.mk (show (w7.alloc (.cells Z32 24)).heap[w7.heap.size]? = some (.cells Z32 24 (0, 0)) from blk_new w7 _)
      have hb := below_alloc (Below.refl w7.heap.size w7) (.cells Z32 24)
      have HQ := Aside0.mk (show w.heap.size + 1 < w7.heap.size from (Array.getElem?_eq_some_iff.1 HZ.out).1)
      have x_HZ := Aside0.mk (blk_below HZ.out hb)
      have x_HG := Aside0.mk (HG.out.below hb)
      have x_HB := Aside0.mk (below_step HB.out hb)
      have x_H12 := Aside0.mk (H12.out.below hb)
      have x_HOT := Aside0.mk (Kd.R_below HOT.out hb)
      clear HZ HG HB H12 HOT
      have HZ := x_HZ
      have HG := x_HG
      have HB := x_HB
      have H12 := x_H12
      have HOT := x_HOT
      clear x_HZ x_HG x_HB x_H12 x_HOT
      clear hb
      obtain ⟨w8, hw8⟩ : ∃ W', w7.alloc (.cells Z32 24) = W' := ⟨_, rfl⟩
      rw [hw8] at HN HZ HG HB H12 HOT
      rw [show w7.alloc (.cells #[.int .u8 0, .int .u8 0, .int .u8 0, .int .u8 0, .int .u8 0, .int .u8 0, .int .u8 0, .int .u8 0, .int .u8 0, .int .u8 0, .int .u8 0, .int .u8 0, .int .u8 0, .int .u8 0, .int .u8 0, .int .u8 0, .int .u8 0, .int .u8 0, .int .u8 0, .int .u8 0, .int .u8 0, .int .u8 0, .int .u8 0, .int .u8 0, .int .u8 0, .int .u8 0, .int .u8 0, .int .u8 0, .int .u8 0, .int .u8 0, .int .u8 0, .int .u8 0] 24) = w8 from hw8]
      clear hw8
      obtain ⟨g13, hg13⟩ : ∃ g, w7.heap.size = g := ⟨_, rfl⟩
      have H1213 := Aside0.mk (show g12 < w7.heap.size from H12S.out)
      rw [hg13] at HN HQ H1213 ⊢
      clear H12S hg13
      (refine Shut.out hK _ _ HG.out (fun hHeld => ?_); clear hK K; (try simp only [Act.put, List.getElem_toArray, List.getElem_cons_zero, List.getElem_cons_succ, List.setIfInBounds_toArray, List.set_cons_zero, List.set_cons_succ]))
      refine wpAnyH_ready (rs := [14]) (by kernel_rfl) (by simp) (AllReadyH.cons rfl (fun K hK => ?_) AllReadyH.nil)
      rw [if_pos (by rfl)]
      refine wp_store_row 24 (.tmp 13) (.tmp 57) rfl g13 Y.toArray rfl rfl 24 Z32 HN.out HYC.out.blkA HYC.out.zsA HYC.out.oneA ?_
      have H13 := Aside0.mk (atC_blk (setRow_heap w8 g13 Z32 Y.toArray _ _ HN.out))
      have hne1 : w.heap.size + 1 ≠ g13 := by have := HQ.out; omega
      have hne2 : w.heap.size ≠ g13 := by have := HQ.out; omega
      have hne3 : g12 ≠ g13 := by have := H1213.out; omega
      have x_HZ := Aside0.mk ((setRow_other w8 g13 (w.heap.size + 1) Y.toArray hne1).trans HZ.out)
      have x_HG := Aside0.mk (atC_setRow (D := Y.toArray) HG.out hne2)
      have x_HB := Aside0.mk (below_setRow HB.out (show w.heap.size ≤ g13 from by have := HQ.out; omega) Y.toArray)
      have x_H12 := Aside0.mk (atC_setRow (D := Y.toArray) H12.out hne3)
      have x_HOT := Aside0.mk (ot_setRow (D := Y.toArray) HOT.out HN.out)
      clear HZ HG HB H12 HOT
      have HZ := x_HZ
      have HG := x_HG
      have HB := x_HB
      have H12 := x_H12
      have HOT := x_HOT
      clear x_HZ x_HG x_HB x_H12 x_HOT
      clear HN HQ hne1 hne2 hne3
      obtain ⟨w9, hw9⟩ : ∃ W', w8.setRow g13 Y.toArray = W' := ⟨_, rfl⟩
      rw [hw9] at H12 H13 HZ HG HB HOT ⊢
      clear hw9
      (refine Shut.out hK _ _ HG.out (fun hHeld => ?_); clear hK K; (try simp only [Act.put, List.getElem_toArray, List.getElem_cons_zero, List.getElem_cons_succ, List.setIfInBounds_toArray, List.set_cons_zero, List.set_cons_succ]))
      (refine wpAnyH_take (i := 15) (v := ?_) rfl (by kernel_rfl) (by kernel_rfl) (by kernel_rfl) (fun _ _ _ h => h) (Or.inl ⟨by rfl, ?_⟩) (by assumption) ?_; (case' refine_2 => (intro w hSw; go_simp; try with_reducible rfl)); (try simp only [Act.put, List.getElem_toArray, List.getElem_cons_zero, List.getElem_cons_succ, List.setIfInBounds_toArray, List.set_cons_zero, List.set_cons_succ]))
      (refine wpAnyH_take (i := 16) (v := ?_) rfl (by kernel_rfl) (by kernel_rfl) (by kernel_rfl) (fun _ _ _ h => h) (Or.inl ⟨by rfl, ?_⟩) (by assumption) ?_; (case' refine_2 => (intro w hSw; go_simp; try with_reducible rfl)); (try simp only [Act.put, List.getElem_toArray, List.getElem_cons_zero, List.getElem_cons_succ, List.setIfInBounds_toArray, List.set_cons_zero, List.set_cons_succ]))
      refine wpAnyH_done (by kernel_rfl) ?_ _
      go_wp2_with (first
        | ((with_reducible refine gate_dst (N := 60) rfl ?_); refine wpList_load_at rfl 24 (.tmp 13) rfl ⟨g13, 0, none⟩ rfl Y _ H13.out Try.underlying24 rfl HIY.out ?_)
        | ((with_reducible refine gate_dst (N := 61) rfl ?_); refine wpList_load_at rfl 24 (.tmp 12) rfl ⟨g12, 0, none⟩ rfl X _ H12.out Try.underlying24 rfl HIX.out ?_))
      refine (HT.out _).mono ?_
      rintro e w10 ⟨vx, rfl, ho, hb⟩
      obtain ⟨Ax, cx, rfl⟩ := Kd.R_slice ho
      have HOX := Aside0.mk (show Ob w10 w.heap.size _ (nodeX d x) from Kd.R_lower ho HB.out.size)
      have HS10 := Aside0.mk (HS.out _ _ w10 ho)
      have HZ10 := Aside0.mk (blk_below HZ.out hb)
      have HB10 := Aside0.mk (below_step HB.out hb)
      have HOT10 := Aside0.mk (Kd.R_below HOT.out hb)
      clear ho hb
      go_wp2_with (fail)
      refine HS10.out.mono ?_
      rintro e w11 ⟨rfl, hb⟩
      have HOX11 := Aside0.mk (Kd.R_below HOX.out hb)
      have HZ11 := Aside0.mk (blk_below HZ10.out hb)
      have HB11 := Aside0.mk (below_step HB10.out hb)
      have HOT11 := Aside0.mk (Kd.R_below HOT10.out hb)
      clear hb
      go_wp2_with (first
        | ((with_reducible refine gate_builtin (b := .append) (xs := #[.tmp 65, .tmp 67]) rfl ?_); at_builtin; refine Kd.R_append DX (w0 := w) w.heap.size rfl (.tmp 65) (.tmp 67) 29 22 (.slice none 0 0) 24 rfl Try.underlying29 info_text rfl (by decide) (by decide) vt tx (nodeX d x) [.slice Ax (nodeX d x).length cx] (fun _ => True) (fun k => True ∧ some k ≠ vt.ownBlock) rfl rfl ⟨_, rfl, ob_apart HOX11.out HOT11.out⟩ (fun _ h => h) (fun _ _ => trivial) HOT11.out HB11.out HB11.out.size (by have := HTL.out; omega) ?_; intro v12 w12 ho hb hg hat; have HO12 := Aside0.mk ho; have HB12 := Aside0.mk hb; have HZ12 := Aside0.mk (blk_grown HZ11.out hg (Kd.R_ne HOT11.out HZ11.out (by decide))); clear ho hb hg hat)
        | ((with_reducible refine gate_store (t := 24) (p := 8) (v := .tmp 64) rfl ?_); refine wpList_store_row rfl 24 (.tmp 8) (.tmp 64) rfl (w.heap.size + 1) E.toArray rfl rfl 24 Z32 HZ12.out HE.out.blkA HE.out.zsA HE.out.oneA ?_))
      have HSR := Aside0.mk (setRow_heap w12 (w.heap.size + 1) Z32 E.toArray _ _ HZ12.out)
      refine bodyPost_ret (results_ctt rfl _ _ (w.heap.size + 1) 24 E.toArray (0, 0) _ rfl HSR.out Try.underlying24 rfl HE.out.blkA) rfl ?_
      exact ⟨_, rfl, ot_setRow (D := E.toArray) HO12.out HZ12.out, below_setRow HB12.out (Nat.le_succ _) E.toArray⟩
    · have H12S := Aside0.mk (atC_lt H12.out HX.out.lenC)
      go_simp
      have HN := Aside0.mk (show ((w5.alloc (.cells Z32 24)).drew).heap[w5.heap.size]? = some (.cells Z32 24 (0, 0)) from blk_new w5 _)
      have hb := below_drew (below_alloc (Below.refl w5.heap.size w5) (.cells Z32 24))
      have HQ := Aside0.mk (show w.heap.size + 1 < w5.heap.size from (Array.getElem?_eq_some_iff.1 HZ.out).1)
      have x_HZ := Aside0.mk (blk_below HZ.out hb)
      have x_HG := Aside0.mk (HG.out.below hb)
      have x_HB := Aside0.mk (below_step HB.out hb)
      have x_H12 := Aside0.mk (H12.out.below hb)
      clear HZ HG HB H12
      have HZ := x_HZ
      have HG := x_HG
      have HB := x_HB
      have H12 := x_H12
      clear x_HZ x_HG x_HB x_H12
      clear hb
      obtain ⟨w8, hw8⟩ : ∃ W', (w5.alloc (.cells Z32 24)).drew = W' := ⟨_, rfl⟩
      rw [hw8] at HN HZ HG HB H12
      rw [show (w5.alloc (.cells #[.int .u8 0, .int .u8 0, .int .u8 0, .int .u8 0, .int .u8 0, .int .u8 0, .int .u8 0, .int .u8 0, .int .u8 0, .int .u8 0, .int .u8 0, .int .u8 0, .int .u8 0, .int .u8 0, .int .u8 0, .int .u8 0, .int .u8 0, .int .u8 0, .int .u8 0, .int .u8 0, .int .u8 0, .int .u8 0, .int .u8 0, .int .u8 0, .int .u8 0, .int .u8 0, .int .u8 0, .int .u8 0, .int .u8 0, .int .u8 0, .int .u8 0, .int .u8 0] 24)).drew = w8 from hw8]
      clear hw8
      obtain ⟨g13, hg13⟩ : ∃ g, w5.heap.size = g := ⟨_, rfl⟩
      have H1213 := Aside0.mk (show g12 < w5.heap.size from H12S.out)
      rw [hg13] at HN HQ H1213 ⊢
      clear H12S hg13
      (refine Shut.out hK _ _ HG.out (fun hHeld => ?_); clear hK K; (try simp only [Act.put, List.getElem_toArray, List.getElem_cons_zero, List.getElem_cons_succ, List.setIfInBounds_toArray, List.set_cons_zero, List.set_cons_succ]))
      refine wpAnyH_ready (rs := [8]) (by kernel_rfl) (by simp) (AllReadyH.cons rfl (fun K hK => ?_) AllReadyH.nil)
      go_simp
      refine (HU.out _ HB.out).mono ?_
      rintro e w7 ⟨vt, rfl, ho, hb0⟩
      have hb := hb0
      have HOT := Aside0.mk (show Ot w7 w.heap.size vt tx from Kd.R_lower ho HB.out.size)
      have x_HZ := Aside0.mk (blk_below HZ.out hb)
      have x_HG := Aside0.mk (HG.out.below hb)
      have x_HB := Aside0.mk (below_step HB.out hb)
      have x_H12 := Aside0.mk (H12.out.below hb)
      have x_HN := Aside0.mk (blk_below HN.out hb)
      clear HZ HG HB H12 HN
      have HZ := x_HZ
      have HG := x_HG
      have HB := x_HB
      have H12 := x_H12
      have HN := x_HN
      clear x_HZ x_HG x_HB x_H12 x_HN
      clear hb hb0 ho
      (refine Shut.out hK _ _ HG.out (fun hHeld => ?_); clear hK K; (try simp only [Act.put, List.getElem_toArray, List.getElem_cons_zero, List.getElem_cons_succ, List.setIfInBounds_toArray, List.set_cons_zero, List.set_cons_succ]))
      (refine wpAnyH_take (i := 9) (v := ?_) rfl (by kernel_rfl) (by kernel_rfl) (by kernel_rfl) (fun _ _ _ h => h) (Or.inl ⟨by rfl, ?_⟩) (by assumption) ?_; (case' refine_2 => (intro w hSw; go_simp; try with_reducible rfl)); (try simp only [Act.put, List.getElem_toArray, List.getElem_cons_zero, List.getElem_cons_succ, List.setIfInBounds_toArray, List.set_cons_zero, List.set_cons_succ]))
      (refine wpAnyH_take (i := 10) (v := ?_) rfl (by kernel_rfl) (by kernel_rfl) (by kernel_rfl) (fun _ _ _ h => h) (Or.inl ⟨by rfl, ?_⟩) (by assumption) ?_; (case' refine_2 => (intro w hSw; go_simp; try with_reducible rfl)); (try simp only [Act.put, List.getElem_toArray, List.getElem_cons_zero, List.getElem_cons_succ, List.setIfInBounds_toArray, List.set_cons_zero, List.set_cons_succ]))
      (refine wpAnyH_take (i := 11) (v := ?_) rfl (by kernel_rfl) (by kernel_rfl) (by kernel_rfl) (fun _ _ _ h => h) (Or.inl ⟨by rfl, ?_⟩) (by assumption) ?_; (case' refine_2 => (intro w hSw; go_simp; try with_reducible rfl)); (try simp only [Act.put, List.getElem_toArray, List.getElem_cons_zero, List.getElem_cons_succ, List.setIfInBounds_toArray, List.set_cons_zero, List.set_cons_succ]))
      (refine wpAnyH_take (i := 12) (v := ?_) rfl (by kernel_rfl) (by kernel_rfl) (by kernel_rfl) (fun _ _ _ h => h) (Or.inl ⟨by rfl, ?_⟩) (by assumption) ?_; (case' refine_2 => (intro w hSw; go_simp; try with_reducible rfl)); (try simp only [Act.put, List.getElem_toArray, List.getElem_cons_zero, List.getElem_cons_succ, List.setIfInBounds_toArray, List.set_cons_zero, List.set_cons_succ]))
      refine wpAnyH_ready (rs := [14]) (by kernel_rfl) (by simp) (AllReadyH.cons rfl (fun K hK => ?_) AllReadyH.nil)
      rw [if_pos (by rfl)]
      refine wp_store_row 24 (.tmp 13) (.tmp 57) rfl g13 Y.toArray rfl rfl 24 Z32 HN.out HYC.out.blkA HYC.out.zsA HYC.out.oneA ?_
      have H13 := Aside0.mk (atC_blk (setRow_heap w7 g13 Z32 Y.toArray _ _ HN.out))
      have hne1 : w.heap.size + 1 ≠ g13 := by have := HQ.out; omega
      have hne2 : w.heap.size ≠ g13 := by have := HQ.out; omega
      have hne3 : g12 ≠ g13 := by have := H1213.out; omega
      have x_HZ := Aside0.mk ((setRow_other w7 g13 (w.heap.size + 1) Y.toArray hne1).trans HZ.out)
      have x_HG := Aside0.mk (atC_setRow (D := Y.toArray) HG.out hne2)
      have x_HB := Aside0.mk (below_setRow HB.out (show w.heap.size ≤ g13 from by have := HQ.out; omega) Y.toArray)
      have x_H12 := Aside0.mk (atC_setRow (D := Y.toArray) H12.out hne3)
      have x_HOT := Aside0.mk (ot_setRow (D := Y.toArray) HOT.out HN.out)
      clear HZ HG HB H12 HOT
      have HZ := x_HZ
      have HG := x_HG
      have HB := x_HB
      have H12 := x_H12
      have HOT := x_HOT
      clear x_HZ x_HG x_HB x_H12 x_HOT
      clear HN HQ hne1 hne2 hne3
      obtain ⟨w9, hw9⟩ : ∃ W', w7.setRow g13 Y.toArray = W' := ⟨_, rfl⟩
      rw [hw9] at H12 H13 HZ HG HB HOT ⊢
      clear hw9
      (refine Shut.out hK _ _ HG.out (fun hHeld => ?_); clear hK K; (try simp only [Act.put, List.getElem_toArray, List.getElem_cons_zero, List.getElem_cons_succ, List.setIfInBounds_toArray, List.set_cons_zero, List.set_cons_succ]))
      (refine wpAnyH_take (i := 15) (v := ?_) rfl (by kernel_rfl) (by kernel_rfl) (by kernel_rfl) (fun _ _ _ h => h) (Or.inl ⟨by rfl, ?_⟩) (by assumption) ?_; (case' refine_2 => (intro w hSw; go_simp; try with_reducible rfl)); (try simp only [Act.put, List.getElem_toArray, List.getElem_cons_zero, List.getElem_cons_succ, List.setIfInBounds_toArray, List.set_cons_zero, List.set_cons_succ]))
      (refine wpAnyH_take (i := 16) (v := ?_) rfl (by kernel_rfl) (by kernel_rfl) (by kernel_rfl) (fun _ _ _ h => h) (Or.inl ⟨by rfl, ?_⟩) (by assumption) ?_; (case' refine_2 => (intro w hSw; go_simp; try with_reducible rfl)); (try simp only [Act.put, List.getElem_toArray, List.getElem_cons_zero, List.getElem_cons_succ, List.setIfInBounds_toArray, List.set_cons_zero, List.set_cons_succ]))
      refine wpAnyH_done (by kernel_rfl) ?_ _
      go_wp2_with (first
        | ((with_reducible refine gate_dst (N := 60) rfl ?_); refine wpList_load_at rfl 24 (.tmp 13) rfl ⟨g13, 0, none⟩ rfl Y _ H13.out Try.underlying24 rfl HIY.out ?_)
        | ((with_reducible refine gate_dst (N := 61) rfl ?_); refine wpList_load_at rfl 24 (.tmp 12) rfl ⟨g12, 0, none⟩ rfl X _ H12.out Try.underlying24 rfl HIX.out ?_))
      refine (HT.out _).mono ?_
      rintro e w10 ⟨vx, rfl, ho, hb⟩
      obtain ⟨Ax, cx, rfl⟩ := Kd.R_slice ho
      have HOX := Aside0.mk (show Ob w10 w.heap.size _ (nodeX d x) from Kd.R_lower ho HB.out.size)
      have HS10 := Aside0.mk (HS.out _ _ w10 ho)
      have HZ10 := Aside0.mk (blk_below HZ.out hb)
      have HB10 := Aside0.mk (below_step HB.out hb)
      have HOT10 := Aside0.mk (Kd.R_below HOT.out hb)
      clear ho hb
      go_wp2_with (fail)
      refine HS10.out.mono ?_
      rintro e w11 ⟨rfl, hb⟩
      have HOX11 := Aside0.mk (Kd.R_below HOX.out hb)
      have HZ11 := Aside0.mk (blk_below HZ10.out hb)
      have HB11 := Aside0.mk (below_step HB10.out hb)
      have HOT11 := Aside0.mk (Kd.R_below HOT10.out hb)
      clear hb
      go_wp2_with (first
        | ((with_reducible refine gate_builtin (b := .append) (xs := #[.tmp 65, .tmp 67]) rfl ?_); at_builtin; refine Kd.R_append DX (w0 := w) w.heap.size rfl (.tmp 65) (.tmp 67) 29 22 (.slice none 0 0) 24 rfl Try.underlying29 info_text rfl (by decide) (by decide) vt tx (nodeX d x) [.slice Ax (nodeX d x).length cx] (fun _ => True) (fun k => True ∧ some k ≠ vt.ownBlock) rfl rfl ⟨_, rfl, ob_apart HOX11.out HOT11.out⟩ (fun _ h => h) (fun _ _ => trivial) HOT11.out HB11.out HB11.out.size (by have := HTL.out; omega) ?_; intro v12 w12 ho hb hg hat; have HO12 := Aside0.mk ho; have HB12 := Aside0.mk hb; have HZ12 := Aside0.mk (blk_grown HZ11.out hg (Kd.R_ne HOT11.out HZ11.out (by decide))); clear ho hb hg hat)
        | ((with_reducible refine gate_store (t := 24) (p := 8) (v := .tmp 64) rfl ?_); refine wpList_store_row rfl 24 (.tmp 8) (.tmp 64) rfl (w.heap.size + 1) E.toArray rfl rfl 24 Z32 HZ12.out HE.out.blkA HE.out.zsA HE.out.oneA ?_))
      have HSR := Aside0.mk (setRow_heap w12 (w.heap.size + 1) Z32 E.toArray _ _ HZ12.out)
      refine bodyPost_ret (results_ctt rfl _ _ (w.heap.size + 1) 24 E.toArray (0, 0) _ rfl HSR.out Try.underlying24 rfl HE.out.blkA) rfl ?_
      exact ⟨_, rfl, ot_setRow (D := E.toArray) HO12.out HZ12.out, below_setRow HB12.out (Nat.le_succ _) E.toArray⟩
set_option maxHeartbeats 16000000 in
set_option maxRecDepth 100000 in
theorem rup_right_c (leaf : Sm) (hl : leaf.length = 32) (d x : Sm) (hd : d.length = 32) (hx : x.length = 32) (hdu : U8' d) (hxu : U8' x) (b : Bool) (tx : List (List Int)) (htl : tx.length ≤ 1000) (i n k : Nat) (hk2 : hlf n = k) (h2 : 2 ≤ n) (hm : n ≤ 1048576) (hik : k ≤ i) (hin : i < n) (ad : Addr) (m c : Nat) (hc : m + 1 ≤ c) (hmm : m ≤ 1000) (w : World) (hat : AtC w (ad.add (m * 32)) (nums .u8 x))
    (hU : ∀ W, Below w.heap.size w W → Calls Try.prog 33 #[sumV leaf, .int .i64 ((i : Int) - (k : Int)), .int .i64 ((n : Int) - (k : Int)), .slice (some ad) m c] W (RetU W d b tx)) :
    Calls Try.prog 33 #[sumV leaf, .int .i64 (i : Int), .int .i64 (n : Int), .slice (some ad) (m + 1) c] w (RetU w (nodeH x d) b (tx ++ [nodeX x d])) := by
  obtain ⟨L, hL⟩ := sumC leaf hl
  have HL := Aside0.mk hL
  have HG := Aside0.mk (show AtC ((w.alloc (.cells L.toArray 24)).alloc (.cells Z32 24)) ⟨w.heap.size, 0, none⟩ L from atC_blk (fr := (0, 0)) (T := 24) (blk_alloc (blk_new w (.cells L.toArray 24)) _))
  have HZ := Aside0.mk (show ((w.alloc (.cells L.toArray 24)).alloc (.cells Z32 24)).heap[w.heap.size + 1]? = some (.cells Z32 24 (0, 0)) from second_new' _ _ _)
  have HB := Aside0.mk (show Below w.heap.size w ((w.alloc (.cells L.toArray 24)).alloc (.cells Z32 24)) from below_alloc (below_alloc (Below.refl _ _) _) _)
  obtain ⟨E, hE⟩ := sumC (nodeH x d) (nodeH_len _ _)
  obtain ⟨X, hX⟩ := sumC x hx
  obtain ⟨Y, hY⟩ := sumC d hd
  have HE := Aside0.mk hE
  have HX := Aside0.mk hX
  have HYC := Aside0.mk hY
  have HIL := Aside0.mk hL.blk
  have HIX := Aside0.mk hX.blk
  have HIY := Aside0.mk hY.blk
  have HT := Aside0.mk (rnodex_c x d hx hd)
  have HS := Aside0.mk (rof_o (nodeX x d) (nodeX_u8 hxu hdu) (by rw [nodeX_len hx hd]; decide))
  rw [hX.eq] at hat
  have HAT := Aside0.mk hat
  have HTL := Aside0.mk htl
  have hk := hlf_lt h2
  have HKB := Aside0.mk (fun W => half_c n h2 (by omega) W)
  rw [hk2] at HKB hk
  unfold MakesU at HT
  unfold Ret at HS
  unfold RetU at hU ⊢
  rw [hX.v, hY.v] at HT
  rw [← nodeH_eq, hE.v] at HS
  rw [hL.v] at hU ⊢
  rw [hY.v] at hU
  rw [hE.v]
  have HU := Aside0.mk hU
  have HC1 := Aside0.mk (cut_a (some ad) (m + 1) c m (by omega) hc)
  have d1 : ((n : Int) == 1) = false := by simp; omega
  have d2 : (((m + 1 : Nat) : Int) == 0) = false := by simp; omega
  have d2' : ((m : Int) + 1 == 0) = false := by simp; omega
  have d3 : decide ((i : Int) < (k : Int)) = false := by simp; omega
  have d4 : decide (i < k) = false := by simp; omega
  have q1 : ((m : Int) < (m : Int) + 1) = True := eq_true (by omega)
  have e1 : IntKind.i64.wrap (m : Int) = (m : Int) := by rw [i64_w, w64 (by omega) (by omega)]
  have HE1 := Aside0.mk (show IntKind.i64.wrap ((i : Int) - (k : Int)) = (i : Int) - (k : Int) by rw [i64_w]; exact w64 (by omega) (by omega))
  have HE2 := Aside0.mk (show IntKind.i64.wrap ((n : Int) - (k : Int)) = (n : Int) - (k : Int) by rw [i64_w]; exact w64 (by omega) (by omega))
  have HNUM := Aside0.mk (And.intro hc (And.intro hin (And.intro hm (And.intro hmm (And.intro hk h2)))))
  clear hE hX hY hL hU hl hd hx hdu hxu hk2 hat htl hk hc hin hm hmm h2 hik
  go_enter Try.func33, Try.ntmps33
  go_wp2_with (fail)
  obtain ⟨W, hW⟩ : ∃ W, ((w.alloc (.cells L.toArray 24)).alloc (.cells Z32 24)) = W := ⟨_, rfl⟩
  rw [hW] at HG HZ HB
  rw [show ((w.alloc (.cells L.toArray 24)).alloc (.cells #[.int .u8 0, .int .u8 0, .int .u8 0, .int .u8 0, .int .u8 0, .int .u8 0, .int .u8 0, .int .u8 0, .int .u8 0, .int .u8 0, .int .u8 0, .int .u8 0, .int .u8 0, .int .u8 0, .int .u8 0, .int .u8 0, .int .u8 0, .int .u8 0, .int .u8 0, .int .u8 0, .int .u8 0, .int .u8 0, .int .u8 0, .int .u8 0, .int .u8 0, .int .u8 0, .int .u8 0, .int .u8 0, .int .u8 0, .int .u8 0, .int .u8 0, .int .u8 0] 24)) = W from hW]
  clear hW
  have hu24 := Try.underlying24
  have HAX := Aside0.mk (HAT.out.below HB.out)
  refine wp_region_held_drew (S := fun w' => AtC w' (ad.add (m * 32)) X) (by kernel_rfl) HAX.out (fun hHeld => ?_)
  (refine wpAnyH_take (i := 0) (v := ?_) rfl (by kernel_rfl) (by kernel_rfl) (by kernel_rfl) (fun _ _ _ h => h) (Or.inl ⟨by rfl, ?_⟩) (by assumption) ?_; (case' refine_2 => (intro w hSw; go_simp; try with_reducible rfl)); (try simp only [Act.put, List.getElem_toArray, List.getElem_cons_zero, List.getElem_cons_succ, List.setIfInBounds_toArray, List.set_cons_zero, List.set_cons_succ]))
  (refine wpAnyH_take (i := 2) (v := ?_) rfl (by kernel_rfl) (by kernel_rfl) (by kernel_rfl) (fun _ _ _ h => h) (Or.inl ⟨by rfl, ?_⟩) (by assumption) ?_; (case' refine_2 => (intro w hSw; go_simp; try with_reducible rfl)); (try simp only [Act.put, List.getElem_toArray, List.getElem_cons_zero, List.getElem_cons_succ, List.setIfInBounds_toArray, List.set_cons_zero, List.set_cons_succ]))
  (refine wpAnyH_take (i := 3) (v := ?_) rfl (by kernel_rfl) (by kernel_rfl) (by kernel_rfl) (fun _ _ _ h => h) (Or.inl ⟨by rfl, ?_⟩) (by assumption) ?_; (case' refine_2 => (intro w hSw; go_simp; try with_reducible rfl)); (try simp only [Act.put, List.getElem_toArray, List.getElem_cons_zero, List.getElem_cons_succ, List.setIfInBounds_toArray, List.set_cons_zero, List.set_cons_succ]))
  (refine wpAnyH_take (i := 4) (v := ?_) rfl (by kernel_rfl) (by kernel_rfl) (by kernel_rfl) (fun _ _ _ h => h) (Or.inl ⟨by rfl, ?_⟩) (by assumption) ?_; (case' refine_2 => (intro w hSw; go_simp; try with_reducible rfl)); (try simp only [Act.put, List.getElem_toArray, List.getElem_cons_zero, List.getElem_cons_succ, List.setIfInBounds_toArray, List.set_cons_zero, List.set_cons_succ]))
  (refine wpAnyH_take (i := 5) (v := ?_) rfl (by kernel_rfl) (by kernel_rfl) (by kernel_rfl) (fun _ _ _ h => h) (Or.inl ⟨by rfl, ?_⟩) (by assumption) ?_; (case' refine_2 => (intro w hSw; go_simp; try with_reducible rfl)); (try simp only [Act.put, List.getElem_toArray, List.getElem_cons_zero, List.getElem_cons_succ, List.setIfInBounds_toArray, List.set_cons_zero, List.set_cons_succ]))
  (refine wpAnyH_take (i := 6) (v := ?_) rfl (by kernel_rfl) (by kernel_rfl) (by kernel_rfl) (fun _ _ _ h => h) (Or.inl ⟨by rfl, ?_⟩) (by assumption) ?_; (case' refine_2 => (intro w hSw; go_simp; try with_reducible rfl)); (try simp only [Act.put, List.getElem_toArray, List.getElem_cons_zero, List.getElem_cons_succ, List.setIfInBounds_toArray, List.set_cons_zero, List.set_cons_succ]))
  (refine wpAnyH_take (i := 7) rfl (by kernel_rfl) (by kernel_rfl) (by kernel_rfl) (fun _ _ _ h => h) (yieldsIf_load_at (by rfl) _ _ rfl (ad.add (m * 32)) rfl X _ (fun _ h => h) (by assumption) rfl HIX.out) (by assumption) ?_; (try simp only [Act.put, List.getElem_toArray, List.getElem_cons_zero, List.getElem_cons_succ, List.setIfInBounds_toArray, List.set_cons_zero, List.set_cons_succ]))
  refine wpAnyH_ready (rs := [1, 8]) (by kernel_rfl) (by simp) (AllReadyH.cons rfl (fun K hK => ?_) (AllReadyH.cons rfl (fun K hK => ?_) AllReadyH.nil))
  · go_simp
    refine (HKB.out _).mono ?_
    rintro e w2 ⟨rfl, hd_⟩
    have hb := below_drew_of (Drawn0.below hd_)
    have x_HZ := Aside0.mk (blk_below HZ.out hb)
    have x_HG := Aside0.mk (HG.out.below hb)
    have x_HB := Aside0.mk (below_step HB.out hb)
    have x_HAX := Aside0.mk (HAX.out.below hb)
    clear HZ HG HB HAX
    have HZ := x_HZ
    have HG := x_HG
    have HB := x_HB
    have HAX := x_HAX
    clear x_HZ x_HG x_HB x_HAX
    clear hb hd_
    (refine Shut.out hK _ _ HAX.out (fun hHeld => ?_); clear hK K; (try simp only [Act.put, List.getElem_toArray, List.getElem_cons_zero, List.getElem_cons_succ, List.setIfInBounds_toArray, List.set_cons_zero, List.set_cons_succ]))
    refine wpAnyH_ready (rs := [8]) (by kernel_rfl) (by simp) (AllReadyH.cons rfl (fun K hK => ?_) AllReadyH.nil)
    go_simp
    have HN := Aside0.mk (show (w2.alloc (.cells Z32 24)).heap[w2.heap.size]? = some (.cells Z32 24 (0, 0)) from blk_new w2 _)
    have hb := below_alloc (Below.refl w2.heap.size w2) (.cells Z32 24)
    have HQ := Aside0.mk (show w.heap.size + 1 < w2.heap.size from (Array.getElem?_eq_some_iff.1 HZ.out).1)
    have x_HZ := Aside0.mk (blk_below HZ.out hb)
    have x_HG := Aside0.mk (HG.out.below hb)
    have x_HB := Aside0.mk (below_step HB.out hb)
    have x_HAX := Aside0.mk (HAX.out.below hb)
    clear HZ HG HB HAX
    have HZ := x_HZ
    have HG := x_HG
    have HB := x_HB
    have HAX := x_HAX
    clear x_HZ x_HG x_HB x_HAX
    clear hb
    obtain ⟨w4, hw4⟩ : ∃ W', w2.alloc (.cells Z32 24) = W' := ⟨_, rfl⟩
    rw [hw4] at HN HZ HG HB HAX
    rw [show w2.alloc (.cells #[.int .u8 0, .int .u8 0, .int .u8 0, .int .u8 0, .int .u8 0, .int .u8 0, .int .u8 0, .int .u8 0, .int .u8 0, .int .u8 0, .int .u8 0, .int .u8 0, .int .u8 0, .int .u8 0, .int .u8 0, .int .u8 0, .int .u8 0, .int .u8 0, .int .u8 0, .int .u8 0, .int .u8 0, .int .u8 0, .int .u8 0, .int .u8 0, .int .u8 0, .int .u8 0, .int .u8 0, .int .u8 0, .int .u8 0, .int .u8 0, .int .u8 0, .int .u8 0] 24) = w4 from hw4]
    clear hw4
    obtain ⟨g12, hg12⟩ : ∃ g, w2.heap.size = g := ⟨_, rfl⟩
    rw [hg12] at HN HQ ⊢
    clear hg12
    (refine Shut.out hK _ _ HAX.out (fun hHeld => ?_); clear hK K; (try simp only [Act.put, List.getElem_toArray, List.getElem_cons_zero, List.getElem_cons_succ, List.setIfInBounds_toArray, List.set_cons_zero, List.set_cons_succ]))
    (refine wpAnyH_take (i := 9) (v := ?_) rfl (by kernel_rfl) (by kernel_rfl) (by kernel_rfl) (fun _ _ _ h => h) (Or.inl ⟨by rfl, ?_⟩) (by assumption) ?_; (case' refine_2 => (intro w hSw; go_simp; try with_reducible rfl)); (try simp only [Act.put, List.getElem_toArray, List.getElem_cons_zero, List.getElem_cons_succ, List.setIfInBounds_toArray, List.set_cons_zero, List.set_cons_succ]))
    refine wpAnyH_ready (rs := [10]) (by kernel_rfl) (by simp) (AllReadyH.cons rfl (fun K hK => ?_) AllReadyH.nil)
    rw [if_pos (by rfl)]
    refine wp_store_row 24 (.tmp 12) (.tmp 43) rfl g12 X.toArray rfl rfl 24 Z32 HN.out HX.out.blkA HX.out.zsA HX.out.oneA ?_
    have H12 := Aside0.mk (atC_blk (setRow_heap w4 g12 Z32 X.toArray _ _ HN.out))
    have hne1 : w.heap.size + 1 ≠ g12 := by have := HQ.out; omega
    have hne2 : w.heap.size ≠ g12 := by have := HQ.out; omega
    have H12L := Aside0.mk (show w.heap.size + 1 < g12 from HQ.out)
    have x_HZ := Aside0.mk ((setRow_other w4 g12 (w.heap.size + 1) X.toArray hne1).trans HZ.out)
    have x_HG := Aside0.mk (atC_setRow (D := X.toArray) HG.out hne2)
    have x_HB := Aside0.mk (below_setRow HB.out (show w.heap.size ≤ g12 from by have := HQ.out; omega) X.toArray)
    clear HZ HG HB
    have HZ := x_HZ
    have HG := x_HG
    have HB := x_HB
    clear x_HZ x_HG x_HB
    have x_HAX := Aside0.mk (HAT.out.below HB.out)
    clear HAX HN HQ hne1 hne2
    have HAX := x_HAX
    clear x_HAX
    obtain ⟨w5, hw5⟩ : ∃ W', w4.setRow g12 X.toArray = W' := ⟨_, rfl⟩
    rw [hw5] at H12 HZ HG HB HAX ⊢
    clear hw5
    (refine Shut.out hK _ _ HAX.out (fun hHeld => ?_); clear hK K; (try simp only [Act.put, List.getElem_toArray, List.getElem_cons_zero, List.getElem_cons_succ, List.setIfInBounds_toArray, List.set_cons_zero, List.set_cons_succ]))
    refine wpAnyH_done (by kernel_rfl) ?_ _
    go_wp2_with (fail)
    have hq1 := HC1.out
    refine wp_region_held_drew (S := fun w' => AtC w' ⟨w.heap.size, 0, none⟩ L) (by kernel_rfl) HG.out (fun hHeld => ?_)
    (refine wpAnyH_take (i := 0) rfl (by kernel_rfl) (by kernel_rfl) (by kernel_rfl) (fun _ _ _ h => h) (yieldsIf_load_at (by rfl) _ _ rfl ⟨w.heap.size, 0, none⟩ rfl L _ (fun _ h => h) (by assumption) rfl HIL.out) (by assumption) ?_; (try simp only [Act.put, List.getElem_toArray, List.getElem_cons_zero, List.getElem_cons_succ, List.setIfInBounds_toArray, List.set_cons_zero, List.set_cons_succ]))
    (refine wpAnyH_take (i := 1) (v := ?_) rfl (by kernel_rfl) (by kernel_rfl) (by kernel_rfl) (fun _ _ _ h => h) (Or.inl ⟨by rfl, ?_⟩) (by assumption) ?_; (case' refine_2 => (intro w hSw; go_simp; try with_reducible rfl)); (try simp only [Act.put, List.getElem_toArray, List.getElem_cons_zero, List.getElem_cons_succ, List.setIfInBounds_toArray, List.set_cons_zero, List.set_cons_succ]))
    (refine wpAnyH_take (i := 2) (v := ?_) rfl (by kernel_rfl) (by kernel_rfl) (by kernel_rfl) (fun _ _ _ h => h) (Or.inl ⟨by rfl, ?_⟩) (by assumption) ?_; (case' refine_2 => (intro w hSw; go_simp; try with_reducible rfl)); (try simp only [Act.put, List.getElem_toArray, List.getElem_cons_zero, List.getElem_cons_succ, List.setIfInBounds_toArray, List.set_cons_zero, List.set_cons_succ]))
    (refine wpAnyH_take (i := 3) (v := ?_) rfl (by kernel_rfl) (by kernel_rfl) (by kernel_rfl) (fun _ _ _ h => h) (Or.inl ⟨by rfl, ?_⟩) (by assumption) ?_; (case' refine_2 => (intro w hSw; go_simp; try with_reducible rfl)); (try simp only [Act.put, List.getElem_toArray, List.getElem_cons_zero, List.getElem_cons_succ, List.setIfInBounds_toArray, List.set_cons_zero, List.set_cons_succ]))
    (refine wpAnyH_take (i := 4) (v := ?_) rfl (by kernel_rfl) (by kernel_rfl) (by kernel_rfl) (fun _ _ _ h => h) (Or.inl ⟨by rfl, ?_⟩) (by assumption) ?_; (case' refine_2 => (intro w hSw; go_simp; try with_reducible rfl)); (try simp only [Act.put, List.getElem_toArray, List.getElem_cons_zero, List.getElem_cons_succ, List.setIfInBounds_toArray, List.set_cons_zero, List.set_cons_succ]))
    (refine wpAnyH_take (i := 5) (v := ?_) rfl (by kernel_rfl) (by kernel_rfl) (by kernel_rfl) (fun _ _ _ h => h) (Or.inl ⟨by rfl, ?_⟩) (by assumption) ?_; (case' refine_2 => (intro w hSw; go_simp; try with_reducible rfl)); (try simp only [Act.put, List.getElem_toArray, List.getElem_cons_zero, List.getElem_cons_succ, List.setIfInBounds_toArray, List.set_cons_zero, List.set_cons_succ]))
    (refine wpAnyH_take (i := 6) (v := ?_) rfl (by kernel_rfl) (by kernel_rfl) (by kernel_rfl) (fun _ _ _ h => h) (Or.inl ⟨by rfl, ?_⟩) (by assumption) ?_; (case' refine_2 => (intro w hSw; go_simp; try with_reducible rfl)); (try simp only [Act.put, List.getElem_toArray, List.getElem_cons_zero, List.getElem_cons_succ, List.setIfInBounds_toArray, List.set_cons_zero, List.set_cons_succ]))
    (refine wpAnyH_take (i := 7) (v := ?_) rfl (by kernel_rfl) (by kernel_rfl) (by kernel_rfl) (fun _ _ _ h => h) (Or.inl ⟨by rfl, ?_⟩) (by assumption) ?_; (case' refine_2 => (intro w hSw; go_simp; try with_reducible rfl)); (try simp only [Act.put, List.getElem_toArray, List.getElem_cons_zero, List.getElem_cons_succ, List.setIfInBounds_toArray, List.set_cons_zero, List.set_cons_succ]))
    (refine wpAnyH_take (i := 8) (v := ?_) rfl (by kernel_rfl) (by kernel_rfl) (by kernel_rfl) (fun _ _ _ h => h) (Or.inl ⟨by rfl, ?_⟩) (by assumption) ?_; (case' refine_2 => (intro w hSw; go_simp; try with_reducible rfl)); (try simp only [Act.put, List.getElem_toArray, List.getElem_cons_zero, List.getElem_cons_succ, List.setIfInBounds_toArray, List.set_cons_zero, List.set_cons_succ]))
    (refine wpAnyH_take (i := 9) (v := ?_) rfl (by kernel_rfl) (by kernel_rfl) (by kernel_rfl) (fun _ _ _ h => h) (Or.inl ⟨by rfl, ?_⟩) (by assumption) ?_; (case' refine_2 => (intro w hSw; go_simp; try with_reducible rfl)); (try simp only [Act.put, List.getElem_toArray, List.getElem_cons_zero, List.getElem_cons_succ, List.setIfInBounds_toArray, List.set_cons_zero, List.set_cons_succ]))
    (refine wpAnyH_take (i := 10) (v := ?_) rfl (by kernel_rfl) (by kernel_rfl) (by kernel_rfl) (fun _ _ _ h => h) (Or.inl ⟨by rfl, ?_⟩) (by assumption) ?_; (case' refine_2 => (intro w hSw; go_simp; try with_reducible rfl)); (try simp only [Act.put, List.getElem_toArray, List.getElem_cons_zero, List.getElem_cons_succ, List.setIfInBounds_toArray, List.set_cons_zero, List.set_cons_succ]))
    (refine wpAnyH_take (i := 11) (v := ?_) rfl (by kernel_rfl) (by kernel_rfl) (by kernel_rfl) (fun _ _ _ h => h) (Or.inl ⟨by rfl, ?_⟩) (by assumption) ?_; (case' refine_2 => (intro w hSw; go_simp; try with_reducible rfl)); (try simp only [Act.put, List.getElem_toArray, List.getElem_cons_zero, List.getElem_cons_succ, List.setIfInBounds_toArray, List.set_cons_zero, List.set_cons_succ]))
    refine wpAnyH_ready (rs := [12, 17]) (by kernel_rfl) (by simp) (AllReadyH.cons rfl (fun K hK => ?_) (AllReadyH.cons rfl (fun K hK => ?_) AllReadyH.nil))
    · go_simp
      rw [HE1.out, HE2.out]
      refine (HU.out _ (below_drew1 HB.out)).mono ?_
      rintro e w7 ⟨vt, rfl, ho, hb0⟩
      have hb := below_drew_of hb0
      have HOT := Aside0.mk (show Ot w7 w.heap.size vt tx from Kd.R_lower ho (show w.heap.size ≤ w5.drew.heap.size from HB.out.size))
      have x_HZ := Aside0.mk (blk_below HZ.out hb)
      have x_HG := Aside0.mk (HG.out.below hb)
      have x_HB := Aside0.mk (below_step HB.out hb)
      have x_H12 := Aside0.mk (H12.out.below hb)
      clear HZ HG HB H12
      have HZ := x_HZ
      have HG := x_HG
      have HB := x_HB
      have H12 := x_H12
      clear x_HZ x_HG x_HB x_H12
      clear hb hb0 ho
      (refine Shut.out hK _ _ HG.out (fun hHeld => ?_); clear hK K; (try simp only [Act.put, List.getElem_toArray, List.getElem_cons_zero, List.getElem_cons_succ, List.setIfInBounds_toArray, List.set_cons_zero, List.set_cons_succ]))
      (refine wpAnyH_take (i := 13) (v := ?_) rfl (by kernel_rfl) (by kernel_rfl) (by kernel_rfl) (fun _ _ _ h => h) (Or.inl ⟨by rfl, ?_⟩) (by assumption) ?_; (case' refine_2 => (intro w hSw; go_simp; try with_reducible rfl)); (try simp only [Act.put, List.getElem_toArray, List.getElem_cons_zero, List.getElem_cons_succ, List.setIfInBounds_toArray, List.set_cons_zero, List.set_cons_succ]))
      (refine wpAnyH_take (i := 14) (v := ?_) rfl (by kernel_rfl) (by kernel_rfl) (by kernel_rfl) (fun _ _ _ h => h) (Or.inl ⟨by rfl, ?_⟩) (by assumption) ?_; (case' refine_2 => (intro w hSw; go_simp; try with_reducible rfl)); (try simp only [Act.put, List.getElem_toArray, List.getElem_cons_zero, List.getElem_cons_succ, List.setIfInBounds_toArray, List.set_cons_zero, List.set_cons_succ]))
      (refine wpAnyH_take (i := 15) (v := ?_) rfl (by kernel_rfl) (by kernel_rfl) (by kernel_rfl) (fun _ _ _ h => h) (Or.inl ⟨by rfl, ?_⟩) (by assumption) ?_; (case' refine_2 => (intro w hSw; go_simp; try with_reducible rfl)); (try simp only [Act.put, List.getElem_toArray, List.getElem_cons_zero, List.getElem_cons_succ, List.setIfInBounds_toArray, List.set_cons_zero, List.set_cons_succ]))
      (refine wpAnyH_take (i := 16) (v := ?_) rfl (by kernel_rfl) (by kernel_rfl) (by kernel_rfl) (fun _ _ _ h => h) (Or.inl ⟨by rfl, ?_⟩) (by assumption) ?_; (case' refine_2 => (intro w hSw; go_simp; try with_reducible rfl)); (try simp only [Act.put, List.getElem_toArray, List.getElem_cons_zero, List.getElem_cons_succ, List.setIfInBounds_toArray, List.set_cons_zero, List.set_cons_succ]))
      refine wpAnyH_ready (rs := [17]) (by kernel_rfl) (by simp) (AllReadyH.cons rfl (fun K hK => ?_) AllReadyH.nil)
      have H12S := Aside0.mk (atC_lt H12.out HX.out.lenC)
      go_simp
      have HN := Aside0.mk (show (w7.alloc (.cells Z32 24)).heap[w7.heap.size]? = some (.cells Z32 24 (0, 0)) from blk_new w7 _)
      have hb := below_alloc (Below.refl w7.heap.size w7) (.cells Z32 24)
      have HQ := Aside0.mk (show w.heap.size + 1 < w7.heap.size from (Array.getElem?_eq_some_iff.1 HZ.out).1)
      have x_HZ := Aside0.mk (blk_below HZ.out hb)
      have x_HG := Aside0.mk (HG.out.below hb)
      have x_HB := Aside0.mk (below_step HB.out hb)
      have x_H12 := Aside0.mk (H12.out.below hb)
      have x_HOT := Aside0.mk (Kd.R_below HOT.out hb)
      clear HZ HG HB H12 HOT
      have HZ := x_HZ
      have HG := x_HG
      have HB := x_HB
      have H12 := x_H12
      have HOT := x_HOT
      clear x_HZ x_HG x_HB x_H12 x_HOT
      clear hb
      obtain ⟨w8, hw8⟩ : ∃ W', w7.alloc (.cells Z32 24) = W' := ⟨_, rfl⟩
      rw [hw8] at HN HZ HG HB H12 HOT
      rw [show w7.alloc (.cells #[.int .u8 0, .int .u8 0, .int .u8 0, .int .u8 0, .int .u8 0, .int .u8 0, .int .u8 0, .int .u8 0, .int .u8 0, .int .u8 0, .int .u8 0, .int .u8 0, .int .u8 0, .int .u8 0, .int .u8 0, .int .u8 0, .int .u8 0, .int .u8 0, .int .u8 0, .int .u8 0, .int .u8 0, .int .u8 0, .int .u8 0, .int .u8 0, .int .u8 0, .int .u8 0, .int .u8 0, .int .u8 0, .int .u8 0, .int .u8 0, .int .u8 0, .int .u8 0] 24) = w8 from hw8]
      clear hw8
      obtain ⟨g13, hg13⟩ : ∃ g, w7.heap.size = g := ⟨_, rfl⟩
      have H1213 := Aside0.mk (show g12 < w7.heap.size from H12S.out)
      rw [hg13] at HN HQ H1213 ⊢
      clear H12S hg13
      (refine Shut.out hK _ _ HG.out (fun hHeld => ?_); clear hK K; (try simp only [Act.put, List.getElem_toArray, List.getElem_cons_zero, List.getElem_cons_succ, List.setIfInBounds_toArray, List.set_cons_zero, List.set_cons_succ]))
      refine wpAnyH_ready (rs := [18]) (by kernel_rfl) (by simp) (AllReadyH.cons rfl (fun K hK => ?_) AllReadyH.nil)
      rw [if_pos (by rfl)]
      refine wp_store_row 24 (.tmp 17) (.tmp 84) rfl g13 Y.toArray rfl rfl 24 Z32 HN.out HYC.out.blkA HYC.out.zsA HYC.out.oneA ?_
      have H13 := Aside0.mk (atC_blk (setRow_heap w8 g13 Z32 Y.toArray _ _ HN.out))
      have hne1 : w.heap.size + 1 ≠ g13 := by have := HQ.out; omega
      have hne2 : w.heap.size ≠ g13 := by have := HQ.out; omega
      have hne3 : g12 ≠ g13 := by have := H1213.out; omega
      have x_HZ := Aside0.mk ((setRow_other w8 g13 (w.heap.size + 1) Y.toArray hne1).trans HZ.out)
      have x_HG := Aside0.mk (atC_setRow (D := Y.toArray) HG.out hne2)
      have x_HB := Aside0.mk (below_setRow HB.out (show w.heap.size ≤ g13 from by have := HQ.out; omega) Y.toArray)
      have x_H12 := Aside0.mk (atC_setRow (D := Y.toArray) H12.out hne3)
      have x_HOT := Aside0.mk (ot_setRow (D := Y.toArray) HOT.out HN.out)
      clear HZ HG HB H12 HOT
      have HZ := x_HZ
      have HG := x_HG
      have HB := x_HB
      have H12 := x_H12
      have HOT := x_HOT
      clear x_HZ x_HG x_HB x_H12 x_HOT
      clear HN HQ hne1 hne2 hne3
      obtain ⟨w9, hw9⟩ : ∃ W', w8.setRow g13 Y.toArray = W' := ⟨_, rfl⟩
      rw [hw9] at H12 H13 HZ HG HB HOT ⊢
      clear hw9
      (refine Shut.out hK _ _ HG.out (fun hHeld => ?_); clear hK K; (try simp only [Act.put, List.getElem_toArray, List.getElem_cons_zero, List.getElem_cons_succ, List.setIfInBounds_toArray, List.set_cons_zero, List.set_cons_succ]))
      (refine wpAnyH_take (i := 19) (v := ?_) rfl (by kernel_rfl) (by kernel_rfl) (by kernel_rfl) (fun _ _ _ h => h) (Or.inl ⟨by rfl, ?_⟩) (by assumption) ?_; (case' refine_2 => (intro w hSw; go_simp; try with_reducible rfl)); (try simp only [Act.put, List.getElem_toArray, List.getElem_cons_zero, List.getElem_cons_succ, List.setIfInBounds_toArray, List.set_cons_zero, List.set_cons_succ]))
      (refine wpAnyH_take (i := 20) (v := ?_) rfl (by kernel_rfl) (by kernel_rfl) (by kernel_rfl) (fun _ _ _ h => h) (Or.inl ⟨by rfl, ?_⟩) (by assumption) ?_; (case' refine_2 => (intro w hSw; go_simp; try with_reducible rfl)); (try simp only [Act.put, List.getElem_toArray, List.getElem_cons_zero, List.getElem_cons_succ, List.setIfInBounds_toArray, List.set_cons_zero, List.set_cons_succ]))
      refine wpAnyH_done (by kernel_rfl) ?_ _
      go_wp2_with (first
        | ((with_reducible refine gate_dst (N := 87) rfl ?_); refine wpList_load_at rfl 24 (.tmp 12) rfl ⟨g12, 0, none⟩ rfl X _ H12.out Try.underlying24 rfl HIX.out ?_)
        | ((with_reducible refine gate_dst (N := 88) rfl ?_); refine wpList_load_at rfl 24 (.tmp 17) rfl ⟨g13, 0, none⟩ rfl Y _ H13.out Try.underlying24 rfl HIY.out ?_))
      refine (HT.out _).mono ?_
      rintro e w10 ⟨vx, rfl, ho, hb⟩
      obtain ⟨Ax, cx, rfl⟩ := Kd.R_slice ho
      have HOX := Aside0.mk (show Ob w10 w.heap.size _ (nodeX x d) from Kd.R_lower ho HB.out.size)
      have HS10 := Aside0.mk (HS.out _ _ w10 ho)
      have HZ10 := Aside0.mk (blk_below HZ.out hb)
      have HB10 := Aside0.mk (below_step HB.out hb)
      have HOT10 := Aside0.mk (Kd.R_below HOT.out hb)
      clear ho hb
      go_wp2_with (fail)
      refine HS10.out.mono ?_
      rintro e w11 ⟨rfl, hb⟩
      have HOX11 := Aside0.mk (Kd.R_below HOX.out hb)
      have HZ11 := Aside0.mk (blk_below HZ10.out hb)
      have HB11 := Aside0.mk (below_step HB10.out hb)
      have HOT11 := Aside0.mk (Kd.R_below HOT10.out hb)
      clear hb
      go_wp2_with (first
        | ((with_reducible refine gate_builtin (b := .append) (xs := #[.tmp 92, .tmp 94]) rfl ?_); at_builtin; refine Kd.R_append DX (w0 := w) w.heap.size rfl (.tmp 92) (.tmp 94) 29 22 (.slice none 0 0) 24 rfl Try.underlying29 info_text rfl (by decide) (by decide) vt tx (nodeX x d) [.slice Ax (nodeX x d).length cx] (fun _ => True) (fun k => True ∧ some k ≠ vt.ownBlock) rfl rfl ⟨_, rfl, ob_apart HOX11.out HOT11.out⟩ (fun _ h => h) (fun _ _ => trivial) HOT11.out HB11.out HB11.out.size (by have := HTL.out; omega) ?_; intro v12 w12 ho hb hg hat; have HO12 := Aside0.mk ho; have HB12 := Aside0.mk hb; have HZ12 := Aside0.mk (blk_grown HZ11.out hg (Kd.R_ne HOT11.out HZ11.out (by decide))); clear ho hb hg hat)
        | ((with_reducible refine gate_store (t := 24) (p := 8) (v := .tmp 91) rfl ?_); refine wpList_store_row rfl 24 (.tmp 8) (.tmp 91) rfl (w.heap.size + 1) E.toArray rfl rfl 24 Z32 HZ12.out HE.out.blkA HE.out.zsA HE.out.oneA ?_))
      have HSR := Aside0.mk (setRow_heap w12 (w.heap.size + 1) Z32 E.toArray _ _ HZ12.out)
      refine bodyPost_ret (results_ctt rfl _ _ (w.heap.size + 1) 24 E.toArray (0, 0) _ rfl HSR.out Try.underlying24 rfl HE.out.blkA) rfl ?_
      exact ⟨_, rfl, ot_setRow (D := E.toArray) HO12.out HZ12.out, below_setRow HB12.out (Nat.le_succ _) E.toArray⟩
    · have H12S := Aside0.mk (atC_lt H12.out HX.out.lenC)
      go_simp
      have HN := Aside0.mk (show ((w5.alloc (.cells Z32 24)).drew).heap[w5.heap.size]? = some (.cells Z32 24 (0, 0)) from blk_new w5 _)
      have hb := below_drew (below_alloc (Below.refl w5.heap.size w5) (.cells Z32 24))
      have HQ := Aside0.mk (show w.heap.size + 1 < w5.heap.size from (Array.getElem?_eq_some_iff.1 HZ.out).1)
      have x_HZ := Aside0.mk (blk_below HZ.out hb)
      have x_HG := Aside0.mk (HG.out.below hb)
      have x_HB := Aside0.mk (below_step HB.out hb)
      have x_H12 := Aside0.mk (H12.out.below hb)
      clear HZ HG HB H12
      have HZ := x_HZ
      have HG := x_HG
      have HB := x_HB
      have H12 := x_H12
      clear x_HZ x_HG x_HB x_H12
      clear hb
      obtain ⟨w8, hw8⟩ : ∃ W', (w5.alloc (.cells Z32 24)).drew = W' := ⟨_, rfl⟩
      rw [hw8] at HN HZ HG HB H12
      rw [show (w5.alloc (.cells #[.int .u8 0, .int .u8 0, .int .u8 0, .int .u8 0, .int .u8 0, .int .u8 0, .int .u8 0, .int .u8 0, .int .u8 0, .int .u8 0, .int .u8 0, .int .u8 0, .int .u8 0, .int .u8 0, .int .u8 0, .int .u8 0, .int .u8 0, .int .u8 0, .int .u8 0, .int .u8 0, .int .u8 0, .int .u8 0, .int .u8 0, .int .u8 0, .int .u8 0, .int .u8 0, .int .u8 0, .int .u8 0, .int .u8 0, .int .u8 0, .int .u8 0, .int .u8 0] 24)).drew = w8 from hw8]
      clear hw8
      obtain ⟨g13, hg13⟩ : ∃ g, w5.heap.size = g := ⟨_, rfl⟩
      have H1213 := Aside0.mk (show g12 < w5.heap.size from H12S.out)
      rw [hg13] at HN HQ H1213 ⊢
      clear H12S hg13
      (refine Shut.out hK _ _ HG.out (fun hHeld => ?_); clear hK K; (try simp only [Act.put, List.getElem_toArray, List.getElem_cons_zero, List.getElem_cons_succ, List.setIfInBounds_toArray, List.set_cons_zero, List.set_cons_succ]))
      refine wpAnyH_ready (rs := [12]) (by kernel_rfl) (by simp) (AllReadyH.cons rfl (fun K hK => ?_) AllReadyH.nil)
      go_simp
      rw [HE1.out, HE2.out]
      refine (HU.out _ HB.out).mono ?_
      rintro e w7 ⟨vt, rfl, ho, hb0⟩
      have hb := hb0
      have HOT := Aside0.mk (show Ot w7 w.heap.size vt tx from Kd.R_lower ho HB.out.size)
      have x_HZ := Aside0.mk (blk_below HZ.out hb)
      have x_HG := Aside0.mk (HG.out.below hb)
      have x_HB := Aside0.mk (below_step HB.out hb)
      have x_H12 := Aside0.mk (H12.out.below hb)
      have x_HN := Aside0.mk (blk_below HN.out hb)
      clear HZ HG HB H12 HN
      have HZ := x_HZ
      have HG := x_HG
      have HB := x_HB
      have H12 := x_H12
      have HN := x_HN
      clear x_HZ x_HG x_HB x_H12 x_HN
      clear hb hb0 ho
      (refine Shut.out hK _ _ HG.out (fun hHeld => ?_); clear hK K; (try simp only [Act.put, List.getElem_toArray, List.getElem_cons_zero, List.getElem_cons_succ, List.setIfInBounds_toArray, List.set_cons_zero, List.set_cons_succ]))
      (refine wpAnyH_take (i := 13) (v := ?_) rfl (by kernel_rfl) (by kernel_rfl) (by kernel_rfl) (fun _ _ _ h => h) (Or.inl ⟨by rfl, ?_⟩) (by assumption) ?_; (case' refine_2 => (intro w hSw; go_simp; try with_reducible rfl)); (try simp only [Act.put, List.getElem_toArray, List.getElem_cons_zero, List.getElem_cons_succ, List.setIfInBounds_toArray, List.set_cons_zero, List.set_cons_succ]))
      (refine wpAnyH_take (i := 14) (v := ?_) rfl (by kernel_rfl) (by kernel_rfl) (by kernel_rfl) (fun _ _ _ h => h) (Or.inl ⟨by rfl, ?_⟩) (by assumption) ?_; (case' refine_2 => (intro w hSw; go_simp; try with_reducible rfl)); (try simp only [Act.put, List.getElem_toArray, List.getElem_cons_zero, List.getElem_cons_succ, List.setIfInBounds_toArray, List.set_cons_zero, List.set_cons_succ]))
      (refine wpAnyH_take (i := 15) (v := ?_) rfl (by kernel_rfl) (by kernel_rfl) (by kernel_rfl) (fun _ _ _ h => h) (Or.inl ⟨by rfl, ?_⟩) (by assumption) ?_; (case' refine_2 => (intro w hSw; go_simp; try with_reducible rfl)); (try simp only [Act.put, List.getElem_toArray, List.getElem_cons_zero, List.getElem_cons_succ, List.setIfInBounds_toArray, List.set_cons_zero, List.set_cons_succ]))
      (refine wpAnyH_take (i := 16) (v := ?_) rfl (by kernel_rfl) (by kernel_rfl) (by kernel_rfl) (fun _ _ _ h => h) (Or.inl ⟨by rfl, ?_⟩) (by assumption) ?_; (case' refine_2 => (intro w hSw; go_simp; try with_reducible rfl)); (try simp only [Act.put, List.getElem_toArray, List.getElem_cons_zero, List.getElem_cons_succ, List.setIfInBounds_toArray, List.set_cons_zero, List.set_cons_succ]))
      refine wpAnyH_ready (rs := [18]) (by kernel_rfl) (by simp) (AllReadyH.cons rfl (fun K hK => ?_) AllReadyH.nil)
      rw [if_pos (by rfl)]
      refine wp_store_row 24 (.tmp 17) (.tmp 84) rfl g13 Y.toArray rfl rfl 24 Z32 HN.out HYC.out.blkA HYC.out.zsA HYC.out.oneA ?_
      have H13 := Aside0.mk (atC_blk (setRow_heap w7 g13 Z32 Y.toArray _ _ HN.out))
      have hne1 : w.heap.size + 1 ≠ g13 := by have := HQ.out; omega
      have hne2 : w.heap.size ≠ g13 := by have := HQ.out; omega
      have hne3 : g12 ≠ g13 := by have := H1213.out; omega
      have x_HZ := Aside0.mk ((setRow_other w7 g13 (w.heap.size + 1) Y.toArray hne1).trans HZ.out)
      have x_HG := Aside0.mk (atC_setRow (D := Y.toArray) HG.out hne2)
      have x_HB := Aside0.mk (below_setRow HB.out (show w.heap.size ≤ g13 from by have := HQ.out; omega) Y.toArray)
      have x_H12 := Aside0.mk (atC_setRow (D := Y.toArray) H12.out hne3)
      have x_HOT := Aside0.mk (ot_setRow (D := Y.toArray) HOT.out HN.out)
      clear HZ HG HB H12 HOT
      have HZ := x_HZ
      have HG := x_HG
      have HB := x_HB
      have H12 := x_H12
      have HOT := x_HOT
      clear x_HZ x_HG x_HB x_H12 x_HOT
      clear HN HQ hne1 hne2 hne3
      obtain ⟨w9, hw9⟩ : ∃ W', w7.setRow g13 Y.toArray = W' := ⟨_, rfl⟩
      rw [hw9] at H12 H13 HZ HG HB HOT ⊢
      clear hw9
      (refine Shut.out hK _ _ HG.out (fun hHeld => ?_); clear hK K; (try simp only [Act.put, List.getElem_toArray, List.getElem_cons_zero, List.getElem_cons_succ, List.setIfInBounds_toArray, List.set_cons_zero, List.set_cons_succ]))
      (refine wpAnyH_take (i := 19) (v := ?_) rfl (by kernel_rfl) (by kernel_rfl) (by kernel_rfl) (fun _ _ _ h => h) (Or.inl ⟨by rfl, ?_⟩) (by assumption) ?_; (case' refine_2 => (intro w hSw; go_simp; try with_reducible rfl)); (try simp only [Act.put, List.getElem_toArray, List.getElem_cons_zero, List.getElem_cons_succ, List.setIfInBounds_toArray, List.set_cons_zero, List.set_cons_succ]))
      (refine wpAnyH_take (i := 20) (v := ?_) rfl (by kernel_rfl) (by kernel_rfl) (by kernel_rfl) (fun _ _ _ h => h) (Or.inl ⟨by rfl, ?_⟩) (by assumption) ?_; (case' refine_2 => (intro w hSw; go_simp; try with_reducible rfl)); (try simp only [Act.put, List.getElem_toArray, List.getElem_cons_zero, List.getElem_cons_succ, List.setIfInBounds_toArray, List.set_cons_zero, List.set_cons_succ]))
      refine wpAnyH_done (by kernel_rfl) ?_ _
      go_wp2_with (first
        | ((with_reducible refine gate_dst (N := 87) rfl ?_); refine wpList_load_at rfl 24 (.tmp 12) rfl ⟨g12, 0, none⟩ rfl X _ H12.out Try.underlying24 rfl HIX.out ?_)
        | ((with_reducible refine gate_dst (N := 88) rfl ?_); refine wpList_load_at rfl 24 (.tmp 17) rfl ⟨g13, 0, none⟩ rfl Y _ H13.out Try.underlying24 rfl HIY.out ?_))
      refine (HT.out _).mono ?_
      rintro e w10 ⟨vx, rfl, ho, hb⟩
      obtain ⟨Ax, cx, rfl⟩ := Kd.R_slice ho
      have HOX := Aside0.mk (show Ob w10 w.heap.size _ (nodeX x d) from Kd.R_lower ho HB.out.size)
      have HS10 := Aside0.mk (HS.out _ _ w10 ho)
      have HZ10 := Aside0.mk (blk_below HZ.out hb)
      have HB10 := Aside0.mk (below_step HB.out hb)
      have HOT10 := Aside0.mk (Kd.R_below HOT.out hb)
      clear ho hb
      go_wp2_with (fail)
      refine HS10.out.mono ?_
      rintro e w11 ⟨rfl, hb⟩
      have HOX11 := Aside0.mk (Kd.R_below HOX.out hb)
      have HZ11 := Aside0.mk (blk_below HZ10.out hb)
      have HB11 := Aside0.mk (below_step HB10.out hb)
      have HOT11 := Aside0.mk (Kd.R_below HOT10.out hb)
      clear hb
      go_wp2_with (first
        | ((with_reducible refine gate_builtin (b := .append) (xs := #[.tmp 92, .tmp 94]) rfl ?_); at_builtin; refine Kd.R_append DX (w0 := w) w.heap.size rfl (.tmp 92) (.tmp 94) 29 22 (.slice none 0 0) 24 rfl Try.underlying29 info_text rfl (by decide) (by decide) vt tx (nodeX x d) [.slice Ax (nodeX x d).length cx] (fun _ => True) (fun k => True ∧ some k ≠ vt.ownBlock) rfl rfl ⟨_, rfl, ob_apart HOX11.out HOT11.out⟩ (fun _ h => h) (fun _ _ => trivial) HOT11.out HB11.out HB11.out.size (by have := HTL.out; omega) ?_; intro v12 w12 ho hb hg hat; have HO12 := Aside0.mk ho; have HB12 := Aside0.mk hb; have HZ12 := Aside0.mk (blk_grown HZ11.out hg (Kd.R_ne HOT11.out HZ11.out (by decide))); clear ho hb hg hat)
        | ((with_reducible refine gate_store (t := 24) (p := 8) (v := .tmp 91) rfl ?_); refine wpList_store_row rfl 24 (.tmp 8) (.tmp 91) rfl (w.heap.size + 1) E.toArray rfl rfl 24 Z32 HZ12.out HE.out.blkA HE.out.zsA HE.out.oneA ?_))
      have HSR := Aside0.mk (setRow_heap w12 (w.heap.size + 1) Z32 E.toArray _ _ HZ12.out)
      refine bodyPost_ret (results_ctt rfl _ _ (w.heap.size + 1) 24 E.toArray (0, 0) _ rfl HSR.out Try.underlying24 rfl HE.out.blkA) rfl ?_
      exact ⟨_, rfl, ot_setRow (D := E.toArray) HO12.out HZ12.out, below_setRow HB12.out (Nat.le_succ _) E.toArray⟩
  · go_simp
    have HN := Aside0.mk (show ((W.alloc (.cells Z32 24)).drew).heap[W.heap.size]? = some (.cells Z32 24 (0, 0)) from blk_new W _)
    have hb := below_drew (below_alloc (Below.refl W.heap.size W) (.cells Z32 24))
    have HQ := Aside0.mk (show w.heap.size + 1 < W.heap.size from (Array.getElem?_eq_some_iff.1 HZ.out).1)
    have x_HZ := Aside0.mk (blk_below HZ.out hb)
    have x_HG := Aside0.mk (HG.out.below hb)
    have x_HB := Aside0.mk (below_step HB.out hb)
    have x_HAX := Aside0.mk (HAX.out.below hb)
    clear HZ HG HB HAX
    have HZ := x_HZ
    have HG := x_HG
    have HB := x_HB
    have HAX := x_HAX
    clear x_HZ x_HG x_HB x_HAX
    clear hb
    obtain ⟨w4, hw4⟩ : ∃ W', (W.alloc (.cells Z32 24)).drew = W' := ⟨_, rfl⟩
    rw [hw4] at HN HZ HG HB HAX
    rw [show (W.alloc (.cells #[.int .u8 0, .int .u8 0, .int .u8 0, .int .u8 0, .int .u8 0, .int .u8 0, .int .u8 0, .int .u8 0, .int .u8 0, .int .u8 0, .int .u8 0, .int .u8 0, .int .u8 0, .int .u8 0, .int .u8 0, .int .u8 0, .int .u8 0, .int .u8 0, .int .u8 0, .int .u8 0, .int .u8 0, .int .u8 0, .int .u8 0, .int .u8 0, .int .u8 0, .int .u8 0, .int .u8 0, .int .u8 0, .int .u8 0, .int .u8 0, .int .u8 0, .int .u8 0] 24)).drew = w4 from hw4]
    clear hw4
    obtain ⟨g12, hg12⟩ : ∃ g, W.heap.size = g := ⟨_, rfl⟩
    rw [hg12] at HN HQ ⊢
    clear hg12
    (refine Shut.out hK _ _ HAX.out (fun hHeld => ?_); clear hK K; (try simp only [Act.put, List.getElem_toArray, List.getElem_cons_zero, List.getElem_cons_succ, List.setIfInBounds_toArray, List.set_cons_zero, List.set_cons_succ]))
    refine wpAnyH_ready (rs := [1]) (by kernel_rfl) (by simp) (AllReadyH.cons rfl (fun K hK => ?_) AllReadyH.nil)
    go_simp
    refine (HKB.out _).mono ?_
    rintro e w6 ⟨rfl, hd_⟩
    have hb := Drawn0.below hd_
    have x_HZ := Aside0.mk (blk_below HZ.out hb)
    have x_HG := Aside0.mk (HG.out.below hb)
    have x_HB := Aside0.mk (below_step HB.out hb)
    have x_HAX := Aside0.mk (HAX.out.below hb)
    have x_HN := Aside0.mk (blk_below HN.out hb)
    clear HZ HG HB HAX HN
    have HZ := x_HZ
    have HG := x_HG
    have HB := x_HB
    have HAX := x_HAX
    have HN := x_HN
    clear x_HZ x_HG x_HB x_HAX x_HN
    clear hb hd_
    (refine Shut.out hK _ _ HAX.out (fun hHeld => ?_); clear hK K; (try simp only [Act.put, List.getElem_toArray, List.getElem_cons_zero, List.getElem_cons_succ, List.setIfInBounds_toArray, List.set_cons_zero, List.set_cons_succ]))
    (refine wpAnyH_take (i := 9) (v := ?_) rfl (by kernel_rfl) (by kernel_rfl) (by kernel_rfl) (fun _ _ _ h => h) (Or.inl ⟨by rfl, ?_⟩) (by assumption) ?_; (case' refine_2 => (intro w hSw; go_simp; try with_reducible rfl)); (try simp only [Act.put, List.getElem_toArray, List.getElem_cons_zero, List.getElem_cons_succ, List.setIfInBounds_toArray, List.set_cons_zero, List.set_cons_succ]))
    refine wpAnyH_ready (rs := [10]) (by kernel_rfl) (by simp) (AllReadyH.cons rfl (fun K hK => ?_) AllReadyH.nil)
    rw [if_pos (by rfl)]
    refine wp_store_row 24 (.tmp 12) (.tmp 43) rfl g12 X.toArray rfl rfl 24 Z32 HN.out HX.out.blkA HX.out.zsA HX.out.oneA ?_
    have H12 := Aside0.mk (atC_blk (setRow_heap w6 g12 Z32 X.toArray _ _ HN.out))
    have hne1 : w.heap.size + 1 ≠ g12 := by have := HQ.out; omega
    have hne2 : w.heap.size ≠ g12 := by have := HQ.out; omega
    have H12L := Aside0.mk (show w.heap.size + 1 < g12 from HQ.out)
    have x_HZ := Aside0.mk ((setRow_other w6 g12 (w.heap.size + 1) X.toArray hne1).trans HZ.out)
    have x_HG := Aside0.mk (atC_setRow (D := X.toArray) HG.out hne2)
    have x_HB := Aside0.mk (below_setRow HB.out (show w.heap.size ≤ g12 from by have := HQ.out; omega) X.toArray)
    clear HZ HG HB
    have HZ := x_HZ
    have HG := x_HG
    have HB := x_HB
    clear x_HZ x_HG x_HB
    have x_HAX := Aside0.mk (HAT.out.below HB.out)
    clear HAX HN HQ hne1 hne2
    have HAX := x_HAX
    clear x_HAX
    obtain ⟨w5, hw5⟩ : ∃ W', w6.setRow g12 X.toArray = W' := ⟨_, rfl⟩
    rw [hw5] at H12 HZ HG HB HAX ⊢
    clear hw5
    (refine Shut.out hK _ _ HAX.out (fun hHeld => ?_); clear hK K; (try simp only [Act.put, List.getElem_toArray, List.getElem_cons_zero, List.getElem_cons_succ, List.setIfInBounds_toArray, List.set_cons_zero, List.set_cons_succ]))
    refine wpAnyH_done (by kernel_rfl) ?_ _
    go_wp2_with (fail)
    have hq1 := HC1.out
    refine wp_region_held_drew (S := fun w' => AtC w' ⟨w.heap.size, 0, none⟩ L) (by kernel_rfl) HG.out (fun hHeld => ?_)
    (refine wpAnyH_take (i := 0) rfl (by kernel_rfl) (by kernel_rfl) (by kernel_rfl) (fun _ _ _ h => h) (yieldsIf_load_at (by rfl) _ _ rfl ⟨w.heap.size, 0, none⟩ rfl L _ (fun _ h => h) (by assumption) rfl HIL.out) (by assumption) ?_; (try simp only [Act.put, List.getElem_toArray, List.getElem_cons_zero, List.getElem_cons_succ, List.setIfInBounds_toArray, List.set_cons_zero, List.set_cons_succ]))
    (refine wpAnyH_take (i := 1) (v := ?_) rfl (by kernel_rfl) (by kernel_rfl) (by kernel_rfl) (fun _ _ _ h => h) (Or.inl ⟨by rfl, ?_⟩) (by assumption) ?_; (case' refine_2 => (intro w hSw; go_simp; try with_reducible rfl)); (try simp only [Act.put, List.getElem_toArray, List.getElem_cons_zero, List.getElem_cons_succ, List.setIfInBounds_toArray, List.set_cons_zero, List.set_cons_succ]))
    (refine wpAnyH_take (i := 2) (v := ?_) rfl (by kernel_rfl) (by kernel_rfl) (by kernel_rfl) (fun _ _ _ h => h) (Or.inl ⟨by rfl, ?_⟩) (by assumption) ?_; (case' refine_2 => (intro w hSw; go_simp; try with_reducible rfl)); (try simp only [Act.put, List.getElem_toArray, List.getElem_cons_zero, List.getElem_cons_succ, List.setIfInBounds_toArray, List.set_cons_zero, List.set_cons_succ]))
    (refine wpAnyH_take (i := 3) (v := ?_) rfl (by kernel_rfl) (by kernel_rfl) (by kernel_rfl) (fun _ _ _ h => h) (Or.inl ⟨by rfl, ?_⟩) (by assumption) ?_; (case' refine_2 => (intro w hSw; go_simp; try with_reducible rfl)); (try simp only [Act.put, List.getElem_toArray, List.getElem_cons_zero, List.getElem_cons_succ, List.setIfInBounds_toArray, List.set_cons_zero, List.set_cons_succ]))
    (refine wpAnyH_take (i := 4) (v := ?_) rfl (by kernel_rfl) (by kernel_rfl) (by kernel_rfl) (fun _ _ _ h => h) (Or.inl ⟨by rfl, ?_⟩) (by assumption) ?_; (case' refine_2 => (intro w hSw; go_simp; try with_reducible rfl)); (try simp only [Act.put, List.getElem_toArray, List.getElem_cons_zero, List.getElem_cons_succ, List.setIfInBounds_toArray, List.set_cons_zero, List.set_cons_succ]))
    (refine wpAnyH_take (i := 5) (v := ?_) rfl (by kernel_rfl) (by kernel_rfl) (by kernel_rfl) (fun _ _ _ h => h) (Or.inl ⟨by rfl, ?_⟩) (by assumption) ?_; (case' refine_2 => (intro w hSw; go_simp; try with_reducible rfl)); (try simp only [Act.put, List.getElem_toArray, List.getElem_cons_zero, List.getElem_cons_succ, List.setIfInBounds_toArray, List.set_cons_zero, List.set_cons_succ]))
    (refine wpAnyH_take (i := 6) (v := ?_) rfl (by kernel_rfl) (by kernel_rfl) (by kernel_rfl) (fun _ _ _ h => h) (Or.inl ⟨by rfl, ?_⟩) (by assumption) ?_; (case' refine_2 => (intro w hSw; go_simp; try with_reducible rfl)); (try simp only [Act.put, List.getElem_toArray, List.getElem_cons_zero, List.getElem_cons_succ, List.setIfInBounds_toArray, List.set_cons_zero, List.set_cons_succ]))
    (refine wpAnyH_take (i := 7) (v := ?_) rfl (by kernel_rfl) (by kernel_rfl) (by kernel_rfl) (fun _ _ _ h => h) (Or.inl ⟨by rfl, ?_⟩) (by assumption) ?_; (case' refine_2 => (intro w hSw; go_simp; try with_reducible rfl)); (try simp only [Act.put, List.getElem_toArray, List.getElem_cons_zero, List.getElem_cons_succ, List.setIfInBounds_toArray, List.set_cons_zero, List.set_cons_succ]))
    (refine wpAnyH_take (i := 8) (v := ?_) rfl (by kernel_rfl) (by kernel_rfl) (by kernel_rfl) (fun _ _ _ h => h) (Or.inl ⟨by rfl, ?_⟩) (by assumption) ?_; (case' refine_2 => (intro w hSw; go_simp; try with_reducible rfl)); (try simp only [Act.put, List.getElem_toArray, List.getElem_cons_zero, List.getElem_cons_succ, List.setIfInBounds_toArray, List.set_cons_zero, List.set_cons_succ]))
    (refine wpAnyH_take (i := 9) (v := ?_) rfl (by kernel_rfl) (by kernel_rfl) (by kernel_rfl) (fun _ _ _ h => h) (Or.inl ⟨by rfl, ?_⟩) (by assumption) ?_; (case' refine_2 => (intro w hSw; go_simp; try with_reducible rfl)); (try simp only [Act.put, List.getElem_toArray, List.getElem_cons_zero, List.getElem_cons_succ, List.setIfInBounds_toArray, List.set_cons_zero, List.set_cons_succ]))
    (refine wpAnyH_take (i := 10) (v := ?_) rfl (by kernel_rfl) (by kernel_rfl) (by kernel_rfl) (fun _ _ _ h => h) (Or.inl ⟨by rfl, ?_⟩) (by assumption) ?_; (case' refine_2 => (intro w hSw; go_simp; try with_reducible rfl)); (try simp only [Act.put, List.getElem_toArray, List.getElem_cons_zero, List.getElem_cons_succ, List.setIfInBounds_toArray, List.set_cons_zero, List.set_cons_succ]))
    (refine wpAnyH_take (i := 11) (v := ?_) rfl (by kernel_rfl) (by kernel_rfl) (by kernel_rfl) (fun _ _ _ h => h) (Or.inl ⟨by rfl, ?_⟩) (by assumption) ?_; (case' refine_2 => (intro w hSw; go_simp; try with_reducible rfl)); (try simp only [Act.put, List.getElem_toArray, List.getElem_cons_zero, List.getElem_cons_succ, List.setIfInBounds_toArray, List.set_cons_zero, List.set_cons_succ]))
    refine wpAnyH_ready (rs := [12, 17]) (by kernel_rfl) (by simp) (AllReadyH.cons rfl (fun K hK => ?_) (AllReadyH.cons rfl (fun K hK => ?_) AllReadyH.nil))
    · go_simp
      rw [HE1.out, HE2.out]
      refine (HU.out _ (below_drew1 HB.out)).mono ?_
      rintro e w7 ⟨vt, rfl, ho, hb0⟩
      have hb := below_drew_of hb0
      have HOT := Aside0.mk (show Ot w7 w.heap.size vt tx from Kd.R_lower ho (show w.heap.size ≤ w5.drew.heap.size from HB.out.size))
      have x_HZ := Aside0.mk (blk_below HZ.out hb)
      have x_HG := Aside0.mk (HG.out.below hb)
      have x_HB := Aside0.mk (below_step HB.out hb)
      have x_H12 := Aside0.mk (H12.out.below hb)
      clear HZ HG HB H12
      have HZ := x_HZ
      have HG := x_HG
      have HB := x_HB
      have H12 := x_H12
      clear x_HZ x_HG x_HB x_H12
      clear hb hb0 ho
      (refine Shut.out hK _ _ HG.out (fun hHeld => ?_); clear hK K; (try simp only [Act.put, List.getElem_toArray, List.getElem_cons_zero, List.getElem_cons_succ, List.setIfInBounds_toArray, List.set_cons_zero, List.set_cons_succ]))
      (refine wpAnyH_take (i := 13) (v := ?_) rfl (by kernel_rfl) (by kernel_rfl) (by kernel_rfl) (fun _ _ _ h => h) (Or.inl ⟨by rfl, ?_⟩) (by assumption) ?_; (case' refine_2 => (intro w hSw; go_simp; try with_reducible rfl)); (try simp only [Act.put, List.getElem_toArray, List.getElem_cons_zero, List.getElem_cons_succ, List.setIfInBounds_toArray, List.set_cons_zero, List.set_cons_succ]))
      (refine wpAnyH_take (i := 14) (v := ?_) rfl (by kernel_rfl) (by kernel_rfl) (by kernel_rfl) (fun _ _ _ h => h) (Or.inl ⟨by rfl, ?_⟩) (by assumption) ?_; (case' refine_2 => (intro w hSw; go_simp; try with_reducible rfl)); (try simp only [Act.put, List.getElem_toArray, List.getElem_cons_zero, List.getElem_cons_succ, List.setIfInBounds_toArray, List.set_cons_zero, List.set_cons_succ]))
      (refine wpAnyH_take (i := 15) (v := ?_) rfl (by kernel_rfl) (by kernel_rfl) (by kernel_rfl) (fun _ _ _ h => h) (Or.inl ⟨by rfl, ?_⟩) (by assumption) ?_; (case' refine_2 => (intro w hSw; go_simp; try with_reducible rfl)); (try simp only [Act.put, List.getElem_toArray, List.getElem_cons_zero, List.getElem_cons_succ, List.setIfInBounds_toArray, List.set_cons_zero, List.set_cons_succ]))
      (refine wpAnyH_take (i := 16) (v := ?_) rfl (by kernel_rfl) (by kernel_rfl) (by kernel_rfl) (fun _ _ _ h => h) (Or.inl ⟨by rfl, ?_⟩) (by assumption) ?_; (case' refine_2 => (intro w hSw; go_simp; try with_reducible rfl)); (try simp only [Act.put, List.getElem_toArray, List.getElem_cons_zero, List.getElem_cons_succ, List.setIfInBounds_toArray, List.set_cons_zero, List.set_cons_succ]))
      refine wpAnyH_ready (rs := [17]) (by kernel_rfl) (by simp) (AllReadyH.cons rfl (fun K hK => ?_) AllReadyH.nil)
      have H12S := Aside0.mk (atC_lt H12.out HX.out.lenC)
      go_simp
      have HN := Aside0.mk (show (w7.alloc (.cells Z32 24)).heap[w7.heap.size]? = some (.cells Z32 24 (0, 0)) from blk_new w7 _)
      have hb := below_alloc (Below.refl w7.heap.size w7) (.cells Z32 24)
      have HQ := Aside0.mk (show w.heap.size + 1 < w7.heap.size from (Array.getElem?_eq_some_iff.1 HZ.out).1)
      have x_HZ := Aside0.mk (blk_below HZ.out hb)
      have x_HG := Aside0.mk (HG.out.below hb)
      have x_HB := Aside0.mk (below_step HB.out hb)
      have x_H12 := Aside0.mk (H12.out.below hb)
      have x_HOT := Aside0.mk (Kd.R_below HOT.out hb)
      clear HZ HG HB H12 HOT
      have HZ := x_HZ
      have HG := x_HG
      have HB := x_HB
      have H12 := x_H12
      have HOT := x_HOT
      clear x_HZ x_HG x_HB x_H12 x_HOT
      clear hb
      obtain ⟨w8, hw8⟩ : ∃ W', w7.alloc (.cells Z32 24) = W' := ⟨_, rfl⟩
      rw [hw8] at HN HZ HG HB H12 HOT
      rw [show w7.alloc (.cells #[.int .u8 0, .int .u8 0, .int .u8 0, .int .u8 0, .int .u8 0, .int .u8 0, .int .u8 0, .int .u8 0, .int .u8 0, .int .u8 0, .int .u8 0, .int .u8 0, .int .u8 0, .int .u8 0, .int .u8 0, .int .u8 0, .int .u8 0, .int .u8 0, .int .u8 0, .int .u8 0, .int .u8 0, .int .u8 0, .int .u8 0, .int .u8 0, .int .u8 0, .int .u8 0, .int .u8 0, .int .u8 0, .int .u8 0, .int .u8 0, .int .u8 0, .int .u8 0] 24) = w8 from hw8]
      clear hw8
      obtain ⟨g13, hg13⟩ : ∃ g, w7.heap.size = g := ⟨_, rfl⟩
      have H1213 := Aside0.mk (show g12 < w7.heap.size from H12S.out)
      rw [hg13] at HN HQ H1213 ⊢
      clear H12S hg13
      (refine Shut.out hK _ _ HG.out (fun hHeld => ?_); clear hK K; (try simp only [Act.put, List.getElem_toArray, List.getElem_cons_zero, List.getElem_cons_succ, List.setIfInBounds_toArray, List.set_cons_zero, List.set_cons_succ]))
      refine wpAnyH_ready (rs := [18]) (by kernel_rfl) (by simp) (AllReadyH.cons rfl (fun K hK => ?_) AllReadyH.nil)
      rw [if_pos (by rfl)]
      refine wp_store_row 24 (.tmp 17) (.tmp 84) rfl g13 Y.toArray rfl rfl 24 Z32 HN.out HYC.out.blkA HYC.out.zsA HYC.out.oneA ?_
      have H13 := Aside0.mk (atC_blk (setRow_heap w8 g13 Z32 Y.toArray _ _ HN.out))
      have hne1 : w.heap.size + 1 ≠ g13 := by have := HQ.out; omega
      have hne2 : w.heap.size ≠ g13 := by have := HQ.out; omega
      have hne3 : g12 ≠ g13 := by have := H1213.out; omega
      have x_HZ := Aside0.mk ((setRow_other w8 g13 (w.heap.size + 1) Y.toArray hne1).trans HZ.out)
      have x_HG := Aside0.mk (atC_setRow (D := Y.toArray) HG.out hne2)
      have x_HB := Aside0.mk (below_setRow HB.out (show w.heap.size ≤ g13 from by have := HQ.out; omega) Y.toArray)
      have x_H12 := Aside0.mk (atC_setRow (D := Y.toArray) H12.out hne3)
      have x_HOT := Aside0.mk (ot_setRow (D := Y.toArray) HOT.out HN.out)
      clear HZ HG HB H12 HOT
      have HZ := x_HZ
      have HG := x_HG
      have HB := x_HB
      have H12 := x_H12
      have HOT := x_HOT
      clear x_HZ x_HG x_HB x_H12 x_HOT
      clear HN HQ hne1 hne2 hne3
      obtain ⟨w9, hw9⟩ : ∃ W', w8.setRow g13 Y.toArray = W' := ⟨_, rfl⟩
      rw [hw9] at H12 H13 HZ HG HB HOT ⊢
      clear hw9
      (refine Shut.out hK _ _ HG.out (fun hHeld => ?_); clear hK K; (try simp only [Act.put, List.getElem_toArray, List.getElem_cons_zero, List.getElem_cons_succ, List.setIfInBounds_toArray, List.set_cons_zero, List.set_cons_succ]))
      (refine wpAnyH_take (i := 19) (v := ?_) rfl (by kernel_rfl) (by kernel_rfl) (by kernel_rfl) (fun _ _ _ h => h) (Or.inl ⟨by rfl, ?_⟩) (by assumption) ?_; (case' refine_2 => (intro w hSw; go_simp; try with_reducible rfl)); (try simp only [Act.put, List.getElem_toArray, List.getElem_cons_zero, List.getElem_cons_succ, List.setIfInBounds_toArray, List.set_cons_zero, List.set_cons_succ]))
      (refine wpAnyH_take (i := 20) (v := ?_) rfl (by kernel_rfl) (by kernel_rfl) (by kernel_rfl) (fun _ _ _ h => h) (Or.inl ⟨by rfl, ?_⟩) (by assumption) ?_; (case' refine_2 => (intro w hSw; go_simp; try with_reducible rfl)); (try simp only [Act.put, List.getElem_toArray, List.getElem_cons_zero, List.getElem_cons_succ, List.setIfInBounds_toArray, List.set_cons_zero, List.set_cons_succ]))
      refine wpAnyH_done (by kernel_rfl) ?_ _
      go_wp2_with (first
        | ((with_reducible refine gate_dst (N := 87) rfl ?_); refine wpList_load_at rfl 24 (.tmp 12) rfl ⟨g12, 0, none⟩ rfl X _ H12.out Try.underlying24 rfl HIX.out ?_)
        | ((with_reducible refine gate_dst (N := 88) rfl ?_); refine wpList_load_at rfl 24 (.tmp 17) rfl ⟨g13, 0, none⟩ rfl Y _ H13.out Try.underlying24 rfl HIY.out ?_))
      refine (HT.out _).mono ?_
      rintro e w10 ⟨vx, rfl, ho, hb⟩
      obtain ⟨Ax, cx, rfl⟩ := Kd.R_slice ho
      have HOX := Aside0.mk (show Ob w10 w.heap.size _ (nodeX x d) from Kd.R_lower ho HB.out.size)
      have HS10 := Aside0.mk (HS.out _ _ w10 ho)
      have HZ10 := Aside0.mk (blk_below HZ.out hb)
      have HB10 := Aside0.mk (below_step HB.out hb)
      have HOT10 := Aside0.mk (Kd.R_below HOT.out hb)
      clear ho hb
      go_wp2_with (fail)
      refine HS10.out.mono ?_
      rintro e w11 ⟨rfl, hb⟩
      have HOX11 := Aside0.mk (Kd.R_below HOX.out hb)
      have HZ11 := Aside0.mk (blk_below HZ10.out hb)
      have HB11 := Aside0.mk (below_step HB10.out hb)
      have HOT11 := Aside0.mk (Kd.R_below HOT10.out hb)
      clear hb
      go_wp2_with (first
        | ((with_reducible refine gate_builtin (b := .append) (xs := #[.tmp 92, .tmp 94]) rfl ?_); at_builtin; refine Kd.R_append DX (w0 := w) w.heap.size rfl (.tmp 92) (.tmp 94) 29 22 (.slice none 0 0) 24 rfl Try.underlying29 info_text rfl (by decide) (by decide) vt tx (nodeX x d) [.slice Ax (nodeX x d).length cx] (fun _ => True) (fun k => True ∧ some k ≠ vt.ownBlock) rfl rfl ⟨_, rfl, ob_apart HOX11.out HOT11.out⟩ (fun _ h => h) (fun _ _ => trivial) HOT11.out HB11.out HB11.out.size (by have := HTL.out; omega) ?_; intro v12 w12 ho hb hg hat; have HO12 := Aside0.mk ho; have HB12 := Aside0.mk hb; have HZ12 := Aside0.mk (blk_grown HZ11.out hg (Kd.R_ne HOT11.out HZ11.out (by decide))); clear ho hb hg hat)
        | ((with_reducible refine gate_store (t := 24) (p := 8) (v := .tmp 91) rfl ?_); refine wpList_store_row rfl 24 (.tmp 8) (.tmp 91) rfl (w.heap.size + 1) E.toArray rfl rfl 24 Z32 HZ12.out HE.out.blkA HE.out.zsA HE.out.oneA ?_))
      have HSR := Aside0.mk (setRow_heap w12 (w.heap.size + 1) Z32 E.toArray _ _ HZ12.out)
      refine bodyPost_ret (results_ctt rfl _ _ (w.heap.size + 1) 24 E.toArray (0, 0) _ rfl HSR.out Try.underlying24 rfl HE.out.blkA) rfl ?_
      exact ⟨_, rfl, ot_setRow (D := E.toArray) HO12.out HZ12.out, below_setRow HB12.out (Nat.le_succ _) E.toArray⟩
    · have H12S := Aside0.mk (atC_lt H12.out HX.out.lenC)
      go_simp
      have HN := Aside0.mk (show ((w5.alloc (.cells Z32 24)).drew).heap[w5.heap.size]? = some (.cells Z32 24 (0, 0)) from blk_new w5 _)
      have hb := below_drew (below_alloc (Below.refl w5.heap.size w5) (.cells Z32 24))
      have HQ := Aside0.mk (show w.heap.size + 1 < w5.heap.size from (Array.getElem?_eq_some_iff.1 HZ.out).1)
      have x_HZ := Aside0.mk (blk_below HZ.out hb)
      have x_HG := Aside0.mk (HG.out.below hb)
      have x_HB := Aside0.mk (below_step HB.out hb)
      have x_H12 := Aside0.mk (H12.out.below hb)
      clear HZ HG HB H12
      have HZ := x_HZ
      have HG := x_HG
      have HB := x_HB
      have H12 := x_H12
      clear x_HZ x_HG x_HB x_H12
      clear hb
      obtain ⟨w8, hw8⟩ : ∃ W', (w5.alloc (.cells Z32 24)).drew = W' := ⟨_, rfl⟩
      rw [hw8] at HN HZ HG HB H12
      rw [show (w5.alloc (.cells #[.int .u8 0, .int .u8 0, .int .u8 0, .int .u8 0, .int .u8 0, .int .u8 0, .int .u8 0, .int .u8 0, .int .u8 0, .int .u8 0, .int .u8 0, .int .u8 0, .int .u8 0, .int .u8 0, .int .u8 0, .int .u8 0, .int .u8 0, .int .u8 0, .int .u8 0, .int .u8 0, .int .u8 0, .int .u8 0, .int .u8 0, .int .u8 0, .int .u8 0, .int .u8 0, .int .u8 0, .int .u8 0, .int .u8 0, .int .u8 0, .int .u8 0, .int .u8 0] 24)).drew = w8 from hw8]
      clear hw8
      obtain ⟨g13, hg13⟩ : ∃ g, w5.heap.size = g := ⟨_, rfl⟩
      have H1213 := Aside0.mk (show g12 < w5.heap.size from H12S.out)
      rw [hg13] at HN HQ H1213 ⊢
      clear H12S hg13
      (refine Shut.out hK _ _ HG.out (fun hHeld => ?_); clear hK K; (try simp only [Act.put, List.getElem_toArray, List.getElem_cons_zero, List.getElem_cons_succ, List.setIfInBounds_toArray, List.set_cons_zero, List.set_cons_succ]))
      refine wpAnyH_ready (rs := [12]) (by kernel_rfl) (by simp) (AllReadyH.cons rfl (fun K hK => ?_) AllReadyH.nil)
      go_simp
      rw [HE1.out, HE2.out]
      refine (HU.out _ HB.out).mono ?_
      rintro e w7 ⟨vt, rfl, ho, hb0⟩
      have hb := hb0
      have HOT := Aside0.mk (show Ot w7 w.heap.size vt tx from Kd.R_lower ho HB.out.size)
      have x_HZ := Aside0.mk (blk_below HZ.out hb)
      have x_HG := Aside0.mk (HG.out.below hb)
      have x_HB := Aside0.mk (below_step HB.out hb)
      have x_H12 := Aside0.mk (H12.out.below hb)
      have x_HN := Aside0.mk (blk_below HN.out hb)
      clear HZ HG HB H12 HN
      have HZ := x_HZ
      have HG := x_HG
      have HB := x_HB
      have H12 := x_H12
      have HN := x_HN
      clear x_HZ x_HG x_HB x_H12 x_HN
      clear hb hb0 ho
      (refine Shut.out hK _ _ HG.out (fun hHeld => ?_); clear hK K; (try simp only [Act.put, List.getElem_toArray, List.getElem_cons_zero, List.getElem_cons_succ, List.setIfInBounds_toArray, List.set_cons_zero, List.set_cons_succ]))
      (refine wpAnyH_take (i := 13) (v := ?_) rfl (by kernel_rfl) (by kernel_rfl) (by kernel_rfl) (fun _ _ _ h => h) (Or.inl ⟨by rfl, ?_⟩) (by assumption) ?_; (case' refine_2 => (intro w hSw; go_simp; try with_reducible rfl)); (try simp only [Act.put, List.getElem_toArray, List.getElem_cons_zero, List.getElem_cons_succ, List.setIfInBounds_toArray, List.set_cons_zero, List.set_cons_succ]))
      (refine wpAnyH_take (i := 14) (v := ?_) rfl (by kernel_rfl) (by kernel_rfl) (by kernel_rfl) (fun _ _ _ h => h) (Or.inl ⟨by rfl, ?_⟩) (by assumption) ?_; (case' refine_2 => (intro w hSw; go_simp; try with_reducible rfl)); (try simp only [Act.put, List.getElem_toArray, List.getElem_cons_zero, List.getElem_cons_succ, List.setIfInBounds_toArray, List.set_cons_zero, List.set_cons_succ]))
      (refine wpAnyH_take (i := 15) (v := ?_) rfl (by kernel_rfl) (by kernel_rfl) (by kernel_rfl) (fun _ _ _ h => h) (Or.inl ⟨by rfl, ?_⟩) (by assumption) ?_; (case' refine_2 => (intro w hSw; go_simp; try with_reducible rfl)); (try simp only [Act.put, List.getElem_toArray, List.getElem_cons_zero, List.getElem_cons_succ, List.setIfInBounds_toArray, List.set_cons_zero, List.set_cons_succ]))
      (refine wpAnyH_take (i := 16) (v := ?_) rfl (by kernel_rfl) (by kernel_rfl) (by kernel_rfl) (fun _ _ _ h => h) (Or.inl ⟨by rfl, ?_⟩) (by assumption) ?_; (case' refine_2 => (intro w hSw; go_simp; try with_reducible rfl)); (try simp only [Act.put, List.getElem_toArray, List.getElem_cons_zero, List.getElem_cons_succ, List.setIfInBounds_toArray, List.set_cons_zero, List.set_cons_succ]))
      refine wpAnyH_ready (rs := [18]) (by kernel_rfl) (by simp) (AllReadyH.cons rfl (fun K hK => ?_) AllReadyH.nil)
      rw [if_pos (by rfl)]
      refine wp_store_row 24 (.tmp 17) (.tmp 84) rfl g13 Y.toArray rfl rfl 24 Z32 HN.out HYC.out.blkA HYC.out.zsA HYC.out.oneA ?_
      have H13 := Aside0.mk (atC_blk (setRow_heap w7 g13 Z32 Y.toArray _ _ HN.out))
      have hne1 : w.heap.size + 1 ≠ g13 := by have := HQ.out; omega
      have hne2 : w.heap.size ≠ g13 := by have := HQ.out; omega
      have hne3 : g12 ≠ g13 := by have := H1213.out; omega
      have x_HZ := Aside0.mk ((setRow_other w7 g13 (w.heap.size + 1) Y.toArray hne1).trans HZ.out)
      have x_HG := Aside0.mk (atC_setRow (D := Y.toArray) HG.out hne2)
      have x_HB := Aside0.mk (below_setRow HB.out (show w.heap.size ≤ g13 from by have := HQ.out; omega) Y.toArray)
      have x_H12 := Aside0.mk (atC_setRow (D := Y.toArray) H12.out hne3)
      have x_HOT := Aside0.mk (ot_setRow (D := Y.toArray) HOT.out HN.out)
      clear HZ HG HB H12 HOT
      have HZ := x_HZ
      have HG := x_HG
      have HB := x_HB
      have H12 := x_H12
      have HOT := x_HOT
      clear x_HZ x_HG x_HB x_H12 x_HOT
      clear HN HQ hne1 hne2 hne3
      obtain ⟨w9, hw9⟩ : ∃ W', w7.setRow g13 Y.toArray = W' := ⟨_, rfl⟩
      rw [hw9] at H12 H13 HZ HG HB HOT ⊢
      clear hw9
      (refine Shut.out hK _ _ HG.out (fun hHeld => ?_); clear hK K; (try simp only [Act.put, List.getElem_toArray, List.getElem_cons_zero, List.getElem_cons_succ, List.setIfInBounds_toArray, List.set_cons_zero, List.set_cons_succ]))
      (refine wpAnyH_take (i := 19) (v := ?_) rfl (by kernel_rfl) (by kernel_rfl) (by kernel_rfl) (fun _ _ _ h => h) (Or.inl ⟨by rfl, ?_⟩) (by assumption) ?_; (case' refine_2 => (intro w hSw; go_simp; try with_reducible rfl)); (try simp only [Act.put, List.getElem_toArray, List.getElem_cons_zero, List.getElem_cons_succ, List.setIfInBounds_toArray, List.set_cons_zero, List.set_cons_succ]))
      (refine wpAnyH_take (i := 20) (v := ?_) rfl (by kernel_rfl) (by kernel_rfl) (by kernel_rfl) (fun _ _ _ h => h) (Or.inl ⟨by rfl, ?_⟩) (by assumption) ?_; (case' refine_2 => (intro w hSw; go_simp; try with_reducible rfl)); (try simp only [Act.put, List.getElem_toArray, List.getElem_cons_zero, List.getElem_cons_succ, List.setIfInBounds_toArray, List.set_cons_zero, List.set_cons_succ]))
      refine wpAnyH_done (by kernel_rfl) ?_ _
      go_wp2_with (first
        | ((with_reducible refine gate_dst (N := 87) rfl ?_); refine wpList_load_at rfl 24 (.tmp 12) rfl ⟨g12, 0, none⟩ rfl X _ H12.out Try.underlying24 rfl HIX.out ?_)
        | ((with_reducible refine gate_dst (N := 88) rfl ?_); refine wpList_load_at rfl 24 (.tmp 17) rfl ⟨g13, 0, none⟩ rfl Y _ H13.out Try.underlying24 rfl HIY.out ?_))
      refine (HT.out _).mono ?_
      rintro e w10 ⟨vx, rfl, ho, hb⟩
      obtain ⟨Ax, cx, rfl⟩ := Kd.R_slice ho
      have HOX := Aside0.mk (show Ob w10 w.heap.size _ (nodeX x d) from Kd.R_lower ho HB.out.size)
      have HS10 := Aside0.mk (HS.out _ _ w10 ho)
      have HZ10 := Aside0.mk (blk_below HZ.out hb)
      have HB10 := Aside0.mk (below_step HB.out hb)
      have HOT10 := Aside0.mk (Kd.R_below HOT.out hb)
      clear ho hb
      go_wp2_with (fail)
      refine HS10.out.mono ?_
      rintro e w11 ⟨rfl, hb⟩
      have HOX11 := Aside0.mk (Kd.R_below HOX.out hb)
      have HZ11 := Aside0.mk (blk_below HZ10.out hb)
      have HB11 := Aside0.mk (below_step HB10.out hb)
      have HOT11 := Aside0.mk (Kd.R_below HOT10.out hb)
      clear hb
      go_wp2_with (first
        | ((with_reducible refine gate_builtin (b := .append) (xs := #[.tmp 92, .tmp 94]) rfl ?_); at_builtin; refine Kd.R_append DX (w0 := w) w.heap.size rfl (.tmp 92) (.tmp 94) 29 22 (.slice none 0 0) 24 rfl Try.underlying29 info_text rfl (by decide) (by decide) vt tx (nodeX x d) [.slice Ax (nodeX x d).length cx] (fun _ => True) (fun k => True ∧ some k ≠ vt.ownBlock) rfl rfl ⟨_, rfl, ob_apart HOX11.out HOT11.out⟩ (fun _ h => h) (fun _ _ => trivial) HOT11.out HB11.out HB11.out.size (by have := HTL.out; omega) ?_; intro v12 w12 ho hb hg hat; have HO12 := Aside0.mk ho; have HB12 := Aside0.mk hb; have HZ12 := Aside0.mk (blk_grown HZ11.out hg (Kd.R_ne HOT11.out HZ11.out (by decide))); clear ho hb hg hat)
        | ((with_reducible refine gate_store (t := 24) (p := 8) (v := .tmp 91) rfl ?_); refine wpList_store_row rfl 24 (.tmp 8) (.tmp 91) rfl (w.heap.size + 1) E.toArray rfl rfl 24 Z32 HZ12.out HE.out.blkA HE.out.zsA HE.out.oneA ?_))
      have HSR := Aside0.mk (setRow_heap w12 (w.heap.size + 1) Z32 E.toArray _ _ HZ12.out)
      refine bodyPost_ret (results_ctt rfl _ _ (w.heap.size + 1) 24 E.toArray (0, 0) _ rfl HSR.out Try.underlying24 rfl HE.out.blkA) rfl ?_
      exact ⟨_, rfl, ot_setRow (D := E.toArray) HO12.out HZ12.out, below_setRow HB12.out (Nat.le_succ _) E.toArray⟩
end Go.Proofs.Ytbebkogkeepfoaa.Tree
/- The document's Up and Check. -/
namespace Go.Proofs.Ytbebkogkeepfoaa.Tree
set_option linter.unusedVariables false
set_option linter.unusedSimpArgs false
open Go.RowKit Go.Proofs.Ytbebkogkeepfoaa.Base Go.Proofs.Ytbebkogkeepfoaa.TlvPlain Go.Proofs.Ytbebkogkeepfoaa.ShaPlain Go.Proofs.Ytbebkogkeepfoaa.Sha Go.Proofs.Ytbebkogkeepfoaa.Com Go.Proofs.Ytbebkogkeepfoaa.Aid Go.Proofs.YtbebkogkeepfoaaW.PrintWords Go.Proofs.YtbebkogkeepfoaaW.PrintLast Go.Proofs.YtbebkogkeepfoaaW.PrintMore
theorem upN_texts (leaf : Sm) : ∀ (r : List Sm) (i n : Nat), (upN leaf i n r).2.2.length ≤ r.length + 1
  | [], i, n => by
    unfold upN
    split <;> simp
  | x :: r, i, n => by
    unfold upN
    split
    · simp
    · split
      · have := upN_texts leaf r i (hlf n)
        simp only [List.length_append, List.length_singleton, List.length_cons, List.length_nil]
        omega
      · have := upN_texts leaf r (i - hlf n) (n - hlf n)
        simp only [List.length_append, List.length_singleton, List.length_cons, List.length_nil]
        omega
theorem rup_c (leaf : Sm) (hl : leaf.length = 32) (hu : U8' leaf) : ∀ (r : List Sm) (i n : Nat), i < n → n ≤ 1048576 → r.length ≤ 900 → ∀ (A : Option Addr) (c : Nat) (w : World), Rs w A r.reverse → r.length ≤ c → Lu r →
    Calls Try.prog 33 #[sumV leaf, .int .i64 (i : Int), .int .i64 (n : Int), .slice A r.length c] w (RetU w (upN leaf i n r).1 (upN leaf i n r).2.1 (upN leaf i n r).2.2) := by
  intro r
  induction r with
  | nil =>
    intro i n hi hn hlr A c w hr hc hr'
    by_cases h1 : n = 1
    · subst h1
      exact rup_one_c leaf hl hu i A 0 c w
    · rw [show upN leaf i n [] = (Z, false, []) by unfold upN; rw [if_neg h1]]
      exact rup_nil_c leaf hl i n (by omega) A c w
  | cons x r ih =>
    intro i n hi hn hlr A c w hr hc hr'
    by_cases h1 : n = 1
    · subst h1
      exact rup_one_c leaf hl hu i A (r.length + 1) c w
    · have hk := hlf_lt (n := n) (by omega)
      have hp := hlf_pos n
      have hx := hr' x (by simp)
      rw [List.reverse_cons] at hr
      obtain ⟨ad, rfl, hat, _⟩ := rs_at hr r.length (by simp)
      have hg : (r.reverse ++ [x])[r.length]'(by simp) = x := by
        rw [List.getElem_append_right (by simp)]
        simp
      rw [hg] at hat
      have hr2 : ∀ W, Below w.heap.size w W → Rs W (some ad) r.reverse := fun W hW => by
        have h2 := Rs.take (Kd.C_below hr hW) (k := r.length) (by simp)
        rwa [show (r.reverse ++ [x]).take r.length = r.reverse by rw [← List.length_reverse, List.take_left]] at h2
      have hru : Lu r := fun y hy => hr' y (by simp [hy])
      rw [List.length_cons] at hlr hc
      by_cases hik : i < hlf n
      · rw [show upN leaf i n (x :: r) = (nodeH (upN leaf i (hlf n) r).1 x, (upN leaf i (hlf n) r).2.1, (upN leaf i (hlf n) r).2.2 ++ [nodeX (upN leaf i (hlf n) r).1 x]) by rw [upN, if_neg h1, if_pos hik]]
        exact rup_left_c leaf hl _ x (upN_len _ _ _ _) hx.1 (upN_u8 _ _ _ _) hx.2 _ _ (Nat.le_trans (upN_texts _ _ _ _) (by omega)) i n _ rfl (by omega) hn hik hi ad r.length c hc (by omega) w hat (fun W hW => ih i (hlf n) hik (by omega) (by omega) (some ad) c W (hr2 W hW) (by omega) hru)
      · rw [show upN leaf i n (x :: r) = (nodeH x (upN leaf (i - hlf n) (n - hlf n) r).1, (upN leaf (i - hlf n) (n - hlf n) r).2.1, (upN leaf (i - hlf n) (n - hlf n) r).2.2 ++ [nodeX x (upN leaf (i - hlf n) (n - hlf n) r).1]) by rw [upN, if_neg h1, if_neg hik]]
        refine rup_right_c leaf hl _ x (upN_len _ _ _ _) hx.1 (upN_u8 _ _ _ _) hx.2 _ _ (Nat.le_trans (upN_texts leaf r (i - hlf n) (n - hlf n)) (by omega)) i n _ rfl (by omega) hn (by omega) hi ad r.length c hc (by omega) w hat (fun W hW => ?_)
        have h2 := ih (i - hlf n) (n - hlf n) (by omega) (by omega) (by omega) (some ad) c W (hr2 W hW) (by omega) hru
        rwa [show ((i - hlf n : Nat) : Int) = (i : Int) - (hlf n : Int) by omega, show ((n - hlf n : Nat) : Int) = (n : Int) - (hlf n : Int) by omega] at h2
set_option maxHeartbeats 4000000 in
set_option maxRecDepth 100000 in
theorem rchk_bad (root leaf : Sm) (hr : root.length = 32) (hl : leaf.length = 32) (i n : Int) (A : Option Addr) (m c : Nat) (h : i < 0 ∨ n ≤ i ∨ 1048576 < n ∨ 30 < m) (w : World) :
    Calls Try.prog 38 #[sumV root, sumV leaf, .int .i64 i, .int .i64 n, .slice A m c] w (RetB w false) := by
  obtain ⟨R, hR⟩ := sumF root hr
  obtain ⟨L, hL⟩ := sumF leaf hl
  have HB := Aside0.mk (show Below w.heap.size w ((w.alloc (.cells R 24)).alloc (.cells L 24)) from below_alloc (below_alloc (Below.refl _ _) _) _)
  unfold RetB
  rw [hR.v, hL.v]
  clear hR hL hr hl
  by_cases h1 : i < 0
  · have d1 : decide (i < 0) = true := decide_eq_true h1
    clear h h1
    go_enter Try.func38, Try.ntmps38
    go_wp2_with (fail)
    go_ret
    exact ⟨rfl, HB.out⟩
  · have d1 : decide (i < 0) = false := decide_eq_false h1
    by_cases h2 : n ≤ i
    · have d2 : decide (n ≤ i) = true := decide_eq_true h2
      clear h h1 h2
      go_enter Try.func38, Try.ntmps38
      go_wp2_with (fail)
      go_ret
      exact ⟨rfl, HB.out⟩
    · have d2 : decide (n ≤ i) = false := decide_eq_false h2
      by_cases h3 : 1048576 < n
      · have d3 : decide (1048576 < n) = true := decide_eq_true h3
        clear h h1 h2 h3
        go_enter Try.func38, Try.ntmps38
        go_wp2_with (fail)
        go_ret
        exact ⟨rfl, HB.out⟩
      · have d3 : decide (1048576 < n) = false := decide_eq_false h3
        have d4 : decide ((30 : Int) < (m : Int)) = true := decide_eq_true (by omega)
        have d5 : decide (30 < m) = true := decide_eq_true (by omega)
        clear h h1 h2 h3
        go_enter Try.func38, Try.ntmps38
        go_wp2_with (fail)
        go_ret
        exact ⟨rfl, HB.out⟩
set_option maxHeartbeats 4000000 in
set_option maxRecDepth 100000 in
theorem rchk_good (root leaf : Sm) (hr : root.length = 32) (hl : leaf.length = 32) (i n : Int) (h0 : 0 ≤ i) (h : i < n) (hn : n ≤ 1048576) (A : Option Addr) (m c : Nat) (hm : m ≤ 30) (w : World) (d : Sm) (hd : d.length = 32) (b : Bool) (t : List (List Int))
    (hU : ∀ W, Below w.heap.size w W → Calls Try.prog 33 #[sumV leaf, .int .i64 i, .int .i64 n, .slice A m c] W (RetU W d b t)) :
    Calls Try.prog 38 #[sumV root, sumV leaf, .int .i64 i, .int .i64 n, .slice A m c] w (RetB w (b && decide (d = root))) := by
  obtain ⟨R, hR⟩ := sumC root hr
  obtain ⟨L, hL⟩ := sumC leaf hl
  obtain ⟨D, hD⟩ := sumC d hd
  have HD := Aside0.mk hD
  have HRI := Aside0.mk hR.blk
  have HLI := Aside0.mk hL.blk
  have HDI := Aside0.mk hD.blk
  have HG := Aside0.mk (show AtC ((w.alloc (.cells R.toArray 24)).alloc (.cells L.toArray 24)) ⟨w.heap.size, 0, none⟩ R from atC_blk (fr := (0, 0)) (T := 24) (blk_alloc (blk_new w (.cells R.toArray 24)) _))
  have HH := Aside0.mk (show AtC ((w.alloc (.cells R.toArray 24)).alloc (.cells L.toArray 24)) ⟨w.heap.size + 1, 0, none⟩ L from atC_blk (fr := (0, 0)) (T := 24) (second_new' _ _ _))
  have HB := Aside0.mk (show Below w.heap.size w ((w.alloc (.cells R.toArray 24)).alloc (.cells L.toArray 24)) from below_alloc (below_alloc (Below.refl _ _) _) _)
  have HEQ := Aside0.mk (run_eq_sum d root hd hr)
  obtain ⟨bb, hbb⟩ : ∃ bb, decide (d = root) = bb := ⟨_, rfl⟩
  unfold RetB
  unfold RetU at hU
  rw [hbb] at HEQ ⊢
  rw [hR.v, hD.v] at HEQ
  rw [hL.v, hD.v] at hU
  rw [hR.v, hL.v]
  have HU := Aside0.mk hU
  have d1 : decide (i < 0) = false := decide_eq_false (by omega)
  have d2 : decide (n ≤ i) = false := decide_eq_false (by omega)
  have d3 : decide ((1048576 : Int) < n) = false := decide_eq_false (by omega)
  have d4 : decide ((30 : Int) < (m : Int)) = false := decide_eq_false (by omega)
  have d5 : decide (30 < m) = false := decide_eq_false (by omega)
  clear hR hL hD hr hl hd hU hbb h hn h0 hm
  go_enter Try.func38, Try.ntmps38
  go_wp2_with ((with_reducible refine gate_dst (N := 31) rfl ?_); refine wpList_load_at rfl 24 (.tmp 6) rfl _ rfl L _ HH.out Try.underlying24 rfl HLI.out ?_)
  refine (HU.out _ HB.out).mono ?_
  rintro e w3 ⟨vt, rfl, _, hb⟩
  have HG3 := Aside0.mk (HG.out.below hb)
  have HB3 := Aside0.mk (below_step HB.out hb)
  have HGL := Aside0.mk (show w.heap.size < w3.heap.size from World.block_lt_of_cell? _ _ (HG3.out 0 (R[0]'(by have := HRI.out; rw [info_32] at this; injection this with this; omega)) (List.getElem?_eq_getElem _)))
  clear hb
  have HY := Aside0.mk (show (w3.alloc (.cells Z32 24)).heap[w3.heap.size]? = some (.cells Z32 24 (0, 0)) from blk_new _ _)
  have HG4 := Aside0.mk (HG3.out.below (below_alloc (Below.refl _ _) (.cells Z32 24)))
  have HB4 := Aside0.mk (below_alloc HB3.out (.cells Z32 24))
  have HG5 := Aside0.mk (atC_setRow (D := D.toArray) HG4.out (show w.heap.size ≠ w3.heap.size by have := HGL.out; omega))
  have HY5 := Aside0.mk (atC_blk (setRow_heap (w3.alloc (.cells Z32 24)) w3.heap.size Z32 D.toArray _ _ HY.out))
  have HB5 := Aside0.mk (show Below w.heap.size w ((w3.alloc (.cells Z32 24)).setRow w3.heap.size D.toArray) from below_setRow HB4.out (by have := HGL.out; omega) D.toArray)
  have hguard := guard_32
  go_upto_region 4 with ((with_reducible refine gate_store (t := 24) (p := 11) (v := .tmp 36) rfl ?_); refine wpList_store_row rfl 24 (.tmp 11) (.tmp 36) rfl w3.heap.size D.toArray rfl rfl 24 Z32 HY.out HD.out.blkA HD.out.zsA HD.out.oneA ?_)
  obtain ⟨w4, hw4⟩ : ∃ W, (w3.alloc (.cells Z32 24)).setRow w3.heap.size D.toArray = W := ⟨_, rfl⟩
  rw [hw4] at HG5 HY5 HB5
  rw [show (w3.alloc (.cells #[.int .u8 0, .int .u8 0, .int .u8 0, .int .u8 0, .int .u8 0, .int .u8 0, .int .u8 0, .int .u8 0, .int .u8 0, .int .u8 0, .int .u8 0, .int .u8 0, .int .u8 0, .int .u8 0, .int .u8 0, .int .u8 0, .int .u8 0, .int .u8 0, .int .u8 0, .int .u8 0, .int .u8 0, .int .u8 0, .int .u8 0, .int .u8 0, .int .u8 0, .int .u8 0, .int .u8 0, .int .u8 0, .int .u8 0, .int .u8 0, .int .u8 0, .int .u8 0] 24)).setRow w3.heap.size D.toArray = w4 from hw4]
  clear hw4 HY HG4 HB4
  cases b with
  | false =>
    go_wp2_with (fail)
    go_ret
    exact ⟨rfl, HB5.out⟩
  | true =>
    have heq := HEQ.out
    go_wp2_with (first
      | ((with_reducible refine gate_dst (N := 41) rfl ?_); (try (refine gate_guard (by rfl) ?_; dsimp only)); refine wpList_load_at rfl 24 (.tmp 11) rfl _ rfl D _ HY5.out Try.underlying24 rfl HDI.out ?_)
      | ((with_reducible refine gate_dst (N := 42) rfl ?_); (try (refine gate_guard (by rfl) ?_; dsimp only)); refine wpList_load_at rfl 24 (.tmp 5) rfl _ rfl R _ HG5.out Try.underlying24 rfl HRI.out ?_))
    go_ret
    exact ⟨rfl, HB5.out⟩
theorem rcheck_c (root leaf : Sm) (hr : root.length = 32) (hl : leaf.length = 32) (hu : U8' leaf) (i n : Int) (p : List Sm) (hpu : Lu p) (A : Option Addr) (c : Nat) (hc : p.length ≤ c) (w : World) (hrs : Rs w A p) :
    Calls Try.prog 38 #[sumV root, sumV leaf, .int .i64 i, .int .i64 n, .slice A p.length c] w (RetB w (checkT root leaf i n p)) := by
  unfold checkT
  by_cases h : 0 ≤ i ∧ i < n ∧ n ≤ 1048576
  · obtain ⟨k, rfl⟩ : ∃ k : Nat, (k : Int) = i := ⟨i.toNat, by omega⟩
    obtain ⟨m, rfl⟩ : ∃ m : Nat, (m : Int) = n := ⟨n.toNat, by omega⟩
    rw [decide_eq_true h, Bool.true_and, Int.toNat_natCast, Int.toNat_natCast]
    by_cases hp : p.length ≤ 30
    · refine rchk_good root leaf hr hl (k : Int) (m : Int) h.1 h.2.1 h.2.2 A p.length c hp w _ (upN_len _ _ _ _) _ (upN leaf k m p.reverse).2.2 (fun W hW => ?_)
      have h2 := rup_c leaf hl hu p.reverse k m (by omega) (by omega) (by rw [List.length_reverse]; omega) A c W (by rw [List.reverse_reverse]; exact Kd.C_below hrs hW) (by rw [List.length_reverse]; exact hc) (fun x hx => hpu x (List.mem_reverse.1 hx))
      rwa [List.length_reverse] at h2
    · have hf : (upN leaf k m p.reverse).2.1 = false := by
        cases hh : (upN leaf k m p.reverse).2.1 with
        | false => rfl
        | true =>
          have h3 := upN_short leaf p.reverse k m 20 (by omega) (by omega) hh
          rw [List.length_reverse] at h3
          omega
      rw [hf, Bool.false_and]
      exact rchk_bad root leaf hr hl k m A p.length c (by omega) w
  · rw [decide_eq_false h, Bool.false_and]
    exact rchk_bad root leaf hr hl i n A p.length c (by omega) w
end Go.Proofs.Ytbebkogkeepfoaa.Tree
/- The law TreeChecks walked. -/
namespace Go.Proofs.Ytbebkogkeepfoaa.Tree
set_option linter.unusedVariables false
set_option linter.unusedSimpArgs false
open Go.RowKit Go.Proofs.Ytbebkogkeepfoaa.Base Go.Proofs.Ytbebkogkeepfoaa.TlvPlain Go.Proofs.Ytbebkogkeepfoaa.ShaPlain Go.Proofs.Ytbebkogkeepfoaa.Sha Go.Proofs.Ytbebkogkeepfoaa.Com Go.Proofs.Ytbebkogkeepfoaa.Aid Go.Proofs.YtbebkogkeepfoaaW.PrintWords Go.Proofs.YtbebkogkeepfoaaW.PrintLast Go.Proofs.YtbebkogkeepfoaaW.PrintMore
theorem AtC.left {W : World} {ad : Addr} {a b : List Value} (h : AtC W ad (a ++ b)) : AtC W ad a := fun j v hj => h j v (by rw [List.getElem?_append_left (List.getElem?_eq_some_iff.1 hj).1]; exact hj)
theorem AtC.right {W : World} {ad : Addr} {a b : List Value} (h : AtC W ad (a ++ b)) : AtC W (ad.add a.length) b := fun j v hj => by
  rw [addr_add_add]
  exact h _ v (by rw [List.getElem?_append_right (by omega), Nat.add_sub_cancel_left]; exact hj)
/-- What is asked, in its block. -/
structure AskAt (W : World) (g : Nat) (R L : List Value) (i n : Int) : Prop where
  r : AtC W ⟨g, 0, none⟩ R
  l : AtC W ⟨g, 32, none⟩ L
  i : W.cell? ⟨g, 64, none⟩ = some (.int .i64 i)
  n : W.cell? ⟨g, 65, none⟩ = some (.int .i64 n)
theorem AskAt.below {W W' : World} {g : Nat} {R L : List Value} {i n : Int} (h : AskAt W g R L i n) (hb : Below W.heap.size W W') : AskAt W' g R L i n :=
  ⟨h.r.below hb, h.l.below hb, (hb.cell (World.block_lt_of_cell? _ _ h.i)).trans h.i, (hb.cell (World.block_lt_of_cell? _ _ h.n)).trans h.n⟩
theorem askAt_new (w : World) (R L : List Value) (i n : Int) (hR : R.length = 32) (hL : L.length = 32) : AskAt (w.alloc (.cells (R ++ (L ++ [Value.int .i64 i, Value.int .i64 n])).toArray 54)) w.heap.size R L i n := by
  have h := atC_blk (blk_new w (.cells (R ++ (L ++ [Value.int .i64 i, Value.int .i64 n])).toArray 54))
  have h2 := h.right
  rw [hR, add_plain] at h2
  have h3 := h2.right
  rw [hL] at h3
  have e : (⟨w.heap.size, 32, none⟩ : Addr).add 32 = ⟨w.heap.size, 64, none⟩ := rfl
  rw [e] at h3
  exact ⟨h.left, h2.left, h3 0 _ rfl, h3 1 _ rfl⟩
theorem grow_any (f : List Sm) (m : Nat) (hl : f.length = m) (hu : Lu f) (hm : m ≤ 1000) (A : Option Addr) (c : Nat) (hc : m ≤ c) (n : Int) (leaf : Sm) (hll : leaf.length = 32) (hlu : U8' leaf) (w : World) (hr : Rs w A f) :
    Calls Try.prog 37 #[.slice A m c, .int .i64 n, sumV leaf] w fun e w' => ∃ v, e = .returned (.tuple #[v, .bool (rightB m n && decide (n < 1048576))]) ∧ Below w.heap.size w w' := by
  by_cases h : rightB m n = true ∧ n ≠ 1048576
  · obtain ⟨h1, h2, _⟩ := rightB_yes h.1
    rw [h.1, decide_eq_true (show n < 1048576 by omega)]
    obtain ⟨k, rfl⟩ : ∃ k : Nat, (k : Int) = n := ⟨n.toNat, by omega⟩
    refine (grow_c f m hl hu hm A c hc k (by omega) h.1 leaf hll hlu w hr).mono fun e w' hh => ?_
    obtain ⟨v, rfl, _, hb⟩ := hh
    exact ⟨v, rfl, hb⟩
  · have hf : (rightB m n && decide (n < 1048576)) = false := by
      cases hb : rightB m n with
      | false => rfl
      | true =>
        have : n = 1048576 := Classical.byContradiction fun hh => h ⟨hb, hh⟩
        subst this
        rfl
    rw [hf]
    refine (grow_no A m c n leaf hll ?_ w).mono fun e w' hh => ?_
    · cases hb : rightB m n with
      | false => exact .inl rfl
      | true => exact .inr (Classical.byContradiction fun hh => h ⟨hb, hh⟩)
    · obtain ⟨rfl, hb⟩ := hh
      exact ⟨_, rfl, hb⟩
set_option maxHeartbeats 4000000 in
set_option maxRecDepth 100000 in
theorem checks_long (v : Value) (cs : Array Value) (hv : v = .agg cs) (A : Option Addr) (m c : Nat) (hm : 60 < m) (w : World) :
    Calls Try.prog 10 #[v, .slice A m c] w (RetB w true) := by
  subst hv
  have HB := Aside0.mk (below_alloc (Below.refl w.heap.size w) (.cells cs 54))
  have d1 : decide ((60 : Int) < (m : Int)) = true := decide_eq_true (by omega)
  have d2 : decide (60 < m) = true := decide_eq_true hm
  unfold RetB
  clear hm
  go_enter Try.func10, Try.ntmps10
  go_wp2_with (go_at_call 32; refine (live26_c _).mono ?_; rintro e w1 ⟨rfl, hb⟩; have HB1 := Aside0.mk (below_step HB.out hb); clear hb)
  go_ret
  exact ⟨rfl, HB1.out⟩
set_option maxHeartbeats 16000000 in
set_option maxRecDepth 100000 in
theorem checks_walk (root leaf : Sm) (hr : root.length = 32) (hl : leaf.length = 32) (hlu : U8' leaf) (i n : Int) (p : List Sm) (m : Nat) (hpl : p.length = m) (hm : m ≤ 60) (hpu : Lu p) (R L : List Value) (hR : SumC R root) (hL : SumC L leaf) (A : Option Addr) (c : Nat) (hc : m ≤ c) (w : World) (hrs : Rs w A p) :
    Calls Try.prog 10 #[(.agg (R ++ (L ++ [Value.int .i64 i, Value.int .i64 n])).toArray), .slice A m c] w (RetB w true) := by
  have HP1 := Aside0.mk (fun W hW => fold_c p m hpl hpu (by omega) A c hc n W (Kd.C_below hrs hW))
  have HP2 := Aside0.mk (fun W hW => rfold_c p m hpl hpu (by omega) A c hc n W (Kd.C_below hrs hW))
  have HP3 := Aside0.mk (fun W hW => grow_any p m hpl hpu (by omega) A c hc n leaf hl hlu W (Kd.C_below hrs hW))
  have HP4 := Aside0.mk (fun W hW => check_c root leaf hr hl hlu i n p (by omega) hpu A c (by omega) W (Kd.C_below hrs hW))
  have HP5 := Aside0.mk (fun W hW => rcheck_c root leaf hr hl hlu i n p hpu A c (by omega) W (Kd.C_below hrs hW))
  obtain ⟨rb, hrb⟩ : ∃ rb, rightB m n = rb := ⟨_, rfl⟩
  obtain ⟨ck, hck⟩ : ∃ ck, checkT root leaf i n p = ck := ⟨_, rfl⟩
  obtain ⟨lt, hlt⟩ : ∃ b, decide (n < 1048576) = b := ⟨_, rfl⟩
  rw [hrb] at HP1 HP2
  rw [hrb, hlt] at HP3
  rw [hck, hpl, hR.v, hL.v] at HP4 HP5
  rw [hL.v] at HP3
  obtain ⟨F, hF⟩ : ∃ F, (if rb = true then foldF p else Z) = F := ⟨_, rfl⟩
  have hfl : F.length = 32 := by
    rw [← hF]
    split
    · exact foldF_len _ hpu
    · exact Z_len
  rw [hF] at HP1 HP2
  obtain ⟨D, hD⟩ := sumC F hfl
  unfold Ret2 at HP1 HP2
  unfold RetB at HP4 HP5 ⊢
  rw [hD.v] at HP1 HP2
  have HD := Aside0.mk hD
  have HIR := Aside0.mk hR.blk
  have HIL := Aside0.mk hL.blk
  have HID := Aside0.mk hD.blk
  have heq := run_eq_sum F F hfl hfl
  rw [hD.v, decide_eq_true rfl] at heq
  have HEQ := Aside0.mk heq
  have hguard := guard_32
  have hu24 := Try.underlying24
  have hb1 : (ck == ck) = true := by simp
  have hb2 : (rb == rb) = true := by simp
  have d1 : decide ((60 : Int) < (m : Int)) = false := decide_eq_false (by omega)
  have d2 : decide (60 < m) = false := decide_eq_false (by omega)
  have q1 : (m : Int) ≤ 60 := by omega
  have HA := Aside0.mk (askAt_new w R L i n hR.lenC hL.lenC)
  have HB := Aside0.mk (below_alloc (Below.refl w.heap.size w) (.cells (R ++ (L ++ [Value.int .i64 i, Value.int .i64 n])).toArray 54))
  obtain ⟨AA, hAA⟩ : ∃ AA, (R ++ (L ++ [Value.int .i64 i, Value.int .i64 n])).toArray = AA := ⟨_, rfl⟩
  rw [hAA] at HA HB ⊢
  clear hr hl hlu hpl hm hpu hR hL hc hrs hrb hck hF hfl hD heq hAA
  go_enter Try.func10, Try.ntmps10
  go_upto_region 3 with (fail)
  obtain ⟨w0, hw0⟩ : ∃ W, w.alloc (.cells AA 54) = W := ⟨_, rfl⟩
  rw [hw0] at HA HB ⊢
  clear hw0
  have hn0 := HA.out.n
  go_wp2_with (fail)
  refine (HP1.out _ HB.out).mono ?_
  rintro e w1 ⟨rfl, hb⟩
  have HG := Aside0.mk (show (w1.alloc (.cells Z32 24)).heap[w1.heap.size]? = some (.cells Z32 24 (0, 0)) from blk_new _ _)
  have HG2 := Aside0.mk (setRow_heap (w1.alloc (.cells Z32 24)) w1.heap.size Z32 D.toArray _ _ HG.out)
  have hb2 : Below w1.heap.size w1 ((w1.alloc (.cells Z32 24)).setRow w1.heap.size D.toArray) := below_setRow (below_alloc (Below.refl _ _) _) (Nat.le_refl _) _
  have x_HA := Aside0.mk ((HA.out.below hb).below hb2)
  have x_HB := Aside0.mk (below_step (below_step HB.out hb) hb2)
  clear HA HB hb hb2 hn0
  have HA := x_HA
  have HB := x_HB
  clear x_HA x_HB
  go_upto_region 4 with ((with_reducible refine gate_store (t := 24) (p := 5) (v := .tmp 20) rfl ?_); refine wpList_store_row rfl 24 (.tmp 5) (.tmp 20) rfl w1.heap.size D.toArray rfl rfl 24 Z32 HG.out HD.out.blkA HD.out.zsA HD.out.oneA ?_)
  obtain ⟨w1s, hw1s⟩ : ∃ W, (w1.alloc (.cells Z32 24)).setRow w1.heap.size D.toArray = W := ⟨_, rfl⟩
  have HD5 := Aside0.mk (atC_blk HG2.out)
  rw [hw1s] at HA HB HD5
  rw [show (w1.alloc (.cells #[.int .u8 0, .int .u8 0, .int .u8 0, .int .u8 0, .int .u8 0, .int .u8 0, .int .u8 0, .int .u8 0, .int .u8 0, .int .u8 0, .int .u8 0, .int .u8 0, .int .u8 0, .int .u8 0, .int .u8 0, .int .u8 0, .int .u8 0, .int .u8 0, .int .u8 0, .int .u8 0, .int .u8 0, .int .u8 0, .int .u8 0, .int .u8 0, .int .u8 0, .int .u8 0, .int .u8 0, .int .u8 0, .int .u8 0, .int .u8 0, .int .u8 0, .int .u8 0] 24)).setRow w1.heap.size D.toArray = w1s from hw1s]
  clear hw1s HG HG2
  have HB5 := Aside0.mk (Below.refl w1s.heap.size w1s)
  have hn0 := HA.out.n
  go_wp2_with (fail)
  refine (HP2.out _ HB.out).mono ?_
  rintro e w2 ⟨rfl, hb⟩
  have HG := Aside0.mk (show (w2.alloc (.cells Z32 24)).heap[w2.heap.size]? = some (.cells Z32 24 (0, 0)) from blk_new _ _)
  have HG2 := Aside0.mk (setRow_heap (w2.alloc (.cells Z32 24)) w2.heap.size Z32 D.toArray _ _ HG.out)
  have hb2 : Below w2.heap.size w2 ((w2.alloc (.cells Z32 24)).setRow w2.heap.size D.toArray) := below_setRow (below_alloc (Below.refl _ _) _) (Nat.le_refl _) _
  have x_HD5 := Aside0.mk ((HD5.out.below hb).below hb2)
  have x_HA := Aside0.mk ((HA.out.below hb).below hb2)
  have x_HB := Aside0.mk (below_step (below_step HB.out hb) hb2)
  clear HA HB hb hb2 hn0
  have HA := x_HA
  have HB := x_HB
  have x_ := x_HD5
  clear HD5 x_HD5
  have HD5 := x_
  clear x_HA x_HB x_
  go_upto_region 5 with ((with_reducible refine gate_store (t := 24) (p := 7) (v := .tmp 27) rfl ?_); refine wpList_store_row rfl 24 (.tmp 7) (.tmp 27) rfl w2.heap.size D.toArray rfl rfl 24 Z32 HG.out HD.out.blkA HD.out.zsA HD.out.oneA ?_)
  obtain ⟨w2s, hw2s⟩ : ∃ W, (w2.alloc (.cells Z32 24)).setRow w2.heap.size D.toArray = W := ⟨_, rfl⟩
  have HD7 := Aside0.mk (atC_blk HG2.out)
  rw [hw2s] at HA HB HD5 HD7
  rw [show (w2.alloc (.cells #[.int .u8 0, .int .u8 0, .int .u8 0, .int .u8 0, .int .u8 0, .int .u8 0, .int .u8 0, .int .u8 0, .int .u8 0, .int .u8 0, .int .u8 0, .int .u8 0, .int .u8 0, .int .u8 0, .int .u8 0, .int .u8 0, .int .u8 0, .int .u8 0, .int .u8 0, .int .u8 0, .int .u8 0, .int .u8 0, .int .u8 0, .int .u8 0, .int .u8 0, .int .u8 0, .int .u8 0, .int .u8 0, .int .u8 0, .int .u8 0, .int .u8 0, .int .u8 0] 24)).setRow w2.heap.size D.toArray = w2s from hw2s]
  clear hw2s HG HG2
  have hn0 := HA.out.n
  go_wp2_with ((with_reducible refine gate_dst (N := 34) rfl ?_); refine wpList_load_at rfl 24 (.tmp 33) rfl ⟨w.heap.size, 32, none⟩ rfl L _ HA.out.l Try.underlying24 rfl HIL.out ?_)
  refine (HP3.out _ HB.out).mono ?_
  rintro e w3 ⟨vg, rfl, hb⟩
  have x_HD5 := Aside0.mk (HD5.out.below hb)
  have x_HD7 := Aside0.mk (HD7.out.below hb)
  have x_HA := Aside0.mk (HA.out.below hb)
  have x_HB := Aside0.mk (below_step HB.out hb)
  clear HA HB HD5 HD7 hb hn0
  have HD5 := x_HD5
  have HD7 := x_HD7
  have HA := x_HA
  have HB := x_HB
  clear x_HD5 x_HD7 x_HA x_HB HB5
  have HW := Aside0.mk (Below.refl w3.heap.size w3)
  go_wp2_with (fail)
  have heq := HEQ.out
  refine wp_region_held_drew (S := fun w' => AskAt w' w.heap.size R L i n ∧ AtC w' ⟨w1.heap.size, 0, none⟩ D ∧ AtC w' ⟨w2.heap.size, 0, none⟩ D) (by kernel_rfl) (And.intro (HA.out.below (below_drew (Below.refl _ _))) (And.intro HD5.out HD7.out)) (fun hHeld => ?_)
  (refine wpAnyH_take (i := 0) (v := ?_) rfl (by kernel_rfl) (by kernel_rfl) (by kernel_rfl) (fun _ _ _ h => h) (Or.inl ⟨by rfl, ?_⟩) (by assumption) ?_; (case' refine_2 => (intro w hSw; go_simp; try with_reducible rfl)); (try simp only [Act.put, List.getElem_toArray, List.getElem_cons_zero, List.getElem_cons_succ, List.setIfInBounds_toArray, List.set_cons_zero, List.set_cons_succ]))
  (refine wpAnyH_take (i := 1) rfl (by kernel_rfl) (by kernel_rfl) (by kernel_rfl) (fun _ _ _ h => h) (yieldsIf_load_at (by rfl) _ _ rfl ⟨w.heap.size, 0, none⟩ rfl R _ (fun _ h => h.1.r) (by assumption) rfl HIR.out) (by assumption) ?_; (try simp only [Act.put, List.getElem_toArray, List.getElem_cons_zero, List.getElem_cons_succ, List.setIfInBounds_toArray, List.set_cons_zero, List.set_cons_succ]))
  (refine wpAnyH_take (i := 2) (v := ?_) rfl (by kernel_rfl) (by kernel_rfl) (by kernel_rfl) (fun _ _ _ h => h) (Or.inl ⟨by rfl, ?_⟩) (by assumption) ?_; (case' refine_2 => (intro w hSw; go_simp; try with_reducible rfl)); (try simp only [Act.put, List.getElem_toArray, List.getElem_cons_zero, List.getElem_cons_succ, List.setIfInBounds_toArray, List.set_cons_zero, List.set_cons_succ]))
  (refine wpAnyH_take (i := 3) rfl (by kernel_rfl) (by kernel_rfl) (by kernel_rfl) (fun _ _ _ h => h) (yieldsIf_load_at (by rfl) _ _ rfl ⟨w.heap.size, 32, none⟩ rfl L _ (fun _ h => h.1.l) (by assumption) rfl HIL.out) (by assumption) ?_; (try simp only [Act.put, List.getElem_toArray, List.getElem_cons_zero, List.getElem_cons_succ, List.setIfInBounds_toArray, List.set_cons_zero, List.set_cons_succ]))
  (refine wpAnyH_take (i := 4) (v := ?_) rfl (by kernel_rfl) (by kernel_rfl) (by kernel_rfl) (fun _ _ _ h => h) (Or.inl ⟨by rfl, ?_⟩) (by assumption) ?_; (case' refine_2 => (intro w hSw; go_simp; try with_reducible rfl)); (try simp only [Act.put, List.getElem_toArray, List.getElem_cons_zero, List.getElem_cons_succ, List.setIfInBounds_toArray, List.set_cons_zero, List.set_cons_succ]))
  (refine wpAnyH_take (i := 5) (v := .int .i64 i) rfl (by kernel_rfl) (by kernel_rfl) (by kernel_rfl) (fun _ _ _ h => h) (Or.inl ⟨by rfl, ?_⟩) (by assumption) ?_; (case' refine_1 => (intro w_ hSw; have hcell_ := hSw.1.i; clear hSw; go_simp)); (try simp only [Act.put, List.getElem_toArray, List.getElem_cons_zero, List.getElem_cons_succ, List.setIfInBounds_toArray, List.set_cons_zero, List.set_cons_succ]))
  (refine wpAnyH_take (i := 6) (v := ?_) rfl (by kernel_rfl) (by kernel_rfl) (by kernel_rfl) (fun _ _ _ h => h) (Or.inl ⟨by rfl, ?_⟩) (by assumption) ?_; (case' refine_2 => (intro w hSw; go_simp; try with_reducible rfl)); (try simp only [Act.put, List.getElem_toArray, List.getElem_cons_zero, List.getElem_cons_succ, List.setIfInBounds_toArray, List.set_cons_zero, List.set_cons_succ]))
  (refine wpAnyH_take (i := 7) (v := .int .i64 n) rfl (by kernel_rfl) (by kernel_rfl) (by kernel_rfl) (fun _ _ _ h => h) (Or.inl ⟨by rfl, ?_⟩) (by assumption) ?_; (case' refine_1 => (intro w_ hSw; have hcell_ := hSw.1.n; clear hSw; go_simp)); (try simp only [Act.put, List.getElem_toArray, List.getElem_cons_zero, List.getElem_cons_succ, List.setIfInBounds_toArray, List.set_cons_zero, List.set_cons_succ]))
  (refine wpAnyH_take (i := 8) (v := ?_) rfl (by kernel_rfl) (by kernel_rfl) (by kernel_rfl) (fun _ _ _ h => h) (Or.inl ⟨by rfl, ?_⟩) (by assumption) ?_; (case' refine_2 => (intro w hSw; go_simp; try with_reducible rfl)); (try simp only [Act.put, List.getElem_toArray, List.getElem_cons_zero, List.getElem_cons_succ, List.setIfInBounds_toArray, List.set_cons_zero, List.set_cons_succ]))
  (refine wpAnyH_take (i := 10) (v := ?_) rfl (by kernel_rfl) (by kernel_rfl) (by kernel_rfl) (fun _ _ _ h => h) (Or.inl ⟨by rfl, ?_⟩) (by assumption) ?_; (case' refine_2 => (intro w hSw; go_simp; try with_reducible rfl)); (try simp only [Act.put, List.getElem_toArray, List.getElem_cons_zero, List.getElem_cons_succ, List.setIfInBounds_toArray, List.set_cons_zero, List.set_cons_succ]))
  (refine wpAnyH_take (i := 11) rfl (by kernel_rfl) (by kernel_rfl) (by kernel_rfl) (fun _ _ _ h => h) (yieldsIf_load_at (by rfl) _ _ rfl ⟨w.heap.size, 0, none⟩ rfl R _ (fun _ h => h.1.r) (by assumption) rfl HIR.out) (by assumption) ?_; (try simp only [Act.put, List.getElem_toArray, List.getElem_cons_zero, List.getElem_cons_succ, List.setIfInBounds_toArray, List.set_cons_zero, List.set_cons_succ]))
  (refine wpAnyH_take (i := 12) (v := ?_) rfl (by kernel_rfl) (by kernel_rfl) (by kernel_rfl) (fun _ _ _ h => h) (Or.inl ⟨by rfl, ?_⟩) (by assumption) ?_; (case' refine_2 => (intro w hSw; go_simp; try with_reducible rfl)); (try simp only [Act.put, List.getElem_toArray, List.getElem_cons_zero, List.getElem_cons_succ, List.setIfInBounds_toArray, List.set_cons_zero, List.set_cons_succ]))
  (refine wpAnyH_take (i := 13) rfl (by kernel_rfl) (by kernel_rfl) (by kernel_rfl) (fun _ _ _ h => h) (yieldsIf_load_at (by rfl) _ _ rfl ⟨w.heap.size, 32, none⟩ rfl L _ (fun _ h => h.1.l) (by assumption) rfl HIL.out) (by assumption) ?_; (try simp only [Act.put, List.getElem_toArray, List.getElem_cons_zero, List.getElem_cons_succ, List.setIfInBounds_toArray, List.set_cons_zero, List.set_cons_succ]))
  (refine wpAnyH_take (i := 14) (v := ?_) rfl (by kernel_rfl) (by kernel_rfl) (by kernel_rfl) (fun _ _ _ h => h) (Or.inl ⟨by rfl, ?_⟩) (by assumption) ?_; (case' refine_2 => (intro w hSw; go_simp; try with_reducible rfl)); (try simp only [Act.put, List.getElem_toArray, List.getElem_cons_zero, List.getElem_cons_succ, List.setIfInBounds_toArray, List.set_cons_zero, List.set_cons_succ]))
  (refine wpAnyH_take (i := 15) (v := .int .i64 i) rfl (by kernel_rfl) (by kernel_rfl) (by kernel_rfl) (fun _ _ _ h => h) (Or.inl ⟨by rfl, ?_⟩) (by assumption) ?_; (case' refine_1 => (intro w_ hSw; have hcell_ := hSw.1.i; clear hSw; go_simp)); (try simp only [Act.put, List.getElem_toArray, List.getElem_cons_zero, List.getElem_cons_succ, List.setIfInBounds_toArray, List.set_cons_zero, List.set_cons_succ]))
  (refine wpAnyH_take (i := 16) (v := ?_) rfl (by kernel_rfl) (by kernel_rfl) (by kernel_rfl) (fun _ _ _ h => h) (Or.inl ⟨by rfl, ?_⟩) (by assumption) ?_; (case' refine_2 => (intro w hSw; go_simp; try with_reducible rfl)); (try simp only [Act.put, List.getElem_toArray, List.getElem_cons_zero, List.getElem_cons_succ, List.setIfInBounds_toArray, List.set_cons_zero, List.set_cons_succ]))
  (refine wpAnyH_take (i := 17) (v := .int .i64 n) rfl (by kernel_rfl) (by kernel_rfl) (by kernel_rfl) (fun _ _ _ h => h) (Or.inl ⟨by rfl, ?_⟩) (by assumption) ?_; (case' refine_1 => (intro w_ hSw; have hcell_ := hSw.1.n; clear hSw; go_simp)); (try simp only [Act.put, List.getElem_toArray, List.getElem_cons_zero, List.getElem_cons_succ, List.setIfInBounds_toArray, List.set_cons_zero, List.set_cons_succ]))
  (refine wpAnyH_take (i := 18) (v := ?_) rfl (by kernel_rfl) (by kernel_rfl) (by kernel_rfl) (fun _ _ _ h => h) (Or.inl ⟨by rfl, ?_⟩) (by assumption) ?_; (case' refine_2 => (intro w hSw; go_simp; try with_reducible rfl)); (try simp only [Act.put, List.getElem_toArray, List.getElem_cons_zero, List.getElem_cons_succ, List.setIfInBounds_toArray, List.set_cons_zero, List.set_cons_succ]))
  (refine wpAnyH_ready (rs := [9]) (by kernel_rfl) (by simp) (AllReadyH.cons rfl (fun K hK => ?_) AllReadyH.nil); go_simp)
  refine (HP4.out _ (below_drew1 HB.out)).mono ?_
  rintro e w4 ⟨rfl, hb0⟩
  have hb := below_drew_of hb0
  have x_ := Aside0.mk (below_step HW.out hb)
  clear HW hb hb0
  have HW := x_
  clear x_
  (refine Shut.out hK _ _ (And.intro (HA.out.below HW.out) (And.intro (HD5.out.below HW.out) (HD7.out.below HW.out))) (fun hHeld => ?_); clear hK K; (try simp only [Act.put, List.getElem_toArray, List.getElem_cons_zero, List.getElem_cons_succ, List.setIfInBounds_toArray, List.set_cons_zero, List.set_cons_succ]))
  (refine wpAnyH_ready (rs := [19]) (by kernel_rfl) (by simp) (AllReadyH.cons rfl (fun K hK => ?_) AllReadyH.nil); go_simp)
  refine (HP5.out _ (below_step HB.out HW.out)).mono ?_
  rintro e w5 ⟨rfl, hb⟩
  have x_ := Aside0.mk (below_step HW.out hb)
  clear HW hb
  have HW := x_
  clear x_
  (refine Shut.out hK _ _ (And.intro (HA.out.below HW.out) (And.intro (HD5.out.below HW.out) (HD7.out.below HW.out))) (fun hHeld => ?_); clear hK K; (try simp only [Act.put, List.getElem_toArray, List.getElem_cons_zero, List.getElem_cons_succ, List.setIfInBounds_toArray, List.set_cons_zero, List.set_cons_succ]))
  (refine wpAnyH_take (i := 20) (v := ?_) rfl (by kernel_rfl) (by kernel_rfl) (by kernel_rfl) (fun _ _ _ h => h) (Or.inl ⟨by rfl, ?_⟩) (by assumption) ?_; (case' refine_2 => (intro w hSw; go_simp; try with_reducible rfl)); (try simp only [Act.put, List.getElem_toArray, List.getElem_cons_zero, List.getElem_cons_succ, List.setIfInBounds_toArray, List.set_cons_zero, List.set_cons_succ]))
  (refine wpAnyH_take (i := 21) (v := ?_) rfl (by kernel_rfl) (by kernel_rfl) (by kernel_rfl) (fun _ _ _ h => h) (Or.inl ⟨by rfl, ?_⟩) (by assumption) ?_; (case' refine_2 => (intro w hSw; go_simp; try with_reducible rfl)); (try simp only [Act.put, List.getElem_toArray, List.getElem_cons_zero, List.getElem_cons_succ, List.setIfInBounds_toArray, List.set_cons_zero, List.set_cons_succ]))
  (refine wpAnyH_take (i := 22) rfl (by kernel_rfl) (by kernel_rfl) (by kernel_rfl) (fun _ _ _ h => h) (yieldsIf_load_at (by rfl) _ _ rfl ⟨w1.heap.size, 0, none⟩ rfl D _ (fun _ h => h.2.1) (by assumption) rfl HID.out) (by assumption) ?_; (try simp only [Act.put, List.getElem_toArray, List.getElem_cons_zero, List.getElem_cons_succ, List.setIfInBounds_toArray, List.set_cons_zero, List.set_cons_succ]))
  (refine wpAnyH_take (i := 23) rfl (by kernel_rfl) (by kernel_rfl) (by kernel_rfl) (fun _ _ _ h => h) (yieldsIf_load_at (by rfl) _ _ rfl ⟨w2.heap.size, 0, none⟩ rfl D _ (fun _ h => h.2.2) (by assumption) rfl HID.out) (by assumption) ?_; (try simp only [Act.put, List.getElem_toArray, List.getElem_cons_zero, List.getElem_cons_succ, List.setIfInBounds_toArray, List.set_cons_zero, List.set_cons_succ]))
  (refine wpAnyH_take (i := 24) (v := ?_) rfl (by kernel_rfl) (by kernel_rfl) (by kernel_rfl) (fun _ _ _ h => h) (Or.inl ⟨by rfl, ?_⟩) (by assumption) ?_; (case' refine_2 => (intro w hSw; go_simp; try with_reducible rfl)); (try simp only [Act.put, List.getElem_toArray, List.getElem_cons_zero, List.getElem_cons_succ, List.setIfInBounds_toArray, List.set_cons_zero, List.set_cons_succ]))
  (refine wpAnyH_take (i := 25) (v := ?_) rfl (by kernel_rfl) (by kernel_rfl) (by kernel_rfl) (fun _ _ _ h => h) (Or.inl ⟨by rfl, ?_⟩) (by assumption) ?_; (case' refine_2 => (intro w hSw; go_simp; try with_reducible rfl)); (try simp only [Act.put, List.getElem_toArray, List.getElem_cons_zero, List.getElem_cons_succ, List.setIfInBounds_toArray, List.set_cons_zero, List.set_cons_succ]))
  (refine wpAnyH_take (i := 26) (v := ?_) rfl (by kernel_rfl) (by kernel_rfl) (by kernel_rfl) (fun _ _ _ h => h) (Or.inl ⟨by rfl, ?_⟩) (by assumption) ?_; (case' refine_2 => (intro w hSw; go_simp; try with_reducible rfl)); (try simp only [Act.put, List.getElem_toArray, List.getElem_cons_zero, List.getElem_cons_succ, List.setIfInBounds_toArray, List.set_cons_zero, List.set_cons_succ]))
  (refine wpAnyH_take (i := 27) (v := ?_) rfl (by kernel_rfl) (by kernel_rfl) (by kernel_rfl) (fun _ _ _ h => h) (Or.inl ⟨by rfl, ?_⟩) (by assumption) ?_; (case' refine_2 => (intro w hSw; go_simp; try with_reducible rfl)); (try simp only [Act.put, List.getElem_toArray, List.getElem_cons_zero, List.getElem_cons_succ, List.setIfInBounds_toArray, List.set_cons_zero, List.set_cons_succ]))
  (refine wpAnyH_take (i := 28) (v := ?_) rfl (by kernel_rfl) (by kernel_rfl) (by kernel_rfl) (fun _ _ _ h => h) (Or.inl ⟨by rfl, ?_⟩) (by assumption) ?_; (case' refine_2 => (intro w hSw; go_simp; try with_reducible rfl)); (try simp only [Act.put, List.getElem_toArray, List.getElem_cons_zero, List.getElem_cons_succ, List.setIfInBounds_toArray, List.set_cons_zero, List.set_cons_succ]))
  (refine wpAnyH_take (i := 29) (v := ?_) rfl (by kernel_rfl) (by kernel_rfl) (by kernel_rfl) (fun _ _ _ h => h) (Or.inl ⟨by rfl, ?_⟩) (by assumption) ?_; (case' refine_2 => (intro w hSw; go_simp; try with_reducible rfl)); (try simp only [Act.put, List.getElem_toArray, List.getElem_cons_zero, List.getElem_cons_succ, List.setIfInBounds_toArray, List.set_cons_zero, List.set_cons_succ]))
  (refine wpAnyH_take (i := 30) (v := ?_) rfl (by kernel_rfl) (by kernel_rfl) (by kernel_rfl) (fun _ _ _ h => h) (Or.inl ⟨by rfl, ?_⟩) (by assumption) ?_; (case' refine_2 => (intro w hSw; go_simp; try with_reducible rfl)); (try simp only [Act.put, List.getElem_toArray, List.getElem_cons_zero, List.getElem_cons_succ, List.setIfInBounds_toArray, List.set_cons_zero, List.set_cons_succ]))
  (refine wpAnyH_take (i := 31) (v := ?_) rfl (by kernel_rfl) (by kernel_rfl) (by kernel_rfl) (fun _ _ _ h => h) (Or.inl ⟨by rfl, ?_⟩) (by assumption) ?_; (case' refine_2 => (intro w hSw; go_simp; try with_reducible rfl)); (try simp only [Act.put, List.getElem_toArray, List.getElem_cons_zero, List.getElem_cons_succ, List.setIfInBounds_toArray, List.set_cons_zero, List.set_cons_succ]))
  (refine wpAnyH_take (i := 32) (v := ?_) rfl (by kernel_rfl) (by kernel_rfl) (by kernel_rfl) (fun _ _ _ h => h) (Or.inl ⟨by rfl, ?_⟩) (by assumption) ?_; (case' refine_2 => (intro w hSw; go_simp; try with_reducible rfl)); (try simp only [Act.put, List.getElem_toArray, List.getElem_cons_zero, List.getElem_cons_succ, List.setIfInBounds_toArray, List.set_cons_zero, List.set_cons_succ]))
  (refine wpAnyH_take (i := 33) (v := ?_) rfl (by kernel_rfl) (by kernel_rfl) (by kernel_rfl) (fun _ _ _ h => h) (Or.inl ⟨by rfl, ?_⟩) (by assumption) ?_; (case' refine_2 => (intro w hSw; go_simp; try with_reducible rfl)); (try simp only [Act.put, List.getElem_toArray, List.getElem_cons_zero, List.getElem_cons_succ, List.setIfInBounds_toArray, List.set_cons_zero, List.set_cons_succ]))
  (refine wpAnyH_take (i := 34) (v := ?_) rfl (by kernel_rfl) (by kernel_rfl) (by kernel_rfl) (fun _ _ _ h => h) (Or.inl ⟨by rfl, ?_⟩) (by assumption) ?_; (case' refine_2 => (intro w hSw; go_simp; try with_reducible rfl)); (try simp only [Act.put, List.getElem_toArray, List.getElem_cons_zero, List.getElem_cons_succ, List.setIfInBounds_toArray, List.set_cons_zero, List.set_cons_succ]))
  cases rb with
  | true =>
    have hb3 : (lt == lt) = true := by simp
    (refine wpAnyH_take (i := 35) (v := ?_) rfl (by kernel_rfl) (by kernel_rfl) (by kernel_rfl) (fun _ _ _ h => h) (Or.inl ⟨by rfl, ?_⟩) (by assumption) ?_; (case' refine_2 => (intro w hSw; go_simp; try with_reducible rfl)); (try simp only [Act.put, List.getElem_toArray, List.getElem_cons_zero, List.getElem_cons_succ, List.setIfInBounds_toArray, List.set_cons_zero, List.set_cons_succ]))
    (refine wpAnyH_take (i := 36) (v := .int .i64 n) rfl (by kernel_rfl) (by kernel_rfl) (by kernel_rfl) (fun _ _ _ h => h) (Or.inl ⟨by rfl, ?_⟩) (by assumption) ?_; (case' refine_1 => (intro w_ hSw; have hcell_ := hSw.1.n; clear hSw; go_simp)); (try simp only [Act.put, List.getElem_toArray, List.getElem_cons_zero, List.getElem_cons_succ, List.setIfInBounds_toArray, List.set_cons_zero, List.set_cons_succ]))
    (refine wpAnyH_take (i := 37) (v := ?_) rfl (by kernel_rfl) (by kernel_rfl) (by kernel_rfl) (fun _ _ _ h => h) (Or.inl ⟨by rfl, ?_⟩) (by assumption) ?_; (case' refine_2 => (intro w hSw; go_simp; try with_reducible rfl)); (try simp only [Act.put, List.getElem_toArray, List.getElem_cons_zero, List.getElem_cons_succ, List.setIfInBounds_toArray, List.set_cons_zero, List.set_cons_succ]))
    (refine wpAnyH_take (i := 38) (v := ?_) rfl (by kernel_rfl) (by kernel_rfl) (by kernel_rfl) (fun _ _ _ h => h) (Or.inl ⟨by rfl, ?_⟩) (by assumption) ?_; (case' refine_2 => (intro w hSw; go_simp; try with_reducible rfl)); (try simp only [Act.put, List.getElem_toArray, List.getElem_cons_zero, List.getElem_cons_succ, List.setIfInBounds_toArray, List.set_cons_zero, List.set_cons_succ]))
    (refine wpAnyH_take (i := 39) (v := ?_) rfl (by kernel_rfl) (by kernel_rfl) (by kernel_rfl) (fun _ _ _ h => h) (Or.inl ⟨by rfl, ?_⟩) (by assumption) ?_; (case' refine_2 => (intro w hSw; go_simp; try with_reducible rfl)); (try simp only [Act.put, List.getElem_toArray, List.getElem_cons_zero, List.getElem_cons_succ, List.setIfInBounds_toArray, List.set_cons_zero, List.set_cons_succ]))
    (refine wpAnyH_take (i := 40) (v := ?_) rfl (by kernel_rfl) (by kernel_rfl) (by kernel_rfl) (fun _ _ _ h => h) (Or.inl ⟨by rfl, ?_⟩) (by assumption) ?_; (case' refine_2 => (intro w hSw; go_simp; try with_reducible rfl)); (try simp only [Act.put, List.getElem_toArray, List.getElem_cons_zero, List.getElem_cons_succ, List.setIfInBounds_toArray, List.set_cons_zero, List.set_cons_succ]))
    (refine wpAnyH_take (i := 41) (v := ?_) rfl (by kernel_rfl) (by kernel_rfl) (by kernel_rfl) (fun _ _ _ h => h) (Or.inl ⟨by rfl, ?_⟩) (by assumption) ?_; (case' refine_2 => (intro w hSw; go_simp; try with_reducible rfl)); (try simp only [Act.put, List.getElem_toArray, List.getElem_cons_zero, List.getElem_cons_succ, List.setIfInBounds_toArray, List.set_cons_zero, List.set_cons_succ]))
    (refine wpAnyH_ready (rs := [42]) (by kernel_rfl) (by simp) (AllReadyH.cons rfl (fun K hK => ?_) AllReadyH.nil); go_simp)
    refine (live26_c _).mono ?_
    rintro e w6 ⟨rfl, hb⟩
    have x_ := Aside0.mk (below_step HW.out hb)
    clear HW hb
    have HW := x_
    clear x_
    (refine Shut.out hK _ _ (And.intro (HA.out.below HW.out) (And.intro (HD5.out.below HW.out) (HD7.out.below HW.out))) (fun hHeld => ?_); clear hK K; (try simp only [Act.put, List.getElem_toArray, List.getElem_cons_zero, List.getElem_cons_succ, List.setIfInBounds_toArray, List.set_cons_zero, List.set_cons_succ]))
    (refine wpAnyH_take (i := 43) (v := ?_) rfl (by kernel_rfl) (by kernel_rfl) (by kernel_rfl) (fun _ _ _ h => h) (Or.inl ⟨by rfl, ?_⟩) (by assumption) ?_; (case' refine_2 => (intro w hSw; go_simp; try with_reducible rfl)); (try simp only [Act.put, List.getElem_toArray, List.getElem_cons_zero, List.getElem_cons_succ, List.setIfInBounds_toArray, List.set_cons_zero, List.set_cons_succ]))
    (refine wpAnyH_take (i := 44) (v := ?_) rfl (by kernel_rfl) (by kernel_rfl) (by kernel_rfl) (fun _ _ _ h => h) (Or.inl ⟨by rfl, ?_⟩) (by assumption) ?_; (case' refine_2 => (intro w hSw; go_simp; try with_reducible rfl)); (try simp only [Act.put, List.getElem_toArray, List.getElem_cons_zero, List.getElem_cons_succ, List.setIfInBounds_toArray, List.set_cons_zero, List.set_cons_succ]))
    refine wpAnyH_done (by kernel_rfl) ?_ _
    go_wp2_with (fail)
    go_ret
    exact ⟨rfl, below_step HB.out HW.out⟩
  | false =>
    (refine wpAnyH_take (i := 35) (v := undef) rfl (by kernel_rfl) (by kernel_rfl) (by kernel_rfl) (fun _ _ _ h => h) (Or.inr ⟨by rfl, rfl⟩) (by assumption) ?_; (try simp only [Act.put, List.getElem_toArray, List.getElem_cons_zero, List.getElem_cons_succ, List.setIfInBounds_toArray, List.set_cons_zero, List.set_cons_succ]))
    (refine wpAnyH_take (i := 36) (v := undef) rfl (by kernel_rfl) (by kernel_rfl) (by kernel_rfl) (fun _ _ _ h => h) (Or.inr ⟨by rfl, rfl⟩) (by assumption) ?_; (try simp only [Act.put, List.getElem_toArray, List.getElem_cons_zero, List.getElem_cons_succ, List.setIfInBounds_toArray, List.set_cons_zero, List.set_cons_succ]))
    (refine wpAnyH_take (i := 37) (v := undef) rfl (by kernel_rfl) (by kernel_rfl) (by kernel_rfl) (fun _ _ _ h => h) (Or.inr ⟨by rfl, rfl⟩) (by assumption) ?_; (try simp only [Act.put, List.getElem_toArray, List.getElem_cons_zero, List.getElem_cons_succ, List.setIfInBounds_toArray, List.set_cons_zero, List.set_cons_succ]))
    (refine wpAnyH_take (i := 38) (v := ?_) rfl (by kernel_rfl) (by kernel_rfl) (by kernel_rfl) (fun _ _ _ h => h) (Or.inl ⟨by rfl, ?_⟩) (by assumption) ?_; (case' refine_2 => (intro w hSw; go_simp; try with_reducible rfl)); (try simp only [Act.put, List.getElem_toArray, List.getElem_cons_zero, List.getElem_cons_succ, List.setIfInBounds_toArray, List.set_cons_zero, List.set_cons_succ]))
    (refine wpAnyH_take (i := 39) (v := ?_) rfl (by kernel_rfl) (by kernel_rfl) (by kernel_rfl) (fun _ _ _ h => h) (Or.inl ⟨by rfl, ?_⟩) (by assumption) ?_; (case' refine_2 => (intro w hSw; go_simp; try with_reducible rfl)); (try simp only [Act.put, List.getElem_toArray, List.getElem_cons_zero, List.getElem_cons_succ, List.setIfInBounds_toArray, List.set_cons_zero, List.set_cons_succ]))
    (refine wpAnyH_take (i := 40) (v := ?_) rfl (by kernel_rfl) (by kernel_rfl) (by kernel_rfl) (fun _ _ _ h => h) (Or.inl ⟨by rfl, ?_⟩) (by assumption) ?_; (case' refine_2 => (intro w hSw; go_simp; try with_reducible rfl)); (try simp only [Act.put, List.getElem_toArray, List.getElem_cons_zero, List.getElem_cons_succ, List.setIfInBounds_toArray, List.set_cons_zero, List.set_cons_succ]))
    (refine wpAnyH_take (i := 41) (v := ?_) rfl (by kernel_rfl) (by kernel_rfl) (by kernel_rfl) (fun _ _ _ h => h) (Or.inl ⟨by rfl, ?_⟩) (by assumption) ?_; (case' refine_2 => (intro w hSw; go_simp; try with_reducible rfl)); (try simp only [Act.put, List.getElem_toArray, List.getElem_cons_zero, List.getElem_cons_succ, List.setIfInBounds_toArray, List.set_cons_zero, List.set_cons_succ]))
    (refine wpAnyH_ready (rs := [42]) (by kernel_rfl) (by simp) (AllReadyH.cons rfl (fun K hK => ?_) AllReadyH.nil); go_simp)
    refine (live26_c _).mono ?_
    rintro e w6 ⟨rfl, hb⟩
    have x_ := Aside0.mk (below_step HW.out hb)
    clear HW hb
    have HW := x_
    clear x_
    (refine Shut.out hK _ _ (And.intro (HA.out.below HW.out) (And.intro (HD5.out.below HW.out) (HD7.out.below HW.out))) (fun hHeld => ?_); clear hK K; (try simp only [Act.put, List.getElem_toArray, List.getElem_cons_zero, List.getElem_cons_succ, List.setIfInBounds_toArray, List.set_cons_zero, List.set_cons_succ]))
    (refine wpAnyH_take (i := 43) (v := ?_) rfl (by kernel_rfl) (by kernel_rfl) (by kernel_rfl) (fun _ _ _ h => h) (Or.inl ⟨by rfl, ?_⟩) (by assumption) ?_; (case' refine_2 => (intro w hSw; go_simp; try with_reducible rfl)); (try simp only [Act.put, List.getElem_toArray, List.getElem_cons_zero, List.getElem_cons_succ, List.setIfInBounds_toArray, List.set_cons_zero, List.set_cons_succ]))
    (refine wpAnyH_take (i := 44) (v := ?_) rfl (by kernel_rfl) (by kernel_rfl) (by kernel_rfl) (fun _ _ _ h => h) (Or.inl ⟨by rfl, ?_⟩) (by assumption) ?_; (case' refine_2 => (intro w hSw; go_simp; try with_reducible rfl)); (try simp only [Act.put, List.getElem_toArray, List.getElem_cons_zero, List.getElem_cons_succ, List.setIfInBounds_toArray, List.set_cons_zero, List.set_cons_succ]))
    refine wpAnyH_done (by kernel_rfl) ?_ _
    go_wp2_with (fail)
    go_ret
    exact ⟨rfl, below_step HB.out HW.out⟩
end Go.Proofs.Ytbebkogkeepfoaa.Tree
/- TreeChecks: the law's walk, as the row asks for it. -/
namespace Go.Proofs.Ytbebkogkeepfoaa.Tree
set_option linter.unusedVariables false
open Go.RowKit Go.Proofs.Ytbebkogkeepfoaa.Base Go.Proofs.Ytbebkogkeepfoaa.TlvPlain Go.Proofs.Ytbebkogkeepfoaa.ShaPlain Go.Proofs.Ytbebkogkeepfoaa.Sha Go.Proofs.Ytbebkogkeepfoaa.Com Go.Proofs.Ytbebkogkeepfoaa.Aid Go.Proofs.YtbebkogkeepfoaaW.PrintWords
abbrev DAsk : Kd (List Int × List Int × Int × Int) := Kd.pair (Kd.arr 32 (Kd.int .u8) (by decide)) (Kd.pair (Kd.arr 32 (Kd.int .u8) (by decide)) (Kd.pair (Kd.int .i64) (Kd.int .i64)))
/-- What is asked, its cells. -/
theorem ask_open {w : World} {x : List Int × List Int × Int × Int} {cs : Array Value} (hK : DAsk.K w x cs.toList) : ∃ R L, SumC R x.1 ∧ SumC L x.2.1 ∧ cs = (R ++ (L ++ [Value.int .i64 x.2.2.1, Value.int .i64 x.2.2.2])).toArray := by
  obtain ⟨a, b, e0, h1, a2, b2, e1, h2, a3, b3, e2, h3, h4⟩ := hK
  have g1 := Open.nums_arr h1
  have g2 := Open.nums_arr h2
  refine ⟨a, a2, ⟨g1.symm, h1.1⟩, ⟨g2.symm, h2.1⟩, Array.toList_inj.1 ?_⟩
  rw [e0, e1, e2, show a3 = [Value.int .i64 x.2.2.1] from h3, show b3 = [Value.int .i64 x.2.2.2] from h4]
  rfl
theorem checksWalk (w : World) (x : List Int × List Int × Int × Int) (cs : Array Value) (hK : DAsk.K w x cs.toList) (ok : (∀ y ∈ x.1, (Lit.int .u8 y).wf = true) ∧ (∀ y ∈ x.2.1, (Lit.int .u8 y).wf = true) ∧ (Lit.int .i64 x.2.2.1).wf = true ∧ (Lit.int .i64 x.2.2.2).wf = true)
    (A : Option Addr) (c : Nat) (p : List Sm) (hr : Rs w A p) (hc : p.length ≤ c) (okp : ∀ x ∈ p, ∀ y ∈ x, (Lit.int .u8 y).wf = true) :
    Calls Try.prog 10 #[.agg cs, .slice A p.length c] w fun e w' => e = .returned (.bool true) ∧ Below w.heap.size w w' := by
  obtain ⟨R, L, hR, hL, rfl⟩ := ask_open hK
  by_cases h : 60 < p.length
  · exact checks_long _ _ rfl A p.length c h w
  · exact checks_walk x.1 x.2.1 hR.len hL.len (fun y hy => byte_wf (ok.2.1 y hy)) x.2.2.1 x.2.2.2 p p.length rfl (by omega) (lu_of hr okp) R L hR hL A c hc w hr
end Go.Proofs.Ytbebkogkeepfoaa.Tree
