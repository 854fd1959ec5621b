/- Own and printed texts, laid together. -/
import Derived.Test.YtbebkogkeepfoaaTrYE
/- The document's Up. -/
namespace Go.Proofs.Ytbebkogkeepfoaa.Tree
set_option linter.unusedVariables false
set_option linter.unusedSimpArgs false
open Go.RowKit Go.Proofs.Ytbebkogkeepfoaa.Base Go.Proofs.Ytbebkogkeepfoaa.TlvPlain Go.Proofs.Ytbebkogkeepfoaa.ShaPlain Go.Proofs.Ytbebkogkeepfoaa.Sha Go.Proofs.Ytbebkogkeepfoaa.Com Go.Proofs.Ytbebkogkeepfoaa.Aid Go.Proofs.YtbebkogkeepfoaaW.PrintWords Go.Proofs.YtbebkogkeepfoaaW.PrintLast Go.Proofs.YtbebkogkeepfoaaW.PrintMore
/-- Texts of one's own, in a row of one's own. -/
abbrev DX : Kd (List Int) := Kd.slice 5 (Kd.int .u8)
abbrev Ot (w : World) (base : Nat) (v : Value) (l : List (List Int)) : Prop := Kd.R DX 22 w base (fun _ => True) v l
theorem info_text : (Try.prog.info? 22).map (fun i => (i.zero, i.size, i.bytes)) = some (some (.slice none 0 0), DX.sz, 24) := by kernel_rfl
abbrev RetU (w : World) (d : Sm) (b : Bool) (t : List (List Int)) : Ending → World → Prop := fun e w' => ∃ v, e = .returned (.tuple #[sumV d, v, .bool b]) ∧ Ot w' w.heap.size v t ∧ Below w.heap.size w w'
theorem ob_apart {w : World} {base : Nat} {v u : Value} {x : List Int} {t : List (List Int)} (h : Ob w base v x) (ht : Ot w base u t) : Kd.R (Kd.int .u8) 5 w base (fun k => True ∧ some k ≠ u.ownBlock) v x :=
  Kd.R_apartR h ht (fun q hq => by simp [Kd.E, Kd.int, Kd.scalar] at hq; subst hq; decide)
theorem SumC.blk {cs : List Value} {d : Sm} (h : SumC cs d) : (Try.prog.info? 24).map (·.size) = some cs.length := by rw [h.lenC]; exact info_32
theorem SumC.blkA {cs : List Value} {d : Sm} (h : SumC cs d) : (Try.prog.info? 24).map (·.size) = some cs.toArray.size := by simp [h.lenC, info_32]
theorem SumC.oneA {cs : List Value} {d : Sm} (h : SumC cs d) : cs.toArray.all (·.oneCell') = true := by rw [← h.eq]; exact nums_one _ _
theorem SumC.zsA {cs : List Value} {d : Sm} (h : SumC cs d) : Z32.size = cs.toArray.size := by simp [Z32, nums, h.lenC]
theorem ob_setRow {W : World} {g b : Nat} {v : Value} {t : List Int} {cs D : Array Value} (h : Ob W b v t) (hg : W.heap[g]? = some (.cells cs 24 (0, 0))) : Ob (W.setRow g D) b v t :=
  Kd.R_mono (Kd.R_step (Kd.R_types h hg (fun q hq => by simp [Kd.E, Kd.int, Kd.scalar] at hq; subst hq; decide)) (fun k hk _ => setRow_other W g k D hk.2)) (fun _ _ => trivial)
theorem ot_setRow {W : World} {g b : Nat} {v : Value} {t : List (List Int)} {cs D : Array Value} (h : Ot W b v t) (hg : W.heap[g]? = some (.cells cs 24 (0, 0))) : Ot (W.setRow g D) b v t :=
  Kd.R_mono (Kd.R_step (Kd.R_types h hg (fun q hq => by simp [Kd.E, Kd.slice, Kd.int, Kd.scalar] at hq; rcases hq with rfl | rfl <;> decide)) (fun k hk _ => setRow_other W g k D hk.2)) (fun _ _ => trivial)
theorem atC_grown {W w1 : World} {g : Nat} {cs : List Value} {row : Option Nat} (h : AtC W ⟨g, 0, none⟩ cs) (hg : W.grownBy w1 row) (hne : some g ≠ row) : AtC w1 ⟨g, 0, none⟩ cs := fun j v hj => by
  have h1 := h j v hj
  have hlt := World.block_lt_of_cell? _ _ h1
  rw [add_plain] at h1 hlt ⊢
  unfold World.cell? at h1 ⊢
  dsimp only at h1 hlt ⊢
  rw [hg.block g hlt hne]
  exact h1
theorem atC_setRow {W : World} {g g2 : Nat} {cs : List Value} {D : Array Value} (h : AtC W ⟨g, 0, none⟩ cs) (hne : g ≠ g2) : AtC (W.setRow g2 D) ⟨g, 0, none⟩ cs := fun j v hj => by
  have h1 := h j v hj
  rw [add_plain] at h1 ⊢
  unfold World.cell? at h1 ⊢
  dsimp only at h1 ⊢
  rw [setRow_other W g2 g D hne]
  exact h1
set_option maxHeartbeats 16000000 in
set_option maxRecDepth 100000 in
theorem rup_nil_c (leaf : Sm) (hl : leaf.length = 32) (i n : Int) (hn : n ≠ 1) (A : Option Addr) (c : Nat) (w : World) :
    Calls Try.prog 33 #[sumV leaf, .int .i64 i, .int .i64 n, .slice A 0 c] w (RetU w Z false []) := by
  obtain ⟨L, hL⟩ := sumC leaf hl
  have HL := Aside0.mk hL
  have HG := Aside0.mk (show AtC ((w.alloc (.cells L.toArray 24)).alloc (.cells Z32 24)) ⟨w.heap.size, 0, none⟩ L from atC_blk (fr := (0, 0)) (T := 24) (blk_alloc (blk_new w (.cells L.toArray 24)) _))
  have HZ := Aside0.mk (show ((w.alloc (.cells L.toArray 24)).alloc (.cells Z32 24)).heap[w.heap.size + 1]? = some (.cells Z32 24 (0, 0)) from second_new' _ _ _)
  have HB := Aside0.mk (show Below w.heap.size w ((w.alloc (.cells L.toArray 24)).alloc (.cells Z32 24)) from below_alloc (below_alloc (Below.refl _ _) _) _)
  have HIF := Aside0.mk (show (Try.prog.info? 24).map (·.size) = some Z32.size from info_32)
  have HON := Aside0.mk (show Z32.all (·.oneCell') = true from nums_one _ _)
  have d1 : (n == 1) = false := by simp [hn]
  show Calls _ _ _ _ (fun e w' => ∃ v, e = .returned (.tuple #[.agg Z32, v, .bool false]) ∧ Ot w' w.heap.size v [] ∧ Below w.heap.size w w')
  rw [hL.v]
  clear hL hl hn
  go_enter Try.func33, Try.ntmps33
  go_wp2_with ((with_reducible refine gate_store (t := 24) (p := 8) (v := .tmp 35) rfl ?_); refine wpList_store_row rfl 24 (.tmp 8) (.tmp 35) rfl (w.heap.size + 1) Z32 rfl rfl 24 Z32 HZ.out HIF.out rfl HON.out ?_)
  have HSR := setRow_heap _ (w.heap.size + 1) Z32 Z32 _ _ HZ.out
  refine bodyPost_ret (results_ctt rfl _ _ (w.heap.size + 1) 24 Z32 (0, 0) _ rfl HSR Try.underlying24 rfl HIF.out) rfl ?_
  exact ⟨_, rfl, Kd.R_nil _ _ _ _ _, below_setRow HB.out (Nat.le_succ _) Z32⟩
set_option maxHeartbeats 16000000 in
set_option maxRecDepth 100000 in
theorem rup_one_c (leaf : Sm) (hl : leaf.length = 32) (hu : U8' leaf) (i : Int) (A : Option Addr) (m c : Nat) (w : World) :
    Calls Try.prog 33 #[sumV leaf, .int .i64 i, .int .i64 1, .slice A m c] w (RetU w (leafH leaf) (decide (m = 0)) [leafX leaf]) := by
  obtain ⟨L, hL⟩ := sumC leaf hl
  have HL := Aside0.mk hL
  have HG := Aside0.mk (show AtC ((w.alloc (.cells L.toArray 24)).alloc (.cells Z32 24)) ⟨w.heap.size, 0, none⟩ L from atC_blk (fr := (0, 0)) (T := 24) (blk_alloc (blk_new w (.cells L.toArray 24)) _))
  have HZ := Aside0.mk (show ((w.alloc (.cells L.toArray 24)).alloc (.cells Z32 24)).heap[w.heap.size + 1]? = some (.cells Z32 24 (0, 0)) from second_new' _ _ _)
  have HB := Aside0.mk (show Below w.heap.size w ((w.alloc (.cells L.toArray 24)).alloc (.cells Z32 24)) from below_alloc (below_alloc (Below.refl _ _) _) _)
  obtain ⟨D, hD⟩ := sumC (leafH leaf) (leafH_len leaf)
  have HD := Aside0.mk hD
  have HIL := Aside0.mk hL.blk
  have HT := Aside0.mk (rleafx_c leaf hl)
  have HS := Aside0.mk (rof_o (leafX leaf) (leafX_u8 hu) (by rw [leafX_len hl]; decide))
  obtain ⟨bb, hbb⟩ : ∃ bb, decide (m = 0) = bb := ⟨_, rfl⟩
  have hb0 : ((m : Int) == 0) = bb := by rw [← hbb, Bool.eq_iff_iff, beq_iff_eq, decide_eq_true_eq]; omega
  unfold RetU
  unfold MakesU at HT
  unfold Ret at HS
  rw [hbb]
  rw [hL.v] at HT ⊢
  rw [← leafH_eq, hD.v] at HS
  rw [hD.v]
  clear hL hD hl hu hbb
  go_enter Try.func33, Try.ntmps33
  go_wp2_with (fail)
  obtain ⟨W, hW⟩ : ∃ W, ((w.alloc (.cells L.toArray 24)).alloc (.cells Z32 24)) = W := ⟨_, rfl⟩
  rw [hW] at HG HZ HB
  rw [show ((w.alloc (.cells L.toArray 24)).alloc (.cells #[.int .u8 0, .int .u8 0, .int .u8 0, .int .u8 0, .int .u8 0, .int .u8 0, .int .u8 0, .int .u8 0, .int .u8 0, .int .u8 0, .int .u8 0, .int .u8 0, .int .u8 0, .int .u8 0, .int .u8 0, .int .u8 0, .int .u8 0, .int .u8 0, .int .u8 0, .int .u8 0, .int .u8 0, .int .u8 0, .int .u8 0, .int .u8 0, .int .u8 0, .int .u8 0, .int .u8 0, .int .u8 0, .int .u8 0, .int .u8 0, .int .u8 0, .int .u8 0] 24)) = W from hW]
  clear hW
  have hu24 := Try.underlying24
  refine wp_region_held_drew (S := fun w' => AtC w' ⟨w.heap.size, 0, none⟩ L) (by kernel_rfl) HG.out (fun hHeld => ?_)
  (refine wpAnyH_take (i := 0) rfl (by kernel_rfl) (by kernel_rfl) (by kernel_rfl) (fun _ _ _ h => h) (yieldsIf_load_at (by rfl) _ _ rfl ⟨w.heap.size, 0, none⟩ rfl L _ (fun _ h => h) (by assumption) rfl HIL.out) (by assumption) ?_; (try simp only [Act.put, List.getElem_toArray, List.getElem_cons_zero, List.getElem_cons_succ, List.setIfInBounds_toArray, List.set_cons_zero, List.set_cons_succ]))
  (refine wpAnyH_take (i := 3) rfl (by kernel_rfl) (by kernel_rfl) (by kernel_rfl) (fun _ _ _ h => h) (yieldsIf_load_at (by rfl) _ _ rfl ⟨w.heap.size, 0, none⟩ rfl L _ (fun _ h => h) (by assumption) rfl HIL.out) (by assumption) ?_; (try simp only [Act.put, List.getElem_toArray, List.getElem_cons_zero, List.getElem_cons_succ, List.setIfInBounds_toArray, List.set_cons_zero, List.set_cons_succ]))
  (refine wpAnyH_take (i := 6) (v := ?_) rfl (by kernel_rfl) (by kernel_rfl) (by kernel_rfl) (fun _ _ _ h => h) (Or.inl ⟨by rfl, ?_⟩) (by assumption) ?_; (case' refine_2 => (intro w hSw; go_simp; try with_reducible rfl)); (try simp only [Act.put, List.getElem_toArray, List.getElem_cons_zero, List.getElem_cons_succ, List.setIfInBounds_toArray, List.set_cons_zero, List.set_cons_succ]))
  (refine wpAnyH_take (i := 7) (v := ?_) rfl (by kernel_rfl) (by kernel_rfl) (by kernel_rfl) (fun _ _ _ h => h) (Or.inl ⟨by rfl, ?_⟩) (by assumption) ?_; (case' refine_2 => (intro w hSw; go_simp; try with_reducible rfl)); (try simp only [Act.put, List.getElem_toArray, List.getElem_cons_zero, List.getElem_cons_succ, List.setIfInBounds_toArray, List.set_cons_zero, List.set_cons_succ]))
  (refine wpAnyH_take (i := 8) (v := ?_) rfl (by kernel_rfl) (by kernel_rfl) (by kernel_rfl) (fun _ _ _ h => h) (Or.inl ⟨by rfl, ?_⟩) (by assumption) ?_; (case' refine_2 => (intro w hSw; go_simp; try with_reducible rfl)); (try simp only [Act.put, List.getElem_toArray, List.getElem_cons_zero, List.getElem_cons_succ, List.setIfInBounds_toArray, List.set_cons_zero, List.set_cons_succ]))
  (refine wpAnyH_ready (rs := [1]) (by kernel_rfl) (by simp) (AllReadyH.cons rfl (fun K hK => ?_) AllReadyH.nil); go_simp)
  refine (HT.out _).mono ?_
  rintro e w3 ⟨v, rfl, ho, hb0⟩
  have hb := below_drew_of hb0
  have HZ3 := Aside0.mk (blk_below HZ.out hb)
  have HB3 := Aside0.mk (below_step HB.out hb)
  have HG3 := Aside0.mk (HG.out.below hb)
  have HS3 := Aside0.mk (HS.out _ v w3 ho)
  clear hb hb0 ho
  (refine Shut.out hK _ _ HG3.out (fun hHeld => ?_); clear hK K; (try simp only [Act.put, List.getElem_toArray, List.getElem_cons_zero, List.getElem_cons_succ, List.setIfInBounds_toArray, List.set_cons_zero, List.set_cons_succ]))
  (refine wpAnyH_ready (rs := [2]) (by kernel_rfl) (by simp) (AllReadyH.cons rfl (fun K hK => ?_) AllReadyH.nil); go_simp)
  refine HS3.out.mono ?_
  rintro e w4 ⟨rfl, hb⟩
  have HZ4 := Aside0.mk (blk_below HZ3.out hb)
  have HB4 := Aside0.mk (below_step HB3.out hb)
  have HG4 := Aside0.mk (HG3.out.below hb)
  clear hb
  (refine Shut.out hK _ _ HG4.out (fun hHeld => ?_); clear hK K; (try simp only [Act.put, List.getElem_toArray, List.getElem_cons_zero, List.getElem_cons_succ, List.setIfInBounds_toArray, List.set_cons_zero, List.set_cons_succ]))
  (refine wpAnyH_ready (rs := [4]) (by kernel_rfl) (by simp) (AllReadyH.cons rfl (fun K hK => ?_) AllReadyH.nil); go_simp)
  refine (HT.out _).mono ?_
  rintro e w5 ⟨v2, rfl, ho, hb⟩
  have HZ5 := Aside0.mk (blk_below HZ4.out hb)
  have HB5 := Aside0.mk (below_step HB4.out hb)
  have HG5 := Aside0.mk (HG4.out.below hb)
  obtain ⟨A2, c2, rfl⟩ := Kd.R_slice ho
  have HO5 := Aside0.mk (Kd.R_lower ho HB4.out.size)
  clear hb ho
  (refine Shut.out hK _ _ HG5.out (fun hHeld => ?_); clear hK K; (try simp only [Act.put, List.getElem_toArray, List.getElem_cons_zero, List.getElem_cons_succ, List.setIfInBounds_toArray, List.set_cons_zero, List.set_cons_succ]))
  refine wpAnyH_ready (rs := [5, 9]) (by kernel_rfl) (by simp) (AllReadyH.cons rfl (fun K hK => ?_) (AllReadyH.cons rfl (fun K hK => ?_) AllReadyH.nil))
  · refine Kd.R_lit_step DX (w0 := w) w.heap.size 22 rfl (N := 28) rfl (xs := [leafX leaf]) (inner := [.slice A2 (leafX leaf).length c2]) (ok := fun _ => True) (okp := fun _ => True) (by first | (go_simp; done) | (go_simp; rfl)) ⟨rfl, fun j p hj => ?_⟩ (fun _ hk => hk) trivial HB5.out HB5.out.size (by simp) ?_
    · match j, hj with
      | 0, hj => cases hj; exact ⟨_, rfl, HO5.out⟩
    intro v6 w6 ho hb hg hat
    have HO6 := Aside0.mk (show Ot w6 w.heap.size v6 [leafX leaf] from ho)
    have HB6 := Aside0.mk hb
    have HZ6 := Aside0.mk (blk_grown HZ5.out hg (by simp))
    have HG6 := Aside0.mk (show AtC w6 ⟨w.heap.size, 0, none⟩ L from atC_grown HG5.out hg (fun h => by cases h))
    clear ho hb hg hat
    (refine Shut.out hK _ _ HG6.out (fun hHeld => ?_); clear hK K; (try simp only [Act.put, List.getElem_toArray, List.getElem_cons_zero, List.getElem_cons_succ, List.setIfInBounds_toArray, List.set_cons_zero, List.set_cons_succ]))
    refine wpAnyH_ready (rs := [9]) (by kernel_rfl) (by simp) (AllReadyH.cons rfl (fun K hK => ?_) AllReadyH.nil)
    rw [if_pos (by rfl)]
    refine wp_store_row 24 (.tmp 8) (.tmp 25) rfl (w.heap.size + 1) D.toArray rfl rfl 24 Z32 HZ6.out HD.out.blkA HD.out.zsA HD.out.oneA ?_
    have HG7 := Aside0.mk (show AtC (w6.setRow (w.heap.size + 1) D.toArray) ⟨w.heap.size, 0, none⟩ L from atC_setRow HG6.out (by simp))
    have HSR := Aside0.mk (setRow_heap w6 (w.heap.size + 1) Z32 D.toArray _ _ HZ6.out)
    have HOF := Aside0.mk (ot_setRow (D := D.toArray) HO6.out HZ6.out)
    have HBF := Aside0.mk (below_setRow HB6.out (Nat.le_succ _) D.toArray)
    (refine Shut.out hK _ _ HG7.out (fun hHeld => ?_); clear hK K; (try simp only [Act.put, List.getElem_toArray, List.getElem_cons_zero, List.getElem_cons_succ, List.setIfInBounds_toArray, List.set_cons_zero, List.set_cons_succ]))
    (refine wpAnyH_take (i := 10) (v := ?_) rfl (by kernel_rfl) (by kernel_rfl) (by kernel_rfl) (fun _ _ _ h => h) (Or.inl ⟨by rfl, ?_⟩) (by assumption) ?_; (case' refine_2 => (intro w hSw; go_simp; try with_reducible rfl)); (try simp only [Act.put, List.getElem_toArray, List.getElem_cons_zero, List.getElem_cons_succ, List.setIfInBounds_toArray, List.set_cons_zero, List.set_cons_succ]))
    (refine wpAnyH_take (i := 11) (v := ?_) rfl (by kernel_rfl) (by kernel_rfl) (by kernel_rfl) (fun _ _ _ h => h) (Or.inl ⟨by rfl, ?_⟩) (by assumption) ?_; (case' refine_2 => (intro w hSw; go_simp; try with_reducible rfl)); (try simp only [Act.put, List.getElem_toArray, List.getElem_cons_zero, List.getElem_cons_succ, List.setIfInBounds_toArray, List.set_cons_zero, List.set_cons_succ]))
    refine wpAnyH_done (by kernel_rfl) ?_ _
    go_wp2_with (fail)
    refine bodyPost_ret (results_ctt rfl _ _ (w.heap.size + 1) 24 D.toArray (0, 0) _ rfl HSR.out Try.underlying24 rfl HD.out.blkA) rfl ?_
    exact ⟨_, rfl, HOF.out, HBF.out⟩
  · rw [if_pos (by rfl)]
    refine wp_store_row 24 (.tmp 8) (.tmp 25) rfl (w.heap.size + 1) D.toArray rfl rfl 24 Z32 HZ5.out HD.out.blkA HD.out.zsA HD.out.oneA ?_
    have HG6 := Aside0.mk (show AtC (w5.setRow (w.heap.size + 1) D.toArray) ⟨w.heap.size, 0, none⟩ L from atC_setRow HG5.out (by simp))
    have HS5 := Aside0.mk (setRow_heap w5 (w.heap.size + 1) Z32 D.toArray _ _ HZ5.out)
    have HO6b := Aside0.mk (ob_setRow (D := D.toArray) HO5.out HZ5.out)
    have HB6b := Aside0.mk (below_setRow HB5.out (Nat.le_succ _) D.toArray)
    (refine Shut.out hK _ _ HG6.out (fun hHeld => ?_); clear hK K; (try simp only [Act.put, List.getElem_toArray, List.getElem_cons_zero, List.getElem_cons_succ, List.setIfInBounds_toArray, List.set_cons_zero, List.set_cons_succ]))
    refine wpAnyH_ready (rs := [5]) (by kernel_rfl) (by simp) (AllReadyH.cons rfl (fun K hK => ?_) AllReadyH.nil)
    refine Kd.R_lit_step DX (w0 := w) w.heap.size 22 rfl (N := 28) rfl (xs := [leafX leaf]) (inner := [.slice A2 (leafX leaf).length c2]) (ok := fun _ => True) (okp := fun _ => True) (by first | (go_simp; done) | (go_simp; rfl)) ⟨rfl, fun j p hj => ?_⟩ (fun _ hk => hk) trivial HB6b.out HB6b.out.size (by simp) ?_
    · match j, hj with
      | 0, hj => cases hj; exact ⟨_, rfl, HO6b.out⟩
    intro v6 w6 ho hb hg hat
    have HO6 := Aside0.mk (show Ot w6 w.heap.size v6 [leafX leaf] from ho)
    have HB6 := Aside0.mk hb
    have HSR := Aside0.mk (blk_grown HS5.out hg (by simp))
    have HG7 := Aside0.mk (show AtC w6 ⟨w.heap.size, 0, none⟩ L from atC_grown HG6.out hg (fun h => by cases h))
    have HOF := HO6
    have HBF := HB6
    clear ho hb hg hat
    (refine Shut.out hK _ _ HG7.out (fun hHeld => ?_); clear hK K; (try simp only [Act.put, List.getElem_toArray, List.getElem_cons_zero, List.getElem_cons_succ, List.setIfInBounds_toArray, List.set_cons_zero, List.set_cons_succ]))
    (refine wpAnyH_take (i := 10) (v := ?_) rfl (by kernel_rfl) (by kernel_rfl) (by kernel_rfl) (fun _ _ _ h => h) (Or.inl ⟨by rfl, ?_⟩) (by assumption) ?_; (case' refine_2 => (intro w hSw; go_simp; try with_reducible rfl)); (try simp only [Act.put, List.getElem_toArray, List.getElem_cons_zero, List.getElem_cons_succ, List.setIfInBounds_toArray, List.set_cons_zero, List.set_cons_succ]))
    (refine wpAnyH_take (i := 11) (v := ?_) rfl (by kernel_rfl) (by kernel_rfl) (by kernel_rfl) (fun _ _ _ h => h) (Or.inl ⟨by rfl, ?_⟩) (by assumption) ?_; (case' refine_2 => (intro w hSw; go_simp; try with_reducible rfl)); (try simp only [Act.put, List.getElem_toArray, List.getElem_cons_zero, List.getElem_cons_succ, List.setIfInBounds_toArray, List.set_cons_zero, List.set_cons_succ]))
    refine wpAnyH_done (by kernel_rfl) ?_ _
    go_wp2_with (fail)
    refine bodyPost_ret (results_ctt rfl _ _ (w.heap.size + 1) 24 D.toArray (0, 0) _ rfl HSR.out Try.underlying24 rfl HD.out.blkA) rfl ?_
    exact ⟨_, rfl, HOF.out, HBF.out⟩
theorem atC_lt {W : World} {g : Nat} {cs : List Value} (h : AtC W ⟨g, 0, none⟩ cs) (hl : cs.length = 32) : g < W.heap.size := by
  have h1 := h 0 (cs[0]'(by omega)) (List.getElem?_eq_getElem (by omega))
  exact World.block_lt_of_cell? _ _ h1
set_option maxHeartbeats 16000000 in
set_option maxRecDepth 100000 in
theorem rup_left_c (leaf : Sm) (hl : leaf.length = 32) (d x : Sm) (hd : d.length = 32) (hx : x.length = 32) (hdu : U8' d) (hxu : U8' x) (b : Bool) (tx : List (List Int)) (htl : tx.length ≤ 1000) (i n k : Nat) (hk2 : hlf n = k) (h2 : 2 ≤ n) (hm : n ≤ 1048576) (hik : i < k) (hin : i < n) (ad : Addr) (m c : Nat) (hc : m + 1 ≤ c) (hmm : m ≤ 1000) (w : World) (hat : AtC w (ad.add (m * 32)) (nums .u8 x))
    (hU : ∀ W, Below w.heap.size w W → Calls Try.prog 33 #[sumV leaf, .int .i64 (i : Int), .int .i64 (k : Int), .slice (some ad) m c] W (RetU W d b tx)) :
    Calls Try.prog 33 #[sumV leaf, .int .i64 (i : Int), .int .i64 (n : Int), .slice (some ad) (m + 1) c] w (RetU w (nodeH d x) b (tx ++ [nodeX d x])) := by
  obtain ⟨L, hL⟩ := sumC leaf hl
  have HL := Aside0.mk hL
  have HG := Aside0.mk (show AtC ((w.alloc (.cells L.toArray 24)).alloc (.cells Z32 24)) ⟨w.heap.size, 0, none⟩ L from atC_blk (fr := (0, 0)) (T := 24) (blk_alloc (blk_new w (.cells L.toArray 24)) _))
  have HZ := Aside0.mk (show ((w.alloc (.cells L.toArray 24)).alloc (.cells Z32 24)).heap[w.heap.size + 1]? = some (.cells Z32 24 (0, 0)) from second_new' _ _ _)
  have HB := Aside0.mk (show Below w.heap.size w ((w.alloc (.cells L.toArray 24)).alloc (.cells Z32 24)) from below_alloc (below_alloc (Below.refl _ _) _) _)
  obtain ⟨E, hE⟩ := sumC (nodeH d x) (nodeH_len _ _)
  obtain ⟨X, hX⟩ := sumC x hx
  obtain ⟨Y, hY⟩ := sumC d hd
  have HE := Aside0.mk hE
  have HX := Aside0.mk hX
  have HYC := Aside0.mk hY
  have HIL := Aside0.mk hL.blk
  have HIX := Aside0.mk hX.blk
  have HIY := Aside0.mk hY.blk
  have HT := Aside0.mk (rnodex_c d x hd hx)
  have HS := Aside0.mk (rof_o (nodeX d x) (nodeX_u8 hdu hxu) (by rw [nodeX_len hd hx]; decide))
  rw [hX.eq] at hat
  have HAT := Aside0.mk hat
  have HTL := Aside0.mk htl
  have hk := hlf_lt h2
  have HKB := Aside0.mk (fun W => half_c n h2 (by omega) W)
  rw [hk2] at HKB hk
  unfold MakesU at HT
  unfold Ret at HS
  unfold RetU at hU ⊢
  rw [hX.v, hY.v] at HT
  rw [← nodeH_eq, hE.v] at HS
  rw [hL.v] at hU ⊢
  rw [hY.v] at hU
  rw [hE.v]
  have HU := Aside0.mk hU
  have HC1 := Aside0.mk (cut_a (some ad) (m + 1) c m (by omega) hc)
  have d1 : ((n : Int) == 1) = false := by simp; omega
  have d2 : (((m + 1 : Nat) : Int) == 0) = false := by simp; omega
  have d2' : ((m : Int) + 1 == 0) = false := by simp; omega
  have d3 : decide ((i : Int) < (k : Int)) = true := by simp; omega
  have d4 : decide (i < k) = true := by simp; omega
  have q1 : ((m : Int) < (m : Int) + 1) = True := eq_true (by omega)
  have e1 : IntKind.i64.wrap (m : Int) = (m : Int) := by rw [i64_w, w64 (by omega) (by omega)]
  have HE1 := Aside0.mk (show IntKind.i64.wrap ((i : Int) - (k : Int)) = (i : Int) - (k : Int) by rw [i64_w]; exact w64 (by omega) (by omega))
  have HE2 := Aside0.mk (show IntKind.i64.wrap ((n : Int) - (k : Int)) = (n : Int) - (k : Int) by rw [i64_w]; exact w64 (by omega) (by omega))
  have HNUM := Aside0.mk (And.intro hc (And.intro hin (And.intro hm (And.intro hmm (And.intro hk h2)))))
  clear hE hX hY hL hU hl hd hx hdu hxu hk2 hat htl hk hc hin hm hmm h2 hik
  go_enter Try.func33, Try.ntmps33
  go_wp2_with (fail)
  obtain ⟨W, hW⟩ : ∃ W, ((w.alloc (.cells L.toArray 24)).alloc (.cells Z32 24)) = W := ⟨_, rfl⟩
  rw [hW] at HG HZ HB
  rw [show ((w.alloc (.cells L.toArray 24)).alloc (.cells #[.int .u8 0, .int .u8 0, .int .u8 0, .int .u8 0, .int .u8 0, .int .u8 0, .int .u8 0, .int .u8 0, .int .u8 0, .int .u8 0, .int .u8 0, .int .u8 0, .int .u8 0, .int .u8 0, .int .u8 0, .int .u8 0, .int .u8 0, .int .u8 0, .int .u8 0, .int .u8 0, .int .u8 0, .int .u8 0, .int .u8 0, .int .u8 0, .int .u8 0, .int .u8 0, .int .u8 0, .int .u8 0, .int .u8 0, .int .u8 0, .int .u8 0, .int .u8 0] 24)) = W from hW]
  clear hW
  have hu24 := Try.underlying24
  have HAX := Aside0.mk (HAT.out.below HB.out)
  refine wp_region_held_drew (S := fun w' => AtC w' (ad.add (m * 32)) X) (by kernel_rfl) HAX.out (fun hHeld => ?_)
  (refine wpAnyH_take (i := 0) (v := ?_) rfl (by kernel_rfl) (by kernel_rfl) (by kernel_rfl) (fun _ _ _ h => h) (Or.inl ⟨by rfl, ?_⟩) (by assumption) ?_; (case' refine_2 => (intro w hSw; go_simp; try with_reducible rfl)); (try simp only [Act.put, List.getElem_toArray, List.getElem_cons_zero, List.getElem_cons_succ, List.setIfInBounds_toArray, List.set_cons_zero, List.set_cons_succ]))
  (refine wpAnyH_take (i := 2) (v := ?_) rfl (by kernel_rfl) (by kernel_rfl) (by kernel_rfl) (fun _ _ _ h => h) (Or.inl ⟨by rfl, ?_⟩) (by assumption) ?_; (case' refine_2 => (intro w hSw; go_simp; try with_reducible rfl)); (try simp only [Act.put, List.getElem_toArray, List.getElem_cons_zero, List.getElem_cons_succ, List.setIfInBounds_toArray, List.set_cons_zero, List.set_cons_succ]))
  (refine wpAnyH_take (i := 3) (v := ?_) rfl (by kernel_rfl) (by kernel_rfl) (by kernel_rfl) (fun _ _ _ h => h) (Or.inl ⟨by rfl, ?_⟩) (by assumption) ?_; (case' refine_2 => (intro w hSw; go_simp; try with_reducible rfl)); (try simp only [Act.put, List.getElem_toArray, List.getElem_cons_zero, List.getElem_cons_succ, List.setIfInBounds_toArray, List.set_cons_zero, List.set_cons_succ]))
  (refine wpAnyH_take (i := 4) (v := ?_) rfl (by kernel_rfl) (by kernel_rfl) (by kernel_rfl) (fun _ _ _ h => h) (Or.inl ⟨by rfl, ?_⟩) (by assumption) ?_; (case' refine_2 => (intro w hSw; go_simp; try with_reducible rfl)); (try simp only [Act.put, List.getElem_toArray, List.getElem_cons_zero, List.getElem_cons_succ, List.setIfInBounds_toArray, List.set_cons_zero, List.set_cons_succ]))
  (refine wpAnyH_take (i := 5) (v := ?_) rfl (by kernel_rfl) (by kernel_rfl) (by kernel_rfl) (fun _ _ _ h => h) (Or.inl ⟨by rfl, ?_⟩) (by assumption) ?_; (case' refine_2 => (intro w hSw; go_simp; try with_reducible rfl)); (try simp only [Act.put, List.getElem_toArray, List.getElem_cons_zero, List.getElem_cons_succ, List.setIfInBounds_toArray, List.set_cons_zero, List.set_cons_succ]))
  (refine wpAnyH_take (i := 6) (v := ?_) rfl (by kernel_rfl) (by kernel_rfl) (by kernel_rfl) (fun _ _ _ h => h) (Or.inl ⟨by rfl, ?_⟩) (by assumption) ?_; (case' refine_2 => (intro w hSw; go_simp; try with_reducible rfl)); (try simp only [Act.put, List.getElem_toArray, List.getElem_cons_zero, List.getElem_cons_succ, List.setIfInBounds_toArray, List.set_cons_zero, List.set_cons_succ]))
  (refine wpAnyH_take (i := 7) rfl (by kernel_rfl) (by kernel_rfl) (by kernel_rfl) (fun _ _ _ h => h) (yieldsIf_load_at (by rfl) _ _ rfl (ad.add (m * 32)) rfl X _ (fun _ h => h) (by assumption) rfl HIX.out) (by assumption) ?_; (try simp only [Act.put, List.getElem_toArray, List.getElem_cons_zero, List.getElem_cons_succ, List.setIfInBounds_toArray, List.set_cons_zero, List.set_cons_succ]))
  refine wpAnyH_ready (rs := [1, 8]) (by kernel_rfl) (by simp) (AllReadyH.cons rfl (fun K hK => ?_) (AllReadyH.cons rfl (fun K hK => ?_) AllReadyH.nil))
  · go_simp
    refine (HKB.out _).mono ?_
    rintro e w2 ⟨rfl, hd_⟩
    have hb := below_drew_of (Drawn0.below hd_)
    have x_HZ := Aside0.mk (blk_below HZ.out hb)
    have x_HG := Aside0.mk (HG.out.below hb)
    have x_HB := Aside0.mk (below_step HB.out hb)
    have x_HAX := Aside0.mk (HAX.out.below hb)
    clear HZ HG HB HAX
    have HZ := x_HZ
    have HG := x_HG
    have HB := x_HB
    have HAX := x_HAX
    clear x_HZ x_HG x_HB x_HAX
    clear hb hd_
    (refine Shut.out hK _ _ HAX.out (fun hHeld => ?_); clear hK K; (try simp only [Act.put, List.getElem_toArray, List.getElem_cons_zero, List.getElem_cons_succ, List.setIfInBounds_toArray, List.set_cons_zero, List.set_cons_succ]))
    refine wpAnyH_ready (rs := [8]) (by kernel_rfl) (by simp) (AllReadyH.cons rfl (fun K hK => ?_) AllReadyH.nil)
    go_simp
    have HN := Aside0.mk (show (w2.alloc (.cells Z32 24)).heap[w2.heap.size]? = some (.cells Z32 24 (0, 0)) from blk_new w2 _)
    have hb := below_alloc (Below.refl w2.heap.size w2) (.cells Z32 24)
    have HQ := Aside0.mk (show w.heap.size + 1 < w2.heap.size from (Array.getElem?_eq_some_iff.1 HZ.out).1)
    have x_HZ := Aside0.mk (blk_below HZ.out hb)
    have x_HG := Aside0.mk (HG.out.below hb)
    have x_HB := Aside0.mk (below_step HB.out hb)
    have x_HAX := Aside0.mk (HAX.out.below hb)
    clear HZ HG HB HAX
    have HZ := x_HZ
    have HG := x_HG
    have HB := x_HB
    have HAX := x_HAX
    clear x_HZ x_HG x_HB x_HAX
    clear hb
    obtain ⟨w4, hw4⟩ : ∃ W', w2.alloc (.cells Z32 24) = W' := ⟨_, rfl⟩
    rw [hw4] at HN HZ HG HB HAX
    rw [show w2.alloc (.cells #[.int .u8 0, .int .u8 0, .int .u8 0, .int .u8 0, .int .u8 0, .int .u8 0, .int .u8 0, .int .u8 0, .int .u8 0, .int .u8 0, .int .u8 0, .int .u8 0, .int .u8 0, .int .u8 0, .int .u8 0, .int .u8 0, .int .u8 0, .int .u8 0, .int .u8 0, .int .u8 0, .int .u8 0, .int .u8 0, .int .u8 0, .int .u8 0, .int .u8 0, .int .u8 0, .int .u8 0, .int .u8 0, .int .u8 0, .int .u8 0, .int .u8 0, .int .u8 0] 24) = w4 from hw4]
    clear hw4
    obtain ⟨g12, hg12⟩ : ∃ g, w2.heap.size = g := ⟨_, rfl⟩
    rw [hg12] at HN HQ ⊢
    clear hg12
    (refine Shut.out hK _ _ HAX.out (fun hHeld => ?_); clear hK K; (try simp only [Act.put, List.getElem_toArray, List.getElem_cons_zero, List.getElem_cons_succ, List.setIfInBounds_toArray, List.set_cons_zero, List.set_cons_succ]))
    (refine wpAnyH_take (i := 9) (v := ?_) rfl (by kernel_rfl) (by kernel_rfl) (by kernel_rfl) (fun _ _ _ h => h) (Or.inl ⟨by rfl, ?_⟩) (by assumption) ?_; (case' refine_2 => (intro w hSw; go_simp; try with_reducible rfl)); (try simp only [Act.put, List.getElem_toArray, List.getElem_cons_zero, List.getElem_cons_succ, List.setIfInBounds_toArray, List.set_cons_zero, List.set_cons_succ]))
    refine wpAnyH_ready (rs := [10]) (by kernel_rfl) (by simp) (AllReadyH.cons rfl (fun K hK => ?_) AllReadyH.nil)
    rw [if_pos (by rfl)]
    refine wp_store_row 24 (.tmp 12) (.tmp 43) rfl g12 X.toArray rfl rfl 24 Z32 HN.out HX.out.blkA HX.out.zsA HX.out.oneA ?_
    have H12 := Aside0.mk (atC_blk (setRow_heap w4 g12 Z32 X.toArray _ _ HN.out))
    have hne1 : w.heap.size + 1 ≠ g12 := by have := HQ.out; omega
    have hne2 : w.heap.size ≠ g12 := by have := HQ.out; omega
    have H12L := Aside0.mk (show w.heap.size + 1 < g12 from HQ.out)
    have x_HZ := Aside0.mk ((setRow_other w4 g12 (w.heap.size + 1) X.toArray hne1).trans HZ.out)
    have x_HG := Aside0.mk (atC_setRow (D := X.toArray) HG.out hne2)
    have x_HB := Aside0.mk (below_setRow HB.out (show w.heap.size ≤ g12 from by have := HQ.out; omega) X.toArray)
    clear HZ HG HB
    have HZ := x_HZ
    have HG := x_HG
    have HB := x_HB
    clear x_HZ x_HG x_HB
    have x_HAX := Aside0.mk (HAT.out.below HB.out)
    clear HAX HN HQ hne1 hne2
    have HAX := x_HAX
    clear x_HAX
    obtain ⟨w5, hw5⟩ : ∃ W', w4.setRow g12 X.toArray = W' := ⟨_, rfl⟩
    rw [hw5] at H12 HZ HG HB HAX ⊢
    clear hw5
    (refine Shut.out hK _ _ HAX.out (fun hHeld => ?_); clear hK K; (try simp only [Act.put, List.getElem_toArray, List.getElem_cons_zero, List.getElem_cons_succ, List.setIfInBounds_toArray, List.set_cons_zero, List.set_cons_succ]))
    refine wpAnyH_done (by kernel_rfl) ?_ _
    go_wp2_with (fail)
    have hq1 := HC1.out
    refine wp_region_held_drew (S := fun w' => AtC w' ⟨w.heap.size, 0, none⟩ L) (by kernel_rfl) HG.out (fun hHeld => ?_)
    (refine wpAnyH_take (i := 0) rfl (by kernel_rfl) (by kernel_rfl) (by kernel_rfl) (fun _ _ _ h => h) (yieldsIf_load_at (by rfl) _ _ rfl ⟨w.heap.size, 0, none⟩ rfl L _ (fun _ h => h) (by assumption) rfl HIL.out) (by assumption) ?_; (try simp only [Act.put, List.getElem_toArray, List.getElem_cons_zero, List.getElem_cons_succ, List.setIfInBounds_toArray, List.set_cons_zero, List.set_cons_succ]))
    (refine wpAnyH_take (i := 1) (v := ?_) rfl (by kernel_rfl) (by kernel_rfl) (by kernel_rfl) (fun _ _ _ h => h) (Or.inl ⟨by rfl, ?_⟩) (by assumption) ?_; (case' refine_2 => (intro w hSw; go_simp; try with_reducible rfl)); (try simp only [Act.put, List.getElem_toArray, List.getElem_cons_zero, List.getElem_cons_succ, List.setIfInBounds_toArray, List.set_cons_zero, List.set_cons_succ]))
    (refine wpAnyH_take (i := 2) (v := ?_) rfl (by kernel_rfl) (by kernel_rfl) (by kernel_rfl) (fun _ _ _ h => h) (Or.inl ⟨by rfl, ?_⟩) (by assumption) ?_; (case' refine_2 => (intro w hSw; go_simp; try with_reducible rfl)); (try simp only [Act.put, List.getElem_toArray, List.getElem_cons_zero, List.getElem_cons_succ, List.setIfInBounds_toArray, List.set_cons_zero, List.set_cons_succ]))
    (refine wpAnyH_take (i := 3) (v := ?_) rfl (by kernel_rfl) (by kernel_rfl) (by kernel_rfl) (fun _ _ _ h => h) (Or.inl ⟨by rfl, ?_⟩) (by assumption) ?_; (case' refine_2 => (intro w hSw; go_simp; try with_reducible rfl)); (try simp only [Act.put, List.getElem_toArray, List.getElem_cons_zero, List.getElem_cons_succ, List.setIfInBounds_toArray, List.set_cons_zero, List.set_cons_succ]))
    (refine wpAnyH_take (i := 4) (v := ?_) rfl (by kernel_rfl) (by kernel_rfl) (by kernel_rfl) (fun _ _ _ h => h) (Or.inl ⟨by rfl, ?_⟩) (by assumption) ?_; (case' refine_2 => (intro w hSw; go_simp; try with_reducible rfl)); (try simp only [Act.put, List.getElem_toArray, List.getElem_cons_zero, List.getElem_cons_succ, List.setIfInBounds_toArray, List.set_cons_zero, List.set_cons_succ]))
    (refine wpAnyH_take (i := 5) (v := ?_) rfl (by kernel_rfl) (by kernel_rfl) (by kernel_rfl) (fun _ _ _ h => h) (Or.inl ⟨by rfl, ?_⟩) (by assumption) ?_; (case' refine_2 => (intro w hSw; go_simp; try with_reducible rfl)); (try simp only [Act.put, List.getElem_toArray, List.getElem_cons_zero, List.getElem_cons_succ, List.setIfInBounds_toArray, List.set_cons_zero, List.set_cons_succ]))
    (refine wpAnyH_take (i := 6) (v := ?_) rfl (by kernel_rfl) (by kernel_rfl) (by kernel_rfl) (fun _ _ _ h => h) (Or.inl ⟨by rfl, ?_⟩) (by assumption) ?_; (case' refine_2 => (intro w hSw; go_simp; try with_reducible rfl)); (try simp only [Act.put, List.getElem_toArray, List.getElem_cons_zero, List.getElem_cons_succ, List.setIfInBounds_toArray, List.set_cons_zero, List.set_cons_succ]))
    (refine wpAnyH_take (i := 7) (v := ?_) rfl (by kernel_rfl) (by kernel_rfl) (by kernel_rfl) (fun _ _ _ h => h) (Or.inl ⟨by rfl, ?_⟩) (by assumption) ?_; (case' refine_2 => (intro w hSw; go_simp; try with_reducible rfl)); (try simp only [Act.put, List.getElem_toArray, List.getElem_cons_zero, List.getElem_cons_succ, List.setIfInBounds_toArray, List.set_cons_zero, List.set_cons_succ]))
    refine wpAnyH_ready (rs := [8, 13]) (by kernel_rfl) (by simp) (AllReadyH.cons rfl (fun K hK => ?_) (AllReadyH.cons rfl (fun K hK => ?_) AllReadyH.nil))
    · go_simp
      refine (HU.out _ (below_drew1 HB.out)).mono ?_
      rintro e w7 ⟨vt, rfl, ho, hb0⟩
      have hb := below_drew_of hb0
      have HOT := Aside0.mk (show Ot w7 w.heap.size vt tx from Kd.R_lower ho (show w.heap.size ≤ w5.drew.heap.size from HB.out.size))
      have x_HZ := Aside0.mk (blk_below HZ.out hb)
      have x_HG := Aside0.mk (HG.out.below hb)
      have x_HB := Aside0.mk (below_step HB.out hb)
      have x_H12 := Aside0.mk (H12.out.below hb)
      clear HZ HG HB H12
      have HZ := x_HZ
      have HG := x_HG
      have HB := x_HB
      have H12 := x_H12
      clear x_HZ x_HG x_HB x_H12
      clear hb hb0 ho
      (refine Shut.out hK _ _ HG.out (fun hHeld => ?_); clear hK K; (try simp only [Act.put, List.getElem_toArray, List.getElem_cons_zero, List.getElem_cons_succ, List.setIfInBounds_toArray, List.set_cons_zero, List.set_cons_succ]))
      (refine wpAnyH_take (i := 9) (v := ?_) rfl (by kernel_rfl) (by kernel_rfl) (by kernel_rfl) (fun _ _ _ h => h) (Or.inl ⟨by rfl, ?_⟩) (by assumption) ?_; (case' refine_2 => (intro w hSw; go_simp; try with_reducible rfl)); (try simp only [Act.put, List.getElem_toArray, List.getElem_cons_zero, List.getElem_cons_succ, List.setIfInBounds_toArray, List.set_cons_zero, List.set_cons_succ]))
      (refine wpAnyH_take (i := 10) (v := ?_) rfl (by kernel_rfl) (by kernel_rfl) (by kernel_rfl) (fun _ _ _ h => h) (Or.inl ⟨by rfl, ?_⟩) (by assumption) ?_; (case' refine_2 => (intro w hSw; go_simp; try with_reducible rfl)); (try simp only [Act.put, List.getElem_toArray, List.getElem_cons_zero, List.getElem_cons_succ, List.setIfInBounds_toArray, List.set_cons_zero, List.set_cons_succ]))
      (refine wpAnyH_take (i := 11) (v := ?_) rfl (by kernel_rfl) (by kernel_rfl) (by kernel_rfl) (fun _ _ _ h => h) (Or.inl ⟨by rfl, ?_⟩) (by assumption) ?_; (case' refine_2 => (intro w hSw; go_simp; try with_reducible rfl)); (try simp only [Act.put, List.getElem_toArray, List.getElem_cons_zero, List.getElem_cons_succ, List.setIfInBounds_toArray, List.set_cons_zero, List.set_cons_succ]))
      (refine wpAnyH_take (i := 12) (v := ?_) rfl (by kernel_rfl) (by kernel_rfl) (by kernel_rfl) (fun _ _ _ h => h) (Or.inl ⟨by rfl, ?_⟩) (by assumption) ?_; (case' refine_2 => (intro w hSw; go_simp; try with_reducible rfl)); (try simp only [Act.put, List.getElem_toArray, List.getElem_cons_zero, List.getElem_cons_succ, List.setIfInBounds_toArray, List.set_cons_zero, List.set_cons_succ]))
      refine wpAnyH_ready (rs := [13]) (by kernel_rfl) (by simp) (AllReadyH.cons rfl (fun K hK => ?_) AllReadyH.nil)
      have H12S := Aside0.mk (atC_lt H12.out HX.out.lenC)
      go_simp
      have HN := Aside0.mk (show (w7.alloc (.cells Z32 24)).heap[w7.heap.size]? = some (.cells Z32 24 (0, 0)) from blk_new w7 _)
      have hb := below_alloc (Below.refl w7.heap.size w7) (.cells Z32 24)
      have HQ := Aside0.mk (show w.heap.size + 1 < w7.heap.size from (Array.getElem?_eq_some_iff.1 HZ.out).1)
      have x_HZ := Aside0.mk (blk_below HZ.out hb)
      have x_HG := Aside0.mk (HG.out.below hb)
      have x_HB := Aside0.mk (below_step HB.out hb)
      have x_H12 := Aside0.mk (H12.out.below hb)
      have x_HOT := Aside0.mk (Kd.R_below HOT.out hb)
      clear HZ HG HB H12 HOT
      have HZ := x_HZ
      have HG := x_HG
      have HB := x_HB
      have H12 := x_H12
      have HOT := x_HOT
      clear x_HZ x_HG x_HB x_H12 x_HOT
      clear hb
      obtain ⟨w8, hw8⟩ : ∃ W', w7.alloc (.cells Z32 24) = W' := ⟨_, rfl⟩
      rw [hw8] at HN HZ HG HB H12 HOT
      rw [show w7.alloc (.cells #[.int .u8 0, .int .u8 0, .int .u8 0, .int .u8 0, .int .u8 0, .int .u8 0, .int .u8 0, .int .u8 0, .int .u8 0, .int .u8 0, .int .u8 0, .int .u8 0, .int .u8 0, .int .u8 0, .int .u8 0, .int .u8 0, .int .u8 0, .int .u8 0, .int .u8 0, .int .u8 0, .int .u8 0, .int .u8 0, .int .u8 0, .int .u8 0, .int .u8 0, .int .u8 0, .int .u8 0, .int .u8 0, .int .u8 0, .int .u8 0, .int .u8 0, .int .u8 0] 24) = w8 from hw8]
      clear hw8
      obtain ⟨g13, hg13⟩ : ∃ g, w7.heap.size = g := ⟨_, rfl⟩
      have H1213 := Aside0.mk (show g12 < w7.heap.size from H12S.out)
      rw [hg13] at HN HQ H1213 ⊢
      clear H12S hg13
      (refine Shut.out hK _ _ HG.out (fun hHeld => ?_); clear hK K; (try simp only [Act.put, List.getElem_toArray, List.getElem_cons_zero, List.getElem_cons_succ, List.setIfInBounds_toArray, List.set_cons_zero, List.set_cons_succ]))
      refine wpAnyH_ready (rs := [14]) (by kernel_rfl) (by simp) (AllReadyH.cons rfl (fun K hK => ?_) AllReadyH.nil)
      rw [if_pos (by rfl)]
      refine wp_store_row 24 (.tmp 13) (.tmp 57) rfl g13 Y.toArray rfl rfl 24 Z32 HN.out HYC.out.blkA HYC.out.zsA HYC.out.oneA ?_
      have H13 := Aside0.mk (atC_blk (setRow_heap w8 g13 Z32 Y.toArray _ _ HN.out))
      have hne1 : w.heap.size + 1 ≠ g13 := by have := HQ.out; omega
      have hne2 : w.heap.size ≠ g13 := by have := HQ.out; omega
      have hne3 : g12 ≠ g13 := by have := H1213.out; omega
      have x_HZ := Aside0.mk ((setRow_other w8 g13 (w.heap.size + 1) Y.toArray hne1).trans HZ.out)
      have x_HG := Aside0.mk (atC_setRow (D := Y.toArray) HG.out hne2)
      have x_HB := Aside0.mk (below_setRow HB.out (show w.heap.size ≤ g13 from by have := HQ.out; omega) Y.toArray)
      have x_H12 := Aside0.mk (atC_setRow (D := Y.toArray) H12.out hne3)
      have x_HOT := Aside0.mk (ot_setRow (D := Y.toArray) HOT.out HN.out)
      clear HZ HG HB H12 HOT
      have HZ := x_HZ
      have HG := x_HG
      have HB := x_HB
      have H12 := x_H12
      have HOT := x_HOT
      clear x_HZ x_HG x_HB x_H12 x_HOT
      clear HN HQ hne1 hne2 hne3
      obtain ⟨w9, hw9⟩ : ∃ W', w8.setRow g13 Y.toArray = W' := ⟨_, rfl⟩
      rw [hw9] at H12 H13 HZ HG HB HOT ⊢
      clear hw9
      (refine Shut.out hK _ _ HG.out (fun hHeld => ?_); clear hK K; (try simp only [Act.put, List.getElem_toArray, List.getElem_cons_zero, List.getElem_cons_succ, List.setIfInBounds_toArray, List.set_cons_zero, List.set_cons_succ]))
      (refine wpAnyH_take (i := 15) (v := ?_) rfl (by kernel_rfl) (by kernel_rfl) (by kernel_rfl) (fun _ _ _ h => h) (Or.inl ⟨by rfl, ?_⟩) (by assumption) ?_; (case' refine_2 => (intro w hSw; go_simp; try with_reducible rfl)); (try simp only [Act.put, List.getElem_toArray, List.getElem_cons_zero, List.getElem_cons_succ, List.setIfInBounds_toArray, List.set_cons_zero, List.set_cons_succ]))
      (refine wpAnyH_take (i := 16) (v := ?_) rfl (by kernel_rfl) (by kernel_rfl) (by kernel_rfl) (fun _ _ _ h => h) (Or.inl ⟨by rfl, ?_⟩) (by assumption) ?_; (case' refine_2 => (intro w hSw; go_simp; try with_reducible rfl)); (try simp only [Act.put, List.getElem_toArray, List.getElem_cons_zero, List.getElem_cons_succ, List.setIfInBounds_toArray, List.set_cons_zero, List.set_cons_succ]))
      refine wpAnyH_done (by kernel_rfl) ?_ _
      go_wp2_with (first
        | ((with_reducible refine gate_dst (N := 60) rfl ?_); refine wpList_load_at rfl 24 (.tmp 13) rfl ⟨g13, 0, none⟩ rfl Y _ H13.out Try.underlying24 rfl HIY.out ?_)
        | ((with_reducible refine gate_dst (N := 61) rfl ?_); refine wpList_load_at rfl 24 (.tmp 12) rfl ⟨g12, 0, none⟩ rfl X _ H12.out Try.underlying24 rfl HIX.out ?_))
      refine (HT.out _).mono ?_
      rintro e w10 ⟨vx, rfl, ho, hb⟩
      obtain ⟨Ax, cx, rfl⟩ := Kd.R_slice ho
      have HOX := Aside0.mk (show Ob w10 w.heap.size _ (nodeX d x) from Kd.R_lower ho HB.out.size)
      have HS10 := Aside0.mk (HS.out _ _ w10 ho)
      have HZ10 := Aside0.mk (blk_below HZ.out hb)
      have HB10 := Aside0.mk (below_step HB.out hb)
      have HOT10 := Aside0.mk (Kd.R_below HOT.out hb)
      clear ho hb
      go_wp2_with (fail)
      refine HS10.out.mono ?_
      rintro e w11 ⟨rfl, hb⟩
      have HOX11 := Aside0.mk (Kd.R_below HOX.out hb)
      have HZ11 := Aside0.mk (blk_below HZ10.out hb)
      have HB11 := Aside0.mk (below_step HB10.out hb)
      have HOT11 := Aside0.mk (Kd.R_below HOT10.out hb)
      clear hb
      go_wp2_with (first
        | ((with_reducible refine gate_builtin (b := .append) (xs := #[.tmp 65, .tmp 67]) rfl ?_); at_builtin; refine Kd.R_append DX (w0 := w) w.heap.size rfl (.tmp 65) (.tmp 67) 29 22 (.slice none 0 0) 24 rfl Try.underlying29 info_text rfl (by decide) (by decide) vt tx (nodeX d x) [.slice Ax (nodeX d x).length cx] (fun _ => True) (fun k => True ∧ some k ≠ vt.ownBlock) rfl rfl ⟨_, rfl, ob_apart HOX11.out HOT11.out⟩ (fun _ h => h) (fun _ _ => trivial) HOT11.out HB11.out HB11.out.size (by have := HTL.out; omega) ?_; intro v12 w12 ho hb hg hat; have HO12 := Aside0.mk ho; have HB12 := Aside0.mk hb; have HZ12 := Aside0.mk (blk_grown HZ11.out hg (Kd.R_ne HOT11.out HZ11.out (by decide))); clear ho hb hg hat)
        | ((with_reducible refine gate_store (t := 24) (p := 8) (v := .tmp 64) rfl ?_); refine wpList_store_row rfl 24 (.tmp 8) (.tmp 64) rfl (w.heap.size + 1) E.toArray rfl rfl 24 Z32 HZ12.out HE.out.blkA HE.out.zsA HE.out.oneA ?_))
      have HSR := Aside0.mk (setRow_heap w12 (w.heap.size + 1) Z32 E.toArray _ _ HZ12.out)
      refine bodyPost_ret (results_ctt rfl _ _ (w.heap.size + 1) 24 E.toArray (0, 0) _ rfl HSR.out Try.underlying24 rfl HE.out.blkA) rfl ?_
      exact ⟨_, rfl, ot_setRow (D := E.toArray) HO12.out HZ12.out, below_setRow HB12.out (Nat.le_succ _) E.toArray⟩
    · have H12S := Aside0.mk (atC_lt H12.out HX.out.lenC)
      go_simp
      have HN := Aside0.mk (show ((w5.alloc (.cells Z32 24)).drew).heap[w5.heap.size]? = some (.cells Z32 24 (0, 0)) from blk_new w5 _)
      have hb := below_drew (below_alloc (Below.refl w5.heap.size w5) (.cells Z32 24))
      have HQ := Aside0.mk (show w.heap.size + 1 < w5.heap.size from (Array.getElem?_eq_some_iff.1 HZ.out).1)
      have x_HZ := Aside0.mk (blk_below HZ.out hb)
      have x_HG := Aside0.mk (HG.out.below hb)
      have x_HB := Aside0.mk (below_step HB.out hb)
      have x_H12 := Aside0.mk (H12.out.below hb)
      clear HZ HG HB H12
      have HZ := x_HZ
      have HG := x_HG
      have HB := x_HB
      have H12 := x_H12
      clear x_HZ x_HG x_HB x_H12
      clear hb
      obtain ⟨w8, hw8⟩ : ∃ W', (w5.alloc (.cells Z32 24)).drew = W' := ⟨_, rfl⟩
      rw [hw8] at HN HZ HG HB H12
      rw [show (w5.alloc (.cells #[.int .u8 0, .int .u8 0, .int .u8 0, .int .u8 0, .int .u8 0, .int .u8 0, .int .u8 0, .int .u8 0, .int .u8 0, .int .u8 0, .int .u8 0, .int .u8 0, .int .u8 0, .int .u8 0, .int .u8 0, .int .u8 0, .int .u8 0, .int .u8 0, .int .u8 0, .int .u8 0, .int .u8 0, .int .u8 0, .int .u8 0, .int .u8 0, .int .u8 0, .int .u8 0, .int .u8 0, .int .u8 0, .int .u8 0, .int .u8 0, .int .u8 0, .int .u8 0] 24)).drew = w8 from hw8]
      clear hw8
      obtain ⟨g13, hg13⟩ : ∃ g, w5.heap.size = g := ⟨_, rfl⟩
      have H1213 := Aside0.mk (show g12 < w5.heap.size from H12S.out)
      rw [hg13] at HN HQ H1213 ⊢
      clear H12S hg13
      (refine Shut.out hK _ _ HG.out (fun hHeld => ?_); clear hK K; (try simp only [Act.put, List.getElem_toArray, List.getElem_cons_zero, List.getElem_cons_succ, List.setIfInBounds_toArray, List.set_cons_zero, List.set_cons_succ]))
      refine wpAnyH_ready (rs := [8]) (by kernel_rfl) (by simp) (AllReadyH.cons rfl (fun K hK => ?_) AllReadyH.nil)
      go_simp
      refine (HU.out _ HB.out).mono ?_
      rintro e w7 ⟨vt, rfl, ho, hb0⟩
      have hb := hb0
      have HOT := Aside0.mk (show Ot w7 w.heap.size vt tx from Kd.R_lower ho HB.out.size)
      have x_HZ := Aside0.mk (blk_below HZ.out hb)
      have x_HG := Aside0.mk (HG.out.below hb)
      have x_HB := Aside0.mk (below_step HB.out hb)
      have x_H12 := Aside0.mk (H12.out.below hb)
      have x_HN := Aside0.mk (blk_below HN.out hb)
      clear HZ HG HB H12 HN
      have HZ := x_HZ
      have HG := x_HG
      have HB := x_HB
      have H12 := x_H12
      have HN := x_HN
      clear x_HZ x_HG x_HB x_H12 x_HN
      clear hb hb0 ho
      (refine Shut.out hK _ _ HG.out (fun hHeld => ?_); clear hK K; (try simp only [Act.put, List.getElem_toArray, List.getElem_cons_zero, List.getElem_cons_succ, List.setIfInBounds_toArray, List.set_cons_zero, List.set_cons_succ]))
      (refine wpAnyH_take (i := 9) (v := ?_) rfl (by kernel_rfl) (by kernel_rfl) (by kernel_rfl) (fun _ _ _ h => h) (Or.inl ⟨by rfl, ?_⟩) (by assumption) ?_; (case' refine_2 => (intro w hSw; go_simp; try with_reducible rfl)); (try simp only [Act.put, List.getElem_toArray, List.getElem_cons_zero, List.getElem_cons_succ, List.setIfInBounds_toArray, List.set_cons_zero, List.set_cons_succ]))
      (refine wpAnyH_take (i := 10) (v := ?_) rfl (by kernel_rfl) (by kernel_rfl) (by kernel_rfl) (fun _ _ _ h => h) (Or.inl ⟨by rfl, ?_⟩) (by assumption) ?_; (case' refine_2 => (intro w hSw; go_simp; try with_reducible rfl)); (try simp only [Act.put, List.getElem_toArray, List.getElem_cons_zero, List.getElem_cons_succ, List.setIfInBounds_toArray, List.set_cons_zero, List.set_cons_succ]))
      (refine wpAnyH_take (i := 11) (v := ?_) rfl (by kernel_rfl) (by kernel_rfl) (by kernel_rfl) (fun _ _ _ h => h) (Or.inl ⟨by rfl, ?_⟩) (by assumption) ?_; (case' refine_2 => (intro w hSw; go_simp; try with_reducible rfl)); (try simp only [Act.put, List.getElem_toArray, List.getElem_cons_zero, List.getElem_cons_succ, List.setIfInBounds_toArray, List.set_cons_zero, List.set_cons_succ]))
      (refine wpAnyH_take (i := 12) (v := ?_) rfl (by kernel_rfl) (by kernel_rfl) (by kernel_rfl) (fun _ _ _ h => h) (Or.inl ⟨by rfl, ?_⟩) (by assumption) ?_; (case' refine_2 => (intro w hSw; go_simp; try with_reducible rfl)); (try simp only [Act.put, List.getElem_toArray, List.getElem_cons_zero, List.getElem_cons_succ, List.setIfInBounds_toArray, List.set_cons_zero, List.set_cons_succ]))
      refine wpAnyH_ready (rs := [14]) (by kernel_rfl) (by simp) (AllReadyH.cons rfl (fun K hK => ?_) AllReadyH.nil)
      rw [if_pos (by rfl)]
      refine wp_store_row 24 (.tmp 13) (.tmp 57) rfl g13 Y.toArray rfl rfl 24 Z32 HN.out HYC.out.blkA HYC.out.zsA HYC.out.oneA ?_
      have H13 := Aside0.mk (atC_blk (setRow_heap w7 g13 Z32 Y.toArray _ _ HN.out))
      have hne1 : w.heap.size + 1 ≠ g13 := by have := HQ.out; omega
      have hne2 : w.heap.size ≠ g13 := by have := HQ.out; omega
      have hne3 : g12 ≠ g13 := by have := H1213.out; omega
      have x_HZ := Aside0.mk ((setRow_other w7 g13 (w.heap.size + 1) Y.toArray hne1).trans HZ.out)
      have x_HG := Aside0.mk (atC_setRow (D := Y.toArray) HG.out hne2)
      have x_HB := Aside0.mk (below_setRow HB.out (show w.heap.size ≤ g13 from by have := HQ.out; omega) Y.toArray)
      have x_H12 := Aside0.mk (atC_setRow (D := Y.toArray) H12.out hne3)
      have x_HOT := Aside0.mk (ot_setRow (D := Y.toArray) HOT.out HN.out)
      clear HZ HG HB H12 HOT
      have HZ := x_HZ
      have HG := x_HG
      have HB := x_HB
      have H12 := x_H12
      have HOT := x_HOT
      clear x_HZ x_HG x_HB x_H12 x_HOT
      clear HN HQ hne1 hne2 hne3
      obtain ⟨w9, hw9⟩ : ∃ W', w7.setRow g13 Y.toArray = W' := ⟨_, rfl⟩
      rw [hw9] at H12 H13 HZ HG HB HOT ⊢
      clear hw9
      (refine Shut.out hK _ _ HG.out (fun hHeld => ?_); clear hK K; (try simp only [Act.put, List.getElem_toArray, List.getElem_cons_zero, List.getElem_cons_succ, List.setIfInBounds_toArray, List.set_cons_zero, List.set_cons_succ]))
      (refine wpAnyH_take (i := 15) (v := ?_) rfl (by kernel_rfl) (by kernel_rfl) (by kernel_rfl) (fun _ _ _ h => h) (Or.inl ⟨by rfl, ?_⟩) (by assumption) ?_; (case' refine_2 => (intro w hSw; go_simp; try with_reducible rfl)); (try simp only [Act.put, List.getElem_toArray, List.getElem_cons_zero, List.getElem_cons_succ, List.setIfInBounds_toArray, List.set_cons_zero, List.set_cons_succ]))
      (refine wpAnyH_take (i := 16) (v := ?_) rfl (by kernel_rfl) (by kernel_rfl) (by kernel_rfl) (fun _ _ _ h => h) (Or.inl ⟨by rfl, ?_⟩) (by assumption) ?_; (case' refine_2 => (intro w hSw; go_simp; try with_reducible rfl)); (try simp only [Act.put, List.getElem_toArray, List.getElem_cons_zero, List.getElem_cons_succ, List.setIfInBounds_toArray, List.set_cons_zero, List.set_cons_succ]))
      refine wpAnyH_done (by kernel_rfl) ?_ _
      go_wp2_with (first
        | ((with_reducible refine gate_dst (N := 60) rfl ?_); refine wpList_load_at rfl 24 (.tmp 13) rfl ⟨g13, 0, none⟩ rfl Y _ H13.out Try.underlying24 rfl HIY.out ?_)
        | ((with_reducible refine gate_dst (N := 61) rfl ?_); refine wpList_load_at rfl 24 (.tmp 12) rfl ⟨g12, 0, none⟩ rfl X _ H12.out Try.underlying24 rfl HIX.out ?_))
      refine (HT.out _).mono ?_
      rintro e w10 ⟨vx, rfl, ho, hb⟩
      obtain ⟨Ax, cx, rfl⟩ := Kd.R_slice ho
      have HOX := Aside0.mk (show Ob w10 w.heap.size _ (nodeX d x) from Kd.R_lower ho HB.out.size)
      have HS10 := Aside0.mk (HS.out _ _ w10 ho)
      have HZ10 := Aside0.mk (blk_below HZ.out hb)
      have HB10 := Aside0.mk (below_step HB.out hb)
      have HOT10 := Aside0.mk (Kd.R_below HOT.out hb)
      clear ho hb
      go_wp2_with (fail)
      refine HS10.out.mono ?_
      rintro e w11 ⟨rfl, hb⟩
      have HOX11 := Aside0.mk (Kd.R_below HOX.out hb)
      have HZ11 := Aside0.mk (blk_below HZ10.out hb)
      have HB11 := Aside0.mk (below_step HB10.out hb)
      have HOT11 := Aside0.mk (Kd.R_below HOT10.out hb)
      clear hb
      go_wp2_with (first
        | ((with_reducible refine gate_builtin (b := .append) (xs := #[.tmp 65, .tmp 67]) rfl ?_); at_builtin; refine Kd.R_append DX (w0 := w) w.heap.size rfl (.tmp 65) (.tmp 67) 29 22 (.slice none 0 0) 24 rfl Try.underlying29 info_text rfl (by decide) (by decide) vt tx (nodeX d x) [.slice Ax (nodeX d x).length cx] (fun _ => True) (fun k => True ∧ some k ≠ vt.ownBlock) rfl rfl ⟨_, rfl, ob_apart HOX11.out HOT11.out⟩ (fun _ h => h) (fun _ _ => trivial) HOT11.out HB11.out HB11.out.size (by have := HTL.out; omega) ?_; intro v12 w12 ho hb hg hat; have HO12 := Aside0.mk ho; have HB12 := Aside0.mk hb; have HZ12 := Aside0.mk (blk_grown HZ11.out hg (Kd.R_ne HOT11.out HZ11.out (by decide))); clear ho hb hg hat)
        | ((with_reducible refine gate_store (t := 24) (p := 8) (v := .tmp 64) rfl ?_); refine wpList_store_row rfl 24 (.tmp 8) (.tmp 64) rfl (w.heap.size + 1) E.toArray rfl rfl 24 Z32 HZ12.out HE.out.blkA HE.out.zsA HE.out.oneA ?_))
      have HSR := Aside0.mk (setRow_heap w12 (w.heap.size + 1) Z32 E.toArray _ _ HZ12.out)
      refine bodyPost_ret (results_ctt rfl _ _ (w.heap.size + 1) 24 E.toArray (0, 0) _ rfl HSR.out Try.underlying24 rfl HE.out.blkA) rfl ?_
      exact ⟨_, rfl, ot_setRow (D := E.toArray) HO12.out HZ12.out, below_setRow HB12.out (Nat.le_succ _) E.toArray⟩
  · go_simp
    have HN := Aside0.mk (show ((W.alloc (.cells Z32 24)).drew).heap[W.heap.size]? = some (.cells Z32 24 (0, 0)) from blk_new W _)
    have hb := below_drew (below_alloc (Below.refl W.heap.size W) (.cells Z32 24))
    have HQ := Aside0.mk (show w.heap.size + 1 < W.heap.size from (Array.getElem?_eq_some_iff.1 HZ.out).1)
    have x_HZ := Aside0.mk (blk_below HZ.out hb)
    have x_HG := Aside0.mk (HG.out.below hb)
    have x_HB := Aside0.mk (below_step HB.out hb)
    have x_HAX := Aside0.mk (HAX.out.below hb)
    clear HZ HG HB HAX
    have HZ := x_HZ
    have HG := x_HG
    have HB := x_HB
    have HAX := x_HAX
    clear x_HZ x_HG x_HB x_HAX
    clear hb
    obtain ⟨w4, hw4⟩ : ∃ W', (W.alloc (.cells Z32 24)).drew = W' := ⟨_, rfl⟩
    rw [hw4] at HN HZ HG HB HAX
    rw [show (W.alloc (.cells #[.int .u8 0, .int .u8 0, .int .u8 0, .int .u8 0, .int .u8 0, .int .u8 0, .int .u8 0, .int .u8 0, .int .u8 0, .int .u8 0, .int .u8 0, .int .u8 0, .int .u8 0, .int .u8 0, .int .u8 0, .int .u8 0, .int .u8 0, .int .u8 0, .int .u8 0, .int .u8 0, .int .u8 0, .int .u8 0, .int .u8 0, .int .u8 0, .int .u8 0, .int .u8 0, .int .u8 0, .int .u8 0, .int .u8 0, .int .u8 0, .int .u8 0, .int .u8 0] 24)).drew = w4 from hw4]
    clear hw4
    obtain ⟨g12, hg12⟩ : ∃ g, W.heap.size = g := ⟨_, rfl⟩
    rw [hg12] at HN HQ ⊢
    clear hg12
    (refine Shut.out hK _ _ HAX.out (fun hHeld => ?_); clear hK K; (try simp only [Act.put, List.getElem_toArray, List.getElem_cons_zero, List.getElem_cons_succ, List.setIfInBounds_toArray, List.set_cons_zero, List.set_cons_succ]))
    refine wpAnyH_ready (rs := [1]) (by kernel_rfl) (by simp) (AllReadyH.cons rfl (fun K hK => ?_) AllReadyH.nil)
    go_simp
    refine (HKB.out _).mono ?_
    rintro e w6 ⟨rfl, hd_⟩
    have hb := Drawn0.below hd_
    have x_HZ := Aside0.mk (blk_below HZ.out hb)
    have x_HG := Aside0.mk (HG.out.below hb)
    have x_HB := Aside0.mk (below_step HB.out hb)
    have x_HAX := Aside0.mk (HAX.out.below hb)
    have x_HN := Aside0.mk (blk_below HN.out hb)
    clear HZ HG HB HAX HN
    have HZ := x_HZ
    have HG := x_HG
    have HB := x_HB
    have HAX := x_HAX
    have HN := x_HN
    clear x_HZ x_HG x_HB x_HAX x_HN
    clear hb hd_
    (refine Shut.out hK _ _ HAX.out (fun hHeld => ?_); clear hK K; (try simp only [Act.put, List.getElem_toArray, List.getElem_cons_zero, List.getElem_cons_succ, List.setIfInBounds_toArray, List.set_cons_zero, List.set_cons_succ]))
    (refine wpAnyH_take (i := 9) (v := ?_) rfl (by kernel_rfl) (by kernel_rfl) (by kernel_rfl) (fun _ _ _ h => h) (Or.inl ⟨by rfl, ?_⟩) (by assumption) ?_; (case' refine_2 => (intro w hSw; go_simp; try with_reducible rfl)); (try simp only [Act.put, List.getElem_toArray, List.getElem_cons_zero, List.getElem_cons_succ, List.setIfInBounds_toArray, List.set_cons_zero, List.set_cons_succ]))
    refine wpAnyH_ready (rs := [10]) (by kernel_rfl) (by simp) (AllReadyH.cons rfl (fun K hK => ?_) AllReadyH.nil)
    rw [if_pos (by rfl)]
    refine wp_store_row 24 (.tmp 12) (.tmp 43) rfl g12 X.toArray rfl rfl 24 Z32 HN.out HX.out.blkA HX.out.zsA HX.out.oneA ?_
    have H12 := Aside0.mk (atC_blk (setRow_heap w6 g12 Z32 X.toArray _ _ HN.out))
    have hne1 : w.heap.size + 1 ≠ g12 := by have := HQ.out; omega
    have hne2 : w.heap.size ≠ g12 := by have := HQ.out; omega
    have H12L := Aside0.mk (show w.heap.size + 1 < g12 from HQ.out)
    have x_HZ := Aside0.mk ((setRow_other w6 g12 (w.heap.size + 1) X.toArray hne1).trans HZ.out)
    have x_HG := Aside0.mk (atC_setRow (D := X.toArray) HG.out hne2)
    have x_HB := Aside0.mk (below_setRow HB.out (show w.heap.size ≤ g12 from by have := HQ.out; omega) X.toArray)
    clear HZ HG HB
    have HZ := x_HZ
    have HG := x_HG
    have HB := x_HB
    clear x_HZ x_HG x_HB
    have x_HAX := Aside0.mk (HAT.out.below HB.out)
    clear HAX HN HQ hne1 hne2
    have HAX := x_HAX
    clear x_HAX
    obtain ⟨w5, hw5⟩ : ∃ W', w6.setRow g12 X.toArray = W' := ⟨_, rfl⟩
    rw [hw5] at H12 HZ HG HB HAX ⊢
    clear hw5
    (refine Shut.out hK _ _ HAX.out (fun hHeld => ?_); clear hK K; (try simp only [Act.put, List.getElem_toArray, List.getElem_cons_zero, List.getElem_cons_succ, List.setIfInBounds_toArray, List.set_cons_zero, List.set_cons_succ]))
    refine wpAnyH_done (by kernel_rfl) ?_ _
    go_wp2_with (fail)
    have hq1 := HC1.out
    refine wp_region_held_drew (S := fun w' => AtC w' ⟨w.heap.size, 0, none⟩ L) (by kernel_rfl) HG.out (fun hHeld => ?_)
    (refine wpAnyH_take (i := 0) rfl (by kernel_rfl) (by kernel_rfl) (by kernel_rfl) (fun _ _ _ h => h) (yieldsIf_load_at (by rfl) _ _ rfl ⟨w.heap.size, 0, none⟩ rfl L _ (fun _ h => h) (by assumption) rfl HIL.out) (by assumption) ?_; (try simp only [Act.put, List.getElem_toArray, List.getElem_cons_zero, List.getElem_cons_succ, List.setIfInBounds_toArray, List.set_cons_zero, List.set_cons_succ]))
    (refine wpAnyH_take (i := 1) (v := ?_) rfl (by kernel_rfl) (by kernel_rfl) (by kernel_rfl) (fun _ _ _ h => h) (Or.inl ⟨by rfl, ?_⟩) (by assumption) ?_; (case' refine_2 => (intro w hSw; go_simp; try with_reducible rfl)); (try simp only [Act.put, List.getElem_toArray, List.getElem_cons_zero, List.getElem_cons_succ, List.setIfInBounds_toArray, List.set_cons_zero, List.set_cons_succ]))
    (refine wpAnyH_take (i := 2) (v := ?_) rfl (by kernel_rfl) (by kernel_rfl) (by kernel_rfl) (fun _ _ _ h => h) (Or.inl ⟨by rfl, ?_⟩) (by assumption) ?_; (case' refine_2 => (intro w hSw; go_simp; try with_reducible rfl)); (try simp only [Act.put, List.getElem_toArray, List.getElem_cons_zero, List.getElem_cons_succ, List.setIfInBounds_toArray, List.set_cons_zero, List.set_cons_succ]))
    (refine wpAnyH_take (i := 3) (v := ?_) rfl (by kernel_rfl) (by kernel_rfl) (by kernel_rfl) (fun _ _ _ h => h) (Or.inl ⟨by rfl, ?_⟩) (by assumption) ?_; (case' refine_2 => (intro w hSw; go_simp; try with_reducible rfl)); (try simp only [Act.put, List.getElem_toArray, List.getElem_cons_zero, List.getElem_cons_succ, List.setIfInBounds_toArray, List.set_cons_zero, List.set_cons_succ]))
    (refine wpAnyH_take (i := 4) (v := ?_) rfl (by kernel_rfl) (by kernel_rfl) (by kernel_rfl) (fun _ _ _ h => h) (Or.inl ⟨by rfl, ?_⟩) (by assumption) ?_; (case' refine_2 => (intro w hSw; go_simp; try with_reducible rfl)); (try simp only [Act.put, List.getElem_toArray, List.getElem_cons_zero, List.getElem_cons_succ, List.setIfInBounds_toArray, List.set_cons_zero, List.set_cons_succ]))
    (refine wpAnyH_take (i := 5) (v := ?_) rfl (by kernel_rfl) (by kernel_rfl) (by kernel_rfl) (fun _ _ _ h => h) (Or.inl ⟨by rfl, ?_⟩) (by assumption) ?_; (case' refine_2 => (intro w hSw; go_simp; try with_reducible rfl)); (try simp only [Act.put, List.getElem_toArray, List.getElem_cons_zero, List.getElem_cons_succ, List.setIfInBounds_toArray, List.set_cons_zero, List.set_cons_succ]))
    (refine wpAnyH_take (i := 6) (v := ?_) rfl (by kernel_rfl) (by kernel_rfl) (by kernel_rfl) (fun _ _ _ h => h) (Or.inl ⟨by rfl, ?_⟩) (by assumption) ?_; (case' refine_2 => (intro w hSw; go_simp; try with_reducible rfl)); (try simp only [Act.put, List.getElem_toArray, List.getElem_cons_zero, List.getElem_cons_succ, List.setIfInBounds_toArray, List.set_cons_zero, List.set_cons_succ]))
    (refine wpAnyH_take (i := 7) (v := ?_) rfl (by kernel_rfl) (by kernel_rfl) (by kernel_rfl) (fun _ _ _ h => h) (Or.inl ⟨by rfl, ?_⟩) (by assumption) ?_; (case' refine_2 => (intro w hSw; go_simp; try with_reducible rfl)); (try simp only [Act.put, List.getElem_toArray, List.getElem_cons_zero, List.getElem_cons_succ, List.setIfInBounds_toArray, List.set_cons_zero, List.set_cons_succ]))
    refine wpAnyH_ready (rs := [8, 13]) (by kernel_rfl) (by simp) (AllReadyH.cons rfl (fun K hK => ?_) (AllReadyH.cons rfl (fun K hK => ?_) AllReadyH.nil))
    · go_simp
      refine (HU.out _ (below_drew1 HB.out)).mono ?_
      rintro e w7 ⟨vt, rfl, ho, hb0⟩
      have hb := below_drew_of hb0
      have HOT := Aside0.mk (show Ot w7 w.heap.size vt tx from Kd.R_lower ho (show w.heap.size ≤ w5.drew.heap.size from HB.out.size))
      have x_HZ := Aside0.mk (blk_below HZ.out hb)
      have x_HG := Aside0.mk (HG.out.below hb)
      have x_HB := Aside0.mk (below_step HB.out hb)
      have x_H12 := Aside0.mk (H12.out.below hb)
      clear HZ HG HB H12
      have HZ := x_HZ
      have HG := x_HG
      have HB := x_HB
      have H12 := x_H12
      clear x_HZ x_HG x_HB x_H12
      clear hb hb0 ho
      (refine Shut.out hK _ _ HG.out (fun hHeld => ?_); clear hK K; (try simp only [Act.put, List.getElem_toArray, List.getElem_cons_zero, List.getElem_cons_succ, List.setIfInBounds_toArray, List.set_cons_zero, List.set_cons_succ]))
      (refine wpAnyH_take (i := 9) (v := ?_) rfl (by kernel_rfl) (by kernel_rfl) (by kernel_rfl) (fun _ _ _ h => h) (Or.inl ⟨by rfl, ?_⟩) (by assumption) ?_; (case' refine_2 => (intro w hSw; go_simp; try with_reducible rfl)); (try simp only [Act.put, List.getElem_toArray, List.getElem_cons_zero, List.getElem_cons_succ, List.setIfInBounds_toArray, List.set_cons_zero, List.set_cons_succ]))
      (refine wpAnyH_take (i := 10) (v := ?_) rfl (by kernel_rfl) (by kernel_rfl) (by kernel_rfl) (fun _ _ _ h => h) (Or.inl ⟨by rfl, ?_⟩) (by assumption) ?_; (case' refine_2 => (intro w hSw; go_simp; try with_reducible rfl)); (try simp only [Act.put, List.getElem_toArray, List.getElem_cons_zero, List.getElem_cons_succ, List.setIfInBounds_toArray, List.set_cons_zero, List.set_cons_succ]))
      (refine wpAnyH_take (i := 11) (v := ?_) rfl (by kernel_rfl) (by kernel_rfl) (by kernel_rfl) (fun _ _ _ h => h) (Or.inl ⟨by rfl, ?_⟩) (by assumption) ?_; (case' refine_2 => (intro w hSw; go_simp; try with_reducible rfl)); (try simp only [Act.put, List.getElem_toArray, List.getElem_cons_zero, List.getElem_cons_succ, List.setIfInBounds_toArray, List.set_cons_zero, List.set_cons_succ]))
      (refine wpAnyH_take (i := 12) (v := ?_) rfl (by kernel_rfl) (by kernel_rfl) (by kernel_rfl) (fun _ _ _ h => h) (Or.inl ⟨by rfl, ?_⟩) (by assumption) ?_; (case' refine_2 => (intro w hSw; go_simp; try with_reducible rfl)); (try simp only [Act.put, List.getElem_toArray, List.getElem_cons_zero, List.getElem_cons_succ, List.setIfInBounds_toArray, List.set_cons_zero, List.set_cons_succ]))
      refine wpAnyH_ready (rs := [13]) (by kernel_rfl) (by simp) (AllReadyH.cons rfl (fun K hK => ?_) AllReadyH.nil)
      have H12S := Aside0.mk (atC_lt H12.out HX.out.lenC)
      go_simp
      have HN := Aside0.mk (show (w7.alloc (.cells Z32 24)).heap[w7.heap.size]? = some (.cells Z32 24 (0, 0)) from blk_new w7 _)
      have hb := below_alloc (Below.refl w7.heap.size w7) (.cells Z32 24)
      have HQ := Aside0.mk (show w.heap.size + 1 < w7.heap.size from (Array.getElem?_eq_some_iff.1 HZ.out).1)
      have x_HZ := Aside0.mk (blk_below HZ.out hb)
      have x_HG := Aside0.mk (HG.out.below hb)
      have x_HB := Aside0.mk (below_step HB.out hb)
      have x_H12 := Aside0.mk (H12.out.below hb)
      have x_HOT := Aside0.mk (Kd.R_below HOT.out hb)
      clear HZ HG HB H12 HOT
      have HZ := x_HZ
      have HG := x_HG
      have HB := x_HB
      have H12 := x_H12
      have HOT := x_HOT
      clear x_HZ x_HG x_HB x_H12 x_HOT
      clear hb
      obtain ⟨w8, hw8⟩ : ∃ W', w7.alloc (.cells Z32 24) = W' := ⟨_, rfl⟩
      rw [hw8] at HN HZ HG HB H12 HOT
      rw [show w7.alloc (.cells #[.int .u8 0, .int .u8 0, .int .u8 0, .int .u8 0, .int .u8 0, .int .u8 0, .int .u8 0, .int .u8 0, .int .u8 0, .int .u8 0, .int .u8 0, .int .u8 0, .int .u8 0, .int .u8 0, .int .u8 0, .int .u8 0, .int .u8 0, .int .u8 0, .int .u8 0, .int .u8 0, .int .u8 0, .int .u8 0, .int .u8 0, .int .u8 0, .int .u8 0, .int .u8 0, .int .u8 0, .int .u8 0, .int .u8 0, .int .u8 0, .int .u8 0, .int .u8 0] 24) = w8 from hw8]
      clear hw8
      obtain ⟨g13, hg13⟩ : ∃ g, w7.heap.size = g := ⟨_, rfl⟩
      have H1213 := Aside0.mk (show g12 < w7.heap.size from H12S.out)
      rw [hg13] at HN HQ H1213 ⊢
      clear H12S hg13
      (refine Shut.out hK _ _ HG.out (fun hHeld => ?_); clear hK K; (try simp only [Act.put, List.getElem_toArray, List.getElem_cons_zero, List.getElem_cons_succ, List.setIfInBounds_toArray, List.set_cons_zero, List.set_cons_succ]))
      refine wpAnyH_ready (rs := [14]) (by kernel_rfl) (by simp) (AllReadyH.cons rfl (fun K hK => ?_) AllReadyH.nil)
      rw [if_pos (by rfl)]
      refine wp_store_row 24 (.tmp 13) (.tmp 57) rfl g13 Y.toArray rfl rfl 24 Z32 HN.out HYC.out.blkA HYC.out.zsA HYC.out.oneA ?_
      have H13 := Aside0.mk (atC_blk (setRow_heap w8 g13 Z32 Y.toArray _ _ HN.out))
      have hne1 : w.heap.size + 1 ≠ g13 := by have := HQ.out; omega
      have hne2 : w.heap.size ≠ g13 := by have := HQ.out; omega
      have hne3 : g12 ≠ g13 := by have := H1213.out; omega
      have x_HZ := Aside0.mk ((setRow_other w8 g13 (w.heap.size + 1) Y.toArray hne1).trans HZ.out)
      have x_HG := Aside0.mk (atC_setRow (D := Y.toArray) HG.out hne2)
      have x_HB := Aside0.mk (below_setRow HB.out (show w.heap.size ≤ g13 from by have := HQ.out; omega) Y.toArray)
      have x_H12 := Aside0.mk (atC_setRow (D := Y.toArray) H12.out hne3)
      have x_HOT := Aside0.mk (ot_setRow (D := Y.toArray) HOT.out HN.out)
      clear HZ HG HB H12 HOT
      have HZ := x_HZ
      have HG := x_HG
      have HB := x_HB
      have H12 := x_H12
      have HOT := x_HOT
      clear x_HZ x_HG x_HB x_H12 x_HOT
      clear HN HQ hne1 hne2 hne3
      obtain ⟨w9, hw9⟩ : ∃ W', w8.setRow g13 Y.toArray = W' := ⟨_, rfl⟩
      rw [hw9] at H12 H13 HZ HG HB HOT ⊢
      clear hw9
      (refine Shut.out hK _ _ HG.out (fun hHeld => ?_); clear hK K; (try simp only [Act.put, List.getElem_toArray, List.getElem_cons_zero, List.getElem_cons_succ, List.setIfInBounds_toArray, List.set_cons_zero, List.set_cons_succ]))
      (refine wpAnyH_take (i := 15) (v := ?_) rfl (by kernel_rfl) (by kernel_rfl) (by kernel_rfl) (fun _ _ _ h => h) (Or.inl ⟨by rfl, ?_⟩) (by assumption) ?_; (case' refine_2 => (intro w hSw; go_simp; try with_reducible rfl)); (try simp only [Act.put, List.getElem_toArray, List.getElem_cons_zero, List.getElem_cons_succ, List.setIfInBounds_toArray, List.set_cons_zero, List.set_cons_succ]))
      (refine wpAnyH_take (i := 16) (v := ?_) rfl (by kernel_rfl) (by kernel_rfl) (by kernel_rfl) (fun _ _ _ h => h) (Or.inl ⟨by rfl, ?_⟩) (by assumption) ?_; (case' refine_2 => (intro w hSw; go_simp; try with_reducible rfl)); (try simp only [Act.put, List.getElem_toArray, List.getElem_cons_zero, List.getElem_cons_succ, List.setIfInBounds_toArray, List.set_cons_zero, List.set_cons_succ]))
      refine wpAnyH_done (by kernel_rfl) ?_ _
      go_wp2_with (first
        | ((with_reducible refine gate_dst (N := 60) rfl ?_); refine wpList_load_at rfl 24 (.tmp 13) rfl ⟨g13, 0, none⟩ rfl Y _ H13.out Try.underlying24 rfl HIY.out ?_)
        | ((with_reducible refine gate_dst (N := 61) rfl ?_); refine wpList_load_at rfl 24 (.tmp 12) rfl ⟨g12, 0, none⟩ rfl X _ H12.out Try.underlying24 rfl HIX.out ?_))
      refine (HT.out _).mono ?_
      rintro e w10 ⟨vx, rfl, ho, hb⟩
      obtain ⟨Ax, cx, rfl⟩ := Kd.R_slice ho
      have HOX := Aside0.mk (show Ob w10 w.heap.size _ (nodeX d x) from Kd.R_lower ho HB.out.size)
      have HS10 := Aside0.mk (HS.out _ _ w10 ho)
      have HZ10 := Aside0.mk (blk_below HZ.out hb)
      have HB10 := Aside0.mk (below_step HB.out hb)
      have HOT10 := Aside0.mk (Kd.R_below HOT.out hb)
      clear ho hb
      go_wp2_with (fail)
      refine HS10.out.mono ?_
      rintro e w11 ⟨rfl, hb⟩
      have HOX11 := Aside0.mk (Kd.R_below HOX.out hb)
      have HZ11 := Aside0.mk (blk_below HZ10.out hb)
      have HB11 := Aside0.mk (below_step HB10.out hb)
      have HOT11 := Aside0.mk (Kd.R_below HOT10.out hb)
      clear hb
      go_wp2_with (first
        | ((with_reducible refine gate_builtin (b := .append) (xs := #[.tmp 65, .tmp 67]) rfl ?_); at_builtin; refine Kd.R_append DX (w0 := w) w.heap.size rfl (.tmp 65) (.tmp 67) 29 22 (.slice none 0 0) 24 rfl Try.underlying29 info_text rfl (by decide) (by decide) vt tx (nodeX d x) [.slice Ax (nodeX d x).length cx] (fun _ => True) (fun k => True ∧ some k ≠ vt.ownBlock) rfl rfl ⟨_, rfl, ob_apart HOX11.out HOT11.out⟩ (fun _ h => h) (fun _ _ => trivial) HOT11.out HB11.out HB11.out.size (by have := HTL.out; omega) ?_; intro v12 w12 ho hb hg hat; have HO12 := Aside0.mk ho; have HB12 := Aside0.mk hb; have HZ12 := Aside0.mk (blk_grown HZ11.out hg (Kd.R_ne HOT11.out HZ11.out (by decide))); clear ho hb hg hat)
        | ((with_reducible refine gate_store (t := 24) (p := 8) (v := .tmp 64) rfl ?_); refine wpList_store_row rfl 24 (.tmp 8) (.tmp 64) rfl (w.heap.size + 1) E.toArray rfl rfl 24 Z32 HZ12.out HE.out.blkA HE.out.zsA HE.out.oneA ?_))
      have HSR := Aside0.mk (setRow_heap w12 (w.heap.size + 1) Z32 E.toArray _ _ HZ12.out)
      refine bodyPost_ret (results_ctt rfl _ _ (w.heap.size + 1) 24 E.toArray (0, 0) _ rfl HSR.out Try.underlying24 rfl HE.out.blkA) rfl ?_
      exact ⟨_, rfl, ot_setRow (D := E.toArray) HO12.out HZ12.out, below_setRow HB12.out (Nat.le_succ _) E.toArray⟩
    · have H12S := Aside0.mk (atC_lt H12.out HX.out.lenC)
      go_simp
      have HN := Aside0.mk (show ((w5.alloc (.cells Z32 24)).drew).heap[w5.heap.size]? = some (.cells Z32 24 (0, 0)) from blk_new w5 _)
      have hb := below_drew (below_alloc (Below.refl w5.heap.size w5) (.cells Z32 24))
      have HQ := Aside0.mk (show w.heap.size + 1 < w5.heap.size from (Array.getElem?_eq_some_iff.1 HZ.out).1)
      have x_HZ := Aside0.mk (blk_below HZ.out hb)
      have x_HG := Aside0.mk (HG.out.below hb)
      have x_HB := Aside0.mk (below_step HB.out hb)
      have x_H12 := Aside0.mk (H12.out.below hb)
      clear HZ HG HB H12
      have HZ := x_HZ
      have HG := x_HG
      have HB := x_HB
      have H12 := x_H12
      clear x_HZ x_HG x_HB x_H12
      clear hb
      obtain ⟨w8, hw8⟩ : ∃ W', (w5.alloc (.cells Z32 24)).drew = W' := ⟨_, rfl⟩
      rw [hw8] at HN HZ HG HB H12
      rw [show (w5.alloc (.cells #[.int .u8 0, .int .u8 0, .int .u8 0, .int .u8 0, .int .u8 0, .int .u8 0, .int .u8 0, .int .u8 0, .int .u8 0, .int .u8 0, .int .u8 0, .int .u8 0, .int .u8 0, .int .u8 0, .int .u8 0, .int .u8 0, .int .u8 0, .int .u8 0, .int .u8 0, .int .u8 0, .int .u8 0, .int .u8 0, .int .u8 0, .int .u8 0, .int .u8 0, .int .u8 0, .int .u8 0, .int .u8 0, .int .u8 0, .int .u8 0, .int .u8 0, .int .u8 0] 24)).drew = w8 from hw8]
      clear hw8
      obtain ⟨g13, hg13⟩ : ∃ g, w5.heap.size = g := ⟨_, rfl⟩
      have H1213 := Aside0.mk (show g12 < w5.heap.size from H12S.out)
      rw [hg13] at HN HQ H1213 ⊢
      clear H12S hg13
      (refine Shut.out hK _ _ HG.out (fun hHeld => ?_); clear hK K; (try simp only [Act.put, List.getElem_toArray, List.getElem_cons_zero, List.getElem_cons_succ, List.setIfInBounds_toArray, List.set_cons_zero, List.set_cons_succ]))
      refine wpAnyH_ready (rs := [8]) (by kernel_rfl) (by simp) (AllReadyH.cons rfl (fun K hK => ?_) AllReadyH.nil)
      go_simp
      refine (HU.out _ HB.out).mono ?_
      rintro e w7 ⟨vt, rfl, ho, hb0⟩
      have hb := hb0
      have HOT := Aside0.mk (show Ot w7 w.heap.size vt tx from Kd.R_lower ho HB.out.size)
      have x_HZ := Aside0.mk (blk_below HZ.out hb)
      have x_HG := Aside0.mk (HG.out.below hb)
      have x_HB := Aside0.mk (below_step HB.out hb)
      have x_H12 := Aside0.mk (H12.out.below hb)
      have x_HN := Aside0.mk (blk_below HN.out hb)
      clear HZ HG HB H12 HN
      have HZ := x_HZ
      have HG := x_HG
      have HB := x_HB
      have H12 := x_H12
      have HN := x_HN
      clear x_HZ x_HG x_HB x_H12 x_HN
      clear hb hb0 ho
      (refine Shut.out hK _ _ HG.out (fun hHeld => ?_); clear hK K; (try simp only [Act.put, List.getElem_toArray, List.getElem_cons_zero, List.getElem_cons_succ, List.setIfInBounds_toArray, List.set_cons_zero, List.set_cons_succ]))
      (refine wpAnyH_take (i := 9) (v := ?_) rfl (by kernel_rfl) (by kernel_rfl) (by kernel_rfl) (fun _ _ _ h => h) (Or.inl ⟨by rfl, ?_⟩) (by assumption) ?_; (case' refine_2 => (intro w hSw; go_simp; try with_reducible rfl)); (try simp only [Act.put, List.getElem_toArray, List.getElem_cons_zero, List.getElem_cons_succ, List.setIfInBounds_toArray, List.set_cons_zero, List.set_cons_succ]))
      (refine wpAnyH_take (i := 10) (v := ?_) rfl (by kernel_rfl) (by kernel_rfl) (by kernel_rfl) (fun _ _ _ h => h) (Or.inl ⟨by rfl, ?_⟩) (by assumption) ?_; (case' refine_2 => (intro w hSw; go_simp; try with_reducible rfl)); (try simp only [Act.put, List.getElem_toArray, List.getElem_cons_zero, List.getElem_cons_succ, List.setIfInBounds_toArray, List.set_cons_zero, List.set_cons_succ]))
      (refine wpAnyH_take (i := 11) (v := ?_) rfl (by kernel_rfl) (by kernel_rfl) (by kernel_rfl) (fun _ _ _ h => h) (Or.inl ⟨by rfl, ?_⟩) (by assumption) ?_; (case' refine_2 => (intro w hSw; go_simp; try with_reducible rfl)); (try simp only [Act.put, List.getElem_toArray, List.getElem_cons_zero, List.getElem_cons_succ, List.setIfInBounds_toArray, List.set_cons_zero, List.set_cons_succ]))
      (refine wpAnyH_take (i := 12) (v := ?_) rfl (by kernel_rfl) (by kernel_rfl) (by kernel_rfl) (fun _ _ _ h => h) (Or.inl ⟨by rfl, ?_⟩) (by assumption) ?_; (case' refine_2 => (intro w hSw; go_simp; try with_reducible rfl)); (try simp only [Act.put, List.getElem_toArray, List.getElem_cons_zero, List.getElem_cons_succ, List.setIfInBounds_toArray, List.set_cons_zero, List.set_cons_succ]))
      refine wpAnyH_ready (rs := [14]) (by kernel_rfl) (by simp) (AllReadyH.cons rfl (fun K hK => ?_) AllReadyH.nil)
      rw [if_pos (by rfl)]
      refine wp_store_row 24 (.tmp 13) (.tmp 57) rfl g13 Y.toArray rfl rfl 24 Z32 HN.out HYC.out.blkA HYC.out.zsA HYC.out.oneA ?_
      have H13 := Aside0.mk (atC_blk (setRow_heap w7 g13 Z32 Y.toArray _ _ HN.out))
      have hne1 : w.heap.size + 1 ≠ g13 := by have := HQ.out; omega
      have hne2 : w.heap.size ≠ g13 := by have := HQ.out; omega
      have hne3 : g12 ≠ g13 := by have := H1213.out; omega
      have x_HZ := Aside0.mk ((setRow_other w7 g13 (w.heap.size + 1) Y.toArray hne1).trans HZ.out)
      have x_HG := Aside0.mk (atC_setRow (D := Y.toArray) HG.out hne2)
      have x_HB := Aside0.mk (below_setRow HB.out (show w.heap.size ≤ g13 from by have := HQ.out; omega) Y.toArray)
      have x_H12 := Aside0.mk (atC_setRow (D := Y.toArray) H12.out hne3)
      have x_HOT := Aside0.mk (ot_setRow (D := Y.toArray) HOT.out HN.out)
      clear HZ HG HB H12 HOT
      have HZ := x_HZ
      have HG := x_HG
      have HB := x_HB
      have H12 := x_H12
      have HOT := x_HOT
      clear x_HZ x_HG x_HB x_H12 x_HOT
      clear HN HQ hne1 hne2 hne3
      obtain ⟨w9, hw9⟩ : ∃ W', w7.setRow g13 Y.toArray = W' := ⟨_, rfl⟩
      rw [hw9] at H12 H13 HZ HG HB HOT ⊢
      clear hw9
      (refine Shut.out hK _ _ HG.out (fun hHeld => ?_); clear hK K; (try simp only [Act.put, List.getElem_toArray, List.getElem_cons_zero, List.getElem_cons_succ, List.setIfInBounds_toArray, List.set_cons_zero, List.set_cons_succ]))
      (refine wpAnyH_take (i := 15) (v := ?_) rfl (by kernel_rfl) (by kernel_rfl) (by kernel_rfl) (fun _ _ _ h => h) (Or.inl ⟨by rfl, ?_⟩) (by assumption) ?_; (case' refine_2 => (intro w hSw; go_simp; try with_reducible rfl)); (try simp only [Act.put, List.getElem_toArray, List.getElem_cons_zero, List.getElem_cons_succ, List.setIfInBounds_toArray, List.set_cons_zero, List.set_cons_succ]))
      (refine wpAnyH_take (i := 16) (v := ?_) rfl (by kernel_rfl) (by kernel_rfl) (by kernel_rfl) (fun _ _ _ h => h) (Or.inl ⟨by rfl, ?_⟩) (by assumption) ?_; (case' refine_2 => (intro w hSw; go_simp; try with_reducible rfl)); (try simp only [Act.put, List.getElem_toArray, List.getElem_cons_zero, List.getElem_cons_succ, List.setIfInBounds_toArray, List.set_cons_zero, List.set_cons_succ]))
      refine wpAnyH_done (by kernel_rfl) ?_ _
      go_wp2_with (first
        | ((with_reducible refine gate_dst (N := 60) rfl ?_); refine wpList_load_at rfl 24 (.tmp 13) rfl ⟨g13, 0, none⟩ rfl Y _ H13.out Try.underlying24 rfl HIY.out ?_)
        | ((with_reducible refine gate_dst (N := 61) rfl ?_); refine wpList_load_at rfl 24 (.tmp 12) rfl ⟨g12, 0, none⟩ rfl X _ H12.out Try.underlying24 rfl HIX.out ?_))
      refine (HT.out _).mono ?_
      rintro e w10 ⟨vx, rfl, ho, hb⟩
      obtain ⟨Ax, cx, rfl⟩ := Kd.R_slice ho
      have HOX := Aside0.mk (show Ob w10 w.heap.size _ (nodeX d x) from Kd.R_lower ho HB.out.size)
      have HS10 := Aside0.mk (HS.out _ _ w10 ho)
      have HZ10 := Aside0.mk (blk_below HZ.out hb)
      have HB10 := Aside0.mk (below_step HB.out hb)
      have HOT10 := Aside0.mk (Kd.R_below HOT.out hb)
      clear ho hb
      go_wp2_with (fail)
      refine HS10.out.mono ?_
      rintro e w11 ⟨rfl, hb⟩
      have HOX11 := Aside0.mk (Kd.R_below HOX.out hb)
      have HZ11 := Aside0.mk (blk_below HZ10.out hb)
      have HB11 := Aside0.mk (below_step HB10.out hb)
      have HOT11 := Aside0.mk (Kd.R_below HOT10.out hb)
      clear hb
      go_wp2_with (first
        | ((with_reducible refine gate_builtin (b := .append) (xs := #[.tmp 65, .tmp 67]) rfl ?_); at_builtin; refine Kd.R_append DX (w0 := w) w.heap.size rfl (.tmp 65) (.tmp 67) 29 22 (.slice none 0 0) 24 rfl Try.underlying29 info_text rfl (by decide) (by decide) vt tx (nodeX d x) [.slice Ax (nodeX d x).length cx] (fun _ => True) (fun k => True ∧ some k ≠ vt.ownBlock) rfl rfl ⟨_, rfl, ob_apart HOX11.out HOT11.out⟩ (fun _ h => h) (fun _ _ => trivial) HOT11.out HB11.out HB11.out.size (by have := HTL.out; omega) ?_; intro v12 w12 ho hb hg hat; have HO12 := Aside0.mk ho; have HB12 := Aside0.mk hb; have HZ12 := Aside0.mk (blk_grown HZ11.out hg (Kd.R_ne HOT11.out HZ11.out (by decide))); clear ho hb hg hat)
        | ((with_reducible refine gate_store (t := 24) (p := 8) (v := .tmp 64) rfl ?_); refine wpList_store_row rfl 24 (.tmp 8) (.tmp 64) rfl (w.heap.size + 1) E.toArray rfl rfl 24 Z32 HZ12.out HE.out.blkA HE.out.zsA HE.out.oneA ?_))
      have HSR := Aside0.mk (setRow_heap w12 (w.heap.size + 1) Z32 E.toArray _ _ HZ12.out)
      refine bodyPost_ret (results_ctt rfl _ _ (w.heap.size + 1) 24 E.toArray (0, 0) _ rfl HSR.out Try.underlying24 rfl HE.out.blkA) rfl ?_
      exact ⟨_, rfl, ot_setRow (D := E.toArray) HO12.out HZ12.out, below_setRow HB12.out (Nat.le_succ _) E.toArray⟩
set_option maxHeartbeats 16000000 in
set_option maxRecDepth 100000 in
theorem rup_right_c (leaf : Sm) (hl : leaf.length = 32) (d x : Sm) (hd : d.length = 32) (hx : x.length = 32) (hdu : U8' d) (hxu : U8' x) (b : Bool) (tx : List (List Int)) (htl : tx.length ≤ 1000) (i n k : Nat) (hk2 : hlf n = k) (h2 : 2 ≤ n) (hm : n ≤ 1048576) (hik : k ≤ i) (hin : i < n) (ad : Addr) (m c : Nat) (hc : m + 1 ≤ c) (hmm : m ≤ 1000) (w : World) (hat : AtC w (ad.add (m * 32)) (nums .u8 x))
    (hU : ∀ W, Below w.heap.size w W → Calls Try.prog 33 #[sumV leaf, .int .i64 ((i : Int) - (k : Int)), .int .i64 ((n : Int) - (k : Int)), .slice (some ad) m c] W (RetU W d b tx)) :
    Calls Try.prog 33 #[sumV leaf, .int .i64 (i : Int), .int .i64 (n : Int), .slice (some ad) (m + 1) c] w (RetU w (nodeH x d) b (tx ++ [nodeX x d])) := by
  obtain ⟨L, hL⟩ := sumC leaf hl
  have HL := Aside0.mk hL
  have HG := Aside0.mk (show AtC ((w.alloc (.cells L.toArray 24)).alloc (.cells Z32 24)) ⟨w.heap.size, 0, none⟩ L from atC_blk (fr := (0, 0)) (T := 24) (blk_alloc (blk_new w (.cells L.toArray 24)) _))
  have HZ := Aside0.mk (show ((w.alloc (.cells L.toArray 24)).alloc (.cells Z32 24)).heap[w.heap.size + 1]? = some (.cells Z32 24 (0, 0)) from second_new' _ _ _)
  have HB := Aside0.mk (show Below w.heap.size w ((w.alloc (.cells L.toArray 24)).alloc (.cells Z32 24)) from below_alloc (below_alloc (Below.refl _ _) _) _)
  obtain ⟨E, hE⟩ := sumC (nodeH x d) (nodeH_len _ _)
  obtain ⟨X, hX⟩ := sumC x hx
  obtain ⟨Y, hY⟩ := sumC d hd
  have HE := Aside0.mk hE
  have HX := Aside0.mk hX
  have HYC := Aside0.mk hY
  have HIL := Aside0.mk hL.blk
  have HIX := Aside0.mk hX.blk
  have HIY := Aside0.mk hY.blk
  have HT := Aside0.mk (rnodex_c x d hx hd)
  have HS := Aside0.mk (rof_o (nodeX x d) (nodeX_u8 hxu hdu) (by rw [nodeX_len hx hd]; decide))
  rw [hX.eq] at hat
  have HAT := Aside0.mk hat
  have HTL := Aside0.mk htl
  have hk := hlf_lt h2
  have HKB := Aside0.mk (fun W => half_c n h2 (by omega) W)
  rw [hk2] at HKB hk
  unfold MakesU at HT
  unfold Ret at HS
  unfold RetU at hU ⊢
  rw [hX.v, hY.v] at HT
  rw [← nodeH_eq, hE.v] at HS
  rw [hL.v] at hU ⊢
  rw [hY.v] at hU
  rw [hE.v]
  have HU := Aside0.mk hU
  have HC1 := Aside0.mk (cut_a (some ad) (m + 1) c m (by omega) hc)
  have d1 : ((n : Int) == 1) = false := by simp; omega
  have d2 : (((m + 1 : Nat) : Int) == 0) = false := by simp; omega
  have d2' : ((m : Int) + 1 == 0) = false := by simp; omega
  have d3 : decide ((i : Int) < (k : Int)) = false := by simp; omega
  have d4 : decide (i < k) = false := by simp; omega
  have q1 : ((m : Int) < (m : Int) + 1) = True := eq_true (by omega)
  have e1 : IntKind.i64.wrap (m : Int) = (m : Int) := by rw [i64_w, w64 (by omega) (by omega)]
  have HE1 := Aside0.mk (show IntKind.i64.wrap ((i : Int) - (k : Int)) = (i : Int) - (k : Int) by rw [i64_w]; exact w64 (by omega) (by omega))
  have HE2 := Aside0.mk (show IntKind.i64.wrap ((n : Int) - (k : Int)) = (n : Int) - (k : Int) by rw [i64_w]; exact w64 (by omega) (by omega))
  have HNUM := Aside0.mk (And.intro hc (And.intro hin (And.intro hm (And.intro hmm (And.intro hk h2)))))
  clear hE hX hY hL hU hl hd hx hdu hxu hk2 hat htl hk hc hin hm hmm h2 hik
  go_enter Try.func33, Try.ntmps33
  go_wp2_with (fail)
  obtain ⟨W, hW⟩ : ∃ W, ((w.alloc (.cells L.toArray 24)).alloc (.cells Z32 24)) = W := ⟨_, rfl⟩
  rw [hW] at HG HZ HB
  rw [show ((w.alloc (.cells L.toArray 24)).alloc (.cells #[.int .u8 0, .int .u8 0, .int .u8 0, .int .u8 0, .int .u8 0, .int .u8 0, .int .u8 0, .int .u8 0, .int .u8 0, .int .u8 0, .int .u8 0, .int .u8 0, .int .u8 0, .int .u8 0, .int .u8 0, .int .u8 0, .int .u8 0, .int .u8 0, .int .u8 0, .int .u8 0, .int .u8 0, .int .u8 0, .int .u8 0, .int .u8 0, .int .u8 0, .int .u8 0, .int .u8 0, .int .u8 0, .int .u8 0, .int .u8 0, .int .u8 0, .int .u8 0] 24)) = W from hW]
  clear hW
  have hu24 := Try.underlying24
  have HAX := Aside0.mk (HAT.out.below HB.out)
  refine wp_region_held_drew (S := fun w' => AtC w' (ad.add (m * 32)) X) (by kernel_rfl) HAX.out (fun hHeld => ?_)
  (refine wpAnyH_take (i := 0) (v := ?_) rfl (by kernel_rfl) (by kernel_rfl) (by kernel_rfl) (fun _ _ _ h => h) (Or.inl ⟨by rfl, ?_⟩) (by assumption) ?_; (case' refine_2 => (intro w hSw; go_simp; try with_reducible rfl)); (try simp only [Act.put, List.getElem_toArray, List.getElem_cons_zero, List.getElem_cons_succ, List.setIfInBounds_toArray, List.set_cons_zero, List.set_cons_succ]))
  (refine wpAnyH_take (i := 2) (v := ?_) rfl (by kernel_rfl) (by kernel_rfl) (by kernel_rfl) (fun _ _ _ h => h) (Or.inl ⟨by rfl, ?_⟩) (by assumption) ?_; (case' refine_2 => (intro w hSw; go_simp; try with_reducible rfl)); (try simp only [Act.put, List.getElem_toArray, List.getElem_cons_zero, List.getElem_cons_succ, List.setIfInBounds_toArray, List.set_cons_zero, List.set_cons_succ]))
  (refine wpAnyH_take (i := 3) (v := ?_) rfl (by kernel_rfl) (by kernel_rfl) (by kernel_rfl) (fun _ _ _ h => h) (Or.inl ⟨by rfl, ?_⟩) (by assumption) ?_; (case' refine_2 => (intro w hSw; go_simp; try with_reducible rfl)); (try simp only [Act.put, List.getElem_toArray, List.getElem_cons_zero, List.getElem_cons_succ, List.setIfInBounds_toArray, List.set_cons_zero, List.set_cons_succ]))
  (refine wpAnyH_take (i := 4) (v := ?_) rfl (by kernel_rfl) (by kernel_rfl) (by kernel_rfl) (fun _ _ _ h => h) (Or.inl ⟨by rfl, ?_⟩) (by assumption) ?_; (case' refine_2 => (intro w hSw; go_simp; try with_reducible rfl)); (try simp only [Act.put, List.getElem_toArray, List.getElem_cons_zero, List.getElem_cons_succ, List.setIfInBounds_toArray, List.set_cons_zero, List.set_cons_succ]))
  (refine wpAnyH_take (i := 5) (v := ?_) rfl (by kernel_rfl) (by kernel_rfl) (by kernel_rfl) (fun _ _ _ h => h) (Or.inl ⟨by rfl, ?_⟩) (by assumption) ?_; (case' refine_2 => (intro w hSw; go_simp; try with_reducible rfl)); (try simp only [Act.put, List.getElem_toArray, List.getElem_cons_zero, List.getElem_cons_succ, List.setIfInBounds_toArray, List.set_cons_zero, List.set_cons_succ]))
  (refine wpAnyH_take (i := 6) (v := ?_) rfl (by kernel_rfl) (by kernel_rfl) (by kernel_rfl) (fun _ _ _ h => h) (Or.inl ⟨by rfl, ?_⟩) (by assumption) ?_; (case' refine_2 => (intro w hSw; go_simp; try with_reducible rfl)); (try simp only [Act.put, List.getElem_toArray, List.getElem_cons_zero, List.getElem_cons_succ, List.setIfInBounds_toArray, List.set_cons_zero, List.set_cons_succ]))
  (refine wpAnyH_take (i := 7) rfl (by kernel_rfl) (by kernel_rfl) (by kernel_rfl) (fun _ _ _ h => h) (yieldsIf_load_at (by rfl) _ _ rfl (ad.add (m * 32)) rfl X _ (fun _ h => h) (by assumption) rfl HIX.out) (by assumption) ?_; (try simp only [Act.put, List.getElem_toArray, List.getElem_cons_zero, List.getElem_cons_succ, List.setIfInBounds_toArray, List.set_cons_zero, List.set_cons_succ]))
  refine wpAnyH_ready (rs := [1, 8]) (by kernel_rfl) (by simp) (AllReadyH.cons rfl (fun K hK => ?_) (AllReadyH.cons rfl (fun K hK => ?_) AllReadyH.nil))
  · go_simp
    refine (HKB.out _).mono ?_
    rintro e w2 ⟨rfl, hd_⟩
    have hb := below_drew_of (Drawn0.below hd_)
    have x_HZ := Aside0.mk (blk_below HZ.out hb)
    have x_HG := Aside0.mk (HG.out.below hb)
    have x_HB := Aside0.mk (below_step HB.out hb)
    have x_HAX := Aside0.mk (HAX.out.below hb)
    clear HZ HG HB HAX
    have HZ := x_HZ
    have HG := x_HG
    have HB := x_HB
    have HAX := x_HAX
    clear x_HZ x_HG x_HB x_HAX
    clear hb hd_
    (refine Shut.out hK _ _ HAX.out (fun hHeld => ?_); clear hK K; (try simp only [Act.put, List.getElem_toArray, List.getElem_cons_zero, List.getElem_cons_succ, List.setIfInBounds_toArray, List.set_cons_zero, List.set_cons_succ]))
    refine wpAnyH_ready (rs := [8]) (by kernel_rfl) (by simp) (AllReadyH.cons rfl (fun K hK => ?_) AllReadyH.nil)
    go_simp
    have HN := Aside0.mk (show (w2.alloc (.cells Z32 24)).heap[w2.heap.size]? = some (.cells Z32 24 (0, 0)) from blk_new w2 _)
    have hb := below_alloc (Below.refl w2.heap.size w2) (.cells Z32 24)
    have HQ := Aside0.mk (show w.heap.size + 1 < w2.heap.size from (Array.getElem?_eq_some_iff.1 HZ.out).1)
    have x_HZ := Aside0.mk (blk_below HZ.out hb)
    have x_HG := Aside0.mk (HG.out.below hb)
    have x_HB := Aside0.mk (below_step HB.out hb)
    have x_HAX := Aside0.mk (HAX.out.below hb)
    clear HZ HG HB HAX
    have HZ := x_HZ
    have HG := x_HG
    have HB := x_HB
    have HAX := x_HAX
    clear x_HZ x_HG x_HB x_HAX
    clear hb
    obtain ⟨w4, hw4⟩ : ∃ W', w2.alloc (.cells Z32 24) = W' := ⟨_, rfl⟩
    rw [hw4] at HN HZ HG HB HAX
    rw [show w2.alloc (.cells #[.int .u8 0, .int .u8 0, .int .u8 0, .int .u8 0, .int .u8 0, .int .u8 0, .int .u8 0, .int .u8 0, .int .u8 0, .int .u8 0, .int .u8 0, .int .u8 0, .int .u8 0, .int .u8 0, .int .u8 0, .int .u8 0, .int .u8 0, .int .u8 0, .int .u8 0, .int .u8 0, .int .u8 0, .int .u8 0, .int .u8 0, .int .u8 0, .int .u8 0, .int .u8 0, .int .u8 0, .int .u8 0, .int .u8 0, .int .u8 0, .int .u8 0, .int .u8 0] 24) = w4 from hw4]
    clear hw4
    obtain ⟨g12, hg12⟩ : ∃ g, w2.heap.size = g := ⟨_, rfl⟩
    rw [hg12] at HN HQ ⊢
    clear hg12
    (refine Shut.out hK _ _ HAX.out (fun hHeld => ?_); clear hK K; (try simp only [Act.put, List.getElem_toArray, List.getElem_cons_zero, List.getElem_cons_succ, List.setIfInBounds_toArray, List.set_cons_zero, List.set_cons_succ]))
    (refine wpAnyH_take (i := 9) (v := ?_) rfl (by kernel_rfl) (by kernel_rfl) (by kernel_rfl) (fun _ _ _ h => h) (Or.inl ⟨by rfl, ?_⟩) (by assumption) ?_; (case' refine_2 => (intro w hSw; go_simp; try with_reducible rfl)); (try simp only [Act.put, List.getElem_toArray, List.getElem_cons_zero, List.getElem_cons_succ, List.setIfInBounds_toArray, List.set_cons_zero, List.set_cons_succ]))
    refine wpAnyH_ready (rs := [10]) (by kernel_rfl) (by simp) (AllReadyH.cons rfl (fun K hK => ?_) AllReadyH.nil)
    rw [if_pos (by rfl)]
    refine wp_store_row 24 (.tmp 12) (.tmp 43) rfl g12 X.toArray rfl rfl 24 Z32 HN.out HX.out.blkA HX.out.zsA HX.out.oneA ?_
    have H12 := Aside0.mk (atC_blk (setRow_heap w4 g12 Z32 X.toArray _ _ HN.out))
    have hne1 : w.heap.size + 1 ≠ g12 := by have := HQ.out; omega
    have hne2 : w.heap.size ≠ g12 := by have := HQ.out; omega
    have H12L := Aside0.mk (show w.heap.size + 1 < g12 from HQ.out)
    have x_HZ := Aside0.mk ((setRow_other w4 g12 (w.heap.size + 1) X.toArray hne1).trans HZ.out)
    have x_HG := Aside0.mk (atC_setRow (D := X.toArray) HG.out hne2)
    have x_HB := Aside0.mk (below_setRow HB.out (show w.heap.size ≤ g12 from by have := HQ.out; omega) X.toArray)
    clear HZ HG HB
    have HZ := x_HZ
    have HG := x_HG
    have HB := x_HB
    clear x_HZ x_HG x_HB
    have x_HAX := Aside0.mk (HAT.out.below HB.out)
    clear HAX HN HQ hne1 hne2
    have HAX := x_HAX
    clear x_HAX
    obtain ⟨w5, hw5⟩ : ∃ W', w4.setRow g12 X.toArray = W' := ⟨_, rfl⟩
    rw [hw5] at H12 HZ HG HB HAX ⊢
    clear hw5
    (refine Shut.out hK _ _ HAX.out (fun hHeld => ?_); clear hK K; (try simp only [Act.put, List.getElem_toArray, List.getElem_cons_zero, List.getElem_cons_succ, List.setIfInBounds_toArray, List.set_cons_zero, List.set_cons_succ]))
    refine wpAnyH_done (by kernel_rfl) ?_ _
    go_wp2_with (fail)
    have hq1 := HC1.out
    refine wp_region_held_drew (S := fun w' => AtC w' ⟨w.heap.size, 0, none⟩ L) (by kernel_rfl) HG.out (fun hHeld => ?_)
    (refine wpAnyH_take (i := 0) rfl (by kernel_rfl) (by kernel_rfl) (by kernel_rfl) (fun _ _ _ h => h) (yieldsIf_load_at (by rfl) _ _ rfl ⟨w.heap.size, 0, none⟩ rfl L _ (fun _ h => h) (by assumption) rfl HIL.out) (by assumption) ?_; (try simp only [Act.put, List.getElem_toArray, List.getElem_cons_zero, List.getElem_cons_succ, List.setIfInBounds_toArray, List.set_cons_zero, List.set_cons_succ]))
    (refine wpAnyH_take (i := 1) (v := ?_) rfl (by kernel_rfl) (by kernel_rfl) (by kernel_rfl) (fun _ _ _ h => h) (Or.inl ⟨by rfl, ?_⟩) (by assumption) ?_; (case' refine_2 => (intro w hSw; go_simp; try with_reducible rfl)); (try simp only [Act.put, List.getElem_toArray, List.getElem_cons_zero, List.getElem_cons_succ, List.setIfInBounds_toArray, List.set_cons_zero, List.set_cons_succ]))
    (refine wpAnyH_take (i := 2) (v := ?_) rfl (by kernel_rfl) (by kernel_rfl) (by kernel_rfl) (fun _ _ _ h => h) (Or.inl ⟨by rfl, ?_⟩) (by assumption) ?_; (case' refine_2 => (intro w hSw; go_simp; try with_reducible rfl)); (try simp only [Act.put, List.getElem_toArray, List.getElem_cons_zero, List.getElem_cons_succ, List.setIfInBounds_toArray, List.set_cons_zero, List.set_cons_succ]))
    (refine wpAnyH_take (i := 3) (v := ?_) rfl (by kernel_rfl) (by kernel_rfl) (by kernel_rfl) (fun _ _ _ h => h) (Or.inl ⟨by rfl, ?_⟩) (by assumption) ?_; (case' refine_2 => (intro w hSw; go_simp; try with_reducible rfl)); (try simp only [Act.put, List.getElem_toArray, List.getElem_cons_zero, List.getElem_cons_succ, List.setIfInBounds_toArray, List.set_cons_zero, List.set_cons_succ]))
    (refine wpAnyH_take (i := 4) (v := ?_) rfl (by kernel_rfl) (by kernel_rfl) (by kernel_rfl) (fun _ _ _ h => h) (Or.inl ⟨by rfl, ?_⟩) (by assumption) ?_; (case' refine_2 => (intro w hSw; go_simp; try with_reducible rfl)); (try simp only [Act.put, List.getElem_toArray, List.getElem_cons_zero, List.getElem_cons_succ, List.setIfInBounds_toArray, List.set_cons_zero, List.set_cons_succ]))
    (refine wpAnyH_take (i := 5) (v := ?_) rfl (by kernel_rfl) (by kernel_rfl) (by kernel_rfl) (fun _ _ _ h => h) (Or.inl ⟨by rfl, ?_⟩) (by assumption) ?_; (case' refine_2 => (intro w hSw; go_simp; try with_reducible rfl)); (try simp only [Act.put, List.getElem_toArray, List.getElem_cons_zero, List.getElem_cons_succ, List.setIfInBounds_toArray, List.set_cons_zero, List.set_cons_succ]))
    (refine wpAnyH_take (i := 6) (v := ?_) rfl (by kernel_rfl) (by kernel_rfl) (by kernel_rfl) (fun _ _ _ h => h) (Or.inl ⟨by rfl, ?_⟩) (by assumption) ?_; (case' refine_2 => (intro w hSw; go_simp; try with_reducible rfl)); (try simp only [Act.put, List.getElem_toArray, List.getElem_cons_zero, List.getElem_cons_succ, List.setIfInBounds_toArray, List.set_cons_zero, List.set_cons_succ]))
    (refine wpAnyH_take (i := 7) (v := ?_) rfl (by kernel_rfl) (by kernel_rfl) (by kernel_rfl) (fun _ _ _ h => h) (Or.inl ⟨by rfl, ?_⟩) (by assumption) ?_; (case' refine_2 => (intro w hSw; go_simp; try with_reducible rfl)); (try simp only [Act.put, List.getElem_toArray, List.getElem_cons_zero, List.getElem_cons_succ, List.setIfInBounds_toArray, List.set_cons_zero, List.set_cons_succ]))
    (refine wpAnyH_take (i := 8) (v := ?_) rfl (by kernel_rfl) (by kernel_rfl) (by kernel_rfl) (fun _ _ _ h => h) (Or.inl ⟨by rfl, ?_⟩) (by assumption) ?_; (case' refine_2 => (intro w hSw; go_simp; try with_reducible rfl)); (try simp only [Act.put, List.getElem_toArray, List.getElem_cons_zero, List.getElem_cons_succ, List.setIfInBounds_toArray, List.set_cons_zero, List.set_cons_succ]))
    (refine wpAnyH_take (i := 9) (v := ?_) rfl (by kernel_rfl) (by kernel_rfl) (by kernel_rfl) (fun _ _ _ h => h) (Or.inl ⟨by rfl, ?_⟩) (by assumption) ?_; (case' refine_2 => (intro w hSw; go_simp; try with_reducible rfl)); (try simp only [Act.put, List.getElem_toArray, List.getElem_cons_zero, List.getElem_cons_succ, List.setIfInBounds_toArray, List.set_cons_zero, List.set_cons_succ]))
    (refine wpAnyH_take (i := 10) (v := ?_) rfl (by kernel_rfl) (by kernel_rfl) (by kernel_rfl) (fun _ _ _ h => h) (Or.inl ⟨by rfl, ?_⟩) (by assumption) ?_; (case' refine_2 => (intro w hSw; go_simp; try with_reducible rfl)); (try simp only [Act.put, List.getElem_toArray, List.getElem_cons_zero, List.getElem_cons_succ, List.setIfInBounds_toArray, List.set_cons_zero, List.set_cons_succ]))
    (refine wpAnyH_take (i := 11) (v := ?_) rfl (by kernel_rfl) (by kernel_rfl) (by kernel_rfl) (fun _ _ _ h => h) (Or.inl ⟨by rfl, ?_⟩) (by assumption) ?_; (case' refine_2 => (intro w hSw; go_simp; try with_reducible rfl)); (try simp only [Act.put, List.getElem_toArray, List.getElem_cons_zero, List.getElem_cons_succ, List.setIfInBounds_toArray, List.set_cons_zero, List.set_cons_succ]))
    refine wpAnyH_ready (rs := [12, 17]) (by kernel_rfl) (by simp) (AllReadyH.cons rfl (fun K hK => ?_) (AllReadyH.cons rfl (fun K hK => ?_) AllReadyH.nil))
    · go_simp
      rw [HE1.out, HE2.out]
      refine (HU.out _ (below_drew1 HB.out)).mono ?_
      rintro e w7 ⟨vt, rfl, ho, hb0⟩
      have hb := below_drew_of hb0
      have HOT := Aside0.mk (show Ot w7 w.heap.size vt tx from Kd.R_lower ho (show w.heap.size ≤ w5.drew.heap.size from HB.out.size))
      have x_HZ := Aside0.mk (blk_below HZ.out hb)
      have x_HG := Aside0.mk (HG.out.below hb)
      have x_HB := Aside0.mk (below_step HB.out hb)
      have x_H12 := Aside0.mk (H12.out.below hb)
      clear HZ HG HB H12
      have HZ := x_HZ
      have HG := x_HG
      have HB := x_HB
      have H12 := x_H12
      clear x_HZ x_HG x_HB x_H12
      clear hb hb0 ho
      (refine Shut.out hK _ _ HG.out (fun hHeld => ?_); clear hK K; (try simp only [Act.put, List.getElem_toArray, List.getElem_cons_zero, List.getElem_cons_succ, List.setIfInBounds_toArray, List.set_cons_zero, List.set_cons_succ]))
      (refine wpAnyH_take (i := 13) (v := ?_) rfl (by kernel_rfl) (by kernel_rfl) (by kernel_rfl) (fun _ _ _ h => h) (Or.inl ⟨by rfl, ?_⟩) (by assumption) ?_; (case' refine_2 => (intro w hSw; go_simp; try with_reducible rfl)); (try simp only [Act.put, List.getElem_toArray, List.getElem_cons_zero, List.getElem_cons_succ, List.setIfInBounds_toArray, List.set_cons_zero, List.set_cons_succ]))
      (refine wpAnyH_take (i := 14) (v := ?_) rfl (by kernel_rfl) (by kernel_rfl) (by kernel_rfl) (fun _ _ _ h => h) (Or.inl ⟨by rfl, ?_⟩) (by assumption) ?_; (case' refine_2 => (intro w hSw; go_simp; try with_reducible rfl)); (try simp only [Act.put, List.getElem_toArray, List.getElem_cons_zero, List.getElem_cons_succ, List.setIfInBounds_toArray, List.set_cons_zero, List.set_cons_succ]))
      (refine wpAnyH_take (i := 15) (v := ?_) rfl (by kernel_rfl) (by kernel_rfl) (by kernel_rfl) (fun _ _ _ h => h) (Or.inl ⟨by rfl, ?_⟩) (by assumption) ?_; (case' refine_2 => (intro w hSw; go_simp; try with_reducible rfl)); (try simp only [Act.put, List.getElem_toArray, List.getElem_cons_zero, List.getElem_cons_succ, List.setIfInBounds_toArray, List.set_cons_zero, List.set_cons_succ]))
      (refine wpAnyH_take (i := 16) (v := ?_) rfl (by kernel_rfl) (by kernel_rfl) (by kernel_rfl) (fun _ _ _ h => h) (Or.inl ⟨by rfl, ?_⟩) (by assumption) ?_; (case' refine_2 => (intro w hSw; go_simp; try with_reducible rfl)); (try simp only [Act.put, List.getElem_toArray, List.getElem_cons_zero, List.getElem_cons_succ, List.setIfInBounds_toArray, List.set_cons_zero, List.set_cons_succ]))
      refine wpAnyH_ready (rs := [17]) (by kernel_rfl) (by simp) (AllReadyH.cons rfl (fun K hK => ?_) AllReadyH.nil)
      have H12S := Aside0.mk (atC_lt H12.out HX.out.lenC)
      go_simp
      have HN := Aside0.mk (show (w7.alloc (.cells Z32 24)).heap[w7.heap.size]? = some (.cells Z32 24 (0, 0)) from blk_new w7 _)
      have hb := below_alloc (Below.refl w7.heap.size w7) (.cells Z32 24)
      have HQ := Aside0.mk (show w.heap.size + 1 < w7.heap.size from (Array.getElem?_eq_some_iff.1 HZ.out).1)
      have x_HZ := Aside0.mk (blk_below HZ.out hb)
      have x_HG := Aside0.mk (HG.out.below hb)
      have x_HB := Aside0.mk (below_step HB.out hb)
      have x_H12 := Aside0.mk (H12.out.below hb)
      have x_HOT := Aside0.mk (Kd.R_below HOT.out hb)
      clear HZ HG HB H12 HOT
      have HZ := x_HZ
      have HG := x_HG
      have HB := x_HB
      have H12 := x_H12
      have HOT := x_HOT
      clear x_HZ x_HG x_HB x_H12 x_HOT
      clear hb
      obtain ⟨w8, hw8⟩ : ∃ W', w7.alloc (.cells Z32 24) = W' := ⟨_, rfl⟩
      rw [hw8] at HN HZ HG HB H12 HOT
      rw [show w7.alloc (.cells #[.int .u8 0, .int .u8 0, .int .u8 0, .int .u8 0, .int .u8 0, .int .u8 0, .int .u8 0, .int .u8 0, .int .u8 0, .int .u8 0, .int .u8 0, .int .u8 0, .int .u8 0, .int .u8 0, .int .u8 0, .int .u8 0, .int .u8 0, .int .u8 0, .int .u8 0, .int .u8 0, .int .u8 0, .int .u8 0, .int .u8 0, .int .u8 0, .int .u8 0, .int .u8 0, .int .u8 0, .int .u8 0, .int .u8 0, .int .u8 0, .int .u8 0, .int .u8 0] 24) = w8 from hw8]
      clear hw8
      obtain ⟨g13, hg13⟩ : ∃ g, w7.heap.size = g := ⟨_, rfl⟩
      have H1213 := Aside0.mk (show g12 < w7.heap.size from H12S.out)
      rw [hg13] at HN HQ H1213 ⊢
      clear H12S hg13
      (refine Shut.out hK _ _ HG.out (fun hHeld => ?_); clear hK K; (try simp only [Act.put, List.getElem_toArray, List.getElem_cons_zero, List.getElem_cons_succ, List.setIfInBounds_toArray, List.set_cons_zero, List.set_cons_succ]))
      refine wpAnyH_ready (rs := [18]) (by kernel_rfl) (by simp) (AllReadyH.cons rfl (fun K hK => ?_) AllReadyH.nil)
      rw [if_pos (by rfl)]
      refine wp_store_row 24 (.tmp 17) (.tmp 84) rfl g13 Y.toArray rfl rfl 24 Z32 HN.out HYC.out.blkA HYC.out.zsA HYC.out.oneA ?_
      have H13 := Aside0.mk (atC_blk (setRow_heap w8 g13 Z32 Y.toArray _ _ HN.out))
      have hne1 : w.heap.size + 1 ≠ g13 := by have := HQ.out; omega
      have hne2 : w.heap.size ≠ g13 := by have := HQ.out; omega
      have hne3 : g12 ≠ g13 := by have := H1213.out; omega
      have x_HZ := Aside0.mk ((setRow_other w8 g13 (w.heap.size + 1) Y.toArray hne1).trans HZ.out)
      have x_HG := Aside0.mk (atC_setRow (D := Y.toArray) HG.out hne2)
      have x_HB := Aside0.mk (below_setRow HB.out (show w.heap.size ≤ g13 from by have := HQ.out; omega) Y.toArray)
      have x_H12 := Aside0.mk (atC_setRow (D := Y.toArray) H12.out hne3)
      have x_HOT := Aside0.mk (ot_setRow (D := Y.toArray) HOT.out HN.out)
      clear HZ HG HB H12 HOT
      have HZ := x_HZ
      have HG := x_HG
      have HB := x_HB
      have H12 := x_H12
      have HOT := x_HOT
      clear x_HZ x_HG x_HB x_H12 x_HOT
      clear HN HQ hne1 hne2 hne3
      obtain ⟨w9, hw9⟩ : ∃ W', w8.setRow g13 Y.toArray = W' := ⟨_, rfl⟩
      rw [hw9] at H12 H13 HZ HG HB HOT ⊢
      clear hw9
      (refine Shut.out hK _ _ HG.out (fun hHeld => ?_); clear hK K; (try simp only [Act.put, List.getElem_toArray, List.getElem_cons_zero, List.getElem_cons_succ, List.setIfInBounds_toArray, List.set_cons_zero, List.set_cons_succ]))
      (refine wpAnyH_take (i := 19) (v := ?_) rfl (by kernel_rfl) (by kernel_rfl) (by kernel_rfl) (fun _ _ _ h => h) (Or.inl ⟨by rfl, ?_⟩) (by assumption) ?_; (case' refine_2 => (intro w hSw; go_simp; try with_reducible rfl)); (try simp only [Act.put, List.getElem_toArray, List.getElem_cons_zero, List.getElem_cons_succ, List.setIfInBounds_toArray, List.set_cons_zero, List.set_cons_succ]))
      (refine wpAnyH_take (i := 20) (v := ?_) rfl (by kernel_rfl) (by kernel_rfl) (by kernel_rfl) (fun _ _ _ h => h) (Or.inl ⟨by rfl, ?_⟩) (by assumption) ?_; (case' refine_2 => (intro w hSw; go_simp; try with_reducible rfl)); (try simp only [Act.put, List.getElem_toArray, List.getElem_cons_zero, List.getElem_cons_succ, List.setIfInBounds_toArray, List.set_cons_zero, List.set_cons_succ]))
      refine wpAnyH_done (by kernel_rfl) ?_ _
      go_wp2_with (first
        | ((with_reducible refine gate_dst (N := 87) rfl ?_); refine wpList_load_at rfl 24 (.tmp 12) rfl ⟨g12, 0, none⟩ rfl X _ H12.out Try.underlying24 rfl HIX.out ?_)
        | ((with_reducible refine gate_dst (N := 88) rfl ?_); refine wpList_load_at rfl 24 (.tmp 17) rfl ⟨g13, 0, none⟩ rfl Y _ H13.out Try.underlying24 rfl HIY.out ?_))
      refine (HT.out _).mono ?_
      rintro e w10 ⟨vx, rfl, ho, hb⟩
      obtain ⟨Ax, cx, rfl⟩ := Kd.R_slice ho
      have HOX := Aside0.mk (show Ob w10 w.heap.size _ (nodeX x d) from Kd.R_lower ho HB.out.size)
      have HS10 := Aside0.mk (HS.out _ _ w10 ho)
      have HZ10 := Aside0.mk (blk_below HZ.out hb)
      have HB10 := Aside0.mk (below_step HB.out hb)
      have HOT10 := Aside0.mk (Kd.R_below HOT.out hb)
      clear ho hb
      go_wp2_with (fail)
      refine HS10.out.mono ?_
      rintro e w11 ⟨rfl, hb⟩
      have HOX11 := Aside0.mk (Kd.R_below HOX.out hb)
      have HZ11 := Aside0.mk (blk_below HZ10.out hb)
      have HB11 := Aside0.mk (below_step HB10.out hb)
      have HOT11 := Aside0.mk (Kd.R_below HOT10.out hb)
      clear hb
      go_wp2_with (first
        | ((with_reducible refine gate_builtin (b := .append) (xs := #[.tmp 92, .tmp 94]) rfl ?_); at_builtin; refine Kd.R_append DX (w0 := w) w.heap.size rfl (.tmp 92) (.tmp 94) 29 22 (.slice none 0 0) 24 rfl Try.underlying29 info_text rfl (by decide) (by decide) vt tx (nodeX x d) [.slice Ax (nodeX x d).length cx] (fun _ => True) (fun k => True ∧ some k ≠ vt.ownBlock) rfl rfl ⟨_, rfl, ob_apart HOX11.out HOT11.out⟩ (fun _ h => h) (fun _ _ => trivial) HOT11.out HB11.out HB11.out.size (by have := HTL.out; omega) ?_; intro v12 w12 ho hb hg hat; have HO12 := Aside0.mk ho; have HB12 := Aside0.mk hb; have HZ12 := Aside0.mk (blk_grown HZ11.out hg (Kd.R_ne HOT11.out HZ11.out (by decide))); clear ho hb hg hat)
        | ((with_reducible refine gate_store (t := 24) (p := 8) (v := .tmp 91) rfl ?_); refine wpList_store_row rfl 24 (.tmp 8) (.tmp 91) rfl (w.heap.size + 1) E.toArray rfl rfl 24 Z32 HZ12.out HE.out.blkA HE.out.zsA HE.out.oneA ?_))
      have HSR := Aside0.mk (setRow_heap w12 (w.heap.size + 1) Z32 E.toArray _ _ HZ12.out)
      refine bodyPost_ret (results_ctt rfl _ _ (w.heap.size + 1) 24 E.toArray (0, 0) _ rfl HSR.out Try.underlying24 rfl HE.out.blkA) rfl ?_
      exact ⟨_, rfl, ot_setRow (D := E.toArray) HO12.out HZ12.out, below_setRow HB12.out (Nat.le_succ _) E.toArray⟩
    · have H12S := Aside0.mk (atC_lt H12.out HX.out.lenC)
      go_simp
      have HN := Aside0.mk (show ((w5.alloc (.cells Z32 24)).drew).heap[w5.heap.size]? = some (.cells Z32 24 (0, 0)) from blk_new w5 _)
      have hb := below_drew (below_alloc (Below.refl w5.heap.size w5) (.cells Z32 24))
      have HQ := Aside0.mk (show w.heap.size + 1 < w5.heap.size from (Array.getElem?_eq_some_iff.1 HZ.out).1)
      have x_HZ := Aside0.mk (blk_below HZ.out hb)
      have x_HG := Aside0.mk (HG.out.below hb)
      have x_HB := Aside0.mk (below_step HB.out hb)
      have x_H12 := Aside0.mk (H12.out.below hb)
      clear HZ HG HB H12
      have HZ := x_HZ
      have HG := x_HG
      have HB := x_HB
      have H12 := x_H12
      clear x_HZ x_HG x_HB x_H12
      clear hb
      obtain ⟨w8, hw8⟩ : ∃ W', (w5.alloc (.cells Z32 24)).drew = W' := ⟨_, rfl⟩
      rw [hw8] at HN HZ HG HB H12
      rw [show (w5.alloc (.cells #[.int .u8 0, .int .u8 0, .int .u8 0, .int .u8 0, .int .u8 0, .int .u8 0, .int .u8 0, .int .u8 0, .int .u8 0, .int .u8 0, .int .u8 0, .int .u8 0, .int .u8 0, .int .u8 0, .int .u8 0, .int .u8 0, .int .u8 0, .int .u8 0, .int .u8 0, .int .u8 0, .int .u8 0, .int .u8 0, .int .u8 0, .int .u8 0, .int .u8 0, .int .u8 0, .int .u8 0, .int .u8 0, .int .u8 0, .int .u8 0, .int .u8 0, .int .u8 0] 24)).drew = w8 from hw8]
      clear hw8
      obtain ⟨g13, hg13⟩ : ∃ g, w5.heap.size = g := ⟨_, rfl⟩
      have H1213 := Aside0.mk (show g12 < w5.heap.size from H12S.out)
      rw [hg13] at HN HQ H1213 ⊢
      clear H12S hg13
      (refine Shut.out hK _ _ HG.out (fun hHeld => ?_); clear hK K; (try simp only [Act.put, List.getElem_toArray, List.getElem_cons_zero, List.getElem_cons_succ, List.setIfInBounds_toArray, List.set_cons_zero, List.set_cons_succ]))
      refine wpAnyH_ready (rs := [12]) (by kernel_rfl) (by simp) (AllReadyH.cons rfl (fun K hK => ?_) AllReadyH.nil)
      go_simp
      rw [HE1.out, HE2.out]
      refine (HU.out _ HB.out).mono ?_
      rintro e w7 ⟨vt, rfl, ho, hb0⟩
      have hb := hb0
      have HOT := Aside0.mk (show Ot w7 w.heap.size vt tx from Kd.R_lower ho HB.out.size)
      have x_HZ := Aside0.mk (blk_below HZ.out hb)
      have x_HG := Aside0.mk (HG.out.below hb)
      have x_HB := Aside0.mk (below_step HB.out hb)
      have x_H12 := Aside0.mk (H12.out.below hb)
      have x_HN := Aside0.mk (blk_below HN.out hb)
      clear HZ HG HB H12 HN
      have HZ := x_HZ
      have HG := x_HG
      have HB := x_HB
      have H12 := x_H12
      have HN := x_HN
      clear x_HZ x_HG x_HB x_H12 x_HN
      clear hb hb0 ho
      (refine Shut.out hK _ _ HG.out (fun hHeld => ?_); clear hK K; (try simp only [Act.put, List.getElem_toArray, List.getElem_cons_zero, List.getElem_cons_succ, List.setIfInBounds_toArray, List.set_cons_zero, List.set_cons_succ]))
      (refine wpAnyH_take (i := 13) (v := ?_) rfl (by kernel_rfl) (by kernel_rfl) (by kernel_rfl) (fun _ _ _ h => h) (Or.inl ⟨by rfl, ?_⟩) (by assumption) ?_; (case' refine_2 => (intro w hSw; go_simp; try with_reducible rfl)); (try simp only [Act.put, List.getElem_toArray, List.getElem_cons_zero, List.getElem_cons_succ, List.setIfInBounds_toArray, List.set_cons_zero, List.set_cons_succ]))
      (refine wpAnyH_take (i := 14) (v := ?_) rfl (by kernel_rfl) (by kernel_rfl) (by kernel_rfl) (fun _ _ _ h => h) (Or.inl ⟨by rfl, ?_⟩) (by assumption) ?_; (case' refine_2 => (intro w hSw; go_simp; try with_reducible rfl)); (try simp only [Act.put, List.getElem_toArray, List.getElem_cons_zero, List.getElem_cons_succ, List.setIfInBounds_toArray, List.set_cons_zero, List.set_cons_succ]))
      (refine wpAnyH_take (i := 15) (v := ?_) rfl (by kernel_rfl) (by kernel_rfl) (by kernel_rfl) (fun _ _ _ h => h) (Or.inl ⟨by rfl, ?_⟩) (by assumption) ?_; (case' refine_2 => (intro w hSw; go_simp; try with_reducible rfl)); (try simp only [Act.put, List.getElem_toArray, List.getElem_cons_zero, List.getElem_cons_succ, List.setIfInBounds_toArray, List.set_cons_zero, List.set_cons_succ]))
      (refine wpAnyH_take (i := 16) (v := ?_) rfl (by kernel_rfl) (by kernel_rfl) (by kernel_rfl) (fun _ _ _ h => h) (Or.inl ⟨by rfl, ?_⟩) (by assumption) ?_; (case' refine_2 => (intro w hSw; go_simp; try with_reducible rfl)); (try simp only [Act.put, List.getElem_toArray, List.getElem_cons_zero, List.getElem_cons_succ, List.setIfInBounds_toArray, List.set_cons_zero, List.set_cons_succ]))
      refine wpAnyH_ready (rs := [18]) (by kernel_rfl) (by simp) (AllReadyH.cons rfl (fun K hK => ?_) AllReadyH.nil)
      rw [if_pos (by rfl)]
      refine wp_store_row 24 (.tmp 17) (.tmp 84) rfl g13 Y.toArray rfl rfl 24 Z32 HN.out HYC.out.blkA HYC.out.zsA HYC.out.oneA ?_
      have H13 := Aside0.mk (atC_blk (setRow_heap w7 g13 Z32 Y.toArray _ _ HN.out))
      have hne1 : w.heap.size + 1 ≠ g13 := by have := HQ.out; omega
      have hne2 : w.heap.size ≠ g13 := by have := HQ.out; omega
      have hne3 : g12 ≠ g13 := by have := H1213.out; omega
      have x_HZ := Aside0.mk ((setRow_other w7 g13 (w.heap.size + 1) Y.toArray hne1).trans HZ.out)
      have x_HG := Aside0.mk (atC_setRow (D := Y.toArray) HG.out hne2)
      have x_HB := Aside0.mk (below_setRow HB.out (show w.heap.size ≤ g13 from by have := HQ.out; omega) Y.toArray)
      have x_H12 := Aside0.mk (atC_setRow (D := Y.toArray) H12.out hne3)
      have x_HOT := Aside0.mk (ot_setRow (D := Y.toArray) HOT.out HN.out)
      clear HZ HG HB H12 HOT
      have HZ := x_HZ
      have HG := x_HG
      have HB := x_HB
      have H12 := x_H12
      have HOT := x_HOT
      clear x_HZ x_HG x_HB x_H12 x_HOT
      clear HN HQ hne1 hne2 hne3
      obtain ⟨w9, hw9⟩ : ∃ W', w7.setRow g13 Y.toArray = W' := ⟨_, rfl⟩
      rw [hw9] at H12 H13 HZ HG HB HOT ⊢
      clear hw9
      (refine Shut.out hK _ _ HG.out (fun hHeld => ?_); clear hK K; (try simp only [Act.put, List.getElem_toArray, List.getElem_cons_zero, List.getElem_cons_succ, List.setIfInBounds_toArray, List.set_cons_zero, List.set_cons_succ]))
      (refine wpAnyH_take (i := 19) (v := ?_) rfl (by kernel_rfl) (by kernel_rfl) (by kernel_rfl) (fun _ _ _ h => h) (Or.inl ⟨by rfl, ?_⟩) (by assumption) ?_; (case' refine_2 => (intro w hSw; go_simp; try with_reducible rfl)); (try simp only [Act.put, List.getElem_toArray, List.getElem_cons_zero, List.getElem_cons_succ, List.setIfInBounds_toArray, List.set_cons_zero, List.set_cons_succ]))
      (refine wpAnyH_take (i := 20) (v := ?_) rfl (by kernel_rfl) (by kernel_rfl) (by kernel_rfl) (fun _ _ _ h => h) (Or.inl ⟨by rfl, ?_⟩) (by assumption) ?_; (case' refine_2 => (intro w hSw; go_simp; try with_reducible rfl)); (try simp only [Act.put, List.getElem_toArray, List.getElem_cons_zero, List.getElem_cons_succ, List.setIfInBounds_toArray, List.set_cons_zero, List.set_cons_succ]))
      refine wpAnyH_done (by kernel_rfl) ?_ _
      go_wp2_with (first
        | ((with_reducible refine gate_dst (N := 87) rfl ?_); refine wpList_load_at rfl 24 (.tmp 12) rfl ⟨g12, 0, none⟩ rfl X _ H12.out Try.underlying24 rfl HIX.out ?_)
        | ((with_reducible refine gate_dst (N := 88) rfl ?_); refine wpList_load_at rfl 24 (.tmp 17) rfl ⟨g13, 0, none⟩ rfl Y _ H13.out Try.underlying24 rfl HIY.out ?_))
      refine (HT.out _).mono ?_
      rintro e w10 ⟨vx, rfl, ho, hb⟩
      obtain ⟨Ax, cx, rfl⟩ := Kd.R_slice ho
      have HOX := Aside0.mk (show Ob w10 w.heap.size _ (nodeX x d) from Kd.R_lower ho HB.out.size)
      have HS10 := Aside0.mk (HS.out _ _ w10 ho)
      have HZ10 := Aside0.mk (blk_below HZ.out hb)
      have HB10 := Aside0.mk (below_step HB.out hb)
      have HOT10 := Aside0.mk (Kd.R_below HOT.out hb)
      clear ho hb
      go_wp2_with (fail)
      refine HS10.out.mono ?_
      rintro e w11 ⟨rfl, hb⟩
      have HOX11 := Aside0.mk (Kd.R_below HOX.out hb)
      have HZ11 := Aside0.mk (blk_below HZ10.out hb)
      have HB11 := Aside0.mk (below_step HB10.out hb)
      have HOT11 := Aside0.mk (Kd.R_below HOT10.out hb)
      clear hb
      go_wp2_with (first
        | ((with_reducible refine gate_builtin (b := .append) (xs := #[.tmp 92, .tmp 94]) rfl ?_); at_builtin; refine Kd.R_append DX (w0 := w) w.heap.size rfl (.tmp 92) (.tmp 94) 29 22 (.slice none 0 0) 24 rfl Try.underlying29 info_text rfl (by decide) (by decide) vt tx (nodeX x d) [.slice Ax (nodeX x d).length cx] (fun _ => True) (fun k => True ∧ some k ≠ vt.ownBlock) rfl rfl ⟨_, rfl, ob_apart HOX11.out HOT11.out⟩ (fun _ h => h) (fun _ _ => trivial) HOT11.out HB11.out HB11.out.size (by have := HTL.out; omega) ?_; intro v12 w12 ho hb hg hat; have HO12 := Aside0.mk ho; have HB12 := Aside0.mk hb; have HZ12 := Aside0.mk (blk_grown HZ11.out hg (Kd.R_ne HOT11.out HZ11.out (by decide))); clear ho hb hg hat)
        | ((with_reducible refine gate_store (t := 24) (p := 8) (v := .tmp 91) rfl ?_); refine wpList_store_row rfl 24 (.tmp 8) (.tmp 91) rfl (w.heap.size + 1) E.toArray rfl rfl 24 Z32 HZ12.out HE.out.blkA HE.out.zsA HE.out.oneA ?_))
      have HSR := Aside0.mk (setRow_heap w12 (w.heap.size + 1) Z32 E.toArray _ _ HZ12.out)
      refine bodyPost_ret (results_ctt rfl _ _ (w.heap.size + 1) 24 E.toArray (0, 0) _ rfl HSR.out Try.underlying24 rfl HE.out.blkA) rfl ?_
      exact ⟨_, rfl, ot_setRow (D := E.toArray) HO12.out HZ12.out, below_setRow HB12.out (Nat.le_succ _) E.toArray⟩
  · go_simp
    have HN := Aside0.mk (show ((W.alloc (.cells Z32 24)).drew).heap[W.heap.size]? = some (.cells Z32 24 (0, 0)) from blk_new W _)
    have hb := below_drew (below_alloc (Below.refl W.heap.size W) (.cells Z32 24))
    have HQ := Aside0.mk (show w.heap.size + 1 < W.heap.size from (Array.getElem?_eq_some_iff.1 HZ.out).1)
    have x_HZ := Aside0.mk (blk_below HZ.out hb)
    have x_HG := Aside0.mk (HG.out.below hb)
    have x_HB := Aside0.mk (below_step HB.out hb)
    have x_HAX := Aside0.mk (HAX.out.below hb)
    clear HZ HG HB HAX
    have HZ := x_HZ
    have HG := x_HG
    have HB := x_HB
    have HAX := x_HAX
    clear x_HZ x_HG x_HB x_HAX
    clear hb
    obtain ⟨w4, hw4⟩ : ∃ W', (W.alloc (.cells Z32 24)).drew = W' := ⟨_, rfl⟩
    rw [hw4] at HN HZ HG HB HAX
    rw [show (W.alloc (.cells #[.int .u8 0, .int .u8 0, .int .u8 0, .int .u8 0, .int .u8 0, .int .u8 0, .int .u8 0, .int .u8 0, .int .u8 0, .int .u8 0, .int .u8 0, .int .u8 0, .int .u8 0, .int .u8 0, .int .u8 0, .int .u8 0, .int .u8 0, .int .u8 0, .int .u8 0, .int .u8 0, .int .u8 0, .int .u8 0, .int .u8 0, .int .u8 0, .int .u8 0, .int .u8 0, .int .u8 0, .int .u8 0, .int .u8 0, .int .u8 0, .int .u8 0, .int .u8 0] 24)).drew = w4 from hw4]
    clear hw4
    obtain ⟨g12, hg12⟩ : ∃ g, W.heap.size = g := ⟨_, rfl⟩
    rw [hg12] at HN HQ ⊢
    clear hg12
    (refine Shut.out hK _ _ HAX.out (fun hHeld => ?_); clear hK K; (try simp only [Act.put, List.getElem_toArray, List.getElem_cons_zero, List.getElem_cons_succ, List.setIfInBounds_toArray, List.set_cons_zero, List.set_cons_succ]))
    refine wpAnyH_ready (rs := [1]) (by kernel_rfl) (by simp) (AllReadyH.cons rfl (fun K hK => ?_) AllReadyH.nil)
    go_simp
    refine (HKB.out _).mono ?_
    rintro e w6 ⟨rfl, hd_⟩
    have hb := Drawn0.below hd_
    have x_HZ := Aside0.mk (blk_below HZ.out hb)
    have x_HG := Aside0.mk (HG.out.below hb)
    have x_HB := Aside0.mk (below_step HB.out hb)
    have x_HAX := Aside0.mk (HAX.out.below hb)
    have x_HN := Aside0.mk (blk_below HN.out hb)
    clear HZ HG HB HAX HN
    have HZ := x_HZ
    have HG := x_HG
    have HB := x_HB
    have HAX := x_HAX
    have HN := x_HN
    clear x_HZ x_HG x_HB x_HAX x_HN
    clear hb hd_
    (refine Shut.out hK _ _ HAX.out (fun hHeld => ?_); clear hK K; (try simp only [Act.put, List.getElem_toArray, List.getElem_cons_zero, List.getElem_cons_succ, List.setIfInBounds_toArray, List.set_cons_zero, List.set_cons_succ]))
    (refine wpAnyH_take (i := 9) (v := ?_) rfl (by kernel_rfl) (by kernel_rfl) (by kernel_rfl) (fun _ _ _ h => h) (Or.inl ⟨by rfl, ?_⟩) (by assumption) ?_; (case' refine_2 => (intro w hSw; go_simp; try with_reducible rfl)); (try simp only [Act.put, List.getElem_toArray, List.getElem_cons_zero, List.getElem_cons_succ, List.setIfInBounds_toArray, List.set_cons_zero, List.set_cons_succ]))
    refine wpAnyH_ready (rs := [10]) (by kernel_rfl) (by simp) (AllReadyH.cons rfl (fun K hK => ?_) AllReadyH.nil)
    rw [if_pos (by rfl)]
    refine wp_store_row 24 (.tmp 12) (.tmp 43) rfl g12 X.toArray rfl rfl 24 Z32 HN.out HX.out.blkA HX.out.zsA HX.out.oneA ?_
    have H12 := Aside0.mk (atC_blk (setRow_heap w6 g12 Z32 X.toArray _ _ HN.out))
    have hne1 : w.heap.size + 1 ≠ g12 := by have := HQ.out; omega
    have hne2 : w.heap.size ≠ g12 := by have := HQ.out; omega
    have H12L := Aside0.mk (show w.heap.size + 1 < g12 from HQ.out)
    have x_HZ := Aside0.mk ((setRow_other w6 g12 (w.heap.size + 1) X.toArray hne1).trans HZ.out)
    have x_HG := Aside0.mk (atC_setRow (D := X.toArray) HG.out hne2)
    have x_HB := Aside0.mk (below_setRow HB.out (show w.heap.size ≤ g12 from by have := HQ.out; omega) X.toArray)
    clear HZ HG HB
    have HZ := x_HZ
    have HG := x_HG
    have HB := x_HB
    clear x_HZ x_HG x_HB
    have x_HAX := Aside0.mk (HAT.out.below HB.out)
    clear HAX HN HQ hne1 hne2
    have HAX := x_HAX
    clear x_HAX
    obtain ⟨w5, hw5⟩ : ∃ W', w6.setRow g12 X.toArray = W' := ⟨_, rfl⟩
    rw [hw5] at H12 HZ HG HB HAX ⊢
    clear hw5
    (refine Shut.out hK _ _ HAX.out (fun hHeld => ?_); clear hK K; (try simp only [Act.put, List.getElem_toArray, List.getElem_cons_zero, List.getElem_cons_succ, List.setIfInBounds_toArray, List.set_cons_zero, List.set_cons_succ]))
    refine wpAnyH_done (by kernel_rfl) ?_ _
    go_wp2_with (fail)
    have hq1 := HC1.out
    refine wp_region_held_drew (S := fun w' => AtC w' ⟨w.heap.size, 0, none⟩ L) (by kernel_rfl) HG.out (fun hHeld => ?_)
    (refine wpAnyH_take (i := 0) rfl (by kernel_rfl) (by kernel_rfl) (by kernel_rfl) (fun _ _ _ h => h) (yieldsIf_load_at (by rfl) _ _ rfl ⟨w.heap.size, 0, none⟩ rfl L _ (fun _ h => h) (by assumption) rfl HIL.out) (by assumption) ?_; (try simp only [Act.put, List.getElem_toArray, List.getElem_cons_zero, List.getElem_cons_succ, List.setIfInBounds_toArray, List.set_cons_zero, List.set_cons_succ]))
    (refine wpAnyH_take (i := 1) (v := ?_) rfl (by kernel_rfl) (by kernel_rfl) (by kernel_rfl) (fun _ _ _ h => h) (Or.inl ⟨by rfl, ?_⟩) (by assumption) ?_; (case' refine_2 => (intro w hSw; go_simp; try with_reducible rfl)); (try simp only [Act.put, List.getElem_toArray, List.getElem_cons_zero, List.getElem_cons_succ, List.setIfInBounds_toArray, List.set_cons_zero, List.set_cons_succ]))
    (refine wpAnyH_take (i := 2) (v := ?_) rfl (by kernel_rfl) (by kernel_rfl) (by kernel_rfl) (fun _ _ _ h => h) (Or.inl ⟨by rfl, ?_⟩) (by assumption) ?_; (case' refine_2 => (intro w hSw; go_simp; try with_reducible rfl)); (try simp only [Act.put, List.getElem_toArray, List.getElem_cons_zero, List.getElem_cons_succ, List.setIfInBounds_toArray, List.set_cons_zero, List.set_cons_succ]))
    (refine wpAnyH_take (i := 3) (v := ?_) rfl (by kernel_rfl) (by kernel_rfl) (by kernel_rfl) (fun _ _ _ h => h) (Or.inl ⟨by rfl, ?_⟩) (by assumption) ?_; (case' refine_2 => (intro w hSw; go_simp; try with_reducible rfl)); (try simp only [Act.put, List.getElem_toArray, List.getElem_cons_zero, List.getElem_cons_succ, List.setIfInBounds_toArray, List.set_cons_zero, List.set_cons_succ]))
    (refine wpAnyH_take (i := 4) (v := ?_) rfl (by kernel_rfl) (by kernel_rfl) (by kernel_rfl) (fun _ _ _ h => h) (Or.inl ⟨by rfl, ?_⟩) (by assumption) ?_; (case' refine_2 => (intro w hSw; go_simp; try with_reducible rfl)); (try simp only [Act.put, List.getElem_toArray, List.getElem_cons_zero, List.getElem_cons_succ, List.setIfInBounds_toArray, List.set_cons_zero, List.set_cons_succ]))
    (refine wpAnyH_take (i := 5) (v := ?_) rfl (by kernel_rfl) (by kernel_rfl) (by kernel_rfl) (fun _ _ _ h => h) (Or.inl ⟨by rfl, ?_⟩) (by assumption) ?_; (case' refine_2 => (intro w hSw; go_simp; try with_reducible rfl)); (try simp only [Act.put, List.getElem_toArray, List.getElem_cons_zero, List.getElem_cons_succ, List.setIfInBounds_toArray, List.set_cons_zero, List.set_cons_succ]))
    (refine wpAnyH_take (i := 6) (v := ?_) rfl (by kernel_rfl) (by kernel_rfl) (by kernel_rfl) (fun _ _ _ h => h) (Or.inl ⟨by rfl, ?_⟩) (by assumption) ?_; (case' refine_2 => (intro w hSw; go_simp; try with_reducible rfl)); (try simp only [Act.put, List.getElem_toArray, List.getElem_cons_zero, List.getElem_cons_succ, List.setIfInBounds_toArray, List.set_cons_zero, List.set_cons_succ]))
    (refine wpAnyH_take (i := 7) (v := ?_) rfl (by kernel_rfl) (by kernel_rfl) (by kernel_rfl) (fun _ _ _ h => h) (Or.inl ⟨by rfl, ?_⟩) (by assumption) ?_; (case' refine_2 => (intro w hSw; go_simp; try with_reducible rfl)); (try simp only [Act.put, List.getElem_toArray, List.getElem_cons_zero, List.getElem_cons_succ, List.setIfInBounds_toArray, List.set_cons_zero, List.set_cons_succ]))
    (refine wpAnyH_take (i := 8) (v := ?_) rfl (by kernel_rfl) (by kernel_rfl) (by kernel_rfl) (fun _ _ _ h => h) (Or.inl ⟨by rfl, ?_⟩) (by assumption) ?_; (case' refine_2 => (intro w hSw; go_simp; try with_reducible rfl)); (try simp only [Act.put, List.getElem_toArray, List.getElem_cons_zero, List.getElem_cons_succ, List.setIfInBounds_toArray, List.set_cons_zero, List.set_cons_succ]))
    (refine wpAnyH_take (i := 9) (v := ?_) rfl (by kernel_rfl) (by kernel_rfl) (by kernel_rfl) (fun _ _ _ h => h) (Or.inl ⟨by rfl, ?_⟩) (by assumption) ?_; (case' refine_2 => (intro w hSw; go_simp; try with_reducible rfl)); (try simp only [Act.put, List.getElem_toArray, List.getElem_cons_zero, List.getElem_cons_succ, List.setIfInBounds_toArray, List.set_cons_zero, List.set_cons_succ]))
    (refine wpAnyH_take (i := 10) (v := ?_) rfl (by kernel_rfl) (by kernel_rfl) (by kernel_rfl) (fun _ _ _ h => h) (Or.inl ⟨by rfl, ?_⟩) (by assumption) ?_; (case' refine_2 => (intro w hSw; go_simp; try with_reducible rfl)); (try simp only [Act.put, List.getElem_toArray, List.getElem_cons_zero, List.getElem_cons_succ, List.setIfInBounds_toArray, List.set_cons_zero, List.set_cons_succ]))
    (refine wpAnyH_take (i := 11) (v := ?_) rfl (by kernel_rfl) (by kernel_rfl) (by kernel_rfl) (fun _ _ _ h => h) (Or.inl ⟨by rfl, ?_⟩) (by assumption) ?_; (case' refine_2 => (intro w hSw; go_simp; try with_reducible rfl)); (try simp only [Act.put, List.getElem_toArray, List.getElem_cons_zero, List.getElem_cons_succ, List.setIfInBounds_toArray, List.set_cons_zero, List.set_cons_succ]))
    refine wpAnyH_ready (rs := [12, 17]) (by kernel_rfl) (by simp) (AllReadyH.cons rfl (fun K hK => ?_) (AllReadyH.cons rfl (fun K hK => ?_) AllReadyH.nil))
    · go_simp
      rw [HE1.out, HE2.out]
      refine (HU.out _ (below_drew1 HB.out)).mono ?_
      rintro e w7 ⟨vt, rfl, ho, hb0⟩
      have hb := below_drew_of hb0
      have HOT := Aside0.mk (show Ot w7 w.heap.size vt tx from Kd.R_lower ho (show w.heap.size ≤ w5.drew.heap.size from HB.out.size))
      have x_HZ := Aside0.mk (blk_below HZ.out hb)
      have x_HG := Aside0.mk (HG.out.below hb)
      have x_HB := Aside0.mk (below_step HB.out hb)
      have x_H12 := Aside0.mk (H12.out.below hb)
      clear HZ HG HB H12
      have HZ := x_HZ
      have HG := x_HG
      have HB := x_HB
      have H12 := x_H12
      clear x_HZ x_HG x_HB x_H12
      clear hb hb0 ho
      (refine Shut.out hK _ _ HG.out (fun hHeld => ?_); clear hK K; (try simp only [Act.put, List.getElem_toArray, List.getElem_cons_zero, List.getElem_cons_succ, List.setIfInBounds_toArray, List.set_cons_zero, List.set_cons_succ]))
      (refine wpAnyH_take (i := 13) (v := ?_) rfl (by kernel_rfl) (by kernel_rfl) (by kernel_rfl) (fun _ _ _ h => h) (Or.inl ⟨by rfl, ?_⟩) (by assumption) ?_; (case' refine_2 => (intro w hSw; go_simp; try with_reducible rfl)); (try simp only [Act.put, List.getElem_toArray, List.getElem_cons_zero, List.getElem_cons_succ, List.setIfInBounds_toArray, List.set_cons_zero, List.set_cons_succ]))
      (refine wpAnyH_take (i := 14) (v := ?_) rfl (by kernel_rfl) (by kernel_rfl) (by kernel_rfl) (fun _ _ _ h => h) (Or.inl ⟨by rfl, ?_⟩) (by assumption) ?_; (case' refine_2 => (intro w hSw; go_simp; try with_reducible rfl)); (try simp only [Act.put, List.getElem_toArray, List.getElem_cons_zero, List.getElem_cons_succ, List.setIfInBounds_toArray, List.set_cons_zero, List.set_cons_succ]))
      (refine wpAnyH_take (i := 15) (v := ?_) rfl (by kernel_rfl) (by kernel_rfl) (by kernel_rfl) (fun _ _ _ h => h) (Or.inl ⟨by rfl, ?_⟩) (by assumption) ?_; (case' refine_2 => (intro w hSw; go_simp; try with_reducible rfl)); (try simp only [Act.put, List.getElem_toArray, List.getElem_cons_zero, List.getElem_cons_succ, List.setIfInBounds_toArray, List.set_cons_zero, List.set_cons_succ]))
      (refine wpAnyH_take (i := 16) (v := ?_) rfl (by kernel_rfl) (by kernel_rfl) (by kernel_rfl) (fun _ _ _ h => h) (Or.inl ⟨by rfl, ?_⟩) (by assumption) ?_; (case' refine_2 => (intro w hSw; go_simp; try with_reducible rfl)); (try simp only [Act.put, List.getElem_toArray, List.getElem_cons_zero, List.getElem_cons_succ, List.setIfInBounds_toArray, List.set_cons_zero, List.set_cons_succ]))
      refine wpAnyH_ready (rs := [17]) (by kernel_rfl) (by simp) (AllReadyH.cons rfl (fun K hK => ?_) AllReadyH.nil)
      have H12S := Aside0.mk (atC_lt H12.out HX.out.lenC)
      go_simp
      have HN := Aside0.mk (show (w7.alloc (.cells Z32 24)).heap[w7.heap.size]? = some (.cells Z32 24 (0, 0)) from blk_new w7 _)
      have hb := below_alloc (Below.refl w7.heap.size w7) (.cells Z32 24)
      have HQ := Aside0.mk (show w.heap.size + 1 < w7.heap.size from (Array.getElem?_eq_some_iff.1 HZ.out).1)
      have x_HZ := Aside0.mk (blk_below HZ.out hb)
      have x_HG := Aside0.mk (HG.out.below hb)
      have x_HB := Aside0.mk (below_step HB.out hb)
      have x_H12 := Aside0.mk (H12.out.below hb)
      have x_HOT := Aside0.mk (Kd.R_below HOT.out hb)
      clear HZ HG HB H12 HOT
      have HZ := x_HZ
      have HG := x_HG
      have HB := x_HB
      have H12 := x_H12
      have HOT := x_HOT
      clear x_HZ x_HG x_HB x_H12 x_HOT
      clear hb
      obtain ⟨w8, hw8⟩ : ∃ W', w7.alloc (.cells Z32 24) = W' := ⟨_, rfl⟩
      rw [hw8] at HN HZ HG HB H12 HOT
      rw [show w7.alloc (.cells #[.int .u8 0, .int .u8 0, .int .u8 0, .int .u8 0, .int .u8 0, .int .u8 0, .int .u8 0, .int .u8 0, .int .u8 0, .int .u8 0, .int .u8 0, .int .u8 0, .int .u8 0, .int .u8 0, .int .u8 0, .int .u8 0, .int .u8 0, .int .u8 0, .int .u8 0, .int .u8 0, .int .u8 0, .int .u8 0, .int .u8 0, .int .u8 0, .int .u8 0, .int .u8 0, .int .u8 0, .int .u8 0, .int .u8 0, .int .u8 0, .int .u8 0, .int .u8 0] 24) = w8 from hw8]
      clear hw8
      obtain ⟨g13, hg13⟩ : ∃ g, w7.heap.size = g := ⟨_, rfl⟩
      have H1213 := Aside0.mk (show g12 < w7.heap.size from H12S.out)
      rw [hg13] at HN HQ H1213 ⊢
      clear H12S hg13
      (refine Shut.out hK _ _ HG.out (fun hHeld => ?_); clear hK K; (try simp only [Act.put, List.getElem_toArray, List.getElem_cons_zero, List.getElem_cons_succ, List.setIfInBounds_toArray, List.set_cons_zero, List.set_cons_succ]))
      refine wpAnyH_ready (rs := [18]) (by kernel_rfl) (by simp) (AllReadyH.cons rfl (fun K hK => ?_) AllReadyH.nil)
      rw [if_pos (by rfl)]
      refine wp_store_row 24 (.tmp 17) (.tmp 84) rfl g13 Y.toArray rfl rfl 24 Z32 HN.out HYC.out.blkA HYC.out.zsA HYC.out.oneA ?_
      have H13 := Aside0.mk (atC_blk (setRow_heap w8 g13 Z32 Y.toArray _ _ HN.out))
      have hne1 : w.heap.size + 1 ≠ g13 := by have := HQ.out; omega
      have hne2 : w.heap.size ≠ g13 := by have := HQ.out; omega
      have hne3 : g12 ≠ g13 := by have := H1213.out; omega
      have x_HZ := Aside0.mk ((setRow_other w8 g13 (w.heap.size + 1) Y.toArray hne1).trans HZ.out)
      have x_HG := Aside0.mk (atC_setRow (D := Y.toArray) HG.out hne2)
      have x_HB := Aside0.mk (below_setRow HB.out (show w.heap.size ≤ g13 from by have := HQ.out; omega) Y.toArray)
      have x_H12 := Aside0.mk (atC_setRow (D := Y.toArray) H12.out hne3)
      have x_HOT := Aside0.mk (ot_setRow (D := Y.toArray) HOT.out HN.out)
      clear HZ HG HB H12 HOT
      have HZ := x_HZ
      have HG := x_HG
      have HB := x_HB
      have H12 := x_H12
      have HOT := x_HOT
      clear x_HZ x_HG x_HB x_H12 x_HOT
      clear HN HQ hne1 hne2 hne3
      obtain ⟨w9, hw9⟩ : ∃ W', w8.setRow g13 Y.toArray = W' := ⟨_, rfl⟩
      rw [hw9] at H12 H13 HZ HG HB HOT ⊢
      clear hw9
      (refine Shut.out hK _ _ HG.out (fun hHeld => ?_); clear hK K; (try simp only [Act.put, List.getElem_toArray, List.getElem_cons_zero, List.getElem_cons_succ, List.setIfInBounds_toArray, List.set_cons_zero, List.set_cons_succ]))
      (refine wpAnyH_take (i := 19) (v := ?_) rfl (by kernel_rfl) (by kernel_rfl) (by kernel_rfl) (fun _ _ _ h => h) (Or.inl ⟨by rfl, ?_⟩) (by assumption) ?_; (case' refine_2 => (intro w hSw; go_simp; try with_reducible rfl)); (try simp only [Act.put, List.getElem_toArray, List.getElem_cons_zero, List.getElem_cons_succ, List.setIfInBounds_toArray, List.set_cons_zero, List.set_cons_succ]))
      (refine wpAnyH_take (i := 20) (v := ?_) rfl (by kernel_rfl) (by kernel_rfl) (by kernel_rfl) (fun _ _ _ h => h) (Or.inl ⟨by rfl, ?_⟩) (by assumption) ?_; (case' refine_2 => (intro w hSw; go_simp; try with_reducible rfl)); (try simp only [Act.put, List.getElem_toArray, List.getElem_cons_zero, List.getElem_cons_succ, List.setIfInBounds_toArray, List.set_cons_zero, List.set_cons_succ]))
      refine wpAnyH_done (by kernel_rfl) ?_ _
      go_wp2_with (first
        | ((with_reducible refine gate_dst (N := 87) rfl ?_); refine wpList_load_at rfl 24 (.tmp 12) rfl ⟨g12, 0, none⟩ rfl X _ H12.out Try.underlying24 rfl HIX.out ?_)
        | ((with_reducible refine gate_dst (N := 88) rfl ?_); refine wpList_load_at rfl 24 (.tmp 17) rfl ⟨g13, 0, none⟩ rfl Y _ H13.out Try.underlying24 rfl HIY.out ?_))
      refine (HT.out _).mono ?_
      rintro e w10 ⟨vx, rfl, ho, hb⟩
      obtain ⟨Ax, cx, rfl⟩ := Kd.R_slice ho
      have HOX := Aside0.mk (show Ob w10 w.heap.size _ (nodeX x d) from Kd.R_lower ho HB.out.size)
      have HS10 := Aside0.mk (HS.out _ _ w10 ho)
      have HZ10 := Aside0.mk (blk_below HZ.out hb)
      have HB10 := Aside0.mk (below_step HB.out hb)
      have HOT10 := Aside0.mk (Kd.R_below HOT.out hb)
      clear ho hb
      go_wp2_with (fail)
      refine HS10.out.mono ?_
      rintro e w11 ⟨rfl, hb⟩
      have HOX11 := Aside0.mk (Kd.R_below HOX.out hb)
      have HZ11 := Aside0.mk (blk_below HZ10.out hb)
      have HB11 := Aside0.mk (below_step HB10.out hb)
      have HOT11 := Aside0.mk (Kd.R_below HOT10.out hb)
      clear hb
      go_wp2_with (first
        | ((with_reducible refine gate_builtin (b := .append) (xs := #[.tmp 92, .tmp 94]) rfl ?_); at_builtin; refine Kd.R_append DX (w0 := w) w.heap.size rfl (.tmp 92) (.tmp 94) 29 22 (.slice none 0 0) 24 rfl Try.underlying29 info_text rfl (by decide) (by decide) vt tx (nodeX x d) [.slice Ax (nodeX x d).length cx] (fun _ => True) (fun k => True ∧ some k ≠ vt.ownBlock) rfl rfl ⟨_, rfl, ob_apart HOX11.out HOT11.out⟩ (fun _ h => h) (fun _ _ => trivial) HOT11.out HB11.out HB11.out.size (by have := HTL.out; omega) ?_; intro v12 w12 ho hb hg hat; have HO12 := Aside0.mk ho; have HB12 := Aside0.mk hb; have HZ12 := Aside0.mk (blk_grown HZ11.out hg (Kd.R_ne HOT11.out HZ11.out (by decide))); clear ho hb hg hat)
        | ((with_reducible refine gate_store (t := 24) (p := 8) (v := .tmp 91) rfl ?_); refine wpList_store_row rfl 24 (.tmp 8) (.tmp 91) rfl (w.heap.size + 1) E.toArray rfl rfl 24 Z32 HZ12.out HE.out.blkA HE.out.zsA HE.out.oneA ?_))
      have HSR := Aside0.mk (setRow_heap w12 (w.heap.size + 1) Z32 E.toArray _ _ HZ12.out)
      refine bodyPost_ret (results_ctt rfl _ _ (w.heap.size + 1) 24 E.toArray (0, 0) _ rfl HSR.out Try.underlying24 rfl HE.out.blkA) rfl ?_
      exact ⟨_, rfl, ot_setRow (D := E.toArray) HO12.out HZ12.out, below_setRow HB12.out (Nat.le_succ _) E.toArray⟩
    · have H12S := Aside0.mk (atC_lt H12.out HX.out.lenC)
      go_simp
      have HN := Aside0.mk (show ((w5.alloc (.cells Z32 24)).drew).heap[w5.heap.size]? = some (.cells Z32 24 (0, 0)) from blk_new w5 _)
      have hb := below_drew (below_alloc (Below.refl w5.heap.size w5) (.cells Z32 24))
      have HQ := Aside0.mk (show w.heap.size + 1 < w5.heap.size from (Array.getElem?_eq_some_iff.1 HZ.out).1)
      have x_HZ := Aside0.mk (blk_below HZ.out hb)
      have x_HG := Aside0.mk (HG.out.below hb)
      have x_HB := Aside0.mk (below_step HB.out hb)
      have x_H12 := Aside0.mk (H12.out.below hb)
      clear HZ HG HB H12
      have HZ := x_HZ
      have HG := x_HG
      have HB := x_HB
      have H12 := x_H12
      clear x_HZ x_HG x_HB x_H12
      clear hb
      obtain ⟨w8, hw8⟩ : ∃ W', (w5.alloc (.cells Z32 24)).drew = W' := ⟨_, rfl⟩
      rw [hw8] at HN HZ HG HB H12
      rw [show (w5.alloc (.cells #[.int .u8 0, .int .u8 0, .int .u8 0, .int .u8 0, .int .u8 0, .int .u8 0, .int .u8 0, .int .u8 0, .int .u8 0, .int .u8 0, .int .u8 0, .int .u8 0, .int .u8 0, .int .u8 0, .int .u8 0, .int .u8 0, .int .u8 0, .int .u8 0, .int .u8 0, .int .u8 0, .int .u8 0, .int .u8 0, .int .u8 0, .int .u8 0, .int .u8 0, .int .u8 0, .int .u8 0, .int .u8 0, .int .u8 0, .int .u8 0, .int .u8 0, .int .u8 0] 24)).drew = w8 from hw8]
      clear hw8
      obtain ⟨g13, hg13⟩ : ∃ g, w5.heap.size = g := ⟨_, rfl⟩
      have H1213 := Aside0.mk (show g12 < w5.heap.size from H12S.out)
      rw [hg13] at HN HQ H1213 ⊢
      clear H12S hg13
      (refine Shut.out hK _ _ HG.out (fun hHeld => ?_); clear hK K; (try simp only [Act.put, List.getElem_toArray, List.getElem_cons_zero, List.getElem_cons_succ, List.setIfInBounds_toArray, List.set_cons_zero, List.set_cons_succ]))
      refine wpAnyH_ready (rs := [12]) (by kernel_rfl) (by simp) (AllReadyH.cons rfl (fun K hK => ?_) AllReadyH.nil)
      go_simp
      rw [HE1.out, HE2.out]
      refine (HU.out _ HB.out).mono ?_
      rintro e w7 ⟨vt, rfl, ho, hb0⟩
      have hb := hb0
      have HOT := Aside0.mk (show Ot w7 w.heap.size vt tx from Kd.R_lower ho HB.out.size)
      have x_HZ := Aside0.mk (blk_below HZ.out hb)
      have x_HG := Aside0.mk (HG.out.below hb)
      have x_HB := Aside0.mk (below_step HB.out hb)
      have x_H12 := Aside0.mk (H12.out.below hb)
      have x_HN := Aside0.mk (blk_below HN.out hb)
      clear HZ HG HB H12 HN
      have HZ := x_HZ
      have HG := x_HG
      have HB := x_HB
      have H12 := x_H12
      have HN := x_HN
      clear x_HZ x_HG x_HB x_H12 x_HN
      clear hb hb0 ho
      (refine Shut.out hK _ _ HG.out (fun hHeld => ?_); clear hK K; (try simp only [Act.put, List.getElem_toArray, List.getElem_cons_zero, List.getElem_cons_succ, List.setIfInBounds_toArray, List.set_cons_zero, List.set_cons_succ]))
      (refine wpAnyH_take (i := 13) (v := ?_) rfl (by kernel_rfl) (by kernel_rfl) (by kernel_rfl) (fun _ _ _ h => h) (Or.inl ⟨by rfl, ?_⟩) (by assumption) ?_; (case' refine_2 => (intro w hSw; go_simp; try with_reducible rfl)); (try simp only [Act.put, List.getElem_toArray, List.getElem_cons_zero, List.getElem_cons_succ, List.setIfInBounds_toArray, List.set_cons_zero, List.set_cons_succ]))
      (refine wpAnyH_take (i := 14) (v := ?_) rfl (by kernel_rfl) (by kernel_rfl) (by kernel_rfl) (fun _ _ _ h => h) (Or.inl ⟨by rfl, ?_⟩) (by assumption) ?_; (case' refine_2 => (intro w hSw; go_simp; try with_reducible rfl)); (try simp only [Act.put, List.getElem_toArray, List.getElem_cons_zero, List.getElem_cons_succ, List.setIfInBounds_toArray, List.set_cons_zero, List.set_cons_succ]))
      (refine wpAnyH_take (i := 15) (v := ?_) rfl (by kernel_rfl) (by kernel_rfl) (by kernel_rfl) (fun _ _ _ h => h) (Or.inl ⟨by rfl, ?_⟩) (by assumption) ?_; (case' refine_2 => (intro w hSw; go_simp; try with_reducible rfl)); (try simp only [Act.put, List.getElem_toArray, List.getElem_cons_zero, List.getElem_cons_succ, List.setIfInBounds_toArray, List.set_cons_zero, List.set_cons_succ]))
      (refine wpAnyH_take (i := 16) (v := ?_) rfl (by kernel_rfl) (by kernel_rfl) (by kernel_rfl) (fun _ _ _ h => h) (Or.inl ⟨by rfl, ?_⟩) (by assumption) ?_; (case' refine_2 => (intro w hSw; go_simp; try with_reducible rfl)); (try simp only [Act.put, List.getElem_toArray, List.getElem_cons_zero, List.getElem_cons_succ, List.setIfInBounds_toArray, List.set_cons_zero, List.set_cons_succ]))
      refine wpAnyH_ready (rs := [18]) (by kernel_rfl) (by simp) (AllReadyH.cons rfl (fun K hK => ?_) AllReadyH.nil)
      rw [if_pos (by rfl)]
      refine wp_store_row 24 (.tmp 17) (.tmp 84) rfl g13 Y.toArray rfl rfl 24 Z32 HN.out HYC.out.blkA HYC.out.zsA HYC.out.oneA ?_
      have H13 := Aside0.mk (atC_blk (setRow_heap w7 g13 Z32 Y.toArray _ _ HN.out))
      have hne1 : w.heap.size + 1 ≠ g13 := by have := HQ.out; omega
      have hne2 : w.heap.size ≠ g13 := by have := HQ.out; omega
      have hne3 : g12 ≠ g13 := by have := H1213.out; omega
      have x_HZ := Aside0.mk ((setRow_other w7 g13 (w.heap.size + 1) Y.toArray hne1).trans HZ.out)
      have x_HG := Aside0.mk (atC_setRow (D := Y.toArray) HG.out hne2)
      have x_HB := Aside0.mk (below_setRow HB.out (show w.heap.size ≤ g13 from by have := HQ.out; omega) Y.toArray)
      have x_H12 := Aside0.mk (atC_setRow (D := Y.toArray) H12.out hne3)
      have x_HOT := Aside0.mk (ot_setRow (D := Y.toArray) HOT.out HN.out)
      clear HZ HG HB H12 HOT
      have HZ := x_HZ
      have HG := x_HG
      have HB := x_HB
      have H12 := x_H12
      have HOT := x_HOT
      clear x_HZ x_HG x_HB x_H12 x_HOT
      clear HN HQ hne1 hne2 hne3
      obtain ⟨w9, hw9⟩ : ∃ W', w7.setRow g13 Y.toArray = W' := ⟨_, rfl⟩
      rw [hw9] at H12 H13 HZ HG HB HOT ⊢
      clear hw9
      (refine Shut.out hK _ _ HG.out (fun hHeld => ?_); clear hK K; (try simp only [Act.put, List.getElem_toArray, List.getElem_cons_zero, List.getElem_cons_succ, List.setIfInBounds_toArray, List.set_cons_zero, List.set_cons_succ]))
      (refine wpAnyH_take (i := 19) (v := ?_) rfl (by kernel_rfl) (by kernel_rfl) (by kernel_rfl) (fun _ _ _ h => h) (Or.inl ⟨by rfl, ?_⟩) (by assumption) ?_; (case' refine_2 => (intro w hSw; go_simp; try with_reducible rfl)); (try simp only [Act.put, List.getElem_toArray, List.getElem_cons_zero, List.getElem_cons_succ, List.setIfInBounds_toArray, List.set_cons_zero, List.set_cons_succ]))
      (refine wpAnyH_take (i := 20) (v := ?_) rfl (by kernel_rfl) (by kernel_rfl) (by kernel_rfl) (fun _ _ _ h => h) (Or.inl ⟨by rfl, ?_⟩) (by assumption) ?_; (case' refine_2 => (intro w hSw; go_simp; try with_reducible rfl)); (try simp only [Act.put, List.getElem_toArray, List.getElem_cons_zero, List.getElem_cons_succ, List.setIfInBounds_toArray, List.set_cons_zero, List.set_cons_succ]))
      refine wpAnyH_done (by kernel_rfl) ?_ _
      go_wp2_with (first
        | ((with_reducible refine gate_dst (N := 87) rfl ?_); refine wpList_load_at rfl 24 (.tmp 12) rfl ⟨g12, 0, none⟩ rfl X _ H12.out Try.underlying24 rfl HIX.out ?_)
        | ((with_reducible refine gate_dst (N := 88) rfl ?_); refine wpList_load_at rfl 24 (.tmp 17) rfl ⟨g13, 0, none⟩ rfl Y _ H13.out Try.underlying24 rfl HIY.out ?_))
      refine (HT.out _).mono ?_
      rintro e w10 ⟨vx, rfl, ho, hb⟩
      obtain ⟨Ax, cx, rfl⟩ := Kd.R_slice ho
      have HOX := Aside0.mk (show Ob w10 w.heap.size _ (nodeX x d) from Kd.R_lower ho HB.out.size)
      have HS10 := Aside0.mk (HS.out _ _ w10 ho)
      have HZ10 := Aside0.mk (blk_below HZ.out hb)
      have HB10 := Aside0.mk (below_step HB.out hb)
      have HOT10 := Aside0.mk (Kd.R_below HOT.out hb)
      clear ho hb
      go_wp2_with (fail)
      refine HS10.out.mono ?_
      rintro e w11 ⟨rfl, hb⟩
      have HOX11 := Aside0.mk (Kd.R_below HOX.out hb)
      have HZ11 := Aside0.mk (blk_below HZ10.out hb)
      have HB11 := Aside0.mk (below_step HB10.out hb)
      have HOT11 := Aside0.mk (Kd.R_below HOT10.out hb)
      clear hb
      go_wp2_with (first
        | ((with_reducible refine gate_builtin (b := .append) (xs := #[.tmp 92, .tmp 94]) rfl ?_); at_builtin; refine Kd.R_append DX (w0 := w) w.heap.size rfl (.tmp 92) (.tmp 94) 29 22 (.slice none 0 0) 24 rfl Try.underlying29 info_text rfl (by decide) (by decide) vt tx (nodeX x d) [.slice Ax (nodeX x d).length cx] (fun _ => True) (fun k => True ∧ some k ≠ vt.ownBlock) rfl rfl ⟨_, rfl, ob_apart HOX11.out HOT11.out⟩ (fun _ h => h) (fun _ _ => trivial) HOT11.out HB11.out HB11.out.size (by have := HTL.out; omega) ?_; intro v12 w12 ho hb hg hat; have HO12 := Aside0.mk ho; have HB12 := Aside0.mk hb; have HZ12 := Aside0.mk (blk_grown HZ11.out hg (Kd.R_ne HOT11.out HZ11.out (by decide))); clear ho hb hg hat)
        | ((with_reducible refine gate_store (t := 24) (p := 8) (v := .tmp 91) rfl ?_); refine wpList_store_row rfl 24 (.tmp 8) (.tmp 91) rfl (w.heap.size + 1) E.toArray rfl rfl 24 Z32 HZ12.out HE.out.blkA HE.out.zsA HE.out.oneA ?_))
      have HSR := Aside0.mk (setRow_heap w12 (w.heap.size + 1) Z32 E.toArray _ _ HZ12.out)
      refine bodyPost_ret (results_ctt rfl _ _ (w.heap.size + 1) 24 E.toArray (0, 0) _ rfl HSR.out Try.underlying24 rfl HE.out.blkA) rfl ?_
      exact ⟨_, rfl, ot_setRow (D := E.toArray) HO12.out HZ12.out, below_setRow HB12.out (Nat.le_succ _) E.toArray⟩
end Go.Proofs.Ytbebkogkeepfoaa.Tree
/- The document's Up and Check. -/
namespace Go.Proofs.Ytbebkogkeepfoaa.Tree
set_option linter.unusedVariables false
set_option linter.unusedSimpArgs false
open Go.RowKit Go.Proofs.Ytbebkogkeepfoaa.Base Go.Proofs.Ytbebkogkeepfoaa.TlvPlain Go.Proofs.Ytbebkogkeepfoaa.ShaPlain Go.Proofs.Ytbebkogkeepfoaa.Sha Go.Proofs.Ytbebkogkeepfoaa.Com Go.Proofs.Ytbebkogkeepfoaa.Aid Go.Proofs.YtbebkogkeepfoaaW.PrintWords Go.Proofs.YtbebkogkeepfoaaW.PrintLast Go.Proofs.YtbebkogkeepfoaaW.PrintMore
theorem upN_texts (leaf : Sm) : ∀ (r : List Sm) (i n : Nat), (upN leaf i n r).2.2.length ≤ r.length + 1
  | [], i, n => by
    unfold upN
    split <;> simp
  | x :: r, i, n => by
    unfold upN
    split
    · simp
    · split
      · have := upN_texts leaf r i (hlf n)
        simp only [List.length_append, List.length_singleton, List.length_cons, List.length_nil]
        omega
      · have := upN_texts leaf r (i - hlf n) (n - hlf n)
        simp only [List.length_append, List.length_singleton, List.length_cons, List.length_nil]
        omega
theorem rup_c (leaf : Sm) (hl : leaf.length = 32) (hu : U8' leaf) : ∀ (r : List Sm) (i n : Nat), i < n → n ≤ 1048576 → r.length ≤ 900 → ∀ (A : Option Addr) (c : Nat) (w : World), Rs w A r.reverse → r.length ≤ c → Lu r →
    Calls Try.prog 33 #[sumV leaf, .int .i64 (i : Int), .int .i64 (n : Int), .slice A r.length c] w (RetU w (upN leaf i n r).1 (upN leaf i n r).2.1 (upN leaf i n r).2.2) := by
  intro r
  induction r with
  | nil =>
    intro i n hi hn hlr A c w hr hc hr'
    by_cases h1 : n = 1
    · subst h1
      exact rup_one_c leaf hl hu i A 0 c w
    · rw [show upN leaf i n [] = (Z, false, []) by unfold upN; rw [if_neg h1]]
      exact rup_nil_c leaf hl i n (by omega) A c w
  | cons x r ih =>
    intro i n hi hn hlr A c w hr hc hr'
    by_cases h1 : n = 1
    · subst h1
      exact rup_one_c leaf hl hu i A (r.length + 1) c w
    · have hk := hlf_lt (n := n) (by omega)
      have hp := hlf_pos n
      have hx := hr' x (by simp)
      rw [List.reverse_cons] at hr
      obtain ⟨ad, rfl, hat, _⟩ := rs_at hr r.length (by simp)
      have hg : (r.reverse ++ [x])[r.length]'(by simp) = x := by
        rw [List.getElem_append_right (by simp)]
        simp
      rw [hg] at hat
      have hr2 : ∀ W, Below w.heap.size w W → Rs W (some ad) r.reverse := fun W hW => by
        have h2 := Rs.take (Kd.C_below hr hW) (k := r.length) (by simp)
        rwa [show (r.reverse ++ [x]).take r.length = r.reverse by rw [← List.length_reverse, List.take_left]] at h2
      have hru : Lu r := fun y hy => hr' y (by simp [hy])
      rw [List.length_cons] at hlr hc
      by_cases hik : i < hlf n
      · rw [show upN leaf i n (x :: r) = (nodeH (upN leaf i (hlf n) r).1 x, (upN leaf i (hlf n) r).2.1, (upN leaf i (hlf n) r).2.2 ++ [nodeX (upN leaf i (hlf n) r).1 x]) by rw [upN, if_neg h1, if_pos hik]]
        exact rup_left_c leaf hl _ x (upN_len _ _ _ _) hx.1 (upN_u8 _ _ _ _) hx.2 _ _ (Nat.le_trans (upN_texts _ _ _ _) (by omega)) i n _ rfl (by omega) hn hik hi ad r.length c hc (by omega) w hat (fun W hW => ih i (hlf n) hik (by omega) (by omega) (some ad) c W (hr2 W hW) (by omega) hru)
      · rw [show upN leaf i n (x :: r) = (nodeH x (upN leaf (i - hlf n) (n - hlf n) r).1, (upN leaf (i - hlf n) (n - hlf n) r).2.1, (upN leaf (i - hlf n) (n - hlf n) r).2.2 ++ [nodeX x (upN leaf (i - hlf n) (n - hlf n) r).1]) by rw [upN, if_neg h1, if_neg hik]]
        refine rup_right_c leaf hl _ x (upN_len _ _ _ _) hx.1 (upN_u8 _ _ _ _) hx.2 _ _ (Nat.le_trans (upN_texts leaf r (i - hlf n) (n - hlf n)) (by omega)) i n _ rfl (by omega) hn (by omega) hi ad r.length c hc (by omega) w hat (fun W hW => ?_)
        have h2 := ih (i - hlf n) (n - hlf n) (by omega) (by omega) (by omega) (some ad) c W (hr2 W hW) (by omega) hru
        rwa [show ((i - hlf n : Nat) : Int) = (i : Int) - (hlf n : Int) by omega, show ((n - hlf n : Nat) : Int) = (n : Int) - (hlf n : Int) by omega] at h2
end Go.Proofs.Ytbebkogkeepfoaa.Tree
/- The document's Texts. -/
namespace Go.Proofs.Ytbebkogkeepfoaa.Tree
set_option linter.unusedVariables false
set_option linter.unusedSimpArgs false
open Go.RowKit Go.Proofs.Ytbebkogkeepfoaa.Base Go.Proofs.Ytbebkogkeepfoaa.TlvPlain Go.Proofs.Ytbebkogkeepfoaa.ShaPlain Go.Proofs.Ytbebkogkeepfoaa.Sha Go.Proofs.Ytbebkogkeepfoaa.Com Go.Proofs.Ytbebkogkeepfoaa.Aid Go.Proofs.YtbebkogkeepfoaaW.PrintWords Go.Proofs.YtbebkogkeepfoaaW.PrintLast Go.Proofs.YtbebkogkeepfoaaW.PrintMore
abbrev RetN (w : World) (t : List (List Int)) : Ending → World → Prop := fun e w' => ∃ v, e = .returned v ∧ Ot w' w.heap.size v t ∧ Below w.heap.size w w'
set_option maxHeartbeats 4000000 in
set_option maxRecDepth 100000 in
theorem texts_nil (A : Option Addr) (c : Nat) (w : World) : Calls Try.prog 34 #[.slice A 0 c] w (RetN w []) := by
  unfold RetN
  go_enter Try.func34, Try.ntmps34
  go_wp2_with (fail)
  go_ret
  exact ⟨_, rfl, Kd.R_nil _ _ _ _ _, Below.refl _ _⟩
/-- A text that is written out, as a row of one's own. -/
theorem ot_one {W : World} {b : Nat} {A : Option Addr} {n c : Nat} {x : List Int} (h : Ob W b (.slice A n c) x) (hb : b ≤ W.heap.size) : Ot (W.alloc (.cells #[.slice A n c] 22)) b (.slice (some ⟨W.heap.size, 0, none⟩) 1 1) [x] := by
  refine ⟨fun k hk => trivial, [.slice A n c], ?_, ?_⟩
  · have h2 := World.ownsRow_lit (base := b) (e := 22) (size := 1) W #[.slice A n c] 1 hb (by decide) (by simp)
    have h3 : (W.alloc (.cells #[.slice A n c] 22)).ownsRow b 22 1 (.slice (some ⟨W.heap.size, 0, none⟩) 1 1) 1 [.slice A n c] := by simpa using h2
    exact h3
  · refine ⟨rfl, fun j p hj => ?_⟩
    match j, hj with
    | 0, hj =>
      cases hj
      refine ⟨_, rfl, Kd.R_mono (Kd.R_alloc (Kd.R_bound h) _) (fun k hk => ⟨trivial, fun he => ?_⟩)⟩
      have h3 : k = W.heap.size := by simpa [Value.ownBlock] using he
      have := hk.2.2.1
      omega
set_option maxHeartbeats 4000000 in
set_option maxRecDepth 100000 in
theorem texts_one (a : Sm) (A : Option Addr) (c : Nat) (w : World) (hr : Rs w A [a]) : Calls Try.prog 34 #[.slice A 1 c] w (RetN w [leafX a]) := by
  obtain ⟨ad, rfl, hat, hal⟩ := rs_at hr 0 (by simp)
  obtain ⟨L, hL⟩ := sumC a hal
  rw [show ([a] : List Sm)[0]'(by simp) = a from rfl, hL.eq] at hat
  have HAT := Aside0.mk hat
  have HIL := Aside0.mk hL.blk
  have HT := Aside0.mk (rleafx_c a hal)
  unfold MakesU at HT
  rw [hL.v] at HT
  unfold RetN
  clear hr hat hal hL
  go_enter Try.func34, Try.ntmps34
  go_wp2_with ((with_reducible refine gate_dst (N := 13) rfl ?_); refine wpList_load_at rfl 24 (.tmp 12) rfl _ rfl L _ HAT.out Try.underlying24 rfl HIL.out ?_)
  refine (HT.out _).mono ?_
  rintro e w3 ⟨v, rfl, ho, hb⟩
  obtain ⟨Ax, cx, rfl⟩ := Kd.R_slice ho
  have HO := Aside0.mk ho
  have HB := Aside0.mk hb
  clear ho hb
  go_wp2_with (fail)
  go_ret
  exact ⟨_, rfl, ot_one HO.out HB.out.size, below_alloc HB.out _⟩
/-- Texts of one's own, as elements for another row of texts. -/
theorem ot_elems {W : World} {b : Nat} {v u : Value} {xs ys : List (List Int)} (h1 : Ot W b v xs) (h2 : Ot W b u ys) : ∃ A c, u = .slice A ys.length c ∧ ys.length ≤ c ∧ ReadsRow (DX.M W b (fun k => True ∧ some k ≠ v.ownBlock)) 1 W A ys.length ys := by
  obtain ⟨A, c, he, hc, hr⟩ := OwnRow.reads h2.2
  refine ⟨A, c, he, hc, hr.imp_ (Below.refl _ _) (fun p cs hp => DX.M_mono (fun k hk => ⟨trivial, fun he => ?_⟩) (DX.M_bound hp))⟩
  obtain ⟨_, _, _, q, hq, cells, hcell⟩ := hk
  obtain ⟨cells2, hcell2⟩ := Kd.R_typed h1 k he.symm
  rw [hcell] at hcell2
  injection hcell2 with hcell2
  injection hcell2 with _ hq2 _
  simp [Kd.slice, Kd.E, Kd.int, Kd.scalar] at hq
  rw [hq] at hq2
  exact absurd hq2 (by decide)
section
variable {ops : Array Oper} {o : Oper} {a : Act} {Q : Exit → Act → World → Prop} {Kc : Act → World → Prop} {W w0 : World} {rest : List Oper}
theorem ot_append_step (base : Nat) (hw : Region.wanted o (yielded ops a.tmps) = true) (s x : Operand) (ho : o.op = .call { callee := .builtin .append, args := #[s, x], argTypes := #[29, 29] }) (v u : Value) (xs ys : List (List Int)) (hs : a.eval s = v) (hx : a.eval x = u)
    (H1 : Ot W base v xs) (H2 : Ot W base u ys) (HB : Below base w0 W) (hbase : base ≤ W.heap.size) (hl : xs.length + ys.length ≤ 100000)
    (h : ∀ v1 w1, Ot w1 base v1 (xs ++ ys) → Below base w0 w1 → W.grownBy w1 v.ownBlock → Kc (a.put o.dst v1) w1) : if Region.wanted o (yielded ops a.tmps) = true then Oper.wp Try.prog o a W Kc Q else Kc (a.put o.dst undef) W := by
  obtain ⟨A, c, he, hc, hr⟩ := ot_elems H1 H2
  exact Kd.R_append_rows_step DX (w0 := w0) base hw s x 29 22 (.slice none 0 0) 24 ho Try.underlying29 info_text rfl (by decide) (by decide) v xs ys A ys.length c (fun _ => True) (fun k => True ∧ some k ≠ v.ownBlock) hs (hx.trans he) H1 hr (fun _ _ hp => hp) (fun _ h => h) (fun _ _ => trivial) HB hbase (by omega) (fun v1 w1 h1 h2 h3 _ => h v1 w1 h1 h2 h3)
theorem ot_append (base : Nat) (hgd : o.guard = none) (s x : Operand) (ho : o.op = .call { callee := .builtin .append, args := #[s, x], argTypes := #[29, 29] }) (v u : Value) (xs ys : List (List Int)) (hs : a.eval s = v) (hx : a.eval x = u)
    (H1 : Ot W base v xs) (H2 : Ot W base u ys) (HB : Below base w0 W) (hbase : base ≤ W.heap.size) (hl : xs.length + ys.length ≤ 100000)
    (h : ∀ v1 w1, Ot w1 base v1 (xs ++ ys) → Below base w0 w1 → W.grownBy w1 v.ownBlock → wpList Try.prog ops Q rest (a.put o.dst v1) w1) : wpList Try.prog ops Q (o :: rest) a W := by
  obtain ⟨A, c, he, hc, hr⟩ := ot_elems H1 H2
  exact Kd.R_append_rows DX (w0 := w0) base hgd s x 29 22 (.slice none 0 0) 24 ho Try.underlying29 info_text rfl (by decide) (by decide) v xs ys A ys.length c (fun _ => True) (fun k => True ∧ some k ≠ v.ownBlock) hs (hx.trans he) H1 hr (fun _ _ hp => hp) (fun _ h => h) (fun _ _ => trivial) HB hbase (by omega) (fun v1 w1 h1 h2 h3 _ => h v1 w1 h1 h2 h3)
end
set_option maxHeartbeats 8000000 in
set_option maxRecDepth 100000 in
theorem texts_two (x y : Sm) (t1 t2 : List (List Int)) (hx : x.length = 32) (hy : y.length = 32) (h1 : t1.length ≤ 1000) (h2' : t2.length ≤ 1000) (n k : Nat) (hk2 : hlf n = k) (h2 : 2 ≤ n) (hm : n ≤ 1000000) (A : Option Addr) (c : Nat) (hc : n ≤ c) (w : World)
    (hT1 : ∀ W, Below w.heap.size w W → Calls Try.prog 34 #[.slice A k c] W (RetN W t1))
    (hT2 : ∀ W, Below w.heap.size w W → Calls Try.prog 34 #[.slice (restA A c k) (n - k) (c - k)] W (RetN W t2))
    (hX : ∀ W, Below w.heap.size w W → Calls Try.prog 42 #[.slice A k c] W (Ret W x))
    (hY : ∀ W, Below w.heap.size w W → Calls Try.prog 42 #[.slice (restA A c k) (n - k) (c - k)] W (Ret W y)) :
    Calls Try.prog 34 #[.slice A n c] w (RetN w (t1 ++ t2 ++ [nodeX x y])) := by
  have hk := hlf_lt h2
  have HKB := Aside0.mk (fun W => half_c n h2 (by omega) W)
  rw [hk2] at HKB hk
  obtain ⟨X, hXc⟩ := sumC x hx
  obtain ⟨Y, hYc⟩ := sumC y hy
  have HT := Aside0.mk (rnodex_c x y hx hy)
  unfold RetN at hT1 hT2 ⊢
  unfold Ret at hX hY
  unfold MakesU at HT
  rw [hXc.v] at hX HT
  rw [hYc.v] at hY HT
  have HT1 := Aside0.mk hT1
  have HT2 := Aside0.mk hT2
  have HX := Aside0.mk hX
  have HY := Aside0.mk hY
  have HTL := Aside0.mk (And.intro h1 h2')
  have HC1 := Aside0.mk (cut_a A n c k (by omega) hc)
  have HC2 := Aside0.mk (cut_b A n c k (by omega))
  have d0 : ((n : Int) == 0) = false := by simp; omega
  have d1 : ((n : Int) == 1) = false := by simp; omega
  have HB := Aside0.mk (Below.refl w.heap.size w)
  clear hT1 hT2 hX hY hx hy h1 h2' hk hk2 h2 hm hc hXc hYc
  have hq1 := HC1.out
  have hq2 := HC2.out
  go_enter Try.func34, Try.ntmps34
  go_wp2_with (go_at_call 60; refine (HKB.out _).mono ?_; rintro e w2 ⟨rfl, hd⟩; have HB2 := Aside0.mk (below_step HB.out (Drawn0.below hd)); clear hd)
  refine wp_region_held_drew (S := fun _ => True) (by kernel_rfl) trivial (fun hHeld => ?_)
  (refine wpAnyH_take (i := 0) (v := ?_) rfl (by kernel_rfl) (by kernel_rfl) (by kernel_rfl) (fun _ _ _ h => h) (Or.inl ⟨by rfl, ?_⟩) (by assumption) ?_; (case' refine_2 => (intro w hSw; go_simp; try with_reducible rfl)); (try simp only [Act.put, List.getElem_toArray, List.getElem_cons_zero, List.getElem_cons_succ, List.setIfInBounds_toArray, List.set_cons_zero, List.set_cons_succ]))
  (refine wpAnyH_take (i := 1) (v := ?_) rfl (by kernel_rfl) (by kernel_rfl) (by kernel_rfl) (fun _ _ _ h => h) (Or.inl ⟨by rfl, ?_⟩) (by assumption) ?_; (case' refine_2 => (intro w hSw; go_simp; try with_reducible rfl)); (try simp only [Act.put, List.getElem_toArray, List.getElem_cons_zero, List.getElem_cons_succ, List.setIfInBounds_toArray, List.set_cons_zero, List.set_cons_succ]))
  (refine wpAnyH_take (i := 2) (v := ?_) rfl (by kernel_rfl) (by kernel_rfl) (by kernel_rfl) (fun _ _ _ h => h) (Or.inl ⟨by rfl, ?_⟩) (by assumption) ?_; (case' refine_2 => (intro w hSw; go_simp; try with_reducible rfl)); (try simp only [Act.put, List.getElem_toArray, List.getElem_cons_zero, List.getElem_cons_succ, List.setIfInBounds_toArray, List.set_cons_zero, List.set_cons_succ]))
  (refine wpAnyH_take (i := 4) (v := ?_) rfl (by kernel_rfl) (by kernel_rfl) (by kernel_rfl) (fun _ _ _ h => h) (Or.inl ⟨by rfl, ?_⟩) (by assumption) ?_; (case' refine_2 => (intro w hSw; go_simp; try with_reducible rfl)); (try simp only [Act.put, List.getElem_toArray, List.getElem_cons_zero, List.getElem_cons_succ, List.setIfInBounds_toArray, List.set_cons_zero, List.set_cons_succ]))
  (refine wpAnyH_take (i := 5) (v := ?_) rfl (by kernel_rfl) (by kernel_rfl) (by kernel_rfl) (fun _ _ _ h => h) (Or.inl ⟨by rfl, ?_⟩) (by assumption) ?_; (case' refine_2 => (intro w hSw; go_simp; try with_reducible rfl)); (try simp only [Act.put, List.getElem_toArray, List.getElem_cons_zero, List.getElem_cons_succ, List.setIfInBounds_toArray, List.set_cons_zero, List.set_cons_succ]))
  (refine wpAnyH_take (i := 6) (v := ?_) rfl (by kernel_rfl) (by kernel_rfl) (by kernel_rfl) (fun _ _ _ h => h) (Or.inl ⟨by rfl, ?_⟩) (by assumption) ?_; (case' refine_2 => (intro w hSw; go_simp; try with_reducible rfl)); (try simp only [Act.put, List.getElem_toArray, List.getElem_cons_zero, List.getElem_cons_succ, List.setIfInBounds_toArray, List.set_cons_zero, List.set_cons_succ]))
  (refine wpAnyH_ready (rs := [3]) (by kernel_rfl) (by simp) (AllReadyH.cons rfl (fun K hK => ?_) AllReadyH.nil); go_simp)
  refine (HT1.out _ (below_drew1 HB2.out)).mono ?_
  rintro e w3 ⟨v1, rfl, ho, hb⟩
  have HB3 := Aside0.mk (below_step HB2.out (below_drew_of hb))
  have HO3 := Aside0.mk (show Ot w3 w.heap.size v1 t1 from Kd.R_lower ho (show w.heap.size ≤ w2.drew.heap.size from HB2.out.size))
  clear ho hb
  (refine Shut.out hK _ _ trivial (fun hHeld => ?_); clear hK K; (try simp only [Act.put, List.getElem_toArray, List.getElem_cons_zero, List.getElem_cons_succ, List.setIfInBounds_toArray, List.set_cons_zero, List.set_cons_succ]))
  (refine wpAnyH_ready (rs := [7]) (by kernel_rfl) (by simp) (AllReadyH.cons rfl (fun K hK => ?_) AllReadyH.nil); go_simp)
  refine (HT2.out _ HB3.out).mono ?_
  rintro e w4 ⟨v2, rfl, ho, hb⟩
  have HB4 := Aside0.mk (below_step HB3.out hb)
  have HO4 := Aside0.mk (Kd.R_below HO3.out hb)
  have HP4 := Aside0.mk (show Ot w4 w.heap.size v2 t2 from Kd.R_lower ho HB3.out.size)
  clear ho hb
  (refine Shut.out hK _ _ trivial (fun hHeld => ?_); clear hK K; (try simp only [Act.put, List.getElem_toArray, List.getElem_cons_zero, List.getElem_cons_succ, List.setIfInBounds_toArray, List.set_cons_zero, List.set_cons_succ]))
  refine wpAnyH_ready (rs := [8]) (by kernel_rfl) (by simp) (AllReadyH.cons rfl (fun K hK => ?_) AllReadyH.nil)
  refine ot_append_step (w0 := w) w.heap.size rfl (.tmp 22) (.tmp 26) rfl v1 v2 t1 t2 rfl rfl HO4.out HP4.out HB4.out HB4.out.size (by have := HTL.out; omega) ?_
  intro v3 w5 ho hb hg
  have HO5 := Aside0.mk ho
  have HB5 := Aside0.mk hb
  clear ho hb hg
  (refine Shut.out hK _ _ trivial (fun hHeld => ?_); clear hK K; (try simp only [Act.put, List.getElem_toArray, List.getElem_cons_zero, List.getElem_cons_succ, List.setIfInBounds_toArray, List.set_cons_zero, List.set_cons_succ]))
  (refine wpAnyH_take (i := 9) (v := ?_) rfl (by kernel_rfl) (by kernel_rfl) (by kernel_rfl) (fun _ _ _ h => h) (Or.inl ⟨by rfl, ?_⟩) (by assumption) ?_; (case' refine_2 => (intro w hSw; go_simp; try with_reducible rfl)); (try simp only [Act.put, List.getElem_toArray, List.getElem_cons_zero, List.getElem_cons_succ, List.setIfInBounds_toArray, List.set_cons_zero, List.set_cons_succ]))
  refine wpAnyH_done (by kernel_rfl) ?_ _
  go_wp2_with (fail)
  refine wp_region_held_drew (S := fun _ => True) (by kernel_rfl) trivial (fun hHeld => ?_)
  (refine wpAnyH_take (i := 0) (v := ?_) rfl (by kernel_rfl) (by kernel_rfl) (by kernel_rfl) (fun _ _ _ h => h) (Or.inl ⟨by rfl, ?_⟩) (by assumption) ?_; (case' refine_2 => (intro w hSw; go_simp; try with_reducible rfl)); (try simp only [Act.put, List.getElem_toArray, List.getElem_cons_zero, List.getElem_cons_succ, List.setIfInBounds_toArray, List.set_cons_zero, List.set_cons_succ]))
  (refine wpAnyH_take (i := 1) (v := ?_) rfl (by kernel_rfl) (by kernel_rfl) (by kernel_rfl) (fun _ _ _ h => h) (Or.inl ⟨by rfl, ?_⟩) (by assumption) ?_; (case' refine_2 => (intro w hSw; go_simp; try with_reducible rfl)); (try simp only [Act.put, List.getElem_toArray, List.getElem_cons_zero, List.getElem_cons_succ, List.setIfInBounds_toArray, List.set_cons_zero, List.set_cons_succ]))
  (refine wpAnyH_take (i := 2) (v := ?_) rfl (by kernel_rfl) (by kernel_rfl) (by kernel_rfl) (fun _ _ _ h => h) (Or.inl ⟨by rfl, ?_⟩) (by assumption) ?_; (case' refine_2 => (intro w hSw; go_simp; try with_reducible rfl)); (try simp only [Act.put, List.getElem_toArray, List.getElem_cons_zero, List.getElem_cons_succ, List.setIfInBounds_toArray, List.set_cons_zero, List.set_cons_succ]))
  (refine wpAnyH_take (i := 3) (v := ?_) rfl (by kernel_rfl) (by kernel_rfl) (by kernel_rfl) (fun _ _ _ h => h) (Or.inl ⟨by rfl, ?_⟩) (by assumption) ?_; (case' refine_2 => (intro w hSw; go_simp; try with_reducible rfl)); (try simp only [Act.put, List.getElem_toArray, List.getElem_cons_zero, List.getElem_cons_succ, List.setIfInBounds_toArray, List.set_cons_zero, List.set_cons_succ]))
  (refine wpAnyH_take (i := 5) (v := ?_) rfl (by kernel_rfl) (by kernel_rfl) (by kernel_rfl) (fun _ _ _ h => h) (Or.inl ⟨by rfl, ?_⟩) (by assumption) ?_; (case' refine_2 => (intro w hSw; go_simp; try with_reducible rfl)); (try simp only [Act.put, List.getElem_toArray, List.getElem_cons_zero, List.getElem_cons_succ, List.setIfInBounds_toArray, List.set_cons_zero, List.set_cons_succ]))
  (refine wpAnyH_take (i := 6) (v := ?_) rfl (by kernel_rfl) (by kernel_rfl) (by kernel_rfl) (fun _ _ _ h => h) (Or.inl ⟨by rfl, ?_⟩) (by assumption) ?_; (case' refine_2 => (intro w hSw; go_simp; try with_reducible rfl)); (try simp only [Act.put, List.getElem_toArray, List.getElem_cons_zero, List.getElem_cons_succ, List.setIfInBounds_toArray, List.set_cons_zero, List.set_cons_succ]))
  (refine wpAnyH_take (i := 7) (v := ?_) rfl (by kernel_rfl) (by kernel_rfl) (by kernel_rfl) (fun _ _ _ h => h) (Or.inl ⟨by rfl, ?_⟩) (by assumption) ?_; (case' refine_2 => (intro w hSw; go_simp; try with_reducible rfl)); (try simp only [Act.put, List.getElem_toArray, List.getElem_cons_zero, List.getElem_cons_succ, List.setIfInBounds_toArray, List.set_cons_zero, List.set_cons_succ]))
  (refine wpAnyH_ready (rs := [4]) (by kernel_rfl) (by simp) (AllReadyH.cons rfl (fun K hK => ?_) AllReadyH.nil); go_simp)
  refine (HX.out _ (below_drew1 HB5.out)).mono ?_
  rintro e w6 ⟨rfl, hb⟩
  have HB6 := Aside0.mk (below_step HB5.out (below_drew_of hb))
  have HO6 := Aside0.mk (Kd.R_below HO5.out (below_drew_of hb))
  clear hb
  (refine Shut.out hK _ _ trivial (fun hHeld => ?_); clear hK K; (try simp only [Act.put, List.getElem_toArray, List.getElem_cons_zero, List.getElem_cons_succ, List.setIfInBounds_toArray, List.set_cons_zero, List.set_cons_succ]))
  (refine wpAnyH_ready (rs := [8]) (by kernel_rfl) (by simp) (AllReadyH.cons rfl (fun K hK => ?_) AllReadyH.nil); go_simp)
  refine (HY.out _ HB6.out).mono ?_
  rintro e w7 ⟨rfl, hb⟩
  have HB7 := Aside0.mk (below_step HB6.out hb)
  have HO7 := Aside0.mk (Kd.R_below HO6.out hb)
  clear hb
  (refine Shut.out hK _ _ trivial (fun hHeld => ?_); clear hK K; (try simp only [Act.put, List.getElem_toArray, List.getElem_cons_zero, List.getElem_cons_succ, List.setIfInBounds_toArray, List.set_cons_zero, List.set_cons_succ]))
  (refine wpAnyH_ready (rs := [9]) (by kernel_rfl) (by simp) (AllReadyH.cons rfl (fun K hK => ?_) AllReadyH.nil); go_simp)
  refine (HT.out _).mono ?_
  rintro e w8 ⟨vx, rfl, ho, hb⟩
  obtain ⟨Ax, cx, rfl⟩ := Kd.R_slice ho
  have HB8 := Aside0.mk (below_step HB7.out hb)
  have HO8 := Aside0.mk (Kd.R_below HO7.out hb)
  have HX8 := Aside0.mk (show Ob w8 w.heap.size _ (nodeX x y) from Kd.R_lower ho HB7.out.size)
  clear ho hb
  (refine Shut.out hK _ _ trivial (fun hHeld => ?_); clear hK K; (try simp only [Act.put, List.getElem_toArray, List.getElem_cons_zero, List.getElem_cons_succ, List.setIfInBounds_toArray, List.set_cons_zero, List.set_cons_succ]))
  refine wpAnyH_ready (rs := [10]) (by kernel_rfl) (by simp) (AllReadyH.cons rfl (fun K hK => ?_) AllReadyH.nil)
  refine Kd.R_lit_step DX (w0 := w) w.heap.size 22 rfl (N := 38) rfl (xs := [nodeX x y]) (inner := [.slice Ax (nodeX x y).length cx]) (ok := fun _ => True) (okp := fun _ => True) (by first | (go_simp; done) | (go_simp; rfl)) ⟨rfl, fun j p hj => ?_⟩ (fun _ hk => hk) trivial HB8.out HB8.out.size (by simp) ?_
  · match j, hj with
    | 0, hj => cases hj; exact ⟨_, rfl, HX8.out⟩
  intro v10 w10 ho hb hg hat
  have HV10 := Aside0.mk (show Ot w10 w.heap.size v10 [nodeX x y] from ho)
  have HB10 := Aside0.mk hb
  have HO10 := Aside0.mk (show Ot w10 w.heap.size v3 (t1 ++ t2) from Kd.R_grown HO8.out hg (fun k _ h => by cases h))
  clear ho hb hg hat
  (refine Shut.out hK _ _ trivial (fun hHeld => ?_); clear hK K; (try simp only [Act.put, List.getElem_toArray, List.getElem_cons_zero, List.getElem_cons_succ, List.setIfInBounds_toArray, List.set_cons_zero, List.set_cons_succ]))
  refine wpAnyH_ready (rs := [11]) (by kernel_rfl) (by simp) (AllReadyH.cons rfl (fun K hK => ?_) AllReadyH.nil)
  refine ot_append_step (w0 := w) w.heap.size rfl (.tmp 28) (.tmp 38) rfl v3 v10 (t1 ++ t2) [nodeX x y] rfl rfl HO10.out HV10.out HB10.out HB10.out.size (by have := HTL.out; simp only [List.length_append, List.length_singleton]; omega) ?_
  intro v11 w11 ho hb hg
  have HO11 := Aside0.mk ho
  have HB11 := Aside0.mk hb
  clear ho hb hg
  (refine Shut.out hK _ _ trivial (fun hHeld => ?_); clear hK K; (try simp only [Act.put, List.getElem_toArray, List.getElem_cons_zero, List.getElem_cons_succ, List.setIfInBounds_toArray, List.set_cons_zero, List.set_cons_succ]))
  (refine wpAnyH_take (i := 12) (v := ?_) rfl (by kernel_rfl) (by kernel_rfl) (by kernel_rfl) (fun _ _ _ h => h) (Or.inl ⟨by rfl, ?_⟩) (by assumption) ?_; (case' refine_2 => (intro w hSw; go_simp; try with_reducible rfl)); (try simp only [Act.put, List.getElem_toArray, List.getElem_cons_zero, List.getElem_cons_succ, List.setIfInBounds_toArray, List.set_cons_zero, List.set_cons_succ]))
  refine wpAnyH_done (by kernel_rfl) ?_ _
  go_wp2_with (fail)
  go_ret
  exact ⟨_, rfl, HO11.out, HB11.out⟩
theorem textsT_len (l : List Sm) : (textsT l).length ≤ 2 * l.length - 1 := by
  generalize hn : l.length = n
  induction n using Nat.strongRecOn generalizing l with
  | ind n ih =>
    rw [textsT]
    split
    · simp
    · split
      · simp; omega
      · have hb := hlf_lt (n := l.length) (by omega)
        have hp := hlf_pos l.length
        have h1 := ih (hlf l.length) (by omega) (l.take (hlf l.length)) (by rw [List.length_take]; omega)
        have h2 := ih (n - hlf l.length) (by omega) (l.drop (hlf l.length)) (by rw [List.length_drop]; omega)
        simp only [List.length_append, List.length_singleton, List.length_cons, List.length_nil]
        omega
theorem texts_c : ∀ (n : Nat) (l : List Sm), l.length = n → n ≤ 400 → ∀ (A : Option Addr) (c : Nat) (w : World), Rs w A l → n ≤ c → Lu l →
    Calls Try.prog 34 #[.slice A n c] w (RetN w (textsT l)) := by
  intro n
  induction n using Nat.strongRecOn with
  | ind n ih =>
  intro l hn hm A c w hr hc hu
  by_cases h0 : n = 0
  · subst h0
    rw [textsT, dif_pos hn]
    exact texts_nil A c w
  · by_cases h1 : n = 1
    · subst h1
      obtain ⟨a, rfl⟩ := List.length_eq_one_iff.1 hn
      rw [textsT, dif_neg (by omega), dif_pos (by omega)]
      exact texts_one a A c w hr
    · have hk := hlf_lt (n := n) (by omega)
      have hp := hlf_pos n
      rw [textsT, dif_neg (by omega), dif_neg (by omega), hn]
      exact texts_two _ _ _ _ (rootT_len _) (rootT_len _) (Nat.le_trans (textsT_len (l.take (hlf n))) (by rw [List.length_take]; omega)) (Nat.le_trans (textsT_len (l.drop (hlf n))) (by rw [List.length_drop]; omega)) n (hlf n) rfl (by omega) (by omega) A c hc w
        (fun W hW => ih _ hk (l.take (hlf n)) (by rw [List.length_take]; omega) (by omega) A c W (Rs.take (Kd.C_below hr hW) (by omega)) (by omega) (hu.take _))
        (fun W hW => ih (n - hlf n) (by omega) (l.drop (hlf n)) (by rw [List.length_drop]; omega) (by omega) (restA A c (hlf n)) (c - hlf n) W (Rs.drop (Kd.C_below hr hW) (by omega) (by omega)) (by omega) (hu.drop _))
        (fun W hW => rroot_c (hlf n) (l.take (hlf n)) (by rw [List.length_take]; omega) (by omega) A c W (Rs.take (Kd.C_below hr hW) (by omega)) (by omega) (hu.take _))
        (fun W hW => rroot_c (n - hlf n) (l.drop (hlf n)) (by rw [List.length_drop]; omega) (by omega) (restA A c (hlf n)) (c - hlf n) W (Rs.drop (Kd.C_below hr hW) (by omega) (by omega)) (by omega) (hu.drop _))
end Go.Proofs.Ytbebkogkeepfoaa.Tree
/- The law TreeChecks walked. -/
namespace Go.Proofs.Ytbebkogkeepfoaa.Tree
set_option linter.unusedVariables false
set_option linter.unusedSimpArgs false
open Go.RowKit Go.Proofs.Ytbebkogkeepfoaa.Base Go.Proofs.Ytbebkogkeepfoaa.TlvPlain Go.Proofs.Ytbebkogkeepfoaa.ShaPlain Go.Proofs.Ytbebkogkeepfoaa.Sha Go.Proofs.Ytbebkogkeepfoaa.Com Go.Proofs.Ytbebkogkeepfoaa.Aid Go.Proofs.YtbebkogkeepfoaaW.PrintWords Go.Proofs.YtbebkogkeepfoaaW.PrintLast Go.Proofs.YtbebkogkeepfoaaW.PrintMore
theorem AtC.left {W : World} {ad : Addr} {a b : List Value} (h : AtC W ad (a ++ b)) : AtC W ad a := fun j v hj => h j v (by rw [List.getElem?_append_left (List.getElem?_eq_some_iff.1 hj).1]; exact hj)
theorem AtC.right {W : World} {ad : Addr} {a b : List Value} (h : AtC W ad (a ++ b)) : AtC W (ad.add a.length) b := fun j v hj => by
  rw [addr_add_add]
  exact h _ v (by rw [List.getElem?_append_right (by omega), Nat.add_sub_cancel_left]; exact hj)
/-- What is asked, in its block. -/
structure AskAt (W : World) (g : Nat) (R L : List Value) (i n : Int) : Prop where
  r : AtC W ⟨g, 0, none⟩ R
  l : AtC W ⟨g, 32, none⟩ L
  i : W.cell? ⟨g, 64, none⟩ = some (.int .i64 i)
  n : W.cell? ⟨g, 65, none⟩ = some (.int .i64 n)
theorem AskAt.below {W W' : World} {g : Nat} {R L : List Value} {i n : Int} (h : AskAt W g R L i n) (hb : Below W.heap.size W W') : AskAt W' g R L i n :=
  ⟨h.r.below hb, h.l.below hb, (hb.cell (World.block_lt_of_cell? _ _ h.i)).trans h.i, (hb.cell (World.block_lt_of_cell? _ _ h.n)).trans h.n⟩
theorem askAt_new (w : World) (R L : List Value) (i n : Int) (hR : R.length = 32) (hL : L.length = 32) : AskAt (w.alloc (.cells (R ++ (L ++ [Value.int .i64 i, Value.int .i64 n])).toArray 54)) w.heap.size R L i n := by
  have h := atC_blk (blk_new w (.cells (R ++ (L ++ [Value.int .i64 i, Value.int .i64 n])).toArray 54))
  have h2 := h.right
  rw [hR, add_plain] at h2
  have h3 := h2.right
  rw [hL] at h3
  have e : (⟨w.heap.size, 32, none⟩ : Addr).add 32 = ⟨w.heap.size, 64, none⟩ := rfl
  rw [e] at h3
  exact ⟨h.left, h2.left, h3 0 _ rfl, h3 1 _ rfl⟩
end Go.Proofs.Ytbebkogkeepfoaa.Tree
