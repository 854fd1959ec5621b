/- Own and printed texts, laid together. -/
import Derived.Test.YtgohmganimamcaaDrCF
import Derived.Deep.RegionLaw
import Derived.Deep.DeepMust
import Derived.Deep.DeepCutAuto
import Derived.Deep.CutRange
import Derived.Test.YtgohmganimamcaaDrCC
import Derived.Test.YtgohmganimamcaaDrCD
import Derived.Test.YtgohmganimamcaaDrCE
/- Layer 6's example, walked by hand (printed by gen_drvlive.py). -/
namespace Go.Proofs.Ytgohmganimamcaa.Term
set_option linter.unusedVariables false
set_option linter.unusedSimpArgs false
open Go.RowKit Go.Proofs.Ytgohmganimamcaa.Base Go.Proofs.Ytgohmganimamcaa.TlvPlain Go.Proofs.Ytgohmganimamcaa.Lo Go.Proofs.Ytgohmganimamcaa.RdPlain Go.Proofs.Ytgohmganimamcaa.Aid Go.Proofs.Ytgohmganimamcaa.PZ Go.Proofs.YtgohmganimamcaaW.PrintWords Go.Proofs.YtgohmganimamcaaW.PrintLast Go.Proofs.YtgohmganimamcaaW.PrintMore
theorem grd_ex : grdT [7] exA exX = true := by decide +kernel
theorem grd7_c (w : World) {A2 A3 B2 B3 : Option Addr} {c2 c3 d2 d3 : Nat} {b : Nat} (hx : RowsT w exX A2 c2 A3 c3) (ha : RowsT w exA B2 d2 B3 d3) (hk : Kd.C (Kd.int .u64) w (some ⟨b, 0, none⟩) 1 [7]) :
    Calls Try.prog 30 #[.agg #[.int .i64 5, .int .u64 1, .slice A2 0 c2, .slice A3 2 c3], .agg #[.int .i64 3, .int .u64 0, .slice B2 1 d2, .slice B3 0 d3], .slice (some ⟨b, 0, none⟩) 1 1] w fun e w' => e = .returned (.bool true) ∧ Below w.heap.size w w' := by
  have h := grd_c (keys := [7]) (sec := exA) (by decide) wf_exA _ exX (Nat.lt_succ_self _) wf_exX A2 c2 A3 c3 B2 d2 B3 d3 (some ⟨b, 0, none⟩) 1 w hx ha hk (Nat.le_refl _)
  rw [grd_ex] at h
  exact h
theorem fol2_c (w : World) {B2 B3 : Option Addr} {d2 d3 g : Nat} (ha : RowsT w exA B2 d2 B3 d3) (hl : Kd.C k26 w (some ⟨g, 0, none⟩) 2 [exX, exK]) :
    Calls Try.prog 29 #[.slice (some ⟨g, 0, none⟩) 2 2, .agg #[.int .i64 3, .int .u64 0, .slice B2 1 d2, .slice B3 0 d3]] w fun e w' => e = .returned (.tuple #[.bool true, .int .i64 0]) ∧ Below w.heap.size w w' := by
  have h := fol_c (l := [exX, exK]) wf_exl2 (t := exA) wf_exA (some ⟨g, 0, none⟩) 2 B2 d2 B3 d3 w hl (Nat.le_refl _) ha
  rw [fol_ex2] at h
  exact h
theorem fol1_c (w : World) {B2 B3 : Option Addr} {d2 d3 g : Nat} (ha : RowsT w exA B2 d2 B3 d3) (hl : Kd.C k26 w (some ⟨g, 0, none⟩) 1 [exX]) :
    Calls Try.prog 29 #[.slice (some ⟨g, 0, none⟩) 1 1, .agg #[.int .i64 3, .int .u64 0, .slice B2 1 d2, .slice B3 0 d3]] w fun e w' => e = .returned (.tuple #[.bool false, .int .i64 0]) ∧ Below w.heap.size w w' := by
  have h := fol_c (l := [exX]) wf_exl1 (t := exA) wf_exA (some ⟨g, 0, none⟩) 1 B2 d2 B3 d3 w hl (Nat.le_refl _) ha
  rw [fol_ex1] at h
  exact h
set_option maxHeartbeats 16000000 in
set_option maxRecDepth 100000 in
theorem live6_c (w : World) : Calls Try.prog 24 #[] w fun e w' => e = .returned (.bool true) ∧ Below w.heap.size w w' := by
  have HB := Aside0.mk (Below.refl w.heap.size w)
  have kc := fun (w : World) (C : Array Value) (n c : Nat) => Lib.run_convert_bytes_const (P := Try.prog) w 23 5 C n c Try.underlying23 Try.underlying5
  have hu26 := Try.underlying26
  go_enter Try.func24, Try.ntmps24
  go_upto_region 2 with (fail)
  refine (data1_c (const_reads _ [97] #[.int .u8 97] (1, 2) rfl (by simp))).mono ?_
  rintro e w1 ⟨v, rfl, ⟨D2, d2, D3, d3, rfl, hr⟩, hb⟩
  have HB1 := Aside0.mk (below_step (below_alloc HB.out _) hb)
  have HA1 := Aside0.mk hr
  clear hr hb
  go_upto_region 2 with (fail)
  refine (key_c 7 _).mono ?_
  rintro e w2 ⟨v, rfl, ⟨K2, k2, K3, k3, rfl, hr⟩, hb⟩
  have HB2 := Aside0.mk (below_step HB1.out hb)
  have HA2 := Aside0.mk (HA1.out.below hb)
  have HK2 := Aside0.mk hr
  clear hr hb
  go_upto_region 2 with (fail)
  refine (enc_c 1 (x := exA) (y := exK) (rowsF_of HA2.out (Below.refl _ _)) (rowsF_of HK2.out (Below.refl _ _))).mono ?_
  rintro e w3 ⟨v, rfl, ⟨A2, c2, A3, c3, rfl, hr⟩, hb⟩
  have HB3 := Aside0.mk (below_step HB2.out hb)
  have HR3 := Aside0.mk (show RowsT w3 exX A2 c2 A3 c3 from hr.now)
  clear hr hb HA1 HA2 HK2 HB1 HB2
  simp only [List.length_nil, List.length_cons, Nat.zero_add, Nat.reduceAdd]
  go_upto_region 2 with (fail)
  have HX := Aside0.mk (show Blk (w3.alloc (.cells #[.int .i64 5, .int .u64 1, .slice A2 0 c2, .slice A3 2 c3] 26)) w3.heap.size 26 #[.int .i64 5, .int .u64 1, .slice A2 0 c2, .slice A3 2 c3] from blk_new _ _)
  have HR := Aside0.mk (HR3.out.below (below_alloc (Below.refl _ _) (.cells #[.int .i64 5, .int .u64 1, .slice A2 0 c2, .slice A3 2 c3] 26)))
  have HB0 := Aside0.mk (below_alloc HB3.out (.cells #[.int .i64 5, .int .u64 1, .slice A2 0 c2, .slice A3 2 c3] 26))
  have hu23 := Try.underlying23
  have hu9 := Try.underlying5
  have hu24 := Try.underlying24
  clear kc HB HB3 HR3
  obtain ⟨W, hW⟩ : ∃ W2, w3.alloc (.cells #[.int .i64 5, .int .u64 1, .slice A2 0 c2, .slice A3 2 c3] 26) = W2 := ⟨_, rfl⟩
  rw [hW] at HX HR HB0 ⊢
  clear hW
  obtain ⟨p, hp⟩ : ∃ p, w3.heap.size = p := ⟨_, rfl⟩
  rw [hp] at HX ⊢
  clear hp
  go_cut [2, 3] from 11 to 20 (fun s2 s3 wx => s2 = .bool true ∧ s3 = .int .i64 0 ∧ Below W.heap.size W wx)
  case first =>
    have HB := Aside0.mk (below_drew1 (Below.refl W.heap.size W))
    refine wp_region_held_drew (S := fun w' => w'.cell? ⟨p, 0, none⟩ = some (.int .i64 5) ∧ w'.cell? ⟨p, 1, none⟩ = some (.int .u64 1) ∧ w'.cell? ⟨p, 2, none⟩ = some (.slice A2 0 c2) ∧ w'.cell? ⟨p, 3, none⟩ = some (.slice A3 2 c3)) (by kernel_rfl) (four_cells HX.out) (fun hHeld => ?_)
    obtain ⟨w1, hw1⟩ : ∃ w1, W.drew = w1 := ⟨_, rfl⟩
    rw [hw1] at HB hHeld ⊢
    clear hw1
    (refine wpAnyH_take (i := 0) (v := ?_) rfl (by kernel_rfl) (by kernel_rfl) (by kernel_rfl) (fun _ _ _ h => h) (Or.inl ⟨by rfl, ?_⟩) (by assumption) ?_; (case' refine_2 => (intro w hSw; go_simp; try with_reducible rfl)); (try simp only [Act.put, List.getElem_toArray, List.getElem_cons_zero, List.getElem_cons_succ, List.setIfInBounds_toArray, List.set_cons_zero, List.set_cons_succ]))
    refine wpAnyH_ready (rs := [1, 3]) (by kernel_rfl) (by simp) (AllReadyH.cons rfl (fun K hK => ?_) (AllReadyH.cons rfl (fun K hK => ?_) AllReadyH.nil))
    · skip
      go_simp
      refine (key_c 7 _).mono ?_
      rintro e w11 ⟨v, rfl, ⟨K2, k2, K3, k3, rfl, _⟩, hb⟩
      have n0_ := Aside0.mk (below_step HB.out hb)
      clear HB
      have HB := n0_
      clear n0_
      clear hb
      simp only [List.length_nil]
      refine Shut.out hK _ _ (four_cells (HX.out.below HB.out)) (fun hHeld => ?_)
      clear hK K
      (try simp only [Act.put, List.getElem_toArray, List.getElem_cons_zero, List.getElem_cons_succ, List.setIfInBounds_toArray, List.set_cons_zero, List.set_cons_succ])
      refine wpAnyH_ready (rs := [2, 3]) (by kernel_rfl) (by simp) (AllReadyH.cons rfl (fun K hK => ?_) (AllReadyH.cons rfl (fun K hK => ?_) AllReadyH.nil))
      · skip
        go_simp
        have hb := below_alloc (Below.refl w11.heap.size w11) (.cells #[.int .i64 5, .int .u64 1, .slice A2 0 c2, .slice A3 2 c3, .int .i64 2, .int .u64 7, .slice K2 0 k2, .slice K3 0 k3] 26)
        have HC := Aside0.mk (show Blk (w11.alloc (.cells #[.int .i64 5, .int .u64 1, .slice A2 0 c2, .slice A3 2 c3, .int .i64 2, .int .u64 7, .slice K2 0 k2, .slice K3 0 k3] 26)) w11.heap.size _ _ from blk_new _ _)
        have HCz := Aside0.mk (show W.heap.size ≤ w11.heap.size from HB.out.size)
        have n0_ := Aside0.mk (below_step HB.out hb)
        clear HB
        have HB := n0_
        clear n0_
        clear hb
        refine Shut.out hK _ _ (four_cells (HX.out.below HB.out)) (fun hHeld => ?_)
        clear hK K
        (try simp only [Act.put, List.getElem_toArray, List.getElem_cons_zero, List.getElem_cons_succ, List.setIfInBounds_toArray, List.set_cons_zero, List.set_cons_succ])
        obtain ⟨w12, hw2⟩ : ∃ x9, w11.alloc (.cells #[.int .i64 5, .int .u64 1, .slice A2 0 c2, .slice A3 2 c3, .int .i64 2, .int .u64 7, .slice K2 0 k2, .slice K3 0 k3] 26) = x9 := ⟨_, rfl⟩
        rw [hw2] at HB HC hHeld ⊢
        clear hw2
        obtain ⟨gc, hg⟩ : ∃ g, w11.heap.size = g := ⟨_, rfl⟩
        rw [hg] at HC HCz ⊢
        clear hg
        refine wpAnyH_ready (rs := [3]) (by kernel_rfl) (by simp) (AllReadyH.cons rfl (fun K hK => ?_) AllReadyH.nil)
        · skip
          go_simp
          have hb := below_alloc (Below.refl w12.heap.size w12) (.cells #[.int .u8 97] 5)
          have HG := Aside0.mk (show Blk (w12.alloc (.cells #[.int .u8 97] 5)) w12.heap.size _ _ from blk_new _ _)
          have HGz := Aside0.mk (show W.heap.size ≤ w12.heap.size from HB.out.size)
          have HNHCHG := Aside0.mk (show gc ≠ w12.heap.size from by have := HC.out.lt; omega)
          have n0_ := Aside0.mk (below_step HB.out hb)
          have n1_ := Aside0.mk (HC.out.below hb)
          clear HB HC
          have HB := n0_
          have HC := n1_
          clear n0_ n1_
          clear hb
          refine Shut.out hK _ _ (four_cells (HX.out.below HB.out)) (fun hHeld => ?_)
          clear hK K
          (try simp only [Act.put, List.getElem_toArray, List.getElem_cons_zero, List.getElem_cons_succ, List.setIfInBounds_toArray, List.set_cons_zero, List.set_cons_succ])
          obtain ⟨w13, hw2⟩ : ∃ x9, w12.alloc (.cells #[.int .u8 97] 5) = x9 := ⟨_, rfl⟩
          rw [hw2] at HB HC HG hHeld ⊢
          clear hw2
          obtain ⟨gd, hg⟩ : ∃ g, w12.heap.size = g := ⟨_, rfl⟩
          rw [hg] at HG HGz HNHCHG ⊢
          clear hg
          refine wpAnyH_ready (rs := [4]) (by kernel_rfl) (by simp) (AllReadyH.cons rfl (fun K hK => ?_) AllReadyH.nil)
          · skip
            have hcv := run_mark (P := Try.prog) 1 1 HG.out hu23 hu9
            have hcv2 : (convert 23 23 (.slice (some ⟨gd, 0, none⟩) 1 1)).run Try.prog w13 = .ok (.slice (some ⟨gd, 0, none⟩) 1 1) (w13.freeze ⟨gd, 1, none⟩ 1) := hcv
            clear hcv
            go_simp
            clear hcv2
            have hb := Lib.below_freeze HB.out (p := ⟨gd, 1, none⟩) HGz.out 1
            have HD := Aside0.mk (nums_at .u8 (xs := [97]) (frz_at HG.out 1) rfl (by decide))
            have n0_ := Aside0.mk (hb)
            have n1_ := Aside0.mk (frz_blk (p := ⟨gd, 1, none⟩) HC.out (by first | exact HNHGHC.out | exact fun e => HNHCHG.out e.symm) 1)
            clear HB HC
            have HB := n0_
            have HC := n1_
            clear n0_ n1_
            clear hb HG
            refine Shut.out hK _ _ (four_cells (HX.out.below HB.out)) (fun hHeld => ?_)
            clear hK K
            (try simp only [Act.put, List.getElem_toArray, List.getElem_cons_zero, List.getElem_cons_succ, List.setIfInBounds_toArray, List.set_cons_zero, List.set_cons_succ])
            obtain ⟨w14, hw2⟩ : ∃ x9, w13.freeze ⟨gd, 1, none⟩ 1 = x9 := ⟨_, rfl⟩
            rw [hw2] at HB HC HD hHeld ⊢
            clear hw2
            refine wpAnyH_ready (rs := [5]) (by kernel_rfl) (by simp) (AllReadyH.cons rfl (fun K hK => ?_) AllReadyH.nil)
            · skip
              go_simp
              refine (data1_c HD.out).mono ?_
              rintro e w15 ⟨v, rfl, ⟨D2, d2, D3, d3, rfl, ha⟩, hb⟩
              have n0_ := Aside0.mk (below_step HB.out hb)
              have n1_ := Aside0.mk (HC.out.below hb)
              clear HB HC
              have HB := n0_
              have HC := n1_
              clear n0_ n1_
              have HA := Aside0.mk ha
              clear ha hb HD
              simp only [exA, List.length_nil, List.length_cons, Nat.zero_add]
              refine Shut.out hK _ _ (four_cells (HX.out.below HB.out)) (fun hHeld => ?_)
              clear hK K
              (try simp only [Act.put, List.getElem_toArray, List.getElem_cons_zero, List.getElem_cons_succ, List.setIfInBounds_toArray, List.set_cons_zero, List.set_cons_succ])
              refine wpAnyH_ready (rs := [6]) (by kernel_rfl) (by simp) (AllReadyH.cons rfl (fun K hK => ?_) AllReadyH.nil)
              go_simp
              refine (fol2_c _ HA.out (tw_at (x := exX) (y := exK) HC.out (HR.out.below HB.out) (rows_none _ 2 7 K2 k2 K3 k3))).mono ?_
              rintro e w4 ⟨rfl, hb⟩
              have HBE := Aside0.mk (below_step HB.out hb)
              clear hb
              refine Shut.out hK _ _ (four_cells (HX.out.below HBE.out)) (fun hHeld => ?_)
              clear hK K
              (try simp only [Act.put, List.getElem_toArray, List.getElem_cons_zero, List.getElem_cons_succ, List.setIfInBounds_toArray, List.set_cons_zero, List.set_cons_succ])
              (refine wpAnyH_take (i := 7) (v := ?_) rfl (by kernel_rfl) (by kernel_rfl) (by kernel_rfl) (fun _ _ _ h => h) (Or.inl ⟨by rfl, ?_⟩) (by assumption) ?_; (case' refine_2 => (intro w hSw; go_simp; try with_reducible rfl)); (try simp only [Act.put, List.getElem_toArray, List.getElem_cons_zero, List.getElem_cons_succ, List.setIfInBounds_toArray, List.set_cons_zero, List.set_cons_succ]))
              (refine wpAnyH_take (i := 8) (v := ?_) rfl (by kernel_rfl) (by kernel_rfl) (by kernel_rfl) (fun _ _ _ h => h) (Or.inl ⟨by rfl, ?_⟩) (by assumption) ?_; (case' refine_2 => (intro w hSw; go_simp; try with_reducible rfl)); (try simp only [Act.put, List.getElem_toArray, List.getElem_cons_zero, List.getElem_cons_succ, List.setIfInBounds_toArray, List.set_cons_zero, List.set_cons_succ]))
              (refine wpAnyH_take (i := 9) (v := ?_) rfl (by kernel_rfl) (by kernel_rfl) (by kernel_rfl) (fun _ _ _ h => h) (Or.inl ⟨by rfl, ?_⟩) (by assumption) ?_; (case' refine_2 => (intro w hSw; go_simp; try with_reducible rfl)); (try simp only [Act.put, List.getElem_toArray, List.getElem_cons_zero, List.getElem_cons_succ, List.setIfInBounds_toArray, List.set_cons_zero, List.set_cons_succ]))
              (refine wpAnyH_take (i := 10) (v := ?_) rfl (by kernel_rfl) (by kernel_rfl) (by kernel_rfl) (fun _ _ _ h => h) (Or.inl ⟨by rfl, ?_⟩) (by assumption) ?_; (case' refine_2 => (intro w hSw; go_simp; try with_reducible rfl)); (try simp only [Act.put, List.getElem_toArray, List.getElem_cons_zero, List.getElem_cons_succ, List.setIfInBounds_toArray, List.set_cons_zero, List.set_cons_succ]))
              (refine wpAnyH_take (i := 11) (v := ?_) rfl (by kernel_rfl) (by kernel_rfl) (by kernel_rfl) (fun _ _ _ h => h) (Or.inl ⟨by rfl, ?_⟩) (by assumption) ?_; (case' refine_2 => (intro w hSw; go_simp; try with_reducible rfl)); (try simp only [Act.put, List.getElem_toArray, List.getElem_cons_zero, List.getElem_cons_succ, List.setIfInBounds_toArray, List.set_cons_zero, List.set_cons_succ]))
              refine wpAnyH_done (by kernel_rfl) ?_ _
              go_wp2_with (fail)
              go_meet
              case rel => exact ⟨rfl, rfl, HBE.out⟩
      · skip
        go_simp
        have hb := below_alloc (Below.refl w11.heap.size w11) (.cells #[.int .u8 97] 5)
        have HG := Aside0.mk (show Blk (w11.alloc (.cells #[.int .u8 97] 5)) w11.heap.size _ _ from blk_new _ _)
        have HGz := Aside0.mk (show W.heap.size ≤ w11.heap.size from HB.out.size)
        have n0_ := Aside0.mk (below_step HB.out hb)
        clear HB
        have HB := n0_
        clear n0_
        clear hb
        refine Shut.out hK _ _ (four_cells (HX.out.below HB.out)) (fun hHeld => ?_)
        clear hK K
        (try simp only [Act.put, List.getElem_toArray, List.getElem_cons_zero, List.getElem_cons_succ, List.setIfInBounds_toArray, List.set_cons_zero, List.set_cons_succ])
        obtain ⟨w12, hw2⟩ : ∃ x9, w11.alloc (.cells #[.int .u8 97] 5) = x9 := ⟨_, rfl⟩
        rw [hw2] at HB HG hHeld ⊢
        clear hw2
        obtain ⟨gd, hg⟩ : ∃ g, w11.heap.size = g := ⟨_, rfl⟩
        rw [hg] at HG HGz ⊢
        clear hg
        refine wpAnyH_ready (rs := [2, 4]) (by kernel_rfl) (by simp) (AllReadyH.cons rfl (fun K hK => ?_) (AllReadyH.cons rfl (fun K hK => ?_) AllReadyH.nil))
        · skip
          go_simp
          have hb := below_alloc (Below.refl w12.heap.size w12) (.cells #[.int .i64 5, .int .u64 1, .slice A2 0 c2, .slice A3 2 c3, .int .i64 2, .int .u64 7, .slice K2 0 k2, .slice K3 0 k3] 26)
          have HC := Aside0.mk (show Blk (w12.alloc (.cells #[.int .i64 5, .int .u64 1, .slice A2 0 c2, .slice A3 2 c3, .int .i64 2, .int .u64 7, .slice K2 0 k2, .slice K3 0 k3] 26)) w12.heap.size _ _ from blk_new _ _)
          have HCz := Aside0.mk (show W.heap.size ≤ w12.heap.size from HB.out.size)
          have HNHGHC := Aside0.mk (show gd ≠ w12.heap.size from by have := HG.out.lt; omega)
          have n0_ := Aside0.mk (below_step HB.out hb)
          have n1_ := Aside0.mk (HG.out.below hb)
          clear HB HG
          have HB := n0_
          have HG := n1_
          clear n0_ n1_
          clear hb
          refine Shut.out hK _ _ (four_cells (HX.out.below HB.out)) (fun hHeld => ?_)
          clear hK K
          (try simp only [Act.put, List.getElem_toArray, List.getElem_cons_zero, List.getElem_cons_succ, List.setIfInBounds_toArray, List.set_cons_zero, List.set_cons_succ])
          obtain ⟨w13, hw2⟩ : ∃ x9, w12.alloc (.cells #[.int .i64 5, .int .u64 1, .slice A2 0 c2, .slice A3 2 c3, .int .i64 2, .int .u64 7, .slice K2 0 k2, .slice K3 0 k3] 26) = x9 := ⟨_, rfl⟩
          rw [hw2] at HB HG HC hHeld ⊢
          clear hw2
          obtain ⟨gc, hg⟩ : ∃ g, w12.heap.size = g := ⟨_, rfl⟩
          rw [hg] at HC HCz HNHGHC ⊢
          clear hg
          refine wpAnyH_ready (rs := [4]) (by kernel_rfl) (by simp) (AllReadyH.cons rfl (fun K hK => ?_) AllReadyH.nil)
          · skip
            have hcv := run_mark (P := Try.prog) 1 1 HG.out hu23 hu9
            have hcv2 : (convert 23 23 (.slice (some ⟨gd, 0, none⟩) 1 1)).run Try.prog w13 = .ok (.slice (some ⟨gd, 0, none⟩) 1 1) (w13.freeze ⟨gd, 1, none⟩ 1) := hcv
            clear hcv
            go_simp
            clear hcv2
            have hb := Lib.below_freeze HB.out (p := ⟨gd, 1, none⟩) HGz.out 1
            have HD := Aside0.mk (nums_at .u8 (xs := [97]) (frz_at HG.out 1) rfl (by decide))
            have n0_ := Aside0.mk (hb)
            have n1_ := Aside0.mk (frz_blk (p := ⟨gd, 1, none⟩) HC.out (by first | exact HNHGHC.out | exact fun e => HNHCHG.out e.symm) 1)
            clear HB HC
            have HB := n0_
            have HC := n1_
            clear n0_ n1_
            clear hb HG
            refine Shut.out hK _ _ (four_cells (HX.out.below HB.out)) (fun hHeld => ?_)
            clear hK K
            (try simp only [Act.put, List.getElem_toArray, List.getElem_cons_zero, List.getElem_cons_succ, List.setIfInBounds_toArray, List.set_cons_zero, List.set_cons_succ])
            obtain ⟨w14, hw2⟩ : ∃ x9, w13.freeze ⟨gd, 1, none⟩ 1 = x9 := ⟨_, rfl⟩
            rw [hw2] at HB HC HD hHeld ⊢
            clear hw2
            refine wpAnyH_ready (rs := [5]) (by kernel_rfl) (by simp) (AllReadyH.cons rfl (fun K hK => ?_) AllReadyH.nil)
            · skip
              go_simp
              refine (data1_c HD.out).mono ?_
              rintro e w15 ⟨v, rfl, ⟨D2, d2, D3, d3, rfl, ha⟩, hb⟩
              have n0_ := Aside0.mk (below_step HB.out hb)
              have n1_ := Aside0.mk (HC.out.below hb)
              clear HB HC
              have HB := n0_
              have HC := n1_
              clear n0_ n1_
              have HA := Aside0.mk ha
              clear ha hb HD
              simp only [exA, List.length_nil, List.length_cons, Nat.zero_add]
              refine Shut.out hK _ _ (four_cells (HX.out.below HB.out)) (fun hHeld => ?_)
              clear hK K
              (try simp only [Act.put, List.getElem_toArray, List.getElem_cons_zero, List.getElem_cons_succ, List.setIfInBounds_toArray, List.set_cons_zero, List.set_cons_succ])
              refine wpAnyH_ready (rs := [6]) (by kernel_rfl) (by simp) (AllReadyH.cons rfl (fun K hK => ?_) AllReadyH.nil)
              go_simp
              refine (fol2_c _ HA.out (tw_at (x := exX) (y := exK) HC.out (HR.out.below HB.out) (rows_none _ 2 7 K2 k2 K3 k3))).mono ?_
              rintro e w4 ⟨rfl, hb⟩
              have HBE := Aside0.mk (below_step HB.out hb)
              clear hb
              refine Shut.out hK _ _ (four_cells (HX.out.below HBE.out)) (fun hHeld => ?_)
              clear hK K
              (try simp only [Act.put, List.getElem_toArray, List.getElem_cons_zero, List.getElem_cons_succ, List.setIfInBounds_toArray, List.set_cons_zero, List.set_cons_succ])
              (refine wpAnyH_take (i := 7) (v := ?_) rfl (by kernel_rfl) (by kernel_rfl) (by kernel_rfl) (fun _ _ _ h => h) (Or.inl ⟨by rfl, ?_⟩) (by assumption) ?_; (case' refine_2 => (intro w hSw; go_simp; try with_reducible rfl)); (try simp only [Act.put, List.getElem_toArray, List.getElem_cons_zero, List.getElem_cons_succ, List.setIfInBounds_toArray, List.set_cons_zero, List.set_cons_succ]))
              (refine wpAnyH_take (i := 8) (v := ?_) rfl (by kernel_rfl) (by kernel_rfl) (by kernel_rfl) (fun _ _ _ h => h) (Or.inl ⟨by rfl, ?_⟩) (by assumption) ?_; (case' refine_2 => (intro w hSw; go_simp; try with_reducible rfl)); (try simp only [Act.put, List.getElem_toArray, List.getElem_cons_zero, List.getElem_cons_succ, List.setIfInBounds_toArray, List.set_cons_zero, List.set_cons_succ]))
              (refine wpAnyH_take (i := 9) (v := ?_) rfl (by kernel_rfl) (by kernel_rfl) (by kernel_rfl) (fun _ _ _ h => h) (Or.inl ⟨by rfl, ?_⟩) (by assumption) ?_; (case' refine_2 => (intro w hSw; go_simp; try with_reducible rfl)); (try simp only [Act.put, List.getElem_toArray, List.getElem_cons_zero, List.getElem_cons_succ, List.setIfInBounds_toArray, List.set_cons_zero, List.set_cons_succ]))
              (refine wpAnyH_take (i := 10) (v := ?_) rfl (by kernel_rfl) (by kernel_rfl) (by kernel_rfl) (fun _ _ _ h => h) (Or.inl ⟨by rfl, ?_⟩) (by assumption) ?_; (case' refine_2 => (intro w hSw; go_simp; try with_reducible rfl)); (try simp only [Act.put, List.getElem_toArray, List.getElem_cons_zero, List.getElem_cons_succ, List.setIfInBounds_toArray, List.set_cons_zero, List.set_cons_succ]))
              (refine wpAnyH_take (i := 11) (v := ?_) rfl (by kernel_rfl) (by kernel_rfl) (by kernel_rfl) (fun _ _ _ h => h) (Or.inl ⟨by rfl, ?_⟩) (by assumption) ?_; (case' refine_2 => (intro w hSw; go_simp; try with_reducible rfl)); (try simp only [Act.put, List.getElem_toArray, List.getElem_cons_zero, List.getElem_cons_succ, List.setIfInBounds_toArray, List.set_cons_zero, List.set_cons_succ]))
              refine wpAnyH_done (by kernel_rfl) ?_ _
              go_wp2_with (fail)
              go_meet
              case rel => exact ⟨rfl, rfl, HBE.out⟩
        · skip
          have hcv := run_mark (P := Try.prog) 1 1 HG.out hu23 hu9
          have hcv2 : (convert 23 23 (.slice (some ⟨gd, 0, none⟩) 1 1)).run Try.prog w12 = .ok (.slice (some ⟨gd, 0, none⟩) 1 1) (w12.freeze ⟨gd, 1, none⟩ 1) := hcv
          clear hcv
          go_simp
          clear hcv2
          have hb := Lib.below_freeze HB.out (p := ⟨gd, 1, none⟩) HGz.out 1
          have HD := Aside0.mk (nums_at .u8 (xs := [97]) (frz_at HG.out 1) rfl (by decide))
          have n0_ := Aside0.mk (hb)
          clear HB
          have HB := n0_
          clear n0_
          clear hb HG
          refine Shut.out hK _ _ (four_cells (HX.out.below HB.out)) (fun hHeld => ?_)
          clear hK K
          (try simp only [Act.put, List.getElem_toArray, List.getElem_cons_zero, List.getElem_cons_succ, List.setIfInBounds_toArray, List.set_cons_zero, List.set_cons_succ])
          obtain ⟨w13, hw2⟩ : ∃ x9, w12.freeze ⟨gd, 1, none⟩ 1 = x9 := ⟨_, rfl⟩
          rw [hw2] at HB HD hHeld ⊢
          clear hw2
          refine wpAnyH_ready (rs := [2, 5]) (by kernel_rfl) (by simp) (AllReadyH.cons rfl (fun K hK => ?_) (AllReadyH.cons rfl (fun K hK => ?_) AllReadyH.nil))
          · skip
            go_simp
            have hb := below_alloc (Below.refl w13.heap.size w13) (.cells #[.int .i64 5, .int .u64 1, .slice A2 0 c2, .slice A3 2 c3, .int .i64 2, .int .u64 7, .slice K2 0 k2, .slice K3 0 k3] 26)
            have HC := Aside0.mk (show Blk (w13.alloc (.cells #[.int .i64 5, .int .u64 1, .slice A2 0 c2, .slice A3 2 c3, .int .i64 2, .int .u64 7, .slice K2 0 k2, .slice K3 0 k3] 26)) w13.heap.size _ _ from blk_new _ _)
            have HCz := Aside0.mk (show W.heap.size ≤ w13.heap.size from HB.out.size)
            have n0_ := Aside0.mk (below_step HB.out hb)
            have n1_ := Aside0.mk (Kd.C_below HD.out hb)
            clear HB HD
            have HB := n0_
            have HD := n1_
            clear n0_ n1_
            clear hb
            refine Shut.out hK _ _ (four_cells (HX.out.below HB.out)) (fun hHeld => ?_)
            clear hK K
            (try simp only [Act.put, List.getElem_toArray, List.getElem_cons_zero, List.getElem_cons_succ, List.setIfInBounds_toArray, List.set_cons_zero, List.set_cons_succ])
            obtain ⟨w14, hw2⟩ : ∃ x9, w13.alloc (.cells #[.int .i64 5, .int .u64 1, .slice A2 0 c2, .slice A3 2 c3, .int .i64 2, .int .u64 7, .slice K2 0 k2, .slice K3 0 k3] 26) = x9 := ⟨_, rfl⟩
            rw [hw2] at HB HD HC hHeld ⊢
            clear hw2
            obtain ⟨gc, hg⟩ : ∃ g, w13.heap.size = g := ⟨_, rfl⟩
            rw [hg] at HC HCz ⊢
            clear hg
            refine wpAnyH_ready (rs := [5]) (by kernel_rfl) (by simp) (AllReadyH.cons rfl (fun K hK => ?_) AllReadyH.nil)
            · skip
              go_simp
              refine (data1_c HD.out).mono ?_
              rintro e w15 ⟨v, rfl, ⟨D2, d2, D3, d3, rfl, ha⟩, hb⟩
              have n0_ := Aside0.mk (below_step HB.out hb)
              have n1_ := Aside0.mk (HC.out.below hb)
              clear HB HC
              have HB := n0_
              have HC := n1_
              clear n0_ n1_
              have HA := Aside0.mk ha
              clear ha hb HD
              simp only [exA, List.length_nil, List.length_cons, Nat.zero_add]
              refine Shut.out hK _ _ (four_cells (HX.out.below HB.out)) (fun hHeld => ?_)
              clear hK K
              (try simp only [Act.put, List.getElem_toArray, List.getElem_cons_zero, List.getElem_cons_succ, List.setIfInBounds_toArray, List.set_cons_zero, List.set_cons_succ])
              refine wpAnyH_ready (rs := [6]) (by kernel_rfl) (by simp) (AllReadyH.cons rfl (fun K hK => ?_) AllReadyH.nil)
              go_simp
              refine (fol2_c _ HA.out (tw_at (x := exX) (y := exK) HC.out (HR.out.below HB.out) (rows_none _ 2 7 K2 k2 K3 k3))).mono ?_
              rintro e w4 ⟨rfl, hb⟩
              have HBE := Aside0.mk (below_step HB.out hb)
              clear hb
              refine Shut.out hK _ _ (four_cells (HX.out.below HBE.out)) (fun hHeld => ?_)
              clear hK K
              (try simp only [Act.put, List.getElem_toArray, List.getElem_cons_zero, List.getElem_cons_succ, List.setIfInBounds_toArray, List.set_cons_zero, List.set_cons_succ])
              (refine wpAnyH_take (i := 7) (v := ?_) rfl (by kernel_rfl) (by kernel_rfl) (by kernel_rfl) (fun _ _ _ h => h) (Or.inl ⟨by rfl, ?_⟩) (by assumption) ?_; (case' refine_2 => (intro w hSw; go_simp; try with_reducible rfl)); (try simp only [Act.put, List.getElem_toArray, List.getElem_cons_zero, List.getElem_cons_succ, List.setIfInBounds_toArray, List.set_cons_zero, List.set_cons_succ]))
              (refine wpAnyH_take (i := 8) (v := ?_) rfl (by kernel_rfl) (by kernel_rfl) (by kernel_rfl) (fun _ _ _ h => h) (Or.inl ⟨by rfl, ?_⟩) (by assumption) ?_; (case' refine_2 => (intro w hSw; go_simp; try with_reducible rfl)); (try simp only [Act.put, List.getElem_toArray, List.getElem_cons_zero, List.getElem_cons_succ, List.setIfInBounds_toArray, List.set_cons_zero, List.set_cons_succ]))
              (refine wpAnyH_take (i := 9) (v := ?_) rfl (by kernel_rfl) (by kernel_rfl) (by kernel_rfl) (fun _ _ _ h => h) (Or.inl ⟨by rfl, ?_⟩) (by assumption) ?_; (case' refine_2 => (intro w hSw; go_simp; try with_reducible rfl)); (try simp only [Act.put, List.getElem_toArray, List.getElem_cons_zero, List.getElem_cons_succ, List.setIfInBounds_toArray, List.set_cons_zero, List.set_cons_succ]))
              (refine wpAnyH_take (i := 10) (v := ?_) rfl (by kernel_rfl) (by kernel_rfl) (by kernel_rfl) (fun _ _ _ h => h) (Or.inl ⟨by rfl, ?_⟩) (by assumption) ?_; (case' refine_2 => (intro w hSw; go_simp; try with_reducible rfl)); (try simp only [Act.put, List.getElem_toArray, List.getElem_cons_zero, List.getElem_cons_succ, List.setIfInBounds_toArray, List.set_cons_zero, List.set_cons_succ]))
              (refine wpAnyH_take (i := 11) (v := ?_) rfl (by kernel_rfl) (by kernel_rfl) (by kernel_rfl) (fun _ _ _ h => h) (Or.inl ⟨by rfl, ?_⟩) (by assumption) ?_; (case' refine_2 => (intro w hSw; go_simp; try with_reducible rfl)); (try simp only [Act.put, List.getElem_toArray, List.getElem_cons_zero, List.getElem_cons_succ, List.setIfInBounds_toArray, List.set_cons_zero, List.set_cons_succ]))
              refine wpAnyH_done (by kernel_rfl) ?_ _
              go_wp2_with (fail)
              go_meet
              case rel => exact ⟨rfl, rfl, HBE.out⟩
          · skip
            go_simp
            refine (data1_c HD.out).mono ?_
            rintro e w14 ⟨v, rfl, ⟨D2, d2, D3, d3, rfl, ha⟩, hb⟩
            have n0_ := Aside0.mk (below_step HB.out hb)
            clear HB
            have HB := n0_
            clear n0_
            have HA := Aside0.mk ha
            clear ha hb HD
            simp only [exA, List.length_nil, List.length_cons, Nat.zero_add]
            refine Shut.out hK _ _ (four_cells (HX.out.below HB.out)) (fun hHeld => ?_)
            clear hK K
            (try simp only [Act.put, List.getElem_toArray, List.getElem_cons_zero, List.getElem_cons_succ, List.setIfInBounds_toArray, List.set_cons_zero, List.set_cons_succ])
            refine wpAnyH_ready (rs := [2]) (by kernel_rfl) (by simp) (AllReadyH.cons rfl (fun K hK => ?_) AllReadyH.nil)
            · skip
              go_simp
              have hb := below_alloc (Below.refl w14.heap.size w14) (.cells #[.int .i64 5, .int .u64 1, .slice A2 0 c2, .slice A3 2 c3, .int .i64 2, .int .u64 7, .slice K2 0 k2, .slice K3 0 k3] 26)
              have HC := Aside0.mk (show Blk (w14.alloc (.cells #[.int .i64 5, .int .u64 1, .slice A2 0 c2, .slice A3 2 c3, .int .i64 2, .int .u64 7, .slice K2 0 k2, .slice K3 0 k3] 26)) w14.heap.size _ _ from blk_new _ _)
              have HCz := Aside0.mk (show W.heap.size ≤ w14.heap.size from HB.out.size)
              have n0_ := Aside0.mk (below_step HB.out hb)
              have n1_ := Aside0.mk (HA.out.below hb)
              clear HB HA
              have HB := n0_
              have HA := n1_
              clear n0_ n1_
              clear hb
              refine Shut.out hK _ _ (four_cells (HX.out.below HB.out)) (fun hHeld => ?_)
              clear hK K
              (try simp only [Act.put, List.getElem_toArray, List.getElem_cons_zero, List.getElem_cons_succ, List.setIfInBounds_toArray, List.set_cons_zero, List.set_cons_succ])
              obtain ⟨w15, hw2⟩ : ∃ x9, w14.alloc (.cells #[.int .i64 5, .int .u64 1, .slice A2 0 c2, .slice A3 2 c3, .int .i64 2, .int .u64 7, .slice K2 0 k2, .slice K3 0 k3] 26) = x9 := ⟨_, rfl⟩
              rw [hw2] at HB HA HC hHeld ⊢
              clear hw2
              obtain ⟨gc, hg⟩ : ∃ g, w14.heap.size = g := ⟨_, rfl⟩
              rw [hg] at HC HCz ⊢
              clear hg
              refine wpAnyH_ready (rs := [6]) (by kernel_rfl) (by simp) (AllReadyH.cons rfl (fun K hK => ?_) AllReadyH.nil)
              go_simp
              refine (fol2_c _ HA.out (tw_at (x := exX) (y := exK) HC.out (HR.out.below HB.out) (rows_none _ 2 7 K2 k2 K3 k3))).mono ?_
              rintro e w4 ⟨rfl, hb⟩
              have HBE := Aside0.mk (below_step HB.out hb)
              clear hb
              refine Shut.out hK _ _ (four_cells (HX.out.below HBE.out)) (fun hHeld => ?_)
              clear hK K
              (try simp only [Act.put, List.getElem_toArray, List.getElem_cons_zero, List.getElem_cons_succ, List.setIfInBounds_toArray, List.set_cons_zero, List.set_cons_succ])
              (refine wpAnyH_take (i := 7) (v := ?_) rfl (by kernel_rfl) (by kernel_rfl) (by kernel_rfl) (fun _ _ _ h => h) (Or.inl ⟨by rfl, ?_⟩) (by assumption) ?_; (case' refine_2 => (intro w hSw; go_simp; try with_reducible rfl)); (try simp only [Act.put, List.getElem_toArray, List.getElem_cons_zero, List.getElem_cons_succ, List.setIfInBounds_toArray, List.set_cons_zero, List.set_cons_succ]))
              (refine wpAnyH_take (i := 8) (v := ?_) rfl (by kernel_rfl) (by kernel_rfl) (by kernel_rfl) (fun _ _ _ h => h) (Or.inl ⟨by rfl, ?_⟩) (by assumption) ?_; (case' refine_2 => (intro w hSw; go_simp; try with_reducible rfl)); (try simp only [Act.put, List.getElem_toArray, List.getElem_cons_zero, List.getElem_cons_succ, List.setIfInBounds_toArray, List.set_cons_zero, List.set_cons_succ]))
              (refine wpAnyH_take (i := 9) (v := ?_) rfl (by kernel_rfl) (by kernel_rfl) (by kernel_rfl) (fun _ _ _ h => h) (Or.inl ⟨by rfl, ?_⟩) (by assumption) ?_; (case' refine_2 => (intro w hSw; go_simp; try with_reducible rfl)); (try simp only [Act.put, List.getElem_toArray, List.getElem_cons_zero, List.getElem_cons_succ, List.setIfInBounds_toArray, List.set_cons_zero, List.set_cons_succ]))
              (refine wpAnyH_take (i := 10) (v := ?_) rfl (by kernel_rfl) (by kernel_rfl) (by kernel_rfl) (fun _ _ _ h => h) (Or.inl ⟨by rfl, ?_⟩) (by assumption) ?_; (case' refine_2 => (intro w hSw; go_simp; try with_reducible rfl)); (try simp only [Act.put, List.getElem_toArray, List.getElem_cons_zero, List.getElem_cons_succ, List.setIfInBounds_toArray, List.set_cons_zero, List.set_cons_succ]))
              (refine wpAnyH_take (i := 11) (v := ?_) rfl (by kernel_rfl) (by kernel_rfl) (by kernel_rfl) (fun _ _ _ h => h) (Or.inl ⟨by rfl, ?_⟩) (by assumption) ?_; (case' refine_2 => (intro w hSw; go_simp; try with_reducible rfl)); (try simp only [Act.put, List.getElem_toArray, List.getElem_cons_zero, List.getElem_cons_succ, List.setIfInBounds_toArray, List.set_cons_zero, List.set_cons_succ]))
              refine wpAnyH_done (by kernel_rfl) ?_ _
              go_wp2_with (fail)
              go_meet
              case rel => exact ⟨rfl, rfl, HBE.out⟩
    · skip
      go_simp
      have hb := below_alloc (Below.refl w1.heap.size w1) (.cells #[.int .u8 97] 5)
      have HG := Aside0.mk (show Blk (w1.alloc (.cells #[.int .u8 97] 5)) w1.heap.size _ _ from blk_new _ _)
      have HGz := Aside0.mk (show W.heap.size ≤ w1.heap.size from HB.out.size)
      have n0_ := Aside0.mk (below_step HB.out hb)
      clear HB
      have HB := n0_
      clear n0_
      clear hb
      refine Shut.out hK _ _ (four_cells (HX.out.below HB.out)) (fun hHeld => ?_)
      clear hK K
      (try simp only [Act.put, List.getElem_toArray, List.getElem_cons_zero, List.getElem_cons_succ, List.setIfInBounds_toArray, List.set_cons_zero, List.set_cons_succ])
      obtain ⟨w11, hw2⟩ : ∃ x9, w1.alloc (.cells #[.int .u8 97] 5) = x9 := ⟨_, rfl⟩
      rw [hw2] at HB HG hHeld ⊢
      clear hw2
      obtain ⟨gd, hg⟩ : ∃ g, w1.heap.size = g := ⟨_, rfl⟩
      rw [hg] at HG HGz ⊢
      clear hg
      refine wpAnyH_ready (rs := [1, 4]) (by kernel_rfl) (by simp) (AllReadyH.cons rfl (fun K hK => ?_) (AllReadyH.cons rfl (fun K hK => ?_) AllReadyH.nil))
      · skip
        go_simp
        refine (key_c 7 _).mono ?_
        rintro e w12 ⟨v, rfl, ⟨K2, k2, K3, k3, rfl, _⟩, hb⟩
        have n0_ := Aside0.mk (below_step HB.out hb)
        have n1_ := Aside0.mk (HG.out.below hb)
        clear HB HG
        have HB := n0_
        have HG := n1_
        clear n0_ n1_
        clear hb
        simp only [List.length_nil]
        refine Shut.out hK _ _ (four_cells (HX.out.below HB.out)) (fun hHeld => ?_)
        clear hK K
        (try simp only [Act.put, List.getElem_toArray, List.getElem_cons_zero, List.getElem_cons_succ, List.setIfInBounds_toArray, List.set_cons_zero, List.set_cons_succ])
        refine wpAnyH_ready (rs := [2, 4]) (by kernel_rfl) (by simp) (AllReadyH.cons rfl (fun K hK => ?_) (AllReadyH.cons rfl (fun K hK => ?_) AllReadyH.nil))
        · skip
          go_simp
          have hb := below_alloc (Below.refl w12.heap.size w12) (.cells #[.int .i64 5, .int .u64 1, .slice A2 0 c2, .slice A3 2 c3, .int .i64 2, .int .u64 7, .slice K2 0 k2, .slice K3 0 k3] 26)
          have HC := Aside0.mk (show Blk (w12.alloc (.cells #[.int .i64 5, .int .u64 1, .slice A2 0 c2, .slice A3 2 c3, .int .i64 2, .int .u64 7, .slice K2 0 k2, .slice K3 0 k3] 26)) w12.heap.size _ _ from blk_new _ _)
          have HCz := Aside0.mk (show W.heap.size ≤ w12.heap.size from HB.out.size)
          have HNHGHC := Aside0.mk (show gd ≠ w12.heap.size from by have := HG.out.lt; omega)
          have n0_ := Aside0.mk (below_step HB.out hb)
          have n1_ := Aside0.mk (HG.out.below hb)
          clear HB HG
          have HB := n0_
          have HG := n1_
          clear n0_ n1_
          clear hb
          refine Shut.out hK _ _ (four_cells (HX.out.below HB.out)) (fun hHeld => ?_)
          clear hK K
          (try simp only [Act.put, List.getElem_toArray, List.getElem_cons_zero, List.getElem_cons_succ, List.setIfInBounds_toArray, List.set_cons_zero, List.set_cons_succ])
          obtain ⟨w13, hw2⟩ : ∃ x9, w12.alloc (.cells #[.int .i64 5, .int .u64 1, .slice A2 0 c2, .slice A3 2 c3, .int .i64 2, .int .u64 7, .slice K2 0 k2, .slice K3 0 k3] 26) = x9 := ⟨_, rfl⟩
          rw [hw2] at HB HG HC hHeld ⊢
          clear hw2
          obtain ⟨gc, hg⟩ : ∃ g, w12.heap.size = g := ⟨_, rfl⟩
          rw [hg] at HC HCz HNHGHC ⊢
          clear hg
          refine wpAnyH_ready (rs := [4]) (by kernel_rfl) (by simp) (AllReadyH.cons rfl (fun K hK => ?_) AllReadyH.nil)
          · skip
            have hcv := run_mark (P := Try.prog) 1 1 HG.out hu23 hu9
            have hcv2 : (convert 23 23 (.slice (some ⟨gd, 0, none⟩) 1 1)).run Try.prog w13 = .ok (.slice (some ⟨gd, 0, none⟩) 1 1) (w13.freeze ⟨gd, 1, none⟩ 1) := hcv
            clear hcv
            go_simp
            clear hcv2
            have hb := Lib.below_freeze HB.out (p := ⟨gd, 1, none⟩) HGz.out 1
            have HD := Aside0.mk (nums_at .u8 (xs := [97]) (frz_at HG.out 1) rfl (by decide))
            have n0_ := Aside0.mk (hb)
            have n1_ := Aside0.mk (frz_blk (p := ⟨gd, 1, none⟩) HC.out (by first | exact HNHGHC.out | exact fun e => HNHCHG.out e.symm) 1)
            clear HB HC
            have HB := n0_
            have HC := n1_
            clear n0_ n1_
            clear hb HG
            refine Shut.out hK _ _ (four_cells (HX.out.below HB.out)) (fun hHeld => ?_)
            clear hK K
            (try simp only [Act.put, List.getElem_toArray, List.getElem_cons_zero, List.getElem_cons_succ, List.setIfInBounds_toArray, List.set_cons_zero, List.set_cons_succ])
            obtain ⟨w14, hw2⟩ : ∃ x9, w13.freeze ⟨gd, 1, none⟩ 1 = x9 := ⟨_, rfl⟩
            rw [hw2] at HB HC HD hHeld ⊢
            clear hw2
            refine wpAnyH_ready (rs := [5]) (by kernel_rfl) (by simp) (AllReadyH.cons rfl (fun K hK => ?_) AllReadyH.nil)
            · skip
              go_simp
              refine (data1_c HD.out).mono ?_
              rintro e w15 ⟨v, rfl, ⟨D2, d2, D3, d3, rfl, ha⟩, hb⟩
              have n0_ := Aside0.mk (below_step HB.out hb)
              have n1_ := Aside0.mk (HC.out.below hb)
              clear HB HC
              have HB := n0_
              have HC := n1_
              clear n0_ n1_
              have HA := Aside0.mk ha
              clear ha hb HD
              simp only [exA, List.length_nil, List.length_cons, Nat.zero_add]
              refine Shut.out hK _ _ (four_cells (HX.out.below HB.out)) (fun hHeld => ?_)
              clear hK K
              (try simp only [Act.put, List.getElem_toArray, List.getElem_cons_zero, List.getElem_cons_succ, List.setIfInBounds_toArray, List.set_cons_zero, List.set_cons_succ])
              refine wpAnyH_ready (rs := [6]) (by kernel_rfl) (by simp) (AllReadyH.cons rfl (fun K hK => ?_) AllReadyH.nil)
              go_simp
              refine (fol2_c _ HA.out (tw_at (x := exX) (y := exK) HC.out (HR.out.below HB.out) (rows_none _ 2 7 K2 k2 K3 k3))).mono ?_
              rintro e w4 ⟨rfl, hb⟩
              have HBE := Aside0.mk (below_step HB.out hb)
              clear hb
              refine Shut.out hK _ _ (four_cells (HX.out.below HBE.out)) (fun hHeld => ?_)
              clear hK K
              (try simp only [Act.put, List.getElem_toArray, List.getElem_cons_zero, List.getElem_cons_succ, List.setIfInBounds_toArray, List.set_cons_zero, List.set_cons_succ])
              (refine wpAnyH_take (i := 7) (v := ?_) rfl (by kernel_rfl) (by kernel_rfl) (by kernel_rfl) (fun _ _ _ h => h) (Or.inl ⟨by rfl, ?_⟩) (by assumption) ?_; (case' refine_2 => (intro w hSw; go_simp; try with_reducible rfl)); (try simp only [Act.put, List.getElem_toArray, List.getElem_cons_zero, List.getElem_cons_succ, List.setIfInBounds_toArray, List.set_cons_zero, List.set_cons_succ]))
              (refine wpAnyH_take (i := 8) (v := ?_) rfl (by kernel_rfl) (by kernel_rfl) (by kernel_rfl) (fun _ _ _ h => h) (Or.inl ⟨by rfl, ?_⟩) (by assumption) ?_; (case' refine_2 => (intro w hSw; go_simp; try with_reducible rfl)); (try simp only [Act.put, List.getElem_toArray, List.getElem_cons_zero, List.getElem_cons_succ, List.setIfInBounds_toArray, List.set_cons_zero, List.set_cons_succ]))
              (refine wpAnyH_take (i := 9) (v := ?_) rfl (by kernel_rfl) (by kernel_rfl) (by kernel_rfl) (fun _ _ _ h => h) (Or.inl ⟨by rfl, ?_⟩) (by assumption) ?_; (case' refine_2 => (intro w hSw; go_simp; try with_reducible rfl)); (try simp only [Act.put, List.getElem_toArray, List.getElem_cons_zero, List.getElem_cons_succ, List.setIfInBounds_toArray, List.set_cons_zero, List.set_cons_succ]))
              (refine wpAnyH_take (i := 10) (v := ?_) rfl (by kernel_rfl) (by kernel_rfl) (by kernel_rfl) (fun _ _ _ h => h) (Or.inl ⟨by rfl, ?_⟩) (by assumption) ?_; (case' refine_2 => (intro w hSw; go_simp; try with_reducible rfl)); (try simp only [Act.put, List.getElem_toArray, List.getElem_cons_zero, List.getElem_cons_succ, List.setIfInBounds_toArray, List.set_cons_zero, List.set_cons_succ]))
              (refine wpAnyH_take (i := 11) (v := ?_) rfl (by kernel_rfl) (by kernel_rfl) (by kernel_rfl) (fun _ _ _ h => h) (Or.inl ⟨by rfl, ?_⟩) (by assumption) ?_; (case' refine_2 => (intro w hSw; go_simp; try with_reducible rfl)); (try simp only [Act.put, List.getElem_toArray, List.getElem_cons_zero, List.getElem_cons_succ, List.setIfInBounds_toArray, List.set_cons_zero, List.set_cons_succ]))
              refine wpAnyH_done (by kernel_rfl) ?_ _
              go_wp2_with (fail)
              go_meet
              case rel => exact ⟨rfl, rfl, HBE.out⟩
        · skip
          have hcv := run_mark (P := Try.prog) 1 1 HG.out hu23 hu9
          have hcv2 : (convert 23 23 (.slice (some ⟨gd, 0, none⟩) 1 1)).run Try.prog w12 = .ok (.slice (some ⟨gd, 0, none⟩) 1 1) (w12.freeze ⟨gd, 1, none⟩ 1) := hcv
          clear hcv
          go_simp
          clear hcv2
          have hb := Lib.below_freeze HB.out (p := ⟨gd, 1, none⟩) HGz.out 1
          have HD := Aside0.mk (nums_at .u8 (xs := [97]) (frz_at HG.out 1) rfl (by decide))
          have n0_ := Aside0.mk (hb)
          clear HB
          have HB := n0_
          clear n0_
          clear hb HG
          refine Shut.out hK _ _ (four_cells (HX.out.below HB.out)) (fun hHeld => ?_)
          clear hK K
          (try simp only [Act.put, List.getElem_toArray, List.getElem_cons_zero, List.getElem_cons_succ, List.setIfInBounds_toArray, List.set_cons_zero, List.set_cons_succ])
          obtain ⟨w13, hw2⟩ : ∃ x9, w12.freeze ⟨gd, 1, none⟩ 1 = x9 := ⟨_, rfl⟩
          rw [hw2] at HB HD hHeld ⊢
          clear hw2
          refine wpAnyH_ready (rs := [2, 5]) (by kernel_rfl) (by simp) (AllReadyH.cons rfl (fun K hK => ?_) (AllReadyH.cons rfl (fun K hK => ?_) AllReadyH.nil))
          · skip
            go_simp
            have hb := below_alloc (Below.refl w13.heap.size w13) (.cells #[.int .i64 5, .int .u64 1, .slice A2 0 c2, .slice A3 2 c3, .int .i64 2, .int .u64 7, .slice K2 0 k2, .slice K3 0 k3] 26)
            have HC := Aside0.mk (show Blk (w13.alloc (.cells #[.int .i64 5, .int .u64 1, .slice A2 0 c2, .slice A3 2 c3, .int .i64 2, .int .u64 7, .slice K2 0 k2, .slice K3 0 k3] 26)) w13.heap.size _ _ from blk_new _ _)
            have HCz := Aside0.mk (show W.heap.size ≤ w13.heap.size from HB.out.size)
            have n0_ := Aside0.mk (below_step HB.out hb)
            have n1_ := Aside0.mk (Kd.C_below HD.out hb)
            clear HB HD
            have HB := n0_
            have HD := n1_
            clear n0_ n1_
            clear hb
            refine Shut.out hK _ _ (four_cells (HX.out.below HB.out)) (fun hHeld => ?_)
            clear hK K
            (try simp only [Act.put, List.getElem_toArray, List.getElem_cons_zero, List.getElem_cons_succ, List.setIfInBounds_toArray, List.set_cons_zero, List.set_cons_succ])
            obtain ⟨w14, hw2⟩ : ∃ x9, w13.alloc (.cells #[.int .i64 5, .int .u64 1, .slice A2 0 c2, .slice A3 2 c3, .int .i64 2, .int .u64 7, .slice K2 0 k2, .slice K3 0 k3] 26) = x9 := ⟨_, rfl⟩
            rw [hw2] at HB HD HC hHeld ⊢
            clear hw2
            obtain ⟨gc, hg⟩ : ∃ g, w13.heap.size = g := ⟨_, rfl⟩
            rw [hg] at HC HCz ⊢
            clear hg
            refine wpAnyH_ready (rs := [5]) (by kernel_rfl) (by simp) (AllReadyH.cons rfl (fun K hK => ?_) AllReadyH.nil)
            · skip
              go_simp
              refine (data1_c HD.out).mono ?_
              rintro e w15 ⟨v, rfl, ⟨D2, d2, D3, d3, rfl, ha⟩, hb⟩
              have n0_ := Aside0.mk (below_step HB.out hb)
              have n1_ := Aside0.mk (HC.out.below hb)
              clear HB HC
              have HB := n0_
              have HC := n1_
              clear n0_ n1_
              have HA := Aside0.mk ha
              clear ha hb HD
              simp only [exA, List.length_nil, List.length_cons, Nat.zero_add]
              refine Shut.out hK _ _ (four_cells (HX.out.below HB.out)) (fun hHeld => ?_)
              clear hK K
              (try simp only [Act.put, List.getElem_toArray, List.getElem_cons_zero, List.getElem_cons_succ, List.setIfInBounds_toArray, List.set_cons_zero, List.set_cons_succ])
              refine wpAnyH_ready (rs := [6]) (by kernel_rfl) (by simp) (AllReadyH.cons rfl (fun K hK => ?_) AllReadyH.nil)
              go_simp
              refine (fol2_c _ HA.out (tw_at (x := exX) (y := exK) HC.out (HR.out.below HB.out) (rows_none _ 2 7 K2 k2 K3 k3))).mono ?_
              rintro e w4 ⟨rfl, hb⟩
              have HBE := Aside0.mk (below_step HB.out hb)
              clear hb
              refine Shut.out hK _ _ (four_cells (HX.out.below HBE.out)) (fun hHeld => ?_)
              clear hK K
              (try simp only [Act.put, List.getElem_toArray, List.getElem_cons_zero, List.getElem_cons_succ, List.setIfInBounds_toArray, List.set_cons_zero, List.set_cons_succ])
              (refine wpAnyH_take (i := 7) (v := ?_) rfl (by kernel_rfl) (by kernel_rfl) (by kernel_rfl) (fun _ _ _ h => h) (Or.inl ⟨by rfl, ?_⟩) (by assumption) ?_; (case' refine_2 => (intro w hSw; go_simp; try with_reducible rfl)); (try simp only [Act.put, List.getElem_toArray, List.getElem_cons_zero, List.getElem_cons_succ, List.setIfInBounds_toArray, List.set_cons_zero, List.set_cons_succ]))
              (refine wpAnyH_take (i := 8) (v := ?_) rfl (by kernel_rfl) (by kernel_rfl) (by kernel_rfl) (fun _ _ _ h => h) (Or.inl ⟨by rfl, ?_⟩) (by assumption) ?_; (case' refine_2 => (intro w hSw; go_simp; try with_reducible rfl)); (try simp only [Act.put, List.getElem_toArray, List.getElem_cons_zero, List.getElem_cons_succ, List.setIfInBounds_toArray, List.set_cons_zero, List.set_cons_succ]))
              (refine wpAnyH_take (i := 9) (v := ?_) rfl (by kernel_rfl) (by kernel_rfl) (by kernel_rfl) (fun _ _ _ h => h) (Or.inl ⟨by rfl, ?_⟩) (by assumption) ?_; (case' refine_2 => (intro w hSw; go_simp; try with_reducible rfl)); (try simp only [Act.put, List.getElem_toArray, List.getElem_cons_zero, List.getElem_cons_succ, List.setIfInBounds_toArray, List.set_cons_zero, List.set_cons_succ]))
              (refine wpAnyH_take (i := 10) (v := ?_) rfl (by kernel_rfl) (by kernel_rfl) (by kernel_rfl) (fun _ _ _ h => h) (Or.inl ⟨by rfl, ?_⟩) (by assumption) ?_; (case' refine_2 => (intro w hSw; go_simp; try with_reducible rfl)); (try simp only [Act.put, List.getElem_toArray, List.getElem_cons_zero, List.getElem_cons_succ, List.setIfInBounds_toArray, List.set_cons_zero, List.set_cons_succ]))
              (refine wpAnyH_take (i := 11) (v := ?_) rfl (by kernel_rfl) (by kernel_rfl) (by kernel_rfl) (fun _ _ _ h => h) (Or.inl ⟨by rfl, ?_⟩) (by assumption) ?_; (case' refine_2 => (intro w hSw; go_simp; try with_reducible rfl)); (try simp only [Act.put, List.getElem_toArray, List.getElem_cons_zero, List.getElem_cons_succ, List.setIfInBounds_toArray, List.set_cons_zero, List.set_cons_succ]))
              refine wpAnyH_done (by kernel_rfl) ?_ _
              go_wp2_with (fail)
              go_meet
              case rel => exact ⟨rfl, rfl, HBE.out⟩
          · skip
            go_simp
            refine (data1_c HD.out).mono ?_
            rintro e w14 ⟨v, rfl, ⟨D2, d2, D3, d3, rfl, ha⟩, hb⟩
            have n0_ := Aside0.mk (below_step HB.out hb)
            clear HB
            have HB := n0_
            clear n0_
            have HA := Aside0.mk ha
            clear ha hb HD
            simp only [exA, List.length_nil, List.length_cons, Nat.zero_add]
            refine Shut.out hK _ _ (four_cells (HX.out.below HB.out)) (fun hHeld => ?_)
            clear hK K
            (try simp only [Act.put, List.getElem_toArray, List.getElem_cons_zero, List.getElem_cons_succ, List.setIfInBounds_toArray, List.set_cons_zero, List.set_cons_succ])
            refine wpAnyH_ready (rs := [2]) (by kernel_rfl) (by simp) (AllReadyH.cons rfl (fun K hK => ?_) AllReadyH.nil)
            · skip
              go_simp
              have hb := below_alloc (Below.refl w14.heap.size w14) (.cells #[.int .i64 5, .int .u64 1, .slice A2 0 c2, .slice A3 2 c3, .int .i64 2, .int .u64 7, .slice K2 0 k2, .slice K3 0 k3] 26)
              have HC := Aside0.mk (show Blk (w14.alloc (.cells #[.int .i64 5, .int .u64 1, .slice A2 0 c2, .slice A3 2 c3, .int .i64 2, .int .u64 7, .slice K2 0 k2, .slice K3 0 k3] 26)) w14.heap.size _ _ from blk_new _ _)
              have HCz := Aside0.mk (show W.heap.size ≤ w14.heap.size from HB.out.size)
              have n0_ := Aside0.mk (below_step HB.out hb)
              have n1_ := Aside0.mk (HA.out.below hb)
              clear HB HA
              have HB := n0_
              have HA := n1_
              clear n0_ n1_
              clear hb
              refine Shut.out hK _ _ (four_cells (HX.out.below HB.out)) (fun hHeld => ?_)
              clear hK K
              (try simp only [Act.put, List.getElem_toArray, List.getElem_cons_zero, List.getElem_cons_succ, List.setIfInBounds_toArray, List.set_cons_zero, List.set_cons_succ])
              obtain ⟨w15, hw2⟩ : ∃ x9, w14.alloc (.cells #[.int .i64 5, .int .u64 1, .slice A2 0 c2, .slice A3 2 c3, .int .i64 2, .int .u64 7, .slice K2 0 k2, .slice K3 0 k3] 26) = x9 := ⟨_, rfl⟩
              rw [hw2] at HB HA HC hHeld ⊢
              clear hw2
              obtain ⟨gc, hg⟩ : ∃ g, w14.heap.size = g := ⟨_, rfl⟩
              rw [hg] at HC HCz ⊢
              clear hg
              refine wpAnyH_ready (rs := [6]) (by kernel_rfl) (by simp) (AllReadyH.cons rfl (fun K hK => ?_) AllReadyH.nil)
              go_simp
              refine (fol2_c _ HA.out (tw_at (x := exX) (y := exK) HC.out (HR.out.below HB.out) (rows_none _ 2 7 K2 k2 K3 k3))).mono ?_
              rintro e w4 ⟨rfl, hb⟩
              have HBE := Aside0.mk (below_step HB.out hb)
              clear hb
              refine Shut.out hK _ _ (four_cells (HX.out.below HBE.out)) (fun hHeld => ?_)
              clear hK K
              (try simp only [Act.put, List.getElem_toArray, List.getElem_cons_zero, List.getElem_cons_succ, List.setIfInBounds_toArray, List.set_cons_zero, List.set_cons_succ])
              (refine wpAnyH_take (i := 7) (v := ?_) rfl (by kernel_rfl) (by kernel_rfl) (by kernel_rfl) (fun _ _ _ h => h) (Or.inl ⟨by rfl, ?_⟩) (by assumption) ?_; (case' refine_2 => (intro w hSw; go_simp; try with_reducible rfl)); (try simp only [Act.put, List.getElem_toArray, List.getElem_cons_zero, List.getElem_cons_succ, List.setIfInBounds_toArray, List.set_cons_zero, List.set_cons_succ]))
              (refine wpAnyH_take (i := 8) (v := ?_) rfl (by kernel_rfl) (by kernel_rfl) (by kernel_rfl) (fun _ _ _ h => h) (Or.inl ⟨by rfl, ?_⟩) (by assumption) ?_; (case' refine_2 => (intro w hSw; go_simp; try with_reducible rfl)); (try simp only [Act.put, List.getElem_toArray, List.getElem_cons_zero, List.getElem_cons_succ, List.setIfInBounds_toArray, List.set_cons_zero, List.set_cons_succ]))
              (refine wpAnyH_take (i := 9) (v := ?_) rfl (by kernel_rfl) (by kernel_rfl) (by kernel_rfl) (fun _ _ _ h => h) (Or.inl ⟨by rfl, ?_⟩) (by assumption) ?_; (case' refine_2 => (intro w hSw; go_simp; try with_reducible rfl)); (try simp only [Act.put, List.getElem_toArray, List.getElem_cons_zero, List.getElem_cons_succ, List.setIfInBounds_toArray, List.set_cons_zero, List.set_cons_succ]))
              (refine wpAnyH_take (i := 10) (v := ?_) rfl (by kernel_rfl) (by kernel_rfl) (by kernel_rfl) (fun _ _ _ h => h) (Or.inl ⟨by rfl, ?_⟩) (by assumption) ?_; (case' refine_2 => (intro w hSw; go_simp; try with_reducible rfl)); (try simp only [Act.put, List.getElem_toArray, List.getElem_cons_zero, List.getElem_cons_succ, List.setIfInBounds_toArray, List.set_cons_zero, List.set_cons_succ]))
              (refine wpAnyH_take (i := 11) (v := ?_) rfl (by kernel_rfl) (by kernel_rfl) (by kernel_rfl) (fun _ _ _ h => h) (Or.inl ⟨by rfl, ?_⟩) (by assumption) ?_; (case' refine_2 => (intro w hSw; go_simp; try with_reducible rfl)); (try simp only [Act.put, List.getElem_toArray, List.getElem_cons_zero, List.getElem_cons_succ, List.setIfInBounds_toArray, List.set_cons_zero, List.set_cons_succ]))
              refine wpAnyH_done (by kernel_rfl) ?_ _
              go_wp2_with (fail)
              go_meet
              case rel => exact ⟨rfl, rfl, HBE.out⟩
      · skip
        have hcv := run_mark (P := Try.prog) 1 1 HG.out hu23 hu9
        have hcv2 : (convert 23 23 (.slice (some ⟨gd, 0, none⟩) 1 1)).run Try.prog w11 = .ok (.slice (some ⟨gd, 0, none⟩) 1 1) (w11.freeze ⟨gd, 1, none⟩ 1) := hcv
        clear hcv
        go_simp
        clear hcv2
        have hb := Lib.below_freeze HB.out (p := ⟨gd, 1, none⟩) HGz.out 1
        have HD := Aside0.mk (nums_at .u8 (xs := [97]) (frz_at HG.out 1) rfl (by decide))
        have n0_ := Aside0.mk (hb)
        clear HB
        have HB := n0_
        clear n0_
        clear hb HG
        refine Shut.out hK _ _ (four_cells (HX.out.below HB.out)) (fun hHeld => ?_)
        clear hK K
        (try simp only [Act.put, List.getElem_toArray, List.getElem_cons_zero, List.getElem_cons_succ, List.setIfInBounds_toArray, List.set_cons_zero, List.set_cons_succ])
        obtain ⟨w12, hw2⟩ : ∃ x9, w11.freeze ⟨gd, 1, none⟩ 1 = x9 := ⟨_, rfl⟩
        rw [hw2] at HB HD hHeld ⊢
        clear hw2
        refine wpAnyH_ready (rs := [1]) (by kernel_rfl) (by simp) (AllReadyH.cons rfl (fun K hK => ?_) AllReadyH.nil)
        · skip
          go_simp
          refine (key_c 7 _).mono ?_
          rintro e w13 ⟨v, rfl, ⟨K2, k2, K3, k3, rfl, _⟩, hb⟩
          have n0_ := Aside0.mk (below_step HB.out hb)
          have n1_ := Aside0.mk (Kd.C_below HD.out hb)
          clear HB HD
          have HB := n0_
          have HD := n1_
          clear n0_ n1_
          clear hb
          simp only [List.length_nil]
          refine Shut.out hK _ _ (four_cells (HX.out.below HB.out)) (fun hHeld => ?_)
          clear hK K
          (try simp only [Act.put, List.getElem_toArray, List.getElem_cons_zero, List.getElem_cons_succ, List.setIfInBounds_toArray, List.set_cons_zero, List.set_cons_succ])
          refine wpAnyH_ready (rs := [2, 5]) (by kernel_rfl) (by simp) (AllReadyH.cons rfl (fun K hK => ?_) (AllReadyH.cons rfl (fun K hK => ?_) AllReadyH.nil))
          · skip
            go_simp
            have hb := below_alloc (Below.refl w13.heap.size w13) (.cells #[.int .i64 5, .int .u64 1, .slice A2 0 c2, .slice A3 2 c3, .int .i64 2, .int .u64 7, .slice K2 0 k2, .slice K3 0 k3] 26)
            have HC := Aside0.mk (show Blk (w13.alloc (.cells #[.int .i64 5, .int .u64 1, .slice A2 0 c2, .slice A3 2 c3, .int .i64 2, .int .u64 7, .slice K2 0 k2, .slice K3 0 k3] 26)) w13.heap.size _ _ from blk_new _ _)
            have HCz := Aside0.mk (show W.heap.size ≤ w13.heap.size from HB.out.size)
            have n0_ := Aside0.mk (below_step HB.out hb)
            have n1_ := Aside0.mk (Kd.C_below HD.out hb)
            clear HB HD
            have HB := n0_
            have HD := n1_
            clear n0_ n1_
            clear hb
            refine Shut.out hK _ _ (four_cells (HX.out.below HB.out)) (fun hHeld => ?_)
            clear hK K
            (try simp only [Act.put, List.getElem_toArray, List.getElem_cons_zero, List.getElem_cons_succ, List.setIfInBounds_toArray, List.set_cons_zero, List.set_cons_succ])
            obtain ⟨w14, hw2⟩ : ∃ x9, w13.alloc (.cells #[.int .i64 5, .int .u64 1, .slice A2 0 c2, .slice A3 2 c3, .int .i64 2, .int .u64 7, .slice K2 0 k2, .slice K3 0 k3] 26) = x9 := ⟨_, rfl⟩
            rw [hw2] at HB HD HC hHeld ⊢
            clear hw2
            obtain ⟨gc, hg⟩ : ∃ g, w13.heap.size = g := ⟨_, rfl⟩
            rw [hg] at HC HCz ⊢
            clear hg
            refine wpAnyH_ready (rs := [5]) (by kernel_rfl) (by simp) (AllReadyH.cons rfl (fun K hK => ?_) AllReadyH.nil)
            · skip
              go_simp
              refine (data1_c HD.out).mono ?_
              rintro e w15 ⟨v, rfl, ⟨D2, d2, D3, d3, rfl, ha⟩, hb⟩
              have n0_ := Aside0.mk (below_step HB.out hb)
              have n1_ := Aside0.mk (HC.out.below hb)
              clear HB HC
              have HB := n0_
              have HC := n1_
              clear n0_ n1_
              have HA := Aside0.mk ha
              clear ha hb HD
              simp only [exA, List.length_nil, List.length_cons, Nat.zero_add]
              refine Shut.out hK _ _ (four_cells (HX.out.below HB.out)) (fun hHeld => ?_)
              clear hK K
              (try simp only [Act.put, List.getElem_toArray, List.getElem_cons_zero, List.getElem_cons_succ, List.setIfInBounds_toArray, List.set_cons_zero, List.set_cons_succ])
              refine wpAnyH_ready (rs := [6]) (by kernel_rfl) (by simp) (AllReadyH.cons rfl (fun K hK => ?_) AllReadyH.nil)
              go_simp
              refine (fol2_c _ HA.out (tw_at (x := exX) (y := exK) HC.out (HR.out.below HB.out) (rows_none _ 2 7 K2 k2 K3 k3))).mono ?_
              rintro e w4 ⟨rfl, hb⟩
              have HBE := Aside0.mk (below_step HB.out hb)
              clear hb
              refine Shut.out hK _ _ (four_cells (HX.out.below HBE.out)) (fun hHeld => ?_)
              clear hK K
              (try simp only [Act.put, List.getElem_toArray, List.getElem_cons_zero, List.getElem_cons_succ, List.setIfInBounds_toArray, List.set_cons_zero, List.set_cons_succ])
              (refine wpAnyH_take (i := 7) (v := ?_) rfl (by kernel_rfl) (by kernel_rfl) (by kernel_rfl) (fun _ _ _ h => h) (Or.inl ⟨by rfl, ?_⟩) (by assumption) ?_; (case' refine_2 => (intro w hSw; go_simp; try with_reducible rfl)); (try simp only [Act.put, List.getElem_toArray, List.getElem_cons_zero, List.getElem_cons_succ, List.setIfInBounds_toArray, List.set_cons_zero, List.set_cons_succ]))
              (refine wpAnyH_take (i := 8) (v := ?_) rfl (by kernel_rfl) (by kernel_rfl) (by kernel_rfl) (fun _ _ _ h => h) (Or.inl ⟨by rfl, ?_⟩) (by assumption) ?_; (case' refine_2 => (intro w hSw; go_simp; try with_reducible rfl)); (try simp only [Act.put, List.getElem_toArray, List.getElem_cons_zero, List.getElem_cons_succ, List.setIfInBounds_toArray, List.set_cons_zero, List.set_cons_succ]))
              (refine wpAnyH_take (i := 9) (v := ?_) rfl (by kernel_rfl) (by kernel_rfl) (by kernel_rfl) (fun _ _ _ h => h) (Or.inl ⟨by rfl, ?_⟩) (by assumption) ?_; (case' refine_2 => (intro w hSw; go_simp; try with_reducible rfl)); (try simp only [Act.put, List.getElem_toArray, List.getElem_cons_zero, List.getElem_cons_succ, List.setIfInBounds_toArray, List.set_cons_zero, List.set_cons_succ]))
              (refine wpAnyH_take (i := 10) (v := ?_) rfl (by kernel_rfl) (by kernel_rfl) (by kernel_rfl) (fun _ _ _ h => h) (Or.inl ⟨by rfl, ?_⟩) (by assumption) ?_; (case' refine_2 => (intro w hSw; go_simp; try with_reducible rfl)); (try simp only [Act.put, List.getElem_toArray, List.getElem_cons_zero, List.getElem_cons_succ, List.setIfInBounds_toArray, List.set_cons_zero, List.set_cons_succ]))
              (refine wpAnyH_take (i := 11) (v := ?_) rfl (by kernel_rfl) (by kernel_rfl) (by kernel_rfl) (fun _ _ _ h => h) (Or.inl ⟨by rfl, ?_⟩) (by assumption) ?_; (case' refine_2 => (intro w hSw; go_simp; try with_reducible rfl)); (try simp only [Act.put, List.getElem_toArray, List.getElem_cons_zero, List.getElem_cons_succ, List.setIfInBounds_toArray, List.set_cons_zero, List.set_cons_succ]))
              refine wpAnyH_done (by kernel_rfl) ?_ _
              go_wp2_with (fail)
              go_meet
              case rel => exact ⟨rfl, rfl, HBE.out⟩
          · skip
            go_simp
            refine (data1_c HD.out).mono ?_
            rintro e w14 ⟨v, rfl, ⟨D2, d2, D3, d3, rfl, ha⟩, hb⟩
            have n0_ := Aside0.mk (below_step HB.out hb)
            clear HB
            have HB := n0_
            clear n0_
            have HA := Aside0.mk ha
            clear ha hb HD
            simp only [exA, List.length_nil, List.length_cons, Nat.zero_add]
            refine Shut.out hK _ _ (four_cells (HX.out.below HB.out)) (fun hHeld => ?_)
            clear hK K
            (try simp only [Act.put, List.getElem_toArray, List.getElem_cons_zero, List.getElem_cons_succ, List.setIfInBounds_toArray, List.set_cons_zero, List.set_cons_succ])
            refine wpAnyH_ready (rs := [2]) (by kernel_rfl) (by simp) (AllReadyH.cons rfl (fun K hK => ?_) AllReadyH.nil)
            · skip
              go_simp
              have hb := below_alloc (Below.refl w14.heap.size w14) (.cells #[.int .i64 5, .int .u64 1, .slice A2 0 c2, .slice A3 2 c3, .int .i64 2, .int .u64 7, .slice K2 0 k2, .slice K3 0 k3] 26)
              have HC := Aside0.mk (show Blk (w14.alloc (.cells #[.int .i64 5, .int .u64 1, .slice A2 0 c2, .slice A3 2 c3, .int .i64 2, .int .u64 7, .slice K2 0 k2, .slice K3 0 k3] 26)) w14.heap.size _ _ from blk_new _ _)
              have HCz := Aside0.mk (show W.heap.size ≤ w14.heap.size from HB.out.size)
              have n0_ := Aside0.mk (below_step HB.out hb)
              have n1_ := Aside0.mk (HA.out.below hb)
              clear HB HA
              have HB := n0_
              have HA := n1_
              clear n0_ n1_
              clear hb
              refine Shut.out hK _ _ (four_cells (HX.out.below HB.out)) (fun hHeld => ?_)
              clear hK K
              (try simp only [Act.put, List.getElem_toArray, List.getElem_cons_zero, List.getElem_cons_succ, List.setIfInBounds_toArray, List.set_cons_zero, List.set_cons_succ])
              obtain ⟨w15, hw2⟩ : ∃ x9, w14.alloc (.cells #[.int .i64 5, .int .u64 1, .slice A2 0 c2, .slice A3 2 c3, .int .i64 2, .int .u64 7, .slice K2 0 k2, .slice K3 0 k3] 26) = x9 := ⟨_, rfl⟩
              rw [hw2] at HB HA HC hHeld ⊢
              clear hw2
              obtain ⟨gc, hg⟩ : ∃ g, w14.heap.size = g := ⟨_, rfl⟩
              rw [hg] at HC HCz ⊢
              clear hg
              refine wpAnyH_ready (rs := [6]) (by kernel_rfl) (by simp) (AllReadyH.cons rfl (fun K hK => ?_) AllReadyH.nil)
              go_simp
              refine (fol2_c _ HA.out (tw_at (x := exX) (y := exK) HC.out (HR.out.below HB.out) (rows_none _ 2 7 K2 k2 K3 k3))).mono ?_
              rintro e w4 ⟨rfl, hb⟩
              have HBE := Aside0.mk (below_step HB.out hb)
              clear hb
              refine Shut.out hK _ _ (four_cells (HX.out.below HBE.out)) (fun hHeld => ?_)
              clear hK K
              (try simp only [Act.put, List.getElem_toArray, List.getElem_cons_zero, List.getElem_cons_succ, List.setIfInBounds_toArray, List.set_cons_zero, List.set_cons_succ])
              (refine wpAnyH_take (i := 7) (v := ?_) rfl (by kernel_rfl) (by kernel_rfl) (by kernel_rfl) (fun _ _ _ h => h) (Or.inl ⟨by rfl, ?_⟩) (by assumption) ?_; (case' refine_2 => (intro w hSw; go_simp; try with_reducible rfl)); (try simp only [Act.put, List.getElem_toArray, List.getElem_cons_zero, List.getElem_cons_succ, List.setIfInBounds_toArray, List.set_cons_zero, List.set_cons_succ]))
              (refine wpAnyH_take (i := 8) (v := ?_) rfl (by kernel_rfl) (by kernel_rfl) (by kernel_rfl) (fun _ _ _ h => h) (Or.inl ⟨by rfl, ?_⟩) (by assumption) ?_; (case' refine_2 => (intro w hSw; go_simp; try with_reducible rfl)); (try simp only [Act.put, List.getElem_toArray, List.getElem_cons_zero, List.getElem_cons_succ, List.setIfInBounds_toArray, List.set_cons_zero, List.set_cons_succ]))
              (refine wpAnyH_take (i := 9) (v := ?_) rfl (by kernel_rfl) (by kernel_rfl) (by kernel_rfl) (fun _ _ _ h => h) (Or.inl ⟨by rfl, ?_⟩) (by assumption) ?_; (case' refine_2 => (intro w hSw; go_simp; try with_reducible rfl)); (try simp only [Act.put, List.getElem_toArray, List.getElem_cons_zero, List.getElem_cons_succ, List.setIfInBounds_toArray, List.set_cons_zero, List.set_cons_succ]))
              (refine wpAnyH_take (i := 10) (v := ?_) rfl (by kernel_rfl) (by kernel_rfl) (by kernel_rfl) (fun _ _ _ h => h) (Or.inl ⟨by rfl, ?_⟩) (by assumption) ?_; (case' refine_2 => (intro w hSw; go_simp; try with_reducible rfl)); (try simp only [Act.put, List.getElem_toArray, List.getElem_cons_zero, List.getElem_cons_succ, List.setIfInBounds_toArray, List.set_cons_zero, List.set_cons_succ]))
              (refine wpAnyH_take (i := 11) (v := ?_) rfl (by kernel_rfl) (by kernel_rfl) (by kernel_rfl) (fun _ _ _ h => h) (Or.inl ⟨by rfl, ?_⟩) (by assumption) ?_; (case' refine_2 => (intro w hSw; go_simp; try with_reducible rfl)); (try simp only [Act.put, List.getElem_toArray, List.getElem_cons_zero, List.getElem_cons_succ, List.setIfInBounds_toArray, List.set_cons_zero, List.set_cons_succ]))
              refine wpAnyH_done (by kernel_rfl) ?_ _
              go_wp2_with (fail)
              go_meet
              case rel => exact ⟨rfl, rfl, HBE.out⟩
  case rest =>
  obtain ⟨rfl, rfl, hb⟩ := hcut
  have n0_ := Aside0.mk (below_step HB0.out hb)
  have n1_ := Aside0.mk (HX.out.below hb)
  have n2_ := Aside0.mk (HR.out.below hb)
  clear HB0 HX HR hb
  have HB0 := n0_; have HX := n1_; have HR := n2_
  clear n0_ n1_ n2_
  obtain ⟨W, hW⟩ : ∃ W2, wc = W2 := ⟨_, rfl⟩
  rw [hW] at HB0 HX HR ⊢
  clear hW
  go_upto_region 3 with (fail)
  go_cut [4, 5] from 21 to 29 (fun s4 s5 wx => s4 = .bool false ∧ s5 = .int .i64 0 ∧ Below W.heap.size W wx)
  case first =>
    have HB := Aside0.mk (below_drew1 (Below.refl W.heap.size W))
    refine wp_region_held_drew (S := fun w' => w'.cell? ⟨p, 0, none⟩ = some (.int .i64 5) ∧ w'.cell? ⟨p, 1, none⟩ = some (.int .u64 1) ∧ w'.cell? ⟨p, 2, none⟩ = some (.slice A2 0 c2) ∧ w'.cell? ⟨p, 3, none⟩ = some (.slice A3 2 c3)) (by kernel_rfl) (four_cells HX.out) (fun hHeld => ?_)
    obtain ⟨w1, hw1⟩ : ∃ w1, W.drew = w1 := ⟨_, rfl⟩
    rw [hw1] at HB hHeld ⊢
    clear hw1
    (refine wpAnyH_take (i := 0) (v := ?_) rfl (by kernel_rfl) (by kernel_rfl) (by kernel_rfl) (fun _ _ _ h => h) (Or.inl ⟨by rfl, ?_⟩) (by assumption) ?_; (case' refine_2 => (intro w hSw; go_simp; try with_reducible rfl)); (try simp only [Act.put, List.getElem_toArray, List.getElem_cons_zero, List.getElem_cons_succ, List.setIfInBounds_toArray, List.set_cons_zero, List.set_cons_succ]))
    refine wpAnyH_ready (rs := [1, 2]) (by kernel_rfl) (by simp) (AllReadyH.cons rfl (fun K hK => ?_) (AllReadyH.cons rfl (fun K hK => ?_) AllReadyH.nil))
    · skip
      go_simp
      have hb := below_alloc (Below.refl w1.heap.size w1) (.cells #[.int .i64 5, .int .u64 1, .slice A2 0 c2, .slice A3 2 c3] 26)
      have HC := Aside0.mk (show Blk (w1.alloc (.cells #[.int .i64 5, .int .u64 1, .slice A2 0 c2, .slice A3 2 c3] 26)) w1.heap.size _ _ from blk_new _ _)
      have HCz := Aside0.mk (show W.heap.size ≤ w1.heap.size from HB.out.size)
      have n0_ := Aside0.mk (below_step HB.out hb)
      clear HB
      have HB := n0_
      clear n0_
      clear hb
      refine Shut.out hK _ _ (four_cells (HX.out.below HB.out)) (fun hHeld => ?_)
      clear hK K
      (try simp only [Act.put, List.getElem_toArray, List.getElem_cons_zero, List.getElem_cons_succ, List.setIfInBounds_toArray, List.set_cons_zero, List.set_cons_succ])
      obtain ⟨w11, hw2⟩ : ∃ x9, w1.alloc (.cells #[.int .i64 5, .int .u64 1, .slice A2 0 c2, .slice A3 2 c3] 26) = x9 := ⟨_, rfl⟩
      rw [hw2] at HB HC hHeld ⊢
      clear hw2
      obtain ⟨gc, hg⟩ : ∃ g, w1.heap.size = g := ⟨_, rfl⟩
      rw [hg] at HC HCz ⊢
      clear hg
      refine wpAnyH_ready (rs := [2]) (by kernel_rfl) (by simp) (AllReadyH.cons rfl (fun K hK => ?_) AllReadyH.nil)
      · skip
        go_simp
        have hb := below_alloc (Below.refl w11.heap.size w11) (.cells #[.int .u8 97] 5)
        have HG := Aside0.mk (show Blk (w11.alloc (.cells #[.int .u8 97] 5)) w11.heap.size _ _ from blk_new _ _)
        have HGz := Aside0.mk (show W.heap.size ≤ w11.heap.size from HB.out.size)
        have HNHCHG := Aside0.mk (show gc ≠ w11.heap.size from by have := HC.out.lt; omega)
        have n0_ := Aside0.mk (below_step HB.out hb)
        have n1_ := Aside0.mk (HC.out.below hb)
        clear HB HC
        have HB := n0_
        have HC := n1_
        clear n0_ n1_
        clear hb
        refine Shut.out hK _ _ (four_cells (HX.out.below HB.out)) (fun hHeld => ?_)
        clear hK K
        (try simp only [Act.put, List.getElem_toArray, List.getElem_cons_zero, List.getElem_cons_succ, List.setIfInBounds_toArray, List.set_cons_zero, List.set_cons_succ])
        obtain ⟨w12, hw2⟩ : ∃ x9, w11.alloc (.cells #[.int .u8 97] 5) = x9 := ⟨_, rfl⟩
        rw [hw2] at HB HC HG hHeld ⊢
        clear hw2
        obtain ⟨gd, hg⟩ : ∃ g, w11.heap.size = g := ⟨_, rfl⟩
        rw [hg] at HG HGz HNHCHG ⊢
        clear hg
        refine wpAnyH_ready (rs := [3]) (by kernel_rfl) (by simp) (AllReadyH.cons rfl (fun K hK => ?_) AllReadyH.nil)
        · skip
          have hcv := run_mark (P := Try.prog) 1 1 HG.out hu23 hu9
          have hcv2 : (convert 23 23 (.slice (some ⟨gd, 0, none⟩) 1 1)).run Try.prog w12 = .ok (.slice (some ⟨gd, 0, none⟩) 1 1) (w12.freeze ⟨gd, 1, none⟩ 1) := hcv
          clear hcv
          go_simp
          clear hcv2
          have hb := Lib.below_freeze HB.out (p := ⟨gd, 1, none⟩) HGz.out 1
          have HD := Aside0.mk (nums_at .u8 (xs := [97]) (frz_at HG.out 1) rfl (by decide))
          have n0_ := Aside0.mk (hb)
          have n1_ := Aside0.mk (frz_blk (p := ⟨gd, 1, none⟩) HC.out (by first | exact HNHGHC.out | exact fun e => HNHCHG.out e.symm) 1)
          clear HB HC
          have HB := n0_
          have HC := n1_
          clear n0_ n1_
          clear hb HG
          refine Shut.out hK _ _ (four_cells (HX.out.below HB.out)) (fun hHeld => ?_)
          clear hK K
          (try simp only [Act.put, List.getElem_toArray, List.getElem_cons_zero, List.getElem_cons_succ, List.setIfInBounds_toArray, List.set_cons_zero, List.set_cons_succ])
          obtain ⟨w13, hw2⟩ : ∃ x9, w12.freeze ⟨gd, 1, none⟩ 1 = x9 := ⟨_, rfl⟩
          rw [hw2] at HB HC HD hHeld ⊢
          clear hw2
          refine wpAnyH_ready (rs := [4]) (by kernel_rfl) (by simp) (AllReadyH.cons rfl (fun K hK => ?_) AllReadyH.nil)
          · skip
            go_simp
            refine (data1_c HD.out).mono ?_
            rintro e w14 ⟨v, rfl, ⟨D2, d2, D3, d3, rfl, ha⟩, hb⟩
            have n0_ := Aside0.mk (below_step HB.out hb)
            have n1_ := Aside0.mk (HC.out.below hb)
            clear HB HC
            have HB := n0_
            have HC := n1_
            clear n0_ n1_
            have HA := Aside0.mk ha
            clear ha hb HD
            simp only [exA, List.length_nil, List.length_cons, Nat.zero_add]
            refine Shut.out hK _ _ (four_cells (HX.out.below HB.out)) (fun hHeld => ?_)
            clear hK K
            (try simp only [Act.put, List.getElem_toArray, List.getElem_cons_zero, List.getElem_cons_succ, List.setIfInBounds_toArray, List.set_cons_zero, List.set_cons_succ])
            refine wpAnyH_ready (rs := [5]) (by kernel_rfl) (by simp) (AllReadyH.cons rfl (fun K hK => ?_) AllReadyH.nil)
            go_simp
            refine (fol1_c _ HA.out (on_at (x := exX) HC.out (HR.out.below HB.out))).mono ?_
            rintro e w4 ⟨rfl, hb⟩
            have HBE := Aside0.mk (below_step HB.out hb)
            clear hb
            refine Shut.out hK _ _ (four_cells (HX.out.below HBE.out)) (fun hHeld => ?_)
            clear hK K
            (try simp only [Act.put, List.getElem_toArray, List.getElem_cons_zero, List.getElem_cons_succ, List.setIfInBounds_toArray, List.set_cons_zero, List.set_cons_succ])
            (refine wpAnyH_take (i := 6) (v := ?_) rfl (by kernel_rfl) (by kernel_rfl) (by kernel_rfl) (fun _ _ _ h => h) (Or.inl ⟨by rfl, ?_⟩) (by assumption) ?_; (case' refine_2 => (intro w hSw; go_simp; try with_reducible rfl)); (try simp only [Act.put, List.getElem_toArray, List.getElem_cons_zero, List.getElem_cons_succ, List.setIfInBounds_toArray, List.set_cons_zero, List.set_cons_succ]))
            (refine wpAnyH_take (i := 7) (v := ?_) rfl (by kernel_rfl) (by kernel_rfl) (by kernel_rfl) (fun _ _ _ h => h) (Or.inl ⟨by rfl, ?_⟩) (by assumption) ?_; (case' refine_2 => (intro w hSw; go_simp; try with_reducible rfl)); (try simp only [Act.put, List.getElem_toArray, List.getElem_cons_zero, List.getElem_cons_succ, List.setIfInBounds_toArray, List.set_cons_zero, List.set_cons_succ]))
            (refine wpAnyH_take (i := 8) (v := ?_) rfl (by kernel_rfl) (by kernel_rfl) (by kernel_rfl) (fun _ _ _ h => h) (Or.inl ⟨by rfl, ?_⟩) (by assumption) ?_; (case' refine_2 => (intro w hSw; go_simp; try with_reducible rfl)); (try simp only [Act.put, List.getElem_toArray, List.getElem_cons_zero, List.getElem_cons_succ, List.setIfInBounds_toArray, List.set_cons_zero, List.set_cons_succ]))
            (refine wpAnyH_take (i := 9) (v := ?_) rfl (by kernel_rfl) (by kernel_rfl) (by kernel_rfl) (fun _ _ _ h => h) (Or.inl ⟨by rfl, ?_⟩) (by assumption) ?_; (case' refine_2 => (intro w hSw; go_simp; try with_reducible rfl)); (try simp only [Act.put, List.getElem_toArray, List.getElem_cons_zero, List.getElem_cons_succ, List.setIfInBounds_toArray, List.set_cons_zero, List.set_cons_succ]))
            (refine wpAnyH_take (i := 10) (v := ?_) rfl (by kernel_rfl) (by kernel_rfl) (by kernel_rfl) (fun _ _ _ h => h) (Or.inl ⟨by rfl, ?_⟩) (by assumption) ?_; (case' refine_2 => (intro w hSw; go_simp; try with_reducible rfl)); (try simp only [Act.put, List.getElem_toArray, List.getElem_cons_zero, List.getElem_cons_succ, List.setIfInBounds_toArray, List.set_cons_zero, List.set_cons_succ]))
            refine wpAnyH_done (by kernel_rfl) ?_ _
            go_wp2_with (fail)
            go_meet
            case rel => exact ⟨rfl, rfl, HBE.out⟩
    · skip
      go_simp
      have hb := below_alloc (Below.refl w1.heap.size w1) (.cells #[.int .u8 97] 5)
      have HG := Aside0.mk (show Blk (w1.alloc (.cells #[.int .u8 97] 5)) w1.heap.size _ _ from blk_new _ _)
      have HGz := Aside0.mk (show W.heap.size ≤ w1.heap.size from HB.out.size)
      have n0_ := Aside0.mk (below_step HB.out hb)
      clear HB
      have HB := n0_
      clear n0_
      clear hb
      refine Shut.out hK _ _ (four_cells (HX.out.below HB.out)) (fun hHeld => ?_)
      clear hK K
      (try simp only [Act.put, List.getElem_toArray, List.getElem_cons_zero, List.getElem_cons_succ, List.setIfInBounds_toArray, List.set_cons_zero, List.set_cons_succ])
      obtain ⟨w11, hw2⟩ : ∃ x9, w1.alloc (.cells #[.int .u8 97] 5) = x9 := ⟨_, rfl⟩
      rw [hw2] at HB HG hHeld ⊢
      clear hw2
      obtain ⟨gd, hg⟩ : ∃ g, w1.heap.size = g := ⟨_, rfl⟩
      rw [hg] at HG HGz ⊢
      clear hg
      refine wpAnyH_ready (rs := [1, 3]) (by kernel_rfl) (by simp) (AllReadyH.cons rfl (fun K hK => ?_) (AllReadyH.cons rfl (fun K hK => ?_) AllReadyH.nil))
      · skip
        go_simp
        have hb := below_alloc (Below.refl w11.heap.size w11) (.cells #[.int .i64 5, .int .u64 1, .slice A2 0 c2, .slice A3 2 c3] 26)
        have HC := Aside0.mk (show Blk (w11.alloc (.cells #[.int .i64 5, .int .u64 1, .slice A2 0 c2, .slice A3 2 c3] 26)) w11.heap.size _ _ from blk_new _ _)
        have HCz := Aside0.mk (show W.heap.size ≤ w11.heap.size from HB.out.size)
        have HNHGHC := Aside0.mk (show gd ≠ w11.heap.size from by have := HG.out.lt; omega)
        have n0_ := Aside0.mk (below_step HB.out hb)
        have n1_ := Aside0.mk (HG.out.below hb)
        clear HB HG
        have HB := n0_
        have HG := n1_
        clear n0_ n1_
        clear hb
        refine Shut.out hK _ _ (four_cells (HX.out.below HB.out)) (fun hHeld => ?_)
        clear hK K
        (try simp only [Act.put, List.getElem_toArray, List.getElem_cons_zero, List.getElem_cons_succ, List.setIfInBounds_toArray, List.set_cons_zero, List.set_cons_succ])
        obtain ⟨w12, hw2⟩ : ∃ x9, w11.alloc (.cells #[.int .i64 5, .int .u64 1, .slice A2 0 c2, .slice A3 2 c3] 26) = x9 := ⟨_, rfl⟩
        rw [hw2] at HB HG HC hHeld ⊢
        clear hw2
        obtain ⟨gc, hg⟩ : ∃ g, w11.heap.size = g := ⟨_, rfl⟩
        rw [hg] at HC HCz HNHGHC ⊢
        clear hg
        refine wpAnyH_ready (rs := [3]) (by kernel_rfl) (by simp) (AllReadyH.cons rfl (fun K hK => ?_) AllReadyH.nil)
        · skip
          have hcv := run_mark (P := Try.prog) 1 1 HG.out hu23 hu9
          have hcv2 : (convert 23 23 (.slice (some ⟨gd, 0, none⟩) 1 1)).run Try.prog w12 = .ok (.slice (some ⟨gd, 0, none⟩) 1 1) (w12.freeze ⟨gd, 1, none⟩ 1) := hcv
          clear hcv
          go_simp
          clear hcv2
          have hb := Lib.below_freeze HB.out (p := ⟨gd, 1, none⟩) HGz.out 1
          have HD := Aside0.mk (nums_at .u8 (xs := [97]) (frz_at HG.out 1) rfl (by decide))
          have n0_ := Aside0.mk (hb)
          have n1_ := Aside0.mk (frz_blk (p := ⟨gd, 1, none⟩) HC.out (by first | exact HNHGHC.out | exact fun e => HNHCHG.out e.symm) 1)
          clear HB HC
          have HB := n0_
          have HC := n1_
          clear n0_ n1_
          clear hb HG
          refine Shut.out hK _ _ (four_cells (HX.out.below HB.out)) (fun hHeld => ?_)
          clear hK K
          (try simp only [Act.put, List.getElem_toArray, List.getElem_cons_zero, List.getElem_cons_succ, List.setIfInBounds_toArray, List.set_cons_zero, List.set_cons_succ])
          obtain ⟨w13, hw2⟩ : ∃ x9, w12.freeze ⟨gd, 1, none⟩ 1 = x9 := ⟨_, rfl⟩
          rw [hw2] at HB HC HD hHeld ⊢
          clear hw2
          refine wpAnyH_ready (rs := [4]) (by kernel_rfl) (by simp) (AllReadyH.cons rfl (fun K hK => ?_) AllReadyH.nil)
          · skip
            go_simp
            refine (data1_c HD.out).mono ?_
            rintro e w14 ⟨v, rfl, ⟨D2, d2, D3, d3, rfl, ha⟩, hb⟩
            have n0_ := Aside0.mk (below_step HB.out hb)
            have n1_ := Aside0.mk (HC.out.below hb)
            clear HB HC
            have HB := n0_
            have HC := n1_
            clear n0_ n1_
            have HA := Aside0.mk ha
            clear ha hb HD
            simp only [exA, List.length_nil, List.length_cons, Nat.zero_add]
            refine Shut.out hK _ _ (four_cells (HX.out.below HB.out)) (fun hHeld => ?_)
            clear hK K
            (try simp only [Act.put, List.getElem_toArray, List.getElem_cons_zero, List.getElem_cons_succ, List.setIfInBounds_toArray, List.set_cons_zero, List.set_cons_succ])
            refine wpAnyH_ready (rs := [5]) (by kernel_rfl) (by simp) (AllReadyH.cons rfl (fun K hK => ?_) AllReadyH.nil)
            go_simp
            refine (fol1_c _ HA.out (on_at (x := exX) HC.out (HR.out.below HB.out))).mono ?_
            rintro e w4 ⟨rfl, hb⟩
            have HBE := Aside0.mk (below_step HB.out hb)
            clear hb
            refine Shut.out hK _ _ (four_cells (HX.out.below HBE.out)) (fun hHeld => ?_)
            clear hK K
            (try simp only [Act.put, List.getElem_toArray, List.getElem_cons_zero, List.getElem_cons_succ, List.setIfInBounds_toArray, List.set_cons_zero, List.set_cons_succ])
            (refine wpAnyH_take (i := 6) (v := ?_) rfl (by kernel_rfl) (by kernel_rfl) (by kernel_rfl) (fun _ _ _ h => h) (Or.inl ⟨by rfl, ?_⟩) (by assumption) ?_; (case' refine_2 => (intro w hSw; go_simp; try with_reducible rfl)); (try simp only [Act.put, List.getElem_toArray, List.getElem_cons_zero, List.getElem_cons_succ, List.setIfInBounds_toArray, List.set_cons_zero, List.set_cons_succ]))
            (refine wpAnyH_take (i := 7) (v := ?_) rfl (by kernel_rfl) (by kernel_rfl) (by kernel_rfl) (fun _ _ _ h => h) (Or.inl ⟨by rfl, ?_⟩) (by assumption) ?_; (case' refine_2 => (intro w hSw; go_simp; try with_reducible rfl)); (try simp only [Act.put, List.getElem_toArray, List.getElem_cons_zero, List.getElem_cons_succ, List.setIfInBounds_toArray, List.set_cons_zero, List.set_cons_succ]))
            (refine wpAnyH_take (i := 8) (v := ?_) rfl (by kernel_rfl) (by kernel_rfl) (by kernel_rfl) (fun _ _ _ h => h) (Or.inl ⟨by rfl, ?_⟩) (by assumption) ?_; (case' refine_2 => (intro w hSw; go_simp; try with_reducible rfl)); (try simp only [Act.put, List.getElem_toArray, List.getElem_cons_zero, List.getElem_cons_succ, List.setIfInBounds_toArray, List.set_cons_zero, List.set_cons_succ]))
            (refine wpAnyH_take (i := 9) (v := ?_) rfl (by kernel_rfl) (by kernel_rfl) (by kernel_rfl) (fun _ _ _ h => h) (Or.inl ⟨by rfl, ?_⟩) (by assumption) ?_; (case' refine_2 => (intro w hSw; go_simp; try with_reducible rfl)); (try simp only [Act.put, List.getElem_toArray, List.getElem_cons_zero, List.getElem_cons_succ, List.setIfInBounds_toArray, List.set_cons_zero, List.set_cons_succ]))
            (refine wpAnyH_take (i := 10) (v := ?_) rfl (by kernel_rfl) (by kernel_rfl) (by kernel_rfl) (fun _ _ _ h => h) (Or.inl ⟨by rfl, ?_⟩) (by assumption) ?_; (case' refine_2 => (intro w hSw; go_simp; try with_reducible rfl)); (try simp only [Act.put, List.getElem_toArray, List.getElem_cons_zero, List.getElem_cons_succ, List.setIfInBounds_toArray, List.set_cons_zero, List.set_cons_succ]))
            refine wpAnyH_done (by kernel_rfl) ?_ _
            go_wp2_with (fail)
            go_meet
            case rel => exact ⟨rfl, rfl, HBE.out⟩
      · skip
        have hcv := run_mark (P := Try.prog) 1 1 HG.out hu23 hu9
        have hcv2 : (convert 23 23 (.slice (some ⟨gd, 0, none⟩) 1 1)).run Try.prog w11 = .ok (.slice (some ⟨gd, 0, none⟩) 1 1) (w11.freeze ⟨gd, 1, none⟩ 1) := hcv
        clear hcv
        go_simp
        clear hcv2
        have hb := Lib.below_freeze HB.out (p := ⟨gd, 1, none⟩) HGz.out 1
        have HD := Aside0.mk (nums_at .u8 (xs := [97]) (frz_at HG.out 1) rfl (by decide))
        have n0_ := Aside0.mk (hb)
        clear HB
        have HB := n0_
        clear n0_
        clear hb HG
        refine Shut.out hK _ _ (four_cells (HX.out.below HB.out)) (fun hHeld => ?_)
        clear hK K
        (try simp only [Act.put, List.getElem_toArray, List.getElem_cons_zero, List.getElem_cons_succ, List.setIfInBounds_toArray, List.set_cons_zero, List.set_cons_succ])
        obtain ⟨w12, hw2⟩ : ∃ x9, w11.freeze ⟨gd, 1, none⟩ 1 = x9 := ⟨_, rfl⟩
        rw [hw2] at HB HD hHeld ⊢
        clear hw2
        refine wpAnyH_ready (rs := [1, 4]) (by kernel_rfl) (by simp) (AllReadyH.cons rfl (fun K hK => ?_) (AllReadyH.cons rfl (fun K hK => ?_) AllReadyH.nil))
        · skip
          go_simp
          have hb := below_alloc (Below.refl w12.heap.size w12) (.cells #[.int .i64 5, .int .u64 1, .slice A2 0 c2, .slice A3 2 c3] 26)
          have HC := Aside0.mk (show Blk (w12.alloc (.cells #[.int .i64 5, .int .u64 1, .slice A2 0 c2, .slice A3 2 c3] 26)) w12.heap.size _ _ from blk_new _ _)
          have HCz := Aside0.mk (show W.heap.size ≤ w12.heap.size from HB.out.size)
          have n0_ := Aside0.mk (below_step HB.out hb)
          have n1_ := Aside0.mk (Kd.C_below HD.out hb)
          clear HB HD
          have HB := n0_
          have HD := n1_
          clear n0_ n1_
          clear hb
          refine Shut.out hK _ _ (four_cells (HX.out.below HB.out)) (fun hHeld => ?_)
          clear hK K
          (try simp only [Act.put, List.getElem_toArray, List.getElem_cons_zero, List.getElem_cons_succ, List.setIfInBounds_toArray, List.set_cons_zero, List.set_cons_succ])
          obtain ⟨w13, hw2⟩ : ∃ x9, w12.alloc (.cells #[.int .i64 5, .int .u64 1, .slice A2 0 c2, .slice A3 2 c3] 26) = x9 := ⟨_, rfl⟩
          rw [hw2] at HB HD HC hHeld ⊢
          clear hw2
          obtain ⟨gc, hg⟩ : ∃ g, w12.heap.size = g := ⟨_, rfl⟩
          rw [hg] at HC HCz ⊢
          clear hg
          refine wpAnyH_ready (rs := [4]) (by kernel_rfl) (by simp) (AllReadyH.cons rfl (fun K hK => ?_) AllReadyH.nil)
          · skip
            go_simp
            refine (data1_c HD.out).mono ?_
            rintro e w14 ⟨v, rfl, ⟨D2, d2, D3, d3, rfl, ha⟩, hb⟩
            have n0_ := Aside0.mk (below_step HB.out hb)
            have n1_ := Aside0.mk (HC.out.below hb)
            clear HB HC
            have HB := n0_
            have HC := n1_
            clear n0_ n1_
            have HA := Aside0.mk ha
            clear ha hb HD
            simp only [exA, List.length_nil, List.length_cons, Nat.zero_add]
            refine Shut.out hK _ _ (four_cells (HX.out.below HB.out)) (fun hHeld => ?_)
            clear hK K
            (try simp only [Act.put, List.getElem_toArray, List.getElem_cons_zero, List.getElem_cons_succ, List.setIfInBounds_toArray, List.set_cons_zero, List.set_cons_succ])
            refine wpAnyH_ready (rs := [5]) (by kernel_rfl) (by simp) (AllReadyH.cons rfl (fun K hK => ?_) AllReadyH.nil)
            go_simp
            refine (fol1_c _ HA.out (on_at (x := exX) HC.out (HR.out.below HB.out))).mono ?_
            rintro e w4 ⟨rfl, hb⟩
            have HBE := Aside0.mk (below_step HB.out hb)
            clear hb
            refine Shut.out hK _ _ (four_cells (HX.out.below HBE.out)) (fun hHeld => ?_)
            clear hK K
            (try simp only [Act.put, List.getElem_toArray, List.getElem_cons_zero, List.getElem_cons_succ, List.setIfInBounds_toArray, List.set_cons_zero, List.set_cons_succ])
            (refine wpAnyH_take (i := 6) (v := ?_) rfl (by kernel_rfl) (by kernel_rfl) (by kernel_rfl) (fun _ _ _ h => h) (Or.inl ⟨by rfl, ?_⟩) (by assumption) ?_; (case' refine_2 => (intro w hSw; go_simp; try with_reducible rfl)); (try simp only [Act.put, List.getElem_toArray, List.getElem_cons_zero, List.getElem_cons_succ, List.setIfInBounds_toArray, List.set_cons_zero, List.set_cons_succ]))
            (refine wpAnyH_take (i := 7) (v := ?_) rfl (by kernel_rfl) (by kernel_rfl) (by kernel_rfl) (fun _ _ _ h => h) (Or.inl ⟨by rfl, ?_⟩) (by assumption) ?_; (case' refine_2 => (intro w hSw; go_simp; try with_reducible rfl)); (try simp only [Act.put, List.getElem_toArray, List.getElem_cons_zero, List.getElem_cons_succ, List.setIfInBounds_toArray, List.set_cons_zero, List.set_cons_succ]))
            (refine wpAnyH_take (i := 8) (v := ?_) rfl (by kernel_rfl) (by kernel_rfl) (by kernel_rfl) (fun _ _ _ h => h) (Or.inl ⟨by rfl, ?_⟩) (by assumption) ?_; (case' refine_2 => (intro w hSw; go_simp; try with_reducible rfl)); (try simp only [Act.put, List.getElem_toArray, List.getElem_cons_zero, List.getElem_cons_succ, List.setIfInBounds_toArray, List.set_cons_zero, List.set_cons_succ]))
            (refine wpAnyH_take (i := 9) (v := ?_) rfl (by kernel_rfl) (by kernel_rfl) (by kernel_rfl) (fun _ _ _ h => h) (Or.inl ⟨by rfl, ?_⟩) (by assumption) ?_; (case' refine_2 => (intro w hSw; go_simp; try with_reducible rfl)); (try simp only [Act.put, List.getElem_toArray, List.getElem_cons_zero, List.getElem_cons_succ, List.setIfInBounds_toArray, List.set_cons_zero, List.set_cons_succ]))
            (refine wpAnyH_take (i := 10) (v := ?_) rfl (by kernel_rfl) (by kernel_rfl) (by kernel_rfl) (fun _ _ _ h => h) (Or.inl ⟨by rfl, ?_⟩) (by assumption) ?_; (case' refine_2 => (intro w hSw; go_simp; try with_reducible rfl)); (try simp only [Act.put, List.getElem_toArray, List.getElem_cons_zero, List.getElem_cons_succ, List.setIfInBounds_toArray, List.set_cons_zero, List.set_cons_succ]))
            refine wpAnyH_done (by kernel_rfl) ?_ _
            go_wp2_with (fail)
            go_meet
            case rel => exact ⟨rfl, rfl, HBE.out⟩
        · skip
          go_simp
          refine (data1_c HD.out).mono ?_
          rintro e w13 ⟨v, rfl, ⟨D2, d2, D3, d3, rfl, ha⟩, hb⟩
          have n0_ := Aside0.mk (below_step HB.out hb)
          clear HB
          have HB := n0_
          clear n0_
          have HA := Aside0.mk ha
          clear ha hb HD
          simp only [exA, List.length_nil, List.length_cons, Nat.zero_add]
          refine Shut.out hK _ _ (four_cells (HX.out.below HB.out)) (fun hHeld => ?_)
          clear hK K
          (try simp only [Act.put, List.getElem_toArray, List.getElem_cons_zero, List.getElem_cons_succ, List.setIfInBounds_toArray, List.set_cons_zero, List.set_cons_succ])
          refine wpAnyH_ready (rs := [1]) (by kernel_rfl) (by simp) (AllReadyH.cons rfl (fun K hK => ?_) AllReadyH.nil)
          · skip
            go_simp
            have hb := below_alloc (Below.refl w13.heap.size w13) (.cells #[.int .i64 5, .int .u64 1, .slice A2 0 c2, .slice A3 2 c3] 26)
            have HC := Aside0.mk (show Blk (w13.alloc (.cells #[.int .i64 5, .int .u64 1, .slice A2 0 c2, .slice A3 2 c3] 26)) w13.heap.size _ _ from blk_new _ _)
            have HCz := Aside0.mk (show W.heap.size ≤ w13.heap.size from HB.out.size)
            have n0_ := Aside0.mk (below_step HB.out hb)
            have n1_ := Aside0.mk (HA.out.below hb)
            clear HB HA
            have HB := n0_
            have HA := n1_
            clear n0_ n1_
            clear hb
            refine Shut.out hK _ _ (four_cells (HX.out.below HB.out)) (fun hHeld => ?_)
            clear hK K
            (try simp only [Act.put, List.getElem_toArray, List.getElem_cons_zero, List.getElem_cons_succ, List.setIfInBounds_toArray, List.set_cons_zero, List.set_cons_succ])
            obtain ⟨w14, hw2⟩ : ∃ x9, w13.alloc (.cells #[.int .i64 5, .int .u64 1, .slice A2 0 c2, .slice A3 2 c3] 26) = x9 := ⟨_, rfl⟩
            rw [hw2] at HB HA HC hHeld ⊢
            clear hw2
            obtain ⟨gc, hg⟩ : ∃ g, w13.heap.size = g := ⟨_, rfl⟩
            rw [hg] at HC HCz ⊢
            clear hg
            refine wpAnyH_ready (rs := [5]) (by kernel_rfl) (by simp) (AllReadyH.cons rfl (fun K hK => ?_) AllReadyH.nil)
            go_simp
            refine (fol1_c _ HA.out (on_at (x := exX) HC.out (HR.out.below HB.out))).mono ?_
            rintro e w4 ⟨rfl, hb⟩
            have HBE := Aside0.mk (below_step HB.out hb)
            clear hb
            refine Shut.out hK _ _ (four_cells (HX.out.below HBE.out)) (fun hHeld => ?_)
            clear hK K
            (try simp only [Act.put, List.getElem_toArray, List.getElem_cons_zero, List.getElem_cons_succ, List.setIfInBounds_toArray, List.set_cons_zero, List.set_cons_succ])
            (refine wpAnyH_take (i := 6) (v := ?_) rfl (by kernel_rfl) (by kernel_rfl) (by kernel_rfl) (fun _ _ _ h => h) (Or.inl ⟨by rfl, ?_⟩) (by assumption) ?_; (case' refine_2 => (intro w hSw; go_simp; try with_reducible rfl)); (try simp only [Act.put, List.getElem_toArray, List.getElem_cons_zero, List.getElem_cons_succ, List.setIfInBounds_toArray, List.set_cons_zero, List.set_cons_succ]))
            (refine wpAnyH_take (i := 7) (v := ?_) rfl (by kernel_rfl) (by kernel_rfl) (by kernel_rfl) (fun _ _ _ h => h) (Or.inl ⟨by rfl, ?_⟩) (by assumption) ?_; (case' refine_2 => (intro w hSw; go_simp; try with_reducible rfl)); (try simp only [Act.put, List.getElem_toArray, List.getElem_cons_zero, List.getElem_cons_succ, List.setIfInBounds_toArray, List.set_cons_zero, List.set_cons_succ]))
            (refine wpAnyH_take (i := 8) (v := ?_) rfl (by kernel_rfl) (by kernel_rfl) (by kernel_rfl) (fun _ _ _ h => h) (Or.inl ⟨by rfl, ?_⟩) (by assumption) ?_; (case' refine_2 => (intro w hSw; go_simp; try with_reducible rfl)); (try simp only [Act.put, List.getElem_toArray, List.getElem_cons_zero, List.getElem_cons_succ, List.setIfInBounds_toArray, List.set_cons_zero, List.set_cons_succ]))
            (refine wpAnyH_take (i := 9) (v := ?_) rfl (by kernel_rfl) (by kernel_rfl) (by kernel_rfl) (fun _ _ _ h => h) (Or.inl ⟨by rfl, ?_⟩) (by assumption) ?_; (case' refine_2 => (intro w hSw; go_simp; try with_reducible rfl)); (try simp only [Act.put, List.getElem_toArray, List.getElem_cons_zero, List.getElem_cons_succ, List.setIfInBounds_toArray, List.set_cons_zero, List.set_cons_succ]))
            (refine wpAnyH_take (i := 10) (v := ?_) rfl (by kernel_rfl) (by kernel_rfl) (by kernel_rfl) (fun _ _ _ h => h) (Or.inl ⟨by rfl, ?_⟩) (by assumption) ?_; (case' refine_2 => (intro w hSw; go_simp; try with_reducible rfl)); (try simp only [Act.put, List.getElem_toArray, List.getElem_cons_zero, List.getElem_cons_succ, List.setIfInBounds_toArray, List.set_cons_zero, List.set_cons_succ]))
            refine wpAnyH_done (by kernel_rfl) ?_ _
            go_wp2_with (fail)
            go_meet
            case rel => exact ⟨rfl, rfl, HBE.out⟩
  case rest =>
  obtain ⟨rfl, rfl, hb⟩ := hcut
  have n0_ := Aside0.mk (below_step HB0.out hb)
  have n1_ := Aside0.mk (HX.out.below hb)
  have n2_ := Aside0.mk (HR.out.below hb)
  clear HB0 HX HR hb
  have HB0 := n0_; have HX := n1_; have HR := n2_
  clear n0_ n1_ n2_
  obtain ⟨W, hW⟩ : ∃ W2, wc = W2 := ⟨_, rfl⟩
  rw [hW] at HB0 HX HR ⊢
  clear hW
  go_upto_region 4 with (fail)
  have HB := Aside0.mk (below_drew1 (Below.refl W.heap.size W))
  refine wp_region_held_drew (S := fun w' => w'.cell? ⟨p, 0, none⟩ = some (.int .i64 5) ∧ w'.cell? ⟨p, 1, none⟩ = some (.int .u64 1) ∧ w'.cell? ⟨p, 2, none⟩ = some (.slice A2 0 c2) ∧ w'.cell? ⟨p, 3, none⟩ = some (.slice A3 2 c3)) (by kernel_rfl) (four_cells HX.out) (fun hHeld => ?_)
  obtain ⟨w1, hw1⟩ : ∃ w1, W.drew = w1 := ⟨_, rfl⟩
  rw [hw1] at HB hHeld ⊢
  clear hw1
  (refine wpAnyH_take (i := 0) (v := ?_) rfl (by kernel_rfl) (by kernel_rfl) (by kernel_rfl) (fun _ _ _ h => h) (Or.inl ⟨by rfl, ?_⟩) (by assumption) ?_; (case' refine_2 => (intro w hSw; go_simp; try with_reducible rfl)); (try simp only [Act.put, List.getElem_toArray, List.getElem_cons_zero, List.getElem_cons_succ, List.setIfInBounds_toArray, List.set_cons_zero, List.set_cons_succ]))
  (refine wpAnyH_ready (rs := [1]) (by kernel_rfl) (by simp) (AllReadyH.cons rfl (fun K hK => ?_) AllReadyH.nil); go_simp)
  refine (hanaperlaw06_num.calls 0 0 _ rfl).mono ?_
  rintro e w2 ⟨rfl, hd⟩
  have n0_ := Aside0.mk (below_step HB.out (Drawn0.below hd))
  clear HB hd
  have HB := n0_
  clear n0_
  refine Shut.out hK _ _ (four_cells (HX.out.below HB.out)) (fun hHeld => ?_)
  clear hK K
  (try simp only [Act.put, List.getElem_toArray, List.getElem_cons_zero, List.getElem_cons_succ, List.setIfInBounds_toArray, List.set_cons_zero, List.set_cons_succ])
  (refine wpAnyH_take (i := 2) (v := ?_) rfl (by kernel_rfl) (by kernel_rfl) (by kernel_rfl) (fun _ _ _ h => h) (Or.inl ⟨by rfl, ?_⟩) (by assumption) ?_; (case' refine_2 => (intro w hSw; go_simp; try with_reducible rfl)); (try simp only [Act.put, List.getElem_toArray, List.getElem_cons_zero, List.getElem_cons_succ, List.setIfInBounds_toArray, List.set_cons_zero, List.set_cons_succ]))
  (refine wpAnyH_take (i := 3) (v := ?_) rfl (by kernel_rfl) (by kernel_rfl) (by kernel_rfl) (fun _ _ _ h => h) (Or.inl ⟨by rfl, ?_⟩) (by assumption) ?_; (case' refine_2 => (intro w hSw; go_simp; try with_reducible rfl)); (try simp only [Act.put, List.getElem_toArray, List.getElem_cons_zero, List.getElem_cons_succ, List.setIfInBounds_toArray, List.set_cons_zero, List.set_cons_succ]))
  (refine wpAnyH_take (i := 4) (v := ?_) rfl (by kernel_rfl) (by kernel_rfl) (by kernel_rfl) (fun _ _ _ h => h) (Or.inl ⟨by rfl, ?_⟩) (by assumption) ?_; (case' refine_2 => (intro w hSw; go_simp; try with_reducible rfl)); (try simp only [Act.put, List.getElem_toArray, List.getElem_cons_zero, List.getElem_cons_succ, List.setIfInBounds_toArray, List.set_cons_zero, List.set_cons_succ]))
  (refine wpAnyH_ready (rs := [5]) (by kernel_rfl) (by simp) (AllReadyH.cons rfl (fun K hK => ?_) AllReadyH.nil); go_simp)
  refine (hanaperlaw06_num.calls 0 0 _ rfl).mono ?_
  rintro e w2 ⟨rfl, hd⟩
  have n0_ := Aside0.mk (below_step HB.out (Drawn0.below hd))
  clear HB hd
  have HB := n0_
  clear n0_
  refine Shut.out hK _ _ (four_cells (HX.out.below HB.out)) (fun hHeld => ?_)
  clear hK K
  (try simp only [Act.put, List.getElem_toArray, List.getElem_cons_zero, List.getElem_cons_succ, List.setIfInBounds_toArray, List.set_cons_zero, List.set_cons_succ])
  (refine wpAnyH_take (i := 6) (v := ?_) rfl (by kernel_rfl) (by kernel_rfl) (by kernel_rfl) (fun _ _ _ h => h) (Or.inl ⟨by rfl, ?_⟩) (by assumption) ?_; (case' refine_2 => (intro w hSw; go_simp; try with_reducible rfl)); (try simp only [Act.put, List.getElem_toArray, List.getElem_cons_zero, List.getElem_cons_succ, List.setIfInBounds_toArray, List.set_cons_zero, List.set_cons_succ]))
  (refine wpAnyH_take (i := 7) (v := ?_) rfl (by kernel_rfl) (by kernel_rfl) (by kernel_rfl) (fun _ _ _ h => h) (Or.inl ⟨by rfl, ?_⟩) (by assumption) ?_; (case' refine_2 => (intro w hSw; go_simp; try with_reducible rfl)); (try simp only [Act.put, List.getElem_toArray, List.getElem_cons_zero, List.getElem_cons_succ, List.setIfInBounds_toArray, List.set_cons_zero, List.set_cons_succ]))
  (refine wpAnyH_take (i := 8) (v := ?_) rfl (by kernel_rfl) (by kernel_rfl) (by kernel_rfl) (fun _ _ _ h => h) (Or.inl ⟨by rfl, ?_⟩) (by assumption) ?_; (case' refine_2 => (intro w hSw; go_simp; try with_reducible rfl)); (try simp only [Act.put, List.getElem_toArray, List.getElem_cons_zero, List.getElem_cons_succ, List.setIfInBounds_toArray, List.set_cons_zero, List.set_cons_succ]))
  (refine wpAnyH_take (i := 9) (v := ?_) rfl (by kernel_rfl) (by kernel_rfl) (by kernel_rfl) (fun _ _ _ h => h) (Or.inl ⟨by rfl, ?_⟩) (by assumption) ?_; (case' refine_2 => (intro w hSw; go_simp; try with_reducible rfl)); (try simp only [Act.put, List.getElem_toArray, List.getElem_cons_zero, List.getElem_cons_succ, List.setIfInBounds_toArray, List.set_cons_zero, List.set_cons_succ]))
  (refine wpAnyH_take (i := 10) (v := ?_) rfl (by kernel_rfl) (by kernel_rfl) (by kernel_rfl) (fun _ _ _ h => h) (Or.inl ⟨by rfl, ?_⟩) (by assumption) ?_; (case' refine_2 => (intro w hSw; go_simp; try with_reducible rfl)); (try simp only [Act.put, List.getElem_toArray, List.getElem_cons_zero, List.getElem_cons_succ, List.setIfInBounds_toArray, List.set_cons_zero, List.set_cons_succ]))
  (refine wpAnyH_take (i := 11) (v := ?_) rfl (by kernel_rfl) (by kernel_rfl) (by kernel_rfl) (fun _ _ _ h => h) (Or.inl ⟨by rfl, ?_⟩) (by assumption) ?_; (case' refine_2 => (intro w hSw; go_simp; try with_reducible rfl)); (try simp only [Act.put, List.getElem_toArray, List.getElem_cons_zero, List.getElem_cons_succ, List.setIfInBounds_toArray, List.set_cons_zero, List.set_cons_succ]))
  (refine wpAnyH_take (i := 12) (v := ?_) rfl (by kernel_rfl) (by kernel_rfl) (by kernel_rfl) (fun _ _ _ h => h) (Or.inl ⟨by rfl, ?_⟩) (by assumption) ?_; (case' refine_2 => (intro w hSw; go_simp; try with_reducible rfl)); (try simp only [Act.put, List.getElem_toArray, List.getElem_cons_zero, List.getElem_cons_succ, List.setIfInBounds_toArray, List.set_cons_zero, List.set_cons_succ]))
  (refine wpAnyH_take (i := 13) (v := ?_) rfl (by kernel_rfl) (by kernel_rfl) (by kernel_rfl) (fun _ _ _ h => h) (Or.inl ⟨by rfl, ?_⟩) (by assumption) ?_; (case' refine_2 => (intro w hSw; go_simp; try with_reducible rfl)); (try simp only [Act.put, List.getElem_toArray, List.getElem_cons_zero, List.getElem_cons_succ, List.setIfInBounds_toArray, List.set_cons_zero, List.set_cons_succ]))
  (refine wpAnyH_take (i := 14) (v := ?_) rfl (by kernel_rfl) (by kernel_rfl) (by kernel_rfl) (fun _ _ _ h => h) (Or.inl ⟨by rfl, ?_⟩) (by assumption) ?_; (case' refine_2 => (intro w hSw; go_simp; try with_reducible rfl)); (try simp only [Act.put, List.getElem_toArray, List.getElem_cons_zero, List.getElem_cons_succ, List.setIfInBounds_toArray, List.set_cons_zero, List.set_cons_succ]))
  (refine wpAnyH_take (i := 15) (v := ?_) rfl (by kernel_rfl) (by kernel_rfl) (by kernel_rfl) (fun _ _ _ h => h) (Or.inl ⟨by rfl, ?_⟩) (by assumption) ?_; (case' refine_2 => (intro w hSw; go_simp; try with_reducible rfl)); (try simp only [Act.put, List.getElem_toArray, List.getElem_cons_zero, List.getElem_cons_succ, List.setIfInBounds_toArray, List.set_cons_zero, List.set_cons_succ]))
  (refine wpAnyH_take (i := 16) (v := ?_) rfl (by kernel_rfl) (by kernel_rfl) (by kernel_rfl) (fun _ _ _ h => h) (Or.inl ⟨by rfl, ?_⟩) (by assumption) ?_; (case' refine_2 => (intro w hSw; go_simp; try with_reducible rfl)); (try simp only [Act.put, List.getElem_toArray, List.getElem_cons_zero, List.getElem_cons_succ, List.setIfInBounds_toArray, List.set_cons_zero, List.set_cons_succ]))
  refine wpAnyH_ready (rs := [17, 20]) (by kernel_rfl) (by simp) (AllReadyH.cons rfl (fun K hK => ?_) (AllReadyH.cons rfl (fun K hK => ?_) AllReadyH.nil))
  · skip
    go_simp
    have hb := below_alloc (Below.refl w2.heap.size w2) (.cells #[.int .u8 97] 5)
    have HG := Aside0.mk (show Blk (w2.alloc (.cells #[.int .u8 97] 5)) w2.heap.size _ _ from blk_new _ _)
    have HGz := Aside0.mk (show W.heap.size ≤ w2.heap.size from HB.out.size)
    have n0_ := Aside0.mk (below_step HB.out hb)
    clear HB
    have HB := n0_
    clear n0_
    clear hb
    refine Shut.out hK _ _ (four_cells (HX.out.below HB.out)) (fun hHeld => ?_)
    clear hK K
    (try simp only [Act.put, List.getElem_toArray, List.getElem_cons_zero, List.getElem_cons_succ, List.setIfInBounds_toArray, List.set_cons_zero, List.set_cons_succ])
    obtain ⟨w11, hw2⟩ : ∃ x9, w2.alloc (.cells #[.int .u8 97] 5) = x9 := ⟨_, rfl⟩
    rw [hw2] at HB HG hHeld ⊢
    clear hw2
    obtain ⟨gd, hg⟩ : ∃ g, w2.heap.size = g := ⟨_, rfl⟩
    rw [hg] at HG HGz ⊢
    clear hg
    refine wpAnyH_ready (rs := [18, 20]) (by kernel_rfl) (by simp) (AllReadyH.cons rfl (fun K hK => ?_) (AllReadyH.cons rfl (fun K hK => ?_) AllReadyH.nil))
    · skip
      have hcv := run_mark (P := Try.prog) 1 1 HG.out hu23 hu9
      have hcv2 : (convert 23 23 (.slice (some ⟨gd, 0, none⟩) 1 1)).run Try.prog w11 = .ok (.slice (some ⟨gd, 0, none⟩) 1 1) (w11.freeze ⟨gd, 1, none⟩ 1) := hcv
      clear hcv
      go_simp
      clear hcv2
      have hb := Lib.below_freeze HB.out (p := ⟨gd, 1, none⟩) HGz.out 1
      have HD := Aside0.mk (nums_at .u8 (xs := [97]) (frz_at HG.out 1) rfl (by decide))
      have n0_ := Aside0.mk (hb)
      clear HB
      have HB := n0_
      clear n0_
      clear hb HG
      refine Shut.out hK _ _ (four_cells (HX.out.below HB.out)) (fun hHeld => ?_)
      clear hK K
      (try simp only [Act.put, List.getElem_toArray, List.getElem_cons_zero, List.getElem_cons_succ, List.setIfInBounds_toArray, List.set_cons_zero, List.set_cons_succ])
      obtain ⟨w12, hw2⟩ : ∃ x9, w11.freeze ⟨gd, 1, none⟩ 1 = x9 := ⟨_, rfl⟩
      rw [hw2] at HB HD hHeld ⊢
      clear hw2
      refine wpAnyH_ready (rs := [19, 20]) (by kernel_rfl) (by simp) (AllReadyH.cons rfl (fun K hK => ?_) (AllReadyH.cons rfl (fun K hK => ?_) AllReadyH.nil))
      · skip
        go_simp
        refine (data1_c HD.out).mono ?_
        rintro e w13 ⟨v, rfl, ⟨D2, d2, D3, d3, rfl, ha⟩, hb⟩
        have n0_ := Aside0.mk (below_step HB.out hb)
        clear HB
        have HB := n0_
        clear n0_
        have HA := Aside0.mk ha
        clear ha hb HD
        simp only [exA, List.length_nil, List.length_cons, Nat.zero_add]
        refine Shut.out hK _ _ (four_cells (HX.out.below HB.out)) (fun hHeld => ?_)
        clear hK K
        (try simp only [Act.put, List.getElem_toArray, List.getElem_cons_zero, List.getElem_cons_succ, List.setIfInBounds_toArray, List.set_cons_zero, List.set_cons_succ])
        refine wpAnyH_ready (rs := [20]) (by kernel_rfl) (by simp) (AllReadyH.cons rfl (fun K hK => ?_) AllReadyH.nil)
        · skip
          go_simp
          have hb := below_alloc (Below.refl w13.heap.size w13) (.cells #[.int .u64 7] 22)
          have HM := Aside0.mk (show Blk (w13.alloc (.cells #[.int .u64 7] 22)) w13.heap.size _ _ from blk_new _ _)
          have HMz := Aside0.mk (show W.heap.size ≤ w13.heap.size from HB.out.size)
          have n0_ := Aside0.mk (below_step HB.out hb)
          have n1_ := Aside0.mk (HA.out.below hb)
          clear HB HA
          have HB := n0_
          have HA := n1_
          clear n0_ n1_
          clear hb
          refine Shut.out hK _ _ (four_cells (HX.out.below HB.out)) (fun hHeld => ?_)
          clear hK K
          (try simp only [Act.put, List.getElem_toArray, List.getElem_cons_zero, List.getElem_cons_succ, List.setIfInBounds_toArray, List.set_cons_zero, List.set_cons_succ])
          obtain ⟨w14, hw2⟩ : ∃ x9, w13.alloc (.cells #[.int .u64 7] 22) = x9 := ⟨_, rfl⟩
          rw [hw2] at HB HA HM hHeld ⊢
          clear hw2
          obtain ⟨gm, hg⟩ : ∃ g, w13.heap.size = g := ⟨_, rfl⟩
          rw [hg] at HM HMz ⊢
          clear hg
          refine wpAnyH_ready (rs := [21]) (by kernel_rfl) (by simp) (AllReadyH.cons rfl (fun K hK => ?_) AllReadyH.nil)
          go_simp
          refine (grd7_c _ (HR.out.below HB.out) HA.out (nums_at .u64 (xs := [7]) HM.out rfl (by decide))).mono ?_
          rintro e w4 ⟨rfl, hb⟩
          have HBE := Aside0.mk (below_step HB.out hb)
          clear hb
          refine Shut.out hK _ _ (four_cells (HX.out.below HBE.out)) (fun hHeld => ?_)
          clear hK K
          (try simp only [Act.put, List.getElem_toArray, List.getElem_cons_zero, List.getElem_cons_succ, List.setIfInBounds_toArray, List.set_cons_zero, List.set_cons_succ])
          (refine wpAnyH_take (i := 22) (v := ?_) rfl (by kernel_rfl) (by kernel_rfl) (by kernel_rfl) (fun _ _ _ h => h) (Or.inl ⟨by rfl, ?_⟩) (by assumption) ?_; (case' refine_2 => (intro w hSw; go_simp; try with_reducible rfl)); (try simp only [Act.put, List.getElem_toArray, List.getElem_cons_zero, List.getElem_cons_succ, List.setIfInBounds_toArray, List.set_cons_zero, List.set_cons_succ]))
          (refine wpAnyH_take (i := 23) (v := ?_) rfl (by kernel_rfl) (by kernel_rfl) (by kernel_rfl) (fun _ _ _ h => h) (Or.inl ⟨by rfl, ?_⟩) (by assumption) ?_; (case' refine_2 => (intro w hSw; go_simp; try with_reducible rfl)); (try simp only [Act.put, List.getElem_toArray, List.getElem_cons_zero, List.getElem_cons_succ, List.setIfInBounds_toArray, List.set_cons_zero, List.set_cons_succ]))
          refine wpAnyH_done (by kernel_rfl) ?_ _
          go_wp2_with (fail)
          go_ret
          exact ⟨rfl, below_step HB0.out HBE.out⟩
      · skip
        go_simp
        have hb := below_alloc (Below.refl w12.heap.size w12) (.cells #[.int .u64 7] 22)
        have HM := Aside0.mk (show Blk (w12.alloc (.cells #[.int .u64 7] 22)) w12.heap.size _ _ from blk_new _ _)
        have HMz := Aside0.mk (show W.heap.size ≤ w12.heap.size from HB.out.size)
        have n0_ := Aside0.mk (below_step HB.out hb)
        have n1_ := Aside0.mk (Kd.C_below HD.out hb)
        clear HB HD
        have HB := n0_
        have HD := n1_
        clear n0_ n1_
        clear hb
        refine Shut.out hK _ _ (four_cells (HX.out.below HB.out)) (fun hHeld => ?_)
        clear hK K
        (try simp only [Act.put, List.getElem_toArray, List.getElem_cons_zero, List.getElem_cons_succ, List.setIfInBounds_toArray, List.set_cons_zero, List.set_cons_succ])
        obtain ⟨w13, hw2⟩ : ∃ x9, w12.alloc (.cells #[.int .u64 7] 22) = x9 := ⟨_, rfl⟩
        rw [hw2] at HB HD HM hHeld ⊢
        clear hw2
        obtain ⟨gm, hg⟩ : ∃ g, w12.heap.size = g := ⟨_, rfl⟩
        rw [hg] at HM HMz ⊢
        clear hg
        refine wpAnyH_ready (rs := [19]) (by kernel_rfl) (by simp) (AllReadyH.cons rfl (fun K hK => ?_) AllReadyH.nil)
        · skip
          go_simp
          refine (data1_c HD.out).mono ?_
          rintro e w14 ⟨v, rfl, ⟨D2, d2, D3, d3, rfl, ha⟩, hb⟩
          have n0_ := Aside0.mk (below_step HB.out hb)
          have n1_ := Aside0.mk (HM.out.below hb)
          clear HB HM
          have HB := n0_
          have HM := n1_
          clear n0_ n1_
          have HA := Aside0.mk ha
          clear ha hb HD
          simp only [exA, List.length_nil, List.length_cons, Nat.zero_add]
          refine Shut.out hK _ _ (four_cells (HX.out.below HB.out)) (fun hHeld => ?_)
          clear hK K
          (try simp only [Act.put, List.getElem_toArray, List.getElem_cons_zero, List.getElem_cons_succ, List.setIfInBounds_toArray, List.set_cons_zero, List.set_cons_succ])
          refine wpAnyH_ready (rs := [21]) (by kernel_rfl) (by simp) (AllReadyH.cons rfl (fun K hK => ?_) AllReadyH.nil)
          go_simp
          refine (grd7_c _ (HR.out.below HB.out) HA.out (nums_at .u64 (xs := [7]) HM.out rfl (by decide))).mono ?_
          rintro e w4 ⟨rfl, hb⟩
          have HBE := Aside0.mk (below_step HB.out hb)
          clear hb
          refine Shut.out hK _ _ (four_cells (HX.out.below HBE.out)) (fun hHeld => ?_)
          clear hK K
          (try simp only [Act.put, List.getElem_toArray, List.getElem_cons_zero, List.getElem_cons_succ, List.setIfInBounds_toArray, List.set_cons_zero, List.set_cons_succ])
          (refine wpAnyH_take (i := 22) (v := ?_) rfl (by kernel_rfl) (by kernel_rfl) (by kernel_rfl) (fun _ _ _ h => h) (Or.inl ⟨by rfl, ?_⟩) (by assumption) ?_; (case' refine_2 => (intro w hSw; go_simp; try with_reducible rfl)); (try simp only [Act.put, List.getElem_toArray, List.getElem_cons_zero, List.getElem_cons_succ, List.setIfInBounds_toArray, List.set_cons_zero, List.set_cons_succ]))
          (refine wpAnyH_take (i := 23) (v := ?_) rfl (by kernel_rfl) (by kernel_rfl) (by kernel_rfl) (fun _ _ _ h => h) (Or.inl ⟨by rfl, ?_⟩) (by assumption) ?_; (case' refine_2 => (intro w hSw; go_simp; try with_reducible rfl)); (try simp only [Act.put, List.getElem_toArray, List.getElem_cons_zero, List.getElem_cons_succ, List.setIfInBounds_toArray, List.set_cons_zero, List.set_cons_succ]))
          refine wpAnyH_done (by kernel_rfl) ?_ _
          go_wp2_with (fail)
          go_ret
          exact ⟨rfl, below_step HB0.out HBE.out⟩
    · skip
      go_simp
      have hb := below_alloc (Below.refl w11.heap.size w11) (.cells #[.int .u64 7] 22)
      have HM := Aside0.mk (show Blk (w11.alloc (.cells #[.int .u64 7] 22)) w11.heap.size _ _ from blk_new _ _)
      have HMz := Aside0.mk (show W.heap.size ≤ w11.heap.size from HB.out.size)
      have HNHGHM := Aside0.mk (show gd ≠ w11.heap.size from by have := HG.out.lt; omega)
      have n0_ := Aside0.mk (below_step HB.out hb)
      have n1_ := Aside0.mk (HG.out.below hb)
      clear HB HG
      have HB := n0_
      have HG := n1_
      clear n0_ n1_
      clear hb
      refine Shut.out hK _ _ (four_cells (HX.out.below HB.out)) (fun hHeld => ?_)
      clear hK K
      (try simp only [Act.put, List.getElem_toArray, List.getElem_cons_zero, List.getElem_cons_succ, List.setIfInBounds_toArray, List.set_cons_zero, List.set_cons_succ])
      obtain ⟨w12, hw2⟩ : ∃ x9, w11.alloc (.cells #[.int .u64 7] 22) = x9 := ⟨_, rfl⟩
      rw [hw2] at HB HG HM hHeld ⊢
      clear hw2
      obtain ⟨gm, hg⟩ : ∃ g, w11.heap.size = g := ⟨_, rfl⟩
      rw [hg] at HM HMz HNHGHM ⊢
      clear hg
      refine wpAnyH_ready (rs := [18]) (by kernel_rfl) (by simp) (AllReadyH.cons rfl (fun K hK => ?_) AllReadyH.nil)
      · skip
        have hcv := run_mark (P := Try.prog) 1 1 HG.out hu23 hu9
        have hcv2 : (convert 23 23 (.slice (some ⟨gd, 0, none⟩) 1 1)).run Try.prog w12 = .ok (.slice (some ⟨gd, 0, none⟩) 1 1) (w12.freeze ⟨gd, 1, none⟩ 1) := hcv
        clear hcv
        go_simp
        clear hcv2
        have hb := Lib.below_freeze HB.out (p := ⟨gd, 1, none⟩) HGz.out 1
        have HD := Aside0.mk (nums_at .u8 (xs := [97]) (frz_at HG.out 1) rfl (by decide))
        have n0_ := Aside0.mk (hb)
        have n1_ := Aside0.mk (frz_blk (p := ⟨gd, 1, none⟩) HM.out (by first | exact HNHGHM.out | exact fun e => HNHMHG.out e.symm) 1)
        clear HB HM
        have HB := n0_
        have HM := n1_
        clear n0_ n1_
        clear hb HG
        refine Shut.out hK _ _ (four_cells (HX.out.below HB.out)) (fun hHeld => ?_)
        clear hK K
        (try simp only [Act.put, List.getElem_toArray, List.getElem_cons_zero, List.getElem_cons_succ, List.setIfInBounds_toArray, List.set_cons_zero, List.set_cons_succ])
        obtain ⟨w13, hw2⟩ : ∃ x9, w12.freeze ⟨gd, 1, none⟩ 1 = x9 := ⟨_, rfl⟩
        rw [hw2] at HB HM HD hHeld ⊢
        clear hw2
        refine wpAnyH_ready (rs := [19]) (by kernel_rfl) (by simp) (AllReadyH.cons rfl (fun K hK => ?_) AllReadyH.nil)
        · skip
          go_simp
          refine (data1_c HD.out).mono ?_
          rintro e w14 ⟨v, rfl, ⟨D2, d2, D3, d3, rfl, ha⟩, hb⟩
          have n0_ := Aside0.mk (below_step HB.out hb)
          have n1_ := Aside0.mk (HM.out.below hb)
          clear HB HM
          have HB := n0_
          have HM := n1_
          clear n0_ n1_
          have HA := Aside0.mk ha
          clear ha hb HD
          simp only [exA, List.length_nil, List.length_cons, Nat.zero_add]
          refine Shut.out hK _ _ (four_cells (HX.out.below HB.out)) (fun hHeld => ?_)
          clear hK K
          (try simp only [Act.put, List.getElem_toArray, List.getElem_cons_zero, List.getElem_cons_succ, List.setIfInBounds_toArray, List.set_cons_zero, List.set_cons_succ])
          refine wpAnyH_ready (rs := [21]) (by kernel_rfl) (by simp) (AllReadyH.cons rfl (fun K hK => ?_) AllReadyH.nil)
          go_simp
          refine (grd7_c _ (HR.out.below HB.out) HA.out (nums_at .u64 (xs := [7]) HM.out rfl (by decide))).mono ?_
          rintro e w4 ⟨rfl, hb⟩
          have HBE := Aside0.mk (below_step HB.out hb)
          clear hb
          refine Shut.out hK _ _ (four_cells (HX.out.below HBE.out)) (fun hHeld => ?_)
          clear hK K
          (try simp only [Act.put, List.getElem_toArray, List.getElem_cons_zero, List.getElem_cons_succ, List.setIfInBounds_toArray, List.set_cons_zero, List.set_cons_succ])
          (refine wpAnyH_take (i := 22) (v := ?_) rfl (by kernel_rfl) (by kernel_rfl) (by kernel_rfl) (fun _ _ _ h => h) (Or.inl ⟨by rfl, ?_⟩) (by assumption) ?_; (case' refine_2 => (intro w hSw; go_simp; try with_reducible rfl)); (try simp only [Act.put, List.getElem_toArray, List.getElem_cons_zero, List.getElem_cons_succ, List.setIfInBounds_toArray, List.set_cons_zero, List.set_cons_succ]))
          (refine wpAnyH_take (i := 23) (v := ?_) rfl (by kernel_rfl) (by kernel_rfl) (by kernel_rfl) (fun _ _ _ h => h) (Or.inl ⟨by rfl, ?_⟩) (by assumption) ?_; (case' refine_2 => (intro w hSw; go_simp; try with_reducible rfl)); (try simp only [Act.put, List.getElem_toArray, List.getElem_cons_zero, List.getElem_cons_succ, List.setIfInBounds_toArray, List.set_cons_zero, List.set_cons_succ]))
          refine wpAnyH_done (by kernel_rfl) ?_ _
          go_wp2_with (fail)
          go_ret
          exact ⟨rfl, below_step HB0.out HBE.out⟩
  · skip
    go_simp
    have hb := below_alloc (Below.refl w2.heap.size w2) (.cells #[.int .u64 7] 22)
    have HM := Aside0.mk (show Blk (w2.alloc (.cells #[.int .u64 7] 22)) w2.heap.size _ _ from blk_new _ _)
    have HMz := Aside0.mk (show W.heap.size ≤ w2.heap.size from HB.out.size)
    have n0_ := Aside0.mk (below_step HB.out hb)
    clear HB
    have HB := n0_
    clear n0_
    clear hb
    refine Shut.out hK _ _ (four_cells (HX.out.below HB.out)) (fun hHeld => ?_)
    clear hK K
    (try simp only [Act.put, List.getElem_toArray, List.getElem_cons_zero, List.getElem_cons_succ, List.setIfInBounds_toArray, List.set_cons_zero, List.set_cons_succ])
    obtain ⟨w11, hw2⟩ : ∃ x9, w2.alloc (.cells #[.int .u64 7] 22) = x9 := ⟨_, rfl⟩
    rw [hw2] at HB HM hHeld ⊢
    clear hw2
    obtain ⟨gm, hg⟩ : ∃ g, w2.heap.size = g := ⟨_, rfl⟩
    rw [hg] at HM HMz ⊢
    clear hg
    refine wpAnyH_ready (rs := [17]) (by kernel_rfl) (by simp) (AllReadyH.cons rfl (fun K hK => ?_) AllReadyH.nil)
    · skip
      go_simp
      have hb := below_alloc (Below.refl w11.heap.size w11) (.cells #[.int .u8 97] 5)
      have HG := Aside0.mk (show Blk (w11.alloc (.cells #[.int .u8 97] 5)) w11.heap.size _ _ from blk_new _ _)
      have HGz := Aside0.mk (show W.heap.size ≤ w11.heap.size from HB.out.size)
      have HNHMHG := Aside0.mk (show gm ≠ w11.heap.size from by have := HM.out.lt; omega)
      have n0_ := Aside0.mk (below_step HB.out hb)
      have n1_ := Aside0.mk (HM.out.below hb)
      clear HB HM
      have HB := n0_
      have HM := n1_
      clear n0_ n1_
      clear hb
      refine Shut.out hK _ _ (four_cells (HX.out.below HB.out)) (fun hHeld => ?_)
      clear hK K
      (try simp only [Act.put, List.getElem_toArray, List.getElem_cons_zero, List.getElem_cons_succ, List.setIfInBounds_toArray, List.set_cons_zero, List.set_cons_succ])
      obtain ⟨w12, hw2⟩ : ∃ x9, w11.alloc (.cells #[.int .u8 97] 5) = x9 := ⟨_, rfl⟩
      rw [hw2] at HB HM HG hHeld ⊢
      clear hw2
      obtain ⟨gd, hg⟩ : ∃ g, w11.heap.size = g := ⟨_, rfl⟩
      rw [hg] at HG HGz HNHMHG ⊢
      clear hg
      refine wpAnyH_ready (rs := [18]) (by kernel_rfl) (by simp) (AllReadyH.cons rfl (fun K hK => ?_) AllReadyH.nil)
      · skip
        have hcv := run_mark (P := Try.prog) 1 1 HG.out hu23 hu9
        have hcv2 : (convert 23 23 (.slice (some ⟨gd, 0, none⟩) 1 1)).run Try.prog w12 = .ok (.slice (some ⟨gd, 0, none⟩) 1 1) (w12.freeze ⟨gd, 1, none⟩ 1) := hcv
        clear hcv
        go_simp
        clear hcv2
        have hb := Lib.below_freeze HB.out (p := ⟨gd, 1, none⟩) HGz.out 1
        have HD := Aside0.mk (nums_at .u8 (xs := [97]) (frz_at HG.out 1) rfl (by decide))
        have n0_ := Aside0.mk (hb)
        have n1_ := Aside0.mk (frz_blk (p := ⟨gd, 1, none⟩) HM.out (by first | exact HNHGHM.out | exact fun e => HNHMHG.out e.symm) 1)
        clear HB HM
        have HB := n0_
        have HM := n1_
        clear n0_ n1_
        clear hb HG
        refine Shut.out hK _ _ (four_cells (HX.out.below HB.out)) (fun hHeld => ?_)
        clear hK K
        (try simp only [Act.put, List.getElem_toArray, List.getElem_cons_zero, List.getElem_cons_succ, List.setIfInBounds_toArray, List.set_cons_zero, List.set_cons_succ])
        obtain ⟨w13, hw2⟩ : ∃ x9, w12.freeze ⟨gd, 1, none⟩ 1 = x9 := ⟨_, rfl⟩
        rw [hw2] at HB HM HD hHeld ⊢
        clear hw2
        refine wpAnyH_ready (rs := [19]) (by kernel_rfl) (by simp) (AllReadyH.cons rfl (fun K hK => ?_) AllReadyH.nil)
        · skip
          go_simp
          refine (data1_c HD.out).mono ?_
          rintro e w14 ⟨v, rfl, ⟨D2, d2, D3, d3, rfl, ha⟩, hb⟩
          have n0_ := Aside0.mk (below_step HB.out hb)
          have n1_ := Aside0.mk (HM.out.below hb)
          clear HB HM
          have HB := n0_
          have HM := n1_
          clear n0_ n1_
          have HA := Aside0.mk ha
          clear ha hb HD
          simp only [exA, List.length_nil, List.length_cons, Nat.zero_add]
          refine Shut.out hK _ _ (four_cells (HX.out.below HB.out)) (fun hHeld => ?_)
          clear hK K
          (try simp only [Act.put, List.getElem_toArray, List.getElem_cons_zero, List.getElem_cons_succ, List.setIfInBounds_toArray, List.set_cons_zero, List.set_cons_succ])
          refine wpAnyH_ready (rs := [21]) (by kernel_rfl) (by simp) (AllReadyH.cons rfl (fun K hK => ?_) AllReadyH.nil)
          go_simp
          refine (grd7_c _ (HR.out.below HB.out) HA.out (nums_at .u64 (xs := [7]) HM.out rfl (by decide))).mono ?_
          rintro e w4 ⟨rfl, hb⟩
          have HBE := Aside0.mk (below_step HB.out hb)
          clear hb
          refine Shut.out hK _ _ (four_cells (HX.out.below HBE.out)) (fun hHeld => ?_)
          clear hK K
          (try simp only [Act.put, List.getElem_toArray, List.getElem_cons_zero, List.getElem_cons_succ, List.setIfInBounds_toArray, List.set_cons_zero, List.set_cons_succ])
          (refine wpAnyH_take (i := 22) (v := ?_) rfl (by kernel_rfl) (by kernel_rfl) (by kernel_rfl) (fun _ _ _ h => h) (Or.inl ⟨by rfl, ?_⟩) (by assumption) ?_; (case' refine_2 => (intro w hSw; go_simp; try with_reducible rfl)); (try simp only [Act.put, List.getElem_toArray, List.getElem_cons_zero, List.getElem_cons_succ, List.setIfInBounds_toArray, List.set_cons_zero, List.set_cons_succ]))
          (refine wpAnyH_take (i := 23) (v := ?_) rfl (by kernel_rfl) (by kernel_rfl) (by kernel_rfl) (fun _ _ _ h => h) (Or.inl ⟨by rfl, ?_⟩) (by assumption) ?_; (case' refine_2 => (intro w hSw; go_simp; try with_reducible rfl)); (try simp only [Act.put, List.getElem_toArray, List.getElem_cons_zero, List.getElem_cons_succ, List.setIfInBounds_toArray, List.set_cons_zero, List.set_cons_succ]))
          refine wpAnyH_done (by kernel_rfl) ?_ _
          go_wp2_with (fail)
          go_ret
          exact ⟨rfl, below_step HB0.out HBE.out⟩
end Go.Proofs.Ytgohmganimamcaa.Term
/- The example of layer 6 in the printed functions' form. -/
namespace Go.Proofs.Ytgohmganimamcaa.PZ
set_option linter.unusedVariables false
open Go.RowKit Go.Proofs.YtgohmganimamcaaW.PrintWords Go.Proofs.Ytgohmganimamcaa.Term
def hanaperlaw06_live.f : Option Bool := some true
theorem hanaperlaw06_live.calls (r : Bool) (w : World) (h : hanaperlaw06_live.f = some r) : Calls Try.prog 24 #[] w fun e w' => e = .returned (.bool r) ∧ Below w.heap.size w w' := by
  obtain rfl := Option.some.inj h
  exact live6_c w
end Go.Proofs.Ytgohmganimamcaa.PZ
-- printed for this claim by a program (pall.sh)
-- mended by fixpz.py
namespace Go.Proofs.Ytgohmganimamcaa.PZ
open Go.RowKit Go.Proofs.YtgohmganimamcaaW.PrintWords Go.Proofs.YtgohmganimamcaaW.PrintLast Go.Proofs.YtgohmganimamcaaW.PrintMore
attribute [local go_sem] max2_int min2_int max_two min_two max_three min_three max_four min_four   -- for this text's walks alone
set_option linter.unusedVariables false
set_option linter.unusedSimpArgs false

/-! ### hanaperlaw06_Small: function 23 -/
mutual
def hanaperlaw06_Small.l0 : Nat → List (S26) → Int → Option (Bool)
 | 0, _, _ => none
 | k + 1, x0, x3 => if x3 < (x0.length : Int) then (hanaperlaw06_Small.j1 k x0 x3 (decide (x3 < 60))) else (hanaperlaw06_Small.j1 k x0 x3 false)
def hanaperlaw06_Small.j1 : Nat → List (S26) → Int → Bool → Option (Bool)
 | 0, _, _, _ => none
 | k + 1, x0, x3, x11 => if x11 = true then (if 0 ≤ x3 then (if x3 < (x0.length : Int) then ((hanaperref05_Small.f k ((rd_T26 x0 x3).f0) ((rd_T26 x0 x3).f1) ((rd_T26 x0 x3).f2) ((rd_T26 x0 x3).f3) 40).bind fun t102 => (if t102 = true then (hanaperlaw06_Small.l0 k x0 (wrap64 (x3 + 1))) else (some false))) else (none)) else (none)) else (some (decide ((x0.length : Int) ≤ 24)))
end
def hanaperlaw06_Small.f (k : Nat) (l0 : List (S26)) : Option (Bool) := hanaperlaw06_Small.l0 k l0 0
set_option maxHeartbeats 8000000 in
set_option maxRecDepth 100000 in
theorem hanaperlaw06_Small.calls (k : Nat) (A0 : Option Addr) (c0 : Nat) (l0 : List (S26)) (r : Bool) (w : World) (hr0 : Kd.C k26 w A0 l0.length l0) (hc0 : l0.length ≤ c0) (h : hanaperlaw06_Small.f k l0 = some r) :
  Calls Try.prog 23 #[.slice A0 l0.length c0] w fun e w' => e = .returned (.bool r) ∧ Below w.heap.size w w' := by
 have hu26 := Try.underlying26
 have HR0 := Aside0.mk hr0
 have HC0 := Aside0.mk hc0
 clear hr0 hc0
 have HB := Aside0.mk (Below.refl w.heap.size w)
 have H : (hanaperlaw06_Small.l0 k l0 0) = some r := h
 clear h
 have H' := Aside0.mk H
 clear H
 go_enter Try.func23, Try.ntmps23
 go_wp2
 go_loopg [3] k (fun kq v3 w' => ∃ (x3_1 : Int), v3 = .int .i64 x3_1 ∧ Aside0 (hanaperlaw06_Small.l0 kq l0 x3_1 = some r) ∧ Aside0 (kq ≤ k) ∧ Aside0 (Below w.heap.size w w'))
 case atStart => exact ⟨(0), (by first | rfl | (simp; done) | (simp [*]; done)), H', ⟨Nat.le_refl _⟩, ⟨by repeat (first | (with_reducible first | exact HB.out | apply below_alloc | apply pw_below_drewN | apply below_drew1) | exact HB.out)⟩⟩
 case round =>
  clear H'
  obtain ⟨x3_1, rfl, HA, HK1, HB⟩ := hrel
  cases gk with
  | zero => exact absurd HA.out (by simp [hanaperlaw06_Small.l0])
  | succ k1 =>
   have H := HA.out
   clear HA
   simp only [hanaperlaw06_Small.l0] at H
   have HC2 := Aside0.mk H
   clear H
   go_upto_region 2 with (fail)
   go_cut [11] (fun v11 wc => ∃ (kq : Nat) (x11_1 : Bool), v11 = .bool x11_1 ∧ Aside0 (hanaperlaw06_Small.j1 kq l0 x3_1 x11_1 = some r) ∧ Aside0 (kq ≤ k1) ∧ Aside0 (Below w.heap.size w wc))
   case first =>
    have H := HC2.out
    clear HC2
    by_cases c3 : x3_1 < (l0.length : Int)
    ·rw [if_pos c3] at H
     have c3b0 : decide (x3_1 < (l0.length : Int)) = true := decide_eq_true c3
     clear c3
     (first | rw [c3b0] | (simp only [i64_w, i32_w]; rw [c3b0]) | skip)
     have H' := Aside0.mk H
     clear H
     go_wp2
     go_meet
     case rel => exact ⟨_, (decide (x3_1 < 60)), (by first | rfl | (simp; done) | (simp [*]; done)), H', ⟨by have := HK1.out; first | omega | exact Nat.le_refl _⟩, ⟨by repeat (first | (with_reducible first | exact HB.out | apply below_alloc | apply pw_below_drewN | apply below_drew1) | exact HB.out)⟩⟩
    ·rw [if_neg c3] at H
     have c3b0 : decide (x3_1 < (l0.length : Int)) = false := decide_eq_false c3
     clear c3
     (first | rw [c3b0] | (simp only [i64_w, i32_w]; rw [c3b0]) | skip)
     have H' := Aside0.mk H
     clear H
     go_wp2
     go_meet
     case rel => exact ⟨_, (false), (by first | rfl | (simp; done) | (simp [*]; done)), H', ⟨by have := HK1.out; first | omega | exact Nat.le_refl _⟩, ⟨by repeat (first | (with_reducible first | exact HB.out | apply below_alloc | apply pw_below_drewN | apply below_drew1) | exact HB.out)⟩⟩
   case rest =>
    clear HC2
    (try clear c2);(try clear p2);(try clear c3);(try clear c3b0)
    obtain ⟨kq, x11_1, rfl, HA, HJ1, HB⟩ := hcut
    cases kq with
    | zero => exact absurd HA.out (by simp [hanaperlaw06_Small.j1])
    | succ kj1 =>
     have H := HA.out
     clear HA
     simp only [hanaperlaw06_Small.j1] at H
     by_cases c4 : x11_1 = true
     ·subst c4
      have H1 : (if 0 ≤ x3_1 then (if x3_1 < (l0.length : Int) then ((hanaperref05_Small.f kj1 ((rd_T26 l0 x3_1).f0) ((rd_T26 l0 x3_1).f1) ((rd_T26 l0 x3_1).f2) ((rd_T26 l0 x3_1).f3) 40).bind fun t102 => (if t102 = true then (hanaperlaw06_Small.l0 kj1 l0 (wrap64 (x3_1 + 1))) else (some false))) else (none)) else (none)) = some r := by rw [if_pos rfl] at H; exact H
      clear H
      have H := H1
      clear H1
      by_cases c5 : 0 ≤ x3_1
      ·rw [if_pos c5] at H
       have c5b0 : decide (0 ≤ x3_1) = true := decide_eq_true c5
       clear c5
       by_cases c6 : x3_1 < (l0.length : Int)
       ·rw [if_pos c6] at H
        have c6b0 : decide (x3_1 < (l0.length : Int)) = true := decide_eq_true c6
        clear c6
        replace H := Option.bind_eq_some_iff.mp H
        obtain ⟨t102, A70, H⟩ := H
        replace H : (if t102 = true then (hanaperlaw06_Small.l0 kj1 l0 (wrap64 (x3_1 + 1))) else (some false)) = some r := H
        have A7 := Aside0.mk A70
        clear A70
        by_cases c8 : t102 = true
        ·subst c8
         have H1 : (hanaperlaw06_Small.l0 kj1 l0 (wrap64 (x3_1 + 1))) = some r := by rw [if_pos rfl] at H; exact H
         clear H
         have H := H1
         clear H1
         have H' := Aside0.mk H
         clear H
         have p101 : 0 ≤ (x3_1 : Int) := of_decide_eq_true (by first | (with_reducible assumption) | assumption)
         have q101 : x3_1 < (l0.length : Int) := of_decide_eq_true (by first | (with_reducible assumption) | assumption)
         obtain ⟨ad101, A101_2, c101_2, A101_3, c101_3, e101, hx101_0, hx101_1, hx101_2, hx101_3, hl101_2, hi101_2, hl101_3, hi101_3⟩ := at_T26 HR0.out x3_1 p101 q101
         cases e101
         replace hx101_0 := (HB.out.cell (World.block_lt_of_cell? w _ hx101_0)).trans hx101_0
         replace hx101_1 := (HB.out.cell (World.block_lt_of_cell? w _ hx101_1)).trans hx101_1
         replace hx101_2 := (HB.out.cell (World.block_lt_of_cell? w _ hx101_2)).trans hx101_2
         replace hx101_3 := (HB.out.cell (World.block_lt_of_cell? w _ hx101_3)).trans hx101_3
         have HR101_2 := Aside0.mk hi101_2
         have HC101_2 := Aside0.mk hl101_2
         clear hi101_2 hl101_2
         have HR101_3 := Aside0.mk hi101_3
         have HC101_3 := Aside0.mk hl101_3
         clear hi101_3 hl101_3
         replace p101 := eq_true p101
         replace q101 := eq_true q101
         go_wp2_with (first | ((with_reducible refine gate_callee (f := 10) rfl ?_); refine goesL_ (some 18) rfl rfl Try.func10 (by kernel_rfl) rfl #[.agg #[.int .i64 ((rd_T26 l0 x3_1).f0), .int .u64 ((rd_T26 l0 x3_1).f1), .slice A101_2 ((rd_T26 l0 x3_1).f2).length c101_2, .slice A101_3 ((rd_T26 l0 x3_1).f3).length c101_3], .int .i64 40] rfl (by (try simp only [List.map_toArray, List.map_cons, List.map_nil]); first | done | rfl | (simp only [List.length_drop, List.length_take]; rfl)) ?_; (with_reducible refine (hanaperref05_Small.calls kj1 ((rd_T26 l0 x3_1).f0) ((rd_T26 l0 x3_1).f1) _ _ ((rd_T26 l0 x3_1).f2) _ _ ((rd_T26 l0 x3_1).f3) 40 true _ ?side1 ?side2 ?side3 ?side4 A7.out).mono ?_); (case side1 => repeat (first | exact (Kd.C_below HR101_2.out HB.out) | (with_reducible refine Kd.C_alloc ?_ _) | (with_reducible refine Kd.C_drewN ?_ _) | (with_reducible refine Kd.C_drew ?_))); (case side2 => exact HC101_2.out); (case side3 => repeat (first | exact (Kd.C_below HR101_3.out HB.out) | (with_reducible refine Kd.C_alloc ?_ _) | (with_reducible refine Kd.C_drewN ?_ _) | (with_reducible refine Kd.C_drew ?_))); (case side4 => exact HC101_3.out); rintro e w9 ⟨rfl, hb⟩; refine ⟨_, rfl, ?_⟩; have n0_ := Aside0.mk (below_step (by repeat (first | (with_reducible first | exact HB.out | apply below_alloc | apply pw_below_drewN | apply below_drew1) | exact HB.out)) hb); clear HB; have HB := n0_; clear n0_; (try clear hb); (try clear hb2); (try clear hk); (try clear hi)))
         go_roundg kj1
         case measure => have := HK1.out; have := HJ1.out; omega
         case rel => exact ⟨(wrap64 (x3_1 + 1)), (by first | rfl | (simp; done) | (simp [*]; done)), H', ⟨by have := HK1.out; have := HJ1.out; omega⟩, ⟨by repeat (first | (with_reducible first | exact HB.out | apply below_alloc | apply pw_below_drewN | apply below_drew1) | exact HB.out)⟩⟩
        ·replace c8 := Bool.eq_false_iff.mpr c8
         subst c8
         have H1 : (some false) = some r := by rw [if_neg (show ¬ (false = true) by decide)] at H; exact H
         clear H
         have H := H1
         clear H1
         obtain rfl := Option.some.inj H
         have p101 : 0 ≤ (x3_1 : Int) := of_decide_eq_true (by first | (with_reducible assumption) | assumption)
         have q101 : x3_1 < (l0.length : Int) := of_decide_eq_true (by first | (with_reducible assumption) | assumption)
         obtain ⟨ad101, A101_2, c101_2, A101_3, c101_3, e101, hx101_0, hx101_1, hx101_2, hx101_3, hl101_2, hi101_2, hl101_3, hi101_3⟩ := at_T26 HR0.out x3_1 p101 q101
         cases e101
         replace hx101_0 := (HB.out.cell (World.block_lt_of_cell? w _ hx101_0)).trans hx101_0
         replace hx101_1 := (HB.out.cell (World.block_lt_of_cell? w _ hx101_1)).trans hx101_1
         replace hx101_2 := (HB.out.cell (World.block_lt_of_cell? w _ hx101_2)).trans hx101_2
         replace hx101_3 := (HB.out.cell (World.block_lt_of_cell? w _ hx101_3)).trans hx101_3
         have HR101_2 := Aside0.mk hi101_2
         have HC101_2 := Aside0.mk hl101_2
         clear hi101_2 hl101_2
         have HR101_3 := Aside0.mk hi101_3
         have HC101_3 := Aside0.mk hl101_3
         clear hi101_3 hl101_3
         replace p101 := eq_true p101
         replace q101 := eq_true q101
         go_wp2_with (first | ((with_reducible refine gate_callee (f := 10) rfl ?_); refine goesL_ (some 18) rfl rfl Try.func10 (by kernel_rfl) rfl #[.agg #[.int .i64 ((rd_T26 l0 x3_1).f0), .int .u64 ((rd_T26 l0 x3_1).f1), .slice A101_2 ((rd_T26 l0 x3_1).f2).length c101_2, .slice A101_3 ((rd_T26 l0 x3_1).f3).length c101_3], .int .i64 40] rfl (by (try simp only [List.map_toArray, List.map_cons, List.map_nil]); first | done | rfl | (simp only [List.length_drop, List.length_take]; rfl)) ?_; (with_reducible refine (hanaperref05_Small.calls kj1 ((rd_T26 l0 x3_1).f0) ((rd_T26 l0 x3_1).f1) _ _ ((rd_T26 l0 x3_1).f2) _ _ ((rd_T26 l0 x3_1).f3) 40 false _ ?side1 ?side2 ?side3 ?side4 A7.out).mono ?_); (case side1 => repeat (first | exact (Kd.C_below HR101_2.out HB.out) | (with_reducible refine Kd.C_alloc ?_ _) | (with_reducible refine Kd.C_drewN ?_ _) | (with_reducible refine Kd.C_drew ?_))); (case side2 => exact HC101_2.out); (case side3 => repeat (first | exact (Kd.C_below HR101_3.out HB.out) | (with_reducible refine Kd.C_alloc ?_ _) | (with_reducible refine Kd.C_drewN ?_ _) | (with_reducible refine Kd.C_drew ?_))); (case side4 => exact HC101_3.out); rintro e w10 ⟨rfl, hb⟩; refine ⟨_, rfl, ?_⟩; have n0_ := Aside0.mk (below_step (by repeat (first | (with_reducible first | exact HB.out | apply below_alloc | apply pw_below_drewN | apply below_drew1) | exact HB.out)) hb); clear HB; have HB := n0_; clear n0_; (try clear hb); (try clear hb2); (try clear hk); (try clear hi)))
         go_ret
         exact ⟨by first | rfl | (simp [errW_none, errW_some] <;> rfl) | (simp [*, errW_none, errW_some] <;> rfl), by repeat (first | (with_reducible first | exact HB.out | apply below_alloc | apply pw_below_drewN | apply below_drew1) | exact HB.out)⟩
       ·rw [if_neg c6] at H
        exact absurd H (by simp)
      ·rw [if_neg c5] at H
       exact absurd H (by simp)
     ·replace c4 := Bool.eq_false_iff.mpr c4
      subst c4
      have H1 : (some (decide ((l0.length : Int) ≤ 24))) = some r := by rw [if_neg (show ¬ (false = true) by decide)] at H; exact H
      clear H
      have H := H1
      clear H1
      obtain rfl := Option.some.inj H
      go_wp2
      go_ret
      exact ⟨by first | rfl | (simp [errW_none, errW_some] <;> rfl) | (simp [*, errW_none, errW_some] <;> rfl), by repeat (first | (with_reducible first | exact HB.out | apply below_alloc | apply pw_below_drewN | apply below_drew1) | exact HB.out)⟩

end Go.Proofs.Ytgohmganimamcaa.PZ
/- What the laws of layer 6 share. -/
namespace Go.Proofs.Ytgohmganimamcaa.Term
set_option linter.unusedVariables false
set_option linter.unusedSimpArgs false
open Go.RowKit Go.Proofs.Ytgohmganimamcaa.Base Go.Proofs.Ytgohmganimamcaa.TlvPlain Go.Proofs.Ytgohmganimamcaa.Lo Go.Proofs.Ytgohmganimamcaa.RdPlain Go.Proofs.Ytgohmganimamcaa.Aid Go.Proofs.Ytgohmganimamcaa.PZ Go.Proofs.YtgohmganimamcaaW.PrintWords Go.Proofs.YtgohmganimamcaaW.PrintLast Go.Proofs.YtgohmganimamcaaW.PrintMore
/-- An argument that is terms. -/
theorem opens_terms : Open.Opens Try.prog 24 (Kd.slice 26 k26) (fun l => ∀ k ∈ l, wfT k) := Open.opens_slice Try.underlying24 (by kernel_rfl) opens_term
theorem small40_ev (x : ST) : ∃ b, Ev (fun k => hanaperref05_Small.f k x.f0 x.f1 x.f2 x.f3 40) b ∧ (b = true → lenT x) := by
  obtain ⟨r, _, _, e, g⟩ := rest_ev2 40 (by omega) x 40 (by omega)
  exact ⟨decide (r ≥ 0), by unfold hanaperref05_Small.f; exact evBind e (now rfl), fun h => g (of_decide_eq_true h)⟩
theorem small6_ev (l : List ST) (hm : l.length ≤ 9223372036854775807) : ∃ b, Ev (fun k => hanaperlaw06_Small.f k l) b ∧ (b = true → l.length ≤ 24 ∧ ∀ x ∈ l, lenT x) := by
  have loop : ∀ (n i : Nat), i + n = 60 → (∀ x ∈ l.take i, lenT x) → ∃ b, Ev (fun k => hanaperlaw06_Small.l0 k l (i : Int)) b ∧ (b = true → l.length ≤ 24 ∧ ∀ x ∈ l, lenT x) := by
    intro n
    have fin : ∀ i : Nat, Ev (fun k => hanaperlaw06_Small.j1 k l (i : Int) false) (decide ((l.length : Int) ≤ 24)) := fun i => Ev.step (fun k => by simp only [hanaperlaw06_Small.j1]; rfl) (neg Bool.false_ne_true (now rfl))
    induction n with
    | zero =>
      intro i hi h
      refine ⟨decide ((l.length : Int) ≤ 24), ?_, fun hd => ?_⟩
      · by_cases c : (i : Int) < (l.length : Int)
        · refine Ev.step (fun k => by simp only [hanaperlaw06_Small.l0]; rfl) (pos c ?_)
          rw [decide_eq_false (show ¬ ((i : Int) < 60) by omega)]
          exact fin i
        · exact Ev.step (fun k => by simp only [hanaperlaw06_Small.l0]; rfl) (neg c (fin i))
      · have := of_decide_eq_true hd
        rw [List.take_of_length_le (by omega)] at h
        exact ⟨by omega, h⟩
    | succ n ih =>
      intro i hi h
      by_cases c : i < l.length
      · obtain ⟨b, hb, hg⟩ := small40_ev l[i]
        have hs : ∀ r, Ev (fun k => if b = true then hanaperlaw06_Small.l0 k l (wrap64 ((i : Int) + 1)) else some false) r → Ev (fun k => hanaperlaw06_Small.l0 k l (i : Int)) r := fun r hr => by
          refine Ev.step (fun k => by simp only [hanaperlaw06_Small.l0]; rfl) (pos (by omega) ?_)
          rw [decide_eq_true (show (i : Int) < 60 by omega)]
          refine Ev.step (fun k => by simp only [hanaperlaw06_Small.j1]; rfl) (pos (show true = true from rfl) (pos (by omega) (pos (by omega) ?_)))
          rw [rd_at l i c]
          exact evBind hb hr
        cases b with
        | false => exact ⟨false, hs false (neg Bool.false_ne_true (now rfl)), fun h => by cases h⟩
        | true =>
          obtain ⟨b, h1, h2⟩ := ih (i + 1) (by omega) (fun x hx => by
            rw [take_snoc l i c, List.mem_append] at hx
            rcases hx with hx | hx
            · exact h x hx
            · simp only [List.mem_singleton] at hx
              rw [hx]; exact hg rfl)
          refine ⟨b, hs _ (pos rfl ?_), h2⟩
          rw [show wrap64 ((i : Int) + 1) = ((i + 1 : Nat) : Int) from by rw [Aid.w64 (by omega) (by omega)]; omega]
          exact h1
      · refine ⟨decide ((l.length : Int) ≤ 24), Ev.step (fun k => by simp only [hanaperlaw06_Small.l0]; rfl) (neg (by omega) (fin i)), fun hd => ?_⟩
        have := of_decide_eq_true hd
        rw [List.take_of_length_le (by omega)] at h
        exact ⟨by omega, h⟩
  exact loop 60 0 rfl (fun x hx => by simp at hx)
theorem close_univ {l : List ST} (hw : ∀ x ∈ l, wfT x) (h0 : rightV l = 0) : (∀ x ∈ closeD l, x ∈ univT l) ∧ (closeD l).length ≤ 2000 := by
  obtain ⟨hm, hu, hl⟩ := rightV_ok h0
  have hU := univ_ok hm hw
  have h1 : DI (univT l) (l.foldl putD []) := fold_di l [] ⟨List.nodup_nil, fun x hx => by cases hx⟩ univ_self
  obtain ⟨h2, _⟩ := closeN_fix hU 2001 _ h1 (by omega)
  exact ⟨h2.2, Nat.le_trans (nodup_le _ _ h2.1 h2.2) hu⟩
theorem close_lenT {l : List ST} (hw : ∀ x ∈ l, wfT x) (h0 : rightV l = 0) (hl : ∀ x ∈ l, lenT x) : ∀ x ∈ closeD l, lenT x := fun x hx => by
  obtain ⟨y, hy, hp⟩ := univ_mem.1 ((close_univ hw h0).1 x hx)
  exact parts_lenT y (hl y hy) x hp
end Go.Proofs.Ytgohmganimamcaa.Term
/- derive.Closure in the printed functions' form (its terms share what came in). -/
namespace Go.Proofs.Ytgohmganimamcaa.PZ
set_option linter.unusedVariables false
open Go.RowKit Go.Proofs.YtgohmganimamcaaW.PrintWords Go.Proofs.YtgohmganimamcaaW.PrintMore Go.Proofs.Ytgohmganimamcaa.Term
def derive_Closure.f (l0 : List (S26)) : Option (List (S26) × Int) := if wfBs l0 = true then some (cloV l0) else none
theorem derive_Closure.calls (P0_ : Nat → Prop) (A0 : Option Addr) (c0 : Nat) (l0 : List (S26)) (r1 : List (S26)) (r2 : Int) (w : World) (hs0 : Kd.V k26 26 w w.heap.size (fun k_ => P0_ k_) (.slice A0 l0.length c0) l0) (h : derive_Closure.f l0 = some (r1, r2)) :
    Calls Try.prog 25 #[.slice A0 l0.length c0] w fun e w' => ∃ v0_ : Value, e = .returned (.tuple #[v0_, .int .i64 r2]) ∧ Kd.N k26 26 w' w.heap.size (fun k_ => (P0_ k_ ∨ w.heap.size ≤ k_)) v0_ r1 ∧ Below w.heap.size w w' := by
  unfold derive_Closure.f at h
  split at h
  · next hc =>
    have e := Option.some.inj h
    have hw := (wfBs_iff l0).1 hc
    obtain ⟨_, h1, h2⟩ := Kd.V_at hs0
    have := clo_n (P := P0_) (l := l0) (fun x hx => wfTs_mem hw hx) A0 c0 w (Kd.F_now h2) h2 h1
    rw [e] at this
    exact this
  · cases h
end Go.Proofs.Ytgohmganimamcaa.PZ
-- printed for this claim by a program (pall.sh)
-- mended by fixpz.py
namespace Go.Proofs.Ytgohmganimamcaa.PZ
open Go.RowKit Go.Proofs.YtgohmganimamcaaW.PrintWords Go.Proofs.YtgohmganimamcaaW.PrintLast Go.Proofs.YtgohmganimamcaaW.PrintMore
attribute [local go_sem] max2_int min2_int max_two min_two max_three min_three max_four min_four   -- for this text's walks alone
set_option linter.unusedVariables false
set_option linter.unusedSimpArgs false

/-! ### hanaperref06_Has: function 31 -/
def hanaperref06_Has.l0 : Nat → List (S26) → Int → Int → Int → List Int → List (S26) → Option (Bool)
 | 0, _, _, _, _, _, _ => none
 | k + 1, x0, x5, x102000, x102001, x102002, x102003 => if x5 < (x0.length : Int) then (if 0 ≤ x5 then ((hanaperref05_Same.f k ((rd_T26 x0 x5).f0) ((rd_T26 x0 x5).f1) ((rd_T26 x0 x5).f2) ((rd_T26 x0 x5).f3) x102000 x102001 x102002 x102003).bind fun t103 => (if t103 = true then (some true) else (hanaperref06_Has.l0 k x0 (wrap64 (x5 + 1)) x102000 x102001 x102002 x102003))) else (none)) else (some false)
def hanaperref06_Has.f (k : Nat) (l0 : List (S26)) (a1_0 : Int) (a1_1 : Int) (l1_2 : List Int) (l1_3 : List (S26)) : Option (Bool) := hanaperref06_Has.l0 k l0 0 a1_0 a1_1 l1_2 l1_3
set_option maxHeartbeats 8000000 in
set_option maxRecDepth 100000 in
theorem hanaperref06_Has.calls (k : Nat) (A0 : Option Addr) (c0 : Nat) (l0 : List (S26)) (a1_0 : Int) (a1_1 : Int) (A1_2 : Option Addr) (c1_2 : Nat) (l1_2 : List Int) (A1_3 : Option Addr) (c1_3 : Nat) (l1_3 : List (S26)) (r : Bool) (w : World) (hr0 : Kd.C k26 w A0 l0.length l0) (hc0 : l0.length ≤ c0) (hr1_2 : Kd.C (Kd.int .u8) w A1_2 l1_2.length l1_2) (hc1_2 : l1_2.length ≤ c1_2) (hr1_3 : Kd.C k26 w A1_3 l1_3.length l1_3) (hc1_3 : l1_3.length ≤ c1_3) (h : hanaperref06_Has.f k l0 a1_0 a1_1 l1_2 l1_3 = some r) :
  Calls Try.prog 31 #[.slice A0 l0.length c0, .agg #[.int .i64 a1_0, .int .u64 a1_1, .slice A1_2 l1_2.length c1_2, .slice A1_3 l1_3.length c1_3]] w fun e w' => e = .returned (.bool r) ∧ Below w.heap.size w w' := by
 have hu26 := Try.underlying26
 have HR0 := Aside0.mk hr0
 have HC0 := Aside0.mk hc0
 clear hr0 hc0
 have HR1_2 := Aside0.mk hr1_2
 have HC1_2 := Aside0.mk hc1_2
 clear hr1_2 hc1_2
 have HR1_3 := Aside0.mk hr1_3
 have HC1_3 := Aside0.mk hc1_3
 clear hr1_3 hc1_3
 have HB := Aside0.mk (Below.refl w.heap.size w)
 have H : (hanaperref06_Has.l0 k l0 0 a1_0 a1_1 l1_2 l1_3) = some r := h
 clear h
 have H' := Aside0.mk H
 clear H
 go_enter Try.func31, Try.ntmps31
 go_wp2_with (first | ((with_reducible refine gate_dst (N := 3) rfl ?_); refine box_event ?hg (N := 3) ?hd (cs := #[.int .i64 a1_0, .int .u64 a1_1, .slice A1_2 l1_2.length c1_2, .slice A1_3 l1_3.length c1_3]) (t := 26) ?hr ?_; (case hd => rfl); (case hg => rfl); (case hr => first | (go_simp; done) | (go_simp; rfl)); intro gb101 hg w3 hbox hb; have n0_ := Aside0.mk (below_step (by repeat (first | (with_reducible first | exact HB.out | apply below_alloc | apply pw_below_drewN | apply below_drew1) | exact HB.out)) hb); have n1_ := Aside0.mk (hbox); have n2_ := Aside0.mk ((by rw [hg]; exact (below_size (by repeat (first | (with_reducible first | exact HB.out | apply below_alloc | apply pw_below_drewN | apply below_drew1) | exact HB.out))) : w.heap.size ≤ gb101)); have n3_ := Aside0.mk ((by rw [hg]; exact (below_size (by repeat (first | (with_reducible first | exact HB.out | apply below_alloc | apply pw_below_drewN | apply below_drew1) | exact HB.out))) : w.heap.size ≤ gb101)); clear HB; have HB := n0_; have BK101 := n1_; have GW101 := n2_; have GE101 := n3_; clear n0_ n1_ n2_ n3_; clear hb hbox hg))
 go_loopg [5] k (fun kq v5 w' => ∃ (x5_1 : Int), v5 = .int .i64 x5_1 ∧ Aside0 (hanaperref06_Has.l0 kq l0 x5_1 a1_0 a1_1 l1_2 l1_3 = some r) ∧ Aside0 (kq ≤ k) ∧ Aside0 (w'.heap[gb101]? = some (.cells #[.int .i64 a1_0, .int .u64 a1_1, (.slice A1_2 l1_2.length c1_2), (.slice A1_3 l1_3.length c1_3)] 26 (0, 0))) ∧ Aside0 (Below w.heap.size w w'))
 case atStart => exact ⟨(0), (by first | rfl | (simp; done) | (simp [*]; done)), H', ⟨Nat.le_refl _⟩, ⟨by (with_reducible repeat (first | refine blk_drewN ?_ _ | refine blk_drew ?_ | refine blk_alloc ?_ _)); exact BK101.out⟩, ⟨by repeat (first | (with_reducible first | exact HB.out | apply below_alloc | apply pw_below_drewN | apply below_drew1 | refine below_set ?_ GE101.out) | exact HB.out)⟩⟩
 case round =>
  clear H'
  (try clear c1);(try clear p2);(try clear c3)
  obtain ⟨x5_1, rfl, HA, HK1, BK101, HB⟩ := hrel
  cases gk with
  | zero => exact absurd HA.out (by simp [hanaperref06_Has.l0])
  | succ k1 =>
   have H := HA.out
   clear HA
   simp only [hanaperref06_Has.l0] at H
   by_cases c4 : x5_1 < (l0.length : Int)
   ·rw [if_pos c4] at H
    have c4b0 : decide (x5_1 < (l0.length : Int)) = true := decide_eq_true c4
    clear c4
    by_cases c5 : 0 ≤ x5_1
    ·rw [if_pos c5] at H
     have c5b0 : decide (0 ≤ x5_1) = true := decide_eq_true c5
     clear c5
     replace H := Option.bind_eq_some_iff.mp H
     obtain ⟨t103, A60, H⟩ := H
     replace H : (if t103 = true then (some true) else (hanaperref06_Has.l0 k1 l0 (wrap64 (x5_1 + 1)) a1_0 a1_1 l1_2 l1_3)) = some r := H
     have A6 := Aside0.mk A60
     clear A60
     by_cases c7 : t103 = true
     ·subst c7
      have H1 : (some true) = some r := by rw [if_pos rfl] at H; exact H
      clear H
      have H := H1
      clear H1
      obtain rfl := Option.some.inj H
      try go_wp2
      have n0_ := Aside0.mk (blk_drew BK101.out)
      have n1_ := Aside0.mk (below_drew1 HB.out)
      clear BK101
      clear HB
      have BK101 := n0_
      have HB := n1_
      clear n0_ n1_
      have p102 : 0 ≤ (x5_1 : Int) := of_decide_eq_true (by first | (with_reducible assumption) | assumption)
      have q102 : x5_1 < (l0.length : Int) := of_decide_eq_true (by first | (with_reducible assumption) | assumption)
      obtain ⟨ad102, A102_2, c102_2, A102_3, c102_3, e102, hx102_0, hx102_1, hx102_2, hx102_3, hl102_2, hi102_2, hl102_3, hi102_3⟩ := at_T26 HR0.out x5_1 p102 q102
      have hw102_3 := hx102_3
      have hw102_2 := hx102_2
      have hw102_1 := hx102_1
      have hw102_0 := hx102_0
      cases e102
      replace hx102_0 := (HB.out.cell (World.block_lt_of_cell? w _ hx102_0)).trans hx102_0
      replace hx102_1 := (HB.out.cell (World.block_lt_of_cell? w _ hx102_1)).trans hx102_1
      replace hx102_2 := (HB.out.cell (World.block_lt_of_cell? w _ hx102_2)).trans hx102_2
      replace hx102_3 := (HB.out.cell (World.block_lt_of_cell? w _ hx102_3)).trans hx102_3
      have HR102_2 := Aside0.mk hi102_2
      have HC102_2 := Aside0.mk hl102_2
      clear hi102_2 hl102_2
      have HR102_3 := Aside0.mk hi102_3
      have HC102_3 := Aside0.mk hl102_3
      clear hi102_3 hl102_3
      replace p102 := eq_true p102
      replace q102 := eq_true q102
      refine start_ (n := 6) (S := fun w' => w'.cell? ⟨gb101, 0, none⟩ = some (.int .i64 a1_0) ∧ w'.cell? ⟨gb101, 1, none⟩ = some (.int .u64 a1_1) ∧ w'.cell? ⟨gb101, 2, none⟩ = some (.slice A1_2 l1_2.length c1_2) ∧ w'.cell? ⟨gb101, 3, none⟩ = some (.slice A1_3 l1_3.length c1_3) ∧ w'.cell? (ad102.add ((x5_1).toNat * 4)) = some (.int .i64 ((rd_T26 l0 x5_1).f0)) ∧ w'.cell? ⟨(ad102.add ((x5_1).toNat * 4)).block, (ad102.add ((x5_1).toNat * 4)).off + 1, none⟩ = some (.int .u64 ((rd_T26 l0 x5_1).f1)) ∧ w'.cell? ⟨(ad102.add ((x5_1).toNat * 4)).block, (ad102.add ((x5_1).toNat * 4)).off + 2, none⟩ = some (.slice A102_2 ((rd_T26 l0 x5_1).f2).length c102_2) ∧ w'.cell? ⟨(ad102.add ((x5_1).toNat * 4)).block, (ad102.add ((x5_1).toNat * 4)).off + 3, none⟩ = some (.slice A102_3 ((rd_T26 l0 x5_1).f3).length c102_3)) (ds := []) #[false, false, false, false, false, false] (by kernel_rfl) rfl rfl ⟨(blk_cell BK101.out 0).trans rfl, (blk_cell BK101.out 1).trans rfl, (blk_cell BK101.out 2).trans rfl, (blk_cell BK101.out 3).trans rfl, ((HB.out.cell (World.block_lt_of_cell? w _ hw102_0)).trans hw102_0), ((HB.out.cell (World.block_lt_of_cell? w _ hw102_1)).trans hw102_1), ((HB.out.cell (World.block_lt_of_cell? w _ hw102_2)).trans hw102_2), ((HB.out.cell (World.block_lt_of_cell? w _ hw102_3)).trans hw102_3)⟩ (fun hHeld => ?_)
      generalize wr.drew = w8 at BK101 HB HR102_2 HR102_3 hx102_0 hx102_1 hx102_2 hx102_3 hHeld ⊢
      refine pure_ (i := 0) (N := some 12) (v := ?_) (a' := ?_) #[true, false, false, false, false, false] rfl rfl (by kernel_rfl) (fun _ _ _ h => h) (Or.inl ⟨by rfl, ?_⟩) ?_ ?_
      rotate_left
      ·intro w'
       go_simp
       with_reducible rfl
      rotate_left
      ·simp only [Act.put, List.setIfInBounds_toArray, List.set_cons_zero, List.set_cons_succ, i64_w, i32_w]
       rfl
      refine pure_ (i := 1) (N := some 13) (v := ?_) (a' := ?_) #[true, true, false, false, false, false] rfl rfl (by kernel_rfl) (fun _ _ _ h => h) (Or.inl ⟨by rfl, ?_⟩) ?_ ?_
      rotate_left
      ·intro w'
       go_simp
       with_reducible rfl
      rotate_left
      ·simp only [Act.put, List.setIfInBounds_toArray, List.set_cons_zero, List.set_cons_succ, i64_w, i32_w]
       rfl
      refine pure_ (i := 2) (N := some 14) (v := ?_) (a' := ?_) #[true, true, true, false, false, false] rfl rfl (by kernel_rfl) (fun _ _ _ h => h) (Or.inl ⟨by rfl, ?_⟩) ?_ ?_
      rotate_left
      ·intro w'
       go_simp
       with_reducible rfl
      rotate_left
      ·simp only [Act.put, List.setIfInBounds_toArray, List.set_cons_zero, List.set_cons_succ, i64_w, i32_w]
       rfl
      refine take_ (i := 3) (N := some 15) (v := ?_) (a' := ?_) #[true, true, true, true, false, false] rfl rfl (by kernel_rfl) (fun _ _ _ h => h) (Or.inl ⟨by rfl, ?_⟩) hHeld ?_ ?_
      rotate_left
      ·rintro w' ⟨s0, s1, s2, s3, s4, s5, s6, s7⟩
       go_simp
       with_reducible rfl
      rotate_left
      ·simp only [Act.put, List.setIfInBounds_toArray, List.set_cons_zero, List.set_cons_succ, i64_w, i32_w]
       rfl
      refine take_ (i := 4) (N := some 16) (v := ?_) (a' := ?_) #[true, true, true, true, true, false] rfl rfl (by kernel_rfl) (fun _ _ _ h => h) (Or.inl ⟨by rfl, ?_⟩) hHeld ?_ ?_
      rotate_left
      ·rintro w' ⟨s0, s1, s2, s3, s4, s5, s6, s7⟩
       go_simp
       with_reducible rfl
      rotate_left
      ·simp only [Act.put, List.setIfInBounds_toArray, List.set_cons_zero, List.set_cons_succ, i64_w, i32_w]
       rfl
      refine one_ (i := 5) (N := some 17) #[true, true, true, true, true, true] rfl rfl (by kernel_rfl) (by decide) (fun K hK => ?_)
      refine goes_ Try.func20 (by kernel_rfl) rfl #[.agg #[.int .i64 ((rd_T26 l0 x5_1).f0), .int .u64 ((rd_T26 l0 x5_1).f1), .slice A102_2 ((rd_T26 l0 x5_1).f2).length c102_2, .slice A102_3 ((rd_T26 l0 x5_1).f3).length c102_3], .agg #[.int .i64 a1_0, .int .u64 a1_1, .slice A1_2 l1_2.length c1_2, .slice A1_3 l1_3.length c1_3]] (by rfl) rfl rfl (by (try simp only [List.map_toArray, List.map_cons, List.map_nil]); first | done | rfl | (simp only [List.length_drop, List.length_take]; rfl)) ?_
      with_reducible refine (hanaperref05_Same.calls k1 ((rd_T26 l0 x5_1).f0) ((rd_T26 l0 x5_1).f1) _ _ ((rd_T26 l0 x5_1).f2) _ _ ((rd_T26 l0 x5_1).f3) a1_0 a1_1 _ _ l1_2 _ _ l1_3 true _ ?side1 ?side2 ?side3 ?side4 ?side5 ?side6 ?side7 ?side8 A6.out).mono ?_
      (case side1 => repeat (first | exact (Kd.C_below HR102_2.out HB.out) | (with_reducible refine Kd.C_alloc ?_ _) | (with_reducible refine Kd.C_drewN ?_ _) | (with_reducible refine Kd.C_drew ?_)))
      (case side2 => exact HC102_2.out)
      (case side3 => repeat (first | exact (Kd.C_below HR102_3.out HB.out) | (with_reducible refine Kd.C_alloc ?_ _) | (with_reducible refine Kd.C_drewN ?_ _) | (with_reducible refine Kd.C_drew ?_)))
      (case side4 => exact HC102_3.out)
      (case side5 => repeat (first | exact (Kd.C_below HR1_2.out HB.out) | (with_reducible refine Kd.C_alloc ?_ _) | (with_reducible refine Kd.C_drewN ?_ _) | (with_reducible refine Kd.C_drew ?_)))
      (case side6 => exact HC1_2.out)
      (case side7 => repeat (first | exact (Kd.C_below HR1_3.out HB.out) | (with_reducible refine Kd.C_alloc ?_ _) | (with_reducible refine Kd.C_drewN ?_ _) | (with_reducible refine Kd.C_drew ?_)))
      (case side8 => exact HC1_3.out)
      rintro e w9 ⟨rfl, hb⟩
      refine ⟨_, rfl, ?_⟩
      have n0_ := Aside0.mk (blk_below (g := gb101) (o := .cells #[.int .i64 a1_0, .int .u64 a1_1, .slice A1_2 l1_2.length c1_2, .slice A1_3 l1_3.length c1_3] 26 (0, 0)) (by (with_reducible repeat (first | refine blk_drewN ?_ _ | refine blk_drew ?_ | refine blk_alloc ?_ _)); exact BK101.out) hb)
      have n1_ := Aside0.mk (below_step (by repeat (first | (with_reducible first | exact HB.out | apply below_alloc | apply pw_below_drewN | apply below_drew1 | refine below_set ?_ GE101.out) | exact HB.out)) hb)
      clear BK101
      clear HB
      have BK101 := n0_
      have HB := n1_
      clear n0_ n1_
      (try clear hb)
      (try clear hb2)
      (try clear hk)
      (try clear hi)
      refine hK.out _ _ ⟨(blk_cell BK101.out 0).trans rfl, (blk_cell BK101.out 1).trans rfl, (blk_cell BK101.out 2).trans rfl, (blk_cell BK101.out 3).trans rfl, ((HB.out.cell (World.block_lt_of_cell? w _ hw102_0)).trans hw102_0), ((HB.out.cell (World.block_lt_of_cell? w _ hw102_1)).trans hw102_1), ((HB.out.cell (World.block_lt_of_cell? w _ hw102_2)).trans hw102_2), ((HB.out.cell (World.block_lt_of_cell? w _ hw102_3)).trans hw102_3)⟩ (fun hHeld => ?_)
      clear hK K
      refine norm_ (a' := ?_) ?_ ?_
      rotate_left
      ·show Act.put _ (some 17) _ = _
       simp only [Act.put, List.setIfInBounds_toArray, List.set_cons_zero, List.set_cons_succ, i64_w, i32_w]
       rfl
      refine done_ (by kernel_rfl) ?_
      try go_wp2
      go_ret
      exact ⟨by first | rfl | (simp [errW_none, errW_some] <;> rfl) | (simp [*, errW_none, errW_some] <;> rfl), by repeat (first | (with_reducible first | exact HB.out | apply below_alloc | apply pw_below_drewN | apply below_drew1 | refine below_set ?_ GE101.out) | exact HB.out)⟩
     ·replace c7 := Bool.eq_false_iff.mpr c7
      subst c7
      have H1 : (hanaperref06_Has.l0 k1 l0 (wrap64 (x5_1 + 1)) a1_0 a1_1 l1_2 l1_3) = some r := by rw [if_neg (show ¬ (false = true) by decide)] at H; exact H
      clear H
      have H := H1
      clear H1
      have H' := Aside0.mk H
      clear H
      try go_wp2
      have n0_ := Aside0.mk (blk_drew BK101.out)
      have n1_ := Aside0.mk (below_drew1 HB.out)
      clear BK101
      clear HB
      have BK101 := n0_
      have HB := n1_
      clear n0_ n1_
      have p102 : 0 ≤ (x5_1 : Int) := of_decide_eq_true (by first | (with_reducible assumption) | assumption)
      have q102 : x5_1 < (l0.length : Int) := of_decide_eq_true (by first | (with_reducible assumption) | assumption)
      obtain ⟨ad102, A102_2, c102_2, A102_3, c102_3, e102, hx102_0, hx102_1, hx102_2, hx102_3, hl102_2, hi102_2, hl102_3, hi102_3⟩ := at_T26 HR0.out x5_1 p102 q102
      have hw102_3 := hx102_3
      have hw102_2 := hx102_2
      have hw102_1 := hx102_1
      have hw102_0 := hx102_0
      cases e102
      replace hx102_0 := (HB.out.cell (World.block_lt_of_cell? w _ hx102_0)).trans hx102_0
      replace hx102_1 := (HB.out.cell (World.block_lt_of_cell? w _ hx102_1)).trans hx102_1
      replace hx102_2 := (HB.out.cell (World.block_lt_of_cell? w _ hx102_2)).trans hx102_2
      replace hx102_3 := (HB.out.cell (World.block_lt_of_cell? w _ hx102_3)).trans hx102_3
      have HR102_2 := Aside0.mk hi102_2
      have HC102_2 := Aside0.mk hl102_2
      clear hi102_2 hl102_2
      have HR102_3 := Aside0.mk hi102_3
      have HC102_3 := Aside0.mk hl102_3
      clear hi102_3 hl102_3
      replace p102 := eq_true p102
      replace q102 := eq_true q102
      refine start_ (n := 6) (S := fun w' => w'.cell? ⟨gb101, 0, none⟩ = some (.int .i64 a1_0) ∧ w'.cell? ⟨gb101, 1, none⟩ = some (.int .u64 a1_1) ∧ w'.cell? ⟨gb101, 2, none⟩ = some (.slice A1_2 l1_2.length c1_2) ∧ w'.cell? ⟨gb101, 3, none⟩ = some (.slice A1_3 l1_3.length c1_3) ∧ w'.cell? (ad102.add ((x5_1).toNat * 4)) = some (.int .i64 ((rd_T26 l0 x5_1).f0)) ∧ w'.cell? ⟨(ad102.add ((x5_1).toNat * 4)).block, (ad102.add ((x5_1).toNat * 4)).off + 1, none⟩ = some (.int .u64 ((rd_T26 l0 x5_1).f1)) ∧ w'.cell? ⟨(ad102.add ((x5_1).toNat * 4)).block, (ad102.add ((x5_1).toNat * 4)).off + 2, none⟩ = some (.slice A102_2 ((rd_T26 l0 x5_1).f2).length c102_2) ∧ w'.cell? ⟨(ad102.add ((x5_1).toNat * 4)).block, (ad102.add ((x5_1).toNat * 4)).off + 3, none⟩ = some (.slice A102_3 ((rd_T26 l0 x5_1).f3).length c102_3)) (ds := []) #[false, false, false, false, false, false] (by kernel_rfl) rfl rfl ⟨(blk_cell BK101.out 0).trans rfl, (blk_cell BK101.out 1).trans rfl, (blk_cell BK101.out 2).trans rfl, (blk_cell BK101.out 3).trans rfl, ((HB.out.cell (World.block_lt_of_cell? w _ hw102_0)).trans hw102_0), ((HB.out.cell (World.block_lt_of_cell? w _ hw102_1)).trans hw102_1), ((HB.out.cell (World.block_lt_of_cell? w _ hw102_2)).trans hw102_2), ((HB.out.cell (World.block_lt_of_cell? w _ hw102_3)).trans hw102_3)⟩ (fun hHeld => ?_)
      generalize wr.drew = w10 at BK101 HB HR102_2 HR102_3 hx102_0 hx102_1 hx102_2 hx102_3 hHeld ⊢
      refine pure_ (i := 0) (N := some 12) (v := ?_) (a' := ?_) #[true, false, false, false, false, false] rfl rfl (by kernel_rfl) (fun _ _ _ h => h) (Or.inl ⟨by rfl, ?_⟩) ?_ ?_
      rotate_left
      ·intro w'
       go_simp
       with_reducible rfl
      rotate_left
      ·simp only [Act.put, List.setIfInBounds_toArray, List.set_cons_zero, List.set_cons_succ, i64_w, i32_w]
       rfl
      refine pure_ (i := 1) (N := some 13) (v := ?_) (a' := ?_) #[true, true, false, false, false, false] rfl rfl (by kernel_rfl) (fun _ _ _ h => h) (Or.inl ⟨by rfl, ?_⟩) ?_ ?_
      rotate_left
      ·intro w'
       go_simp
       with_reducible rfl
      rotate_left
      ·simp only [Act.put, List.setIfInBounds_toArray, List.set_cons_zero, List.set_cons_succ, i64_w, i32_w]
       rfl
      refine pure_ (i := 2) (N := some 14) (v := ?_) (a' := ?_) #[true, true, true, false, false, false] rfl rfl (by kernel_rfl) (fun _ _ _ h => h) (Or.inl ⟨by rfl, ?_⟩) ?_ ?_
      rotate_left
      ·intro w'
       go_simp
       with_reducible rfl
      rotate_left
      ·simp only [Act.put, List.setIfInBounds_toArray, List.set_cons_zero, List.set_cons_succ, i64_w, i32_w]
       rfl
      refine take_ (i := 3) (N := some 15) (v := ?_) (a' := ?_) #[true, true, true, true, false, false] rfl rfl (by kernel_rfl) (fun _ _ _ h => h) (Or.inl ⟨by rfl, ?_⟩) hHeld ?_ ?_
      rotate_left
      ·rintro w' ⟨s0, s1, s2, s3, s4, s5, s6, s7⟩
       go_simp
       with_reducible rfl
      rotate_left
      ·simp only [Act.put, List.setIfInBounds_toArray, List.set_cons_zero, List.set_cons_succ, i64_w, i32_w]
       rfl
      refine take_ (i := 4) (N := some 16) (v := ?_) (a' := ?_) #[true, true, true, true, true, false] rfl rfl (by kernel_rfl) (fun _ _ _ h => h) (Or.inl ⟨by rfl, ?_⟩) hHeld ?_ ?_
      rotate_left
      ·rintro w' ⟨s0, s1, s2, s3, s4, s5, s6, s7⟩
       go_simp
       with_reducible rfl
      rotate_left
      ·simp only [Act.put, List.setIfInBounds_toArray, List.set_cons_zero, List.set_cons_succ, i64_w, i32_w]
       rfl
      refine one_ (i := 5) (N := some 17) #[true, true, true, true, true, true] rfl rfl (by kernel_rfl) (by decide) (fun K hK => ?_)
      refine goes_ Try.func20 (by kernel_rfl) rfl #[.agg #[.int .i64 ((rd_T26 l0 x5_1).f0), .int .u64 ((rd_T26 l0 x5_1).f1), .slice A102_2 ((rd_T26 l0 x5_1).f2).length c102_2, .slice A102_3 ((rd_T26 l0 x5_1).f3).length c102_3], .agg #[.int .i64 a1_0, .int .u64 a1_1, .slice A1_2 l1_2.length c1_2, .slice A1_3 l1_3.length c1_3]] (by rfl) rfl rfl (by (try simp only [List.map_toArray, List.map_cons, List.map_nil]); first | done | rfl | (simp only [List.length_drop, List.length_take]; rfl)) ?_
      with_reducible refine (hanaperref05_Same.calls k1 ((rd_T26 l0 x5_1).f0) ((rd_T26 l0 x5_1).f1) _ _ ((rd_T26 l0 x5_1).f2) _ _ ((rd_T26 l0 x5_1).f3) a1_0 a1_1 _ _ l1_2 _ _ l1_3 false _ ?side1 ?side2 ?side3 ?side4 ?side5 ?side6 ?side7 ?side8 A6.out).mono ?_
      (case side1 => repeat (first | exact (Kd.C_below HR102_2.out HB.out) | (with_reducible refine Kd.C_alloc ?_ _) | (with_reducible refine Kd.C_drewN ?_ _) | (with_reducible refine Kd.C_drew ?_)))
      (case side2 => exact HC102_2.out)
      (case side3 => repeat (first | exact (Kd.C_below HR102_3.out HB.out) | (with_reducible refine Kd.C_alloc ?_ _) | (with_reducible refine Kd.C_drewN ?_ _) | (with_reducible refine Kd.C_drew ?_)))
      (case side4 => exact HC102_3.out)
      (case side5 => repeat (first | exact (Kd.C_below HR1_2.out HB.out) | (with_reducible refine Kd.C_alloc ?_ _) | (with_reducible refine Kd.C_drewN ?_ _) | (with_reducible refine Kd.C_drew ?_)))
      (case side6 => exact HC1_2.out)
      (case side7 => repeat (first | exact (Kd.C_below HR1_3.out HB.out) | (with_reducible refine Kd.C_alloc ?_ _) | (with_reducible refine Kd.C_drewN ?_ _) | (with_reducible refine Kd.C_drew ?_)))
      (case side8 => exact HC1_3.out)
      rintro e w11 ⟨rfl, hb⟩
      refine ⟨_, rfl, ?_⟩
      have n0_ := Aside0.mk (blk_below (g := gb101) (o := .cells #[.int .i64 a1_0, .int .u64 a1_1, .slice A1_2 l1_2.length c1_2, .slice A1_3 l1_3.length c1_3] 26 (0, 0)) (by (with_reducible repeat (first | refine blk_drewN ?_ _ | refine blk_drew ?_ | refine blk_alloc ?_ _)); exact BK101.out) hb)
      have n1_ := Aside0.mk (below_step (by repeat (first | (with_reducible first | exact HB.out | apply below_alloc | apply pw_below_drewN | apply below_drew1 | refine below_set ?_ GE101.out) | exact HB.out)) hb)
      clear BK101
      clear HB
      have BK101 := n0_
      have HB := n1_
      clear n0_ n1_
      (try clear hb)
      (try clear hb2)
      (try clear hk)
      (try clear hi)
      refine hK.out _ _ ⟨(blk_cell BK101.out 0).trans rfl, (blk_cell BK101.out 1).trans rfl, (blk_cell BK101.out 2).trans rfl, (blk_cell BK101.out 3).trans rfl, ((HB.out.cell (World.block_lt_of_cell? w _ hw102_0)).trans hw102_0), ((HB.out.cell (World.block_lt_of_cell? w _ hw102_1)).trans hw102_1), ((HB.out.cell (World.block_lt_of_cell? w _ hw102_2)).trans hw102_2), ((HB.out.cell (World.block_lt_of_cell? w _ hw102_3)).trans hw102_3)⟩ (fun hHeld => ?_)
      clear hK K
      refine norm_ (a' := ?_) ?_ ?_
      rotate_left
      ·show Act.put _ (some 17) _ = _
       simp only [Act.put, List.setIfInBounds_toArray, List.set_cons_zero, List.set_cons_succ, i64_w, i32_w]
       rfl
      refine done_ (by kernel_rfl) ?_
      try go_wp2
      go_roundg k1
      case measure => have := HK1.out; omega
      case rel => exact ⟨(wrap64 (x5_1 + 1)), (by first | rfl | (simp; done) | (simp [*]; done)), H', ⟨by have := HK1.out; omega⟩, ⟨by (with_reducible repeat (first | refine blk_drewN ?_ _ | refine blk_drew ?_ | refine blk_alloc ?_ _)); exact BK101.out⟩, ⟨by repeat (first | (with_reducible first | exact HB.out | apply below_alloc | apply pw_below_drewN | apply below_drew1 | refine below_set ?_ GE101.out) | exact HB.out)⟩⟩
    ·rw [if_neg c5] at H
     exact absurd H (by simp)
   ·rw [if_neg c4] at H
    have c4b0 : decide (x5_1 < (l0.length : Int)) = false := decide_eq_false c4
    clear c4
    obtain rfl := Option.some.inj H
    go_wp2
    go_ret
    exact ⟨by first | rfl | (simp [errW_none, errW_some] <;> rfl) | (simp [*, errW_none, errW_some] <;> rfl), by repeat (first | (with_reducible first | exact HB.out | apply below_alloc | apply pw_below_drewN | apply below_drew1 | refine below_set ?_ GE101.out) | exact HB.out)⟩

end Go.Proofs.Ytgohmganimamcaa.PZ
-- printed for this claim by a program (pall.sh)
-- mended by fixpz.py
namespace Go.Proofs.Ytgohmganimamcaa.PZ
open Go.RowKit Go.Proofs.YtgohmganimamcaaW.PrintWords Go.Proofs.YtgohmganimamcaaW.PrintLast Go.Proofs.YtgohmganimamcaaW.PrintMore
attribute [local go_sem] max2_int min2_int max_two min_two max_three min_three max_four min_four   -- for this text's walks alone
set_option linter.unusedVariables false
set_option linter.unusedSimpArgs false

/-! ### hanaperref06_gives: function 60 -/
def hanaperref06_gives.f (k : Nat) (l0 : List (S26)) (a1_0 : Int) (a1_1 : Int) (l1_2 : List Int) (l1_3 : List (S26)) : Option ((List (S26))) := if a1_0 = 4 then (some l1_3) else (if a1_0 = 5 then (if 1 < (l1_3.length : Int) then ((hanaperref06_Has.f k l0 ((rd_T26 l1_3 1).f0) ((rd_T26 l1_3 1).f1) ((rd_T26 l1_3 1).f2) ((rd_T26 l1_3 1).f3)).bind fun t103 => (if t103 = true then (if 1 ≤ (l1_3.length : Int) then (some (l1_3.take 1)) else (none)) else (some ([] : List (S26))))) else (none)) else (some ([] : List (S26))))
set_option maxHeartbeats 8000000 in
set_option maxRecDepth 100000 in
theorem hanaperref06_gives.calls (k : Nat) (A0 : Option Addr) (c0 : Nat) (l0 : List (S26)) (a1_0 : Int) (a1_1 : Int) (A1_2 : Option Addr) (c1_2 : Nat) (l1_2 : List Int) (P1_3_ : Nat → Prop) (A1_3 : Option Addr) (c1_3 : Nat) (l1_3 : List (S26)) (r : List (S26)) (w : World) (hr0 : Kd.C k26 w A0 l0.length l0) (hc0 : l0.length ≤ c0) (hr1_2 : Kd.C (Kd.int .u8) w A1_2 l1_2.length l1_2) (hc1_2 : l1_2.length ≤ c1_2) (hs1_3 : Kd.V k26 26 w w.heap.size (fun k_ => P1_3_ k_) (.slice A1_3 l1_3.length c1_3) l1_3) (h : hanaperref06_gives.f k l0 a1_0 a1_1 l1_2 l1_3 = some r) :
  Calls Try.prog 60 #[.slice A0 l0.length c0, .agg #[.int .i64 a1_0, .int .u64 a1_1, .slice A1_2 l1_2.length c1_2, .slice A1_3 l1_3.length c1_3]] w fun e w' => ∃ v0_ : Value, e = .returned (v0_) ∧ Kd.V k26 26 w' w.heap.size (fun k_ => (P1_3_ k_ ∨ w.heap.size ≤ k_)) v0_ r ∧ Below w.heap.size w w' := by
 have hu26 := Try.underlying26
 have HR0 := Aside0.mk hr0
 have HC0 := Aside0.mk hc0
 clear hr0 hc0
 have HR1_2 := Aside0.mk hr1_2
 have HC1_2 := Aside0.mk hc1_2
 clear hr1_2 hc1_2
 have HO1_3 := Aside0.mk (show Kd.V k26 26 w w.heap.size (fun k_ => (P1_3_ k_ ∨ w.heap.size ≤ k_)) (.slice A1_3 l1_3.length c1_3) l1_3 from Kd.V_mono hs1_3 (fun k_ hk => .inl hk))
 have HB := Aside0.mk (Below.refl w.heap.size w)
 have H : (if a1_0 = 4 then (some l1_3) else (if a1_0 = 5 then (if 1 < (l1_3.length : Int) then ((hanaperref06_Has.f k l0 ((rd_T26 l1_3 1).f0) ((rd_T26 l1_3 1).f1) ((rd_T26 l1_3 1).f2) ((rd_T26 l1_3 1).f3)).bind fun t103 => (if t103 = true then (if 1 ≤ (l1_3.length : Int) then (some (l1_3.take 1)) else (none)) else (some ([] : List (S26))))) else (none)) else (some ([] : List (S26))))) = some r := h
 clear h
 by_cases c3 : a1_0 = 4
 ·rw [if_pos c3] at H
  have c3b0 : (a1_0 == 4) = true := beq_iff_eq.mpr c3
  have c3b1 : (a1_0 != 4) = false := bne_eq_false_iff_eq.mpr c3
  clear c3
  obtain rfl := Option.some.inj H
  go_enter Try.func60, Try.ntmps60
  go_wp2_with (first | ((with_reducible refine gate_dst (N := 3) rfl ?_); refine box_event ?hg (N := 3) ?hd (cs := #[.int .i64 a1_0, .int .u64 a1_1, .slice A1_2 l1_2.length c1_2, .slice A1_3 l1_3.length c1_3]) (t := 26) ?hr ?_; (case hd => rfl); (case hg => rfl); (case hr => first | (go_simp; done) | (go_simp; rfl)); intro gb101 hg w4 hbox hb; have n0_ := Aside0.mk (Kd.V_below (Kd.V_elderB (by (with_reducible repeat (first | apply Kd.V_alloc | apply Kd.V_drewN | apply Kd.V_drew)); exact HO1_3.out) gb101 (Nat.le_of_eq hg.symm)) hb); have n1_ := Aside0.mk (below_step (by repeat (first | (with_reducible first | exact HB.out | apply below_alloc | apply pw_below_drewN | apply below_drew1) | exact HB.out)) hb); have n2_ := Aside0.mk (hbox); have n3_ := Aside0.mk ((by rw [hg]; exact (below_size (by repeat (first | (with_reducible first | exact HB.out | apply below_alloc | apply pw_below_drewN | apply below_drew1) | exact HB.out))) : w.heap.size ≤ gb101)); have n4_ := Aside0.mk ((by rw [hg]; exact (below_size (by repeat (first | (with_reducible first | exact HB.out | apply below_alloc | apply pw_below_drewN | apply below_drew1) | exact HB.out))) : w.heap.size ≤ gb101)); clear HO1_3; clear HB; have HO1_3 := n0_; have HB := n1_; have BK101 := n2_; have GW101 := n3_; have GE101 := n4_; clear n0_ n1_ n2_ n3_ n4_; clear hb hbox hg; have hcz5_0 : w4.cell? ⟨gb101, 0, none⟩ = some (.int .i64 a1_0) := (blk_cell BK101.out 0).trans rfl; have hcz5_1 : w4.cell? ⟨gb101, 1, none⟩ = some (.int .u64 a1_1) := (blk_cell BK101.out 1).trans rfl; have hcz5_2 : w4.cell? ⟨gb101, 2, none⟩ = some (.slice A1_2 l1_2.length c1_2) := (blk_cell BK101.out 2).trans rfl; have hcz5_3 : w4.cell? ⟨gb101, 3, none⟩ = some (.slice A1_3 l1_3.length c1_3) := (blk_cell BK101.out 3).trans rfl; have hfz5_0 := blk_frozen BK101.out 0; have hfz5_1 := blk_frozen BK101.out 1; have hfz5_2 := blk_frozen BK101.out 2; have hfz5_3 := blk_frozen BK101.out 3))
  go_ret
  exact ⟨_, by first | rfl | (simp [errW_none, errW_some] <;> rfl) | (simp [*, errW_none, errW_some] <;> rfl), by (with_reducible repeat (first | apply Kd.V_alloc | apply Kd.V_drewN | apply Kd.V_drew)); exact Kd.V_mono HO1_3.out (fun _ hk => hk.1), by repeat (first | (with_reducible first | exact HB.out | apply below_alloc | apply pw_below_drewN | apply below_drew1 | refine below_set ?_ GE101.out) | exact HB.out)⟩
 ·rw [if_neg c3] at H
  have c3b0 : (a1_0 == 4) = false := beq_eq_false_iff_ne.mpr c3
  have c3b1 : (a1_0 != 4) = true := bne_iff_ne.mpr c3
  by_cases c6 : a1_0 = 5
  ·rw [if_pos c6] at H
   have c6b0 : (a1_0 == 5) = true := beq_iff_eq.mpr c6
   have c6b1 : (a1_0 != 5) = false := bne_eq_false_iff_eq.mpr c6
   clear c6
   by_cases c7 : 1 < (l1_3.length : Int)
   ·rw [if_pos c7] at H
    have c7b0 : decide (1 < (l1_3.length : Int)) = true := decide_eq_true c7
    have c7b1 : decide (1 < l1_3.length) = true := decide_eq_true (by omega)
    clear c7
    replace H := Option.bind_eq_some_iff.mp H
    obtain ⟨t103, A80, H⟩ := H
    replace H : (if t103 = true then (if 1 ≤ (l1_3.length : Int) then (some (l1_3.take 1)) else (none)) else (some ([] : List (S26)))) = some r := H
    have A8 := Aside0.mk A80
    clear A80
    by_cases c9 : t103 = true
    ·subst c9
     have H1 : (if 1 ≤ (l1_3.length : Int) then (some (l1_3.take 1)) else (none)) = some r := by rw [if_pos rfl] at H; exact H
     clear H
     have H := H1
     clear H1
     by_cases c10 : 1 ≤ (l1_3.length : Int)
     ·rw [if_pos c10] at H
      have c10b0 := eq_true c10
      have c10b1 : decide (1 ≤ (l1_3.length : Int)) = true := decide_eq_true c10
      clear c10
      obtain ⟨y104, hy104⟩ : ∃ y_ : List (S26), y_ = (l1_3.take 1) := ⟨_, rfl⟩
      replace H : (some y104) = some r := by first | (rw [hy104]; with_reducible exact H) | (have H2_ := (Option.bind_some _ _).symm.trans H; rw [hy104]; with_reducible exact H2_) | (have H2_ := (Option.bind_some _ _).symm.trans H; with_reducible exact H2_) | with_reducible exact H | (rw [hy104]; exact H) | exact H
      have Ny104 := Aside0.mk hy104
      clear hy104
      obtain rfl := Option.some.inj H
      go_enter Try.func60, Try.ntmps60
      go_wp2_with (first | ((with_reducible refine gate_dst (N := 3) rfl ?_); refine box_event ?hg (N := 3) ?hd (cs := #[.int .i64 a1_0, .int .u64 a1_1, .slice A1_2 l1_2.length c1_2, .slice A1_3 l1_3.length c1_3]) (t := 26) ?hr ?_; (case hd => rfl); (case hg => rfl); (case hr => first | (go_simp; done) | (go_simp; rfl)); intro gb101 hg w11 hbox hb; have n0_ := Aside0.mk (Kd.V_below (Kd.V_elderB (by (with_reducible repeat (first | apply Kd.V_alloc | apply Kd.V_drewN | apply Kd.V_drew)); exact HO1_3.out) gb101 (Nat.le_of_eq hg.symm)) hb); have n1_ := Aside0.mk (below_step (by repeat (first | (with_reducible first | exact HB.out | apply below_alloc | apply pw_below_drewN | apply below_drew1) | exact HB.out)) hb); have n2_ := Aside0.mk (hbox); have n3_ := Aside0.mk ((by rw [hg]; exact (below_size (by repeat (first | (with_reducible first | exact HB.out | apply below_alloc | apply pw_below_drewN | apply below_drew1) | exact HB.out))) : w.heap.size ≤ gb101)); have n4_ := Aside0.mk ((by rw [hg]; exact (below_size (by repeat (first | (with_reducible first | exact HB.out | apply below_alloc | apply pw_below_drewN | apply below_drew1) | exact HB.out))) : w.heap.size ≤ gb101)); clear HO1_3; clear HB; have HO1_3 := n0_; have HB := n1_; have BK101 := n2_; have GW101 := n3_; have GE101 := n4_; clear n0_ n1_ n2_ n3_ n4_; clear hb hbox hg; have hcz12_0 : w11.cell? ⟨gb101, 0, none⟩ = some (.int .i64 a1_0) := (blk_cell BK101.out 0).trans rfl; have hcz12_1 : w11.cell? ⟨gb101, 1, none⟩ = some (.int .u64 a1_1) := (blk_cell BK101.out 1).trans rfl; have hcz12_2 : w11.cell? ⟨gb101, 2, none⟩ = some (.slice A1_2 l1_2.length c1_2) := (blk_cell BK101.out 2).trans rfl; have hcz12_3 : w11.cell? ⟨gb101, 3, none⟩ = some (.slice A1_3 l1_3.length c1_3) := (blk_cell BK101.out 3).trans rfl; have hfz12_0 := blk_frozen BK101.out 0; have hfz12_1 := blk_frozen BK101.out 1; have hfz12_2 := blk_frozen BK101.out 2; have hfz12_3 := blk_frozen BK101.out 3; have p102 : 0 ≤ (1 : Int) := (by omega); have q102 : 1 < (l1_3.length : Int) := of_decide_eq_true (by first | (with_reducible assumption) | assumption); obtain ⟨ad102, A102_2, c102_2, A102_3, c102_3, e102, hx102_0, hx102_1, hx102_2, hx102_3, hl102_2, hi102_2, hl102_3, hi102_3⟩ := at_T26 (Kd.V_reads' HO1_3.out).2.2 1 p102 q102; cases e102; obtain ⟨ce102, hce102, hMe102, hcc102⟩ := Kd.V_get HO1_3.out z26 1 p102 (by first | exact q102 | exact of_decide_eq_true (by first | (with_reducible assumption) | assumption) | (have e_ := (Kd.V_reads' HO1_3.out).1; omega)); obtain ⟨ua102_2, uc102_2, ua102_3, uc102_3, rfl, ul102_2, ge102_2, ul102_3, ge102_3⟩ := k26_openF hMe102; have hv102_2 := hcc102 2 _ rfl; rw [add_field _ _ 2 (by omega)] at hv102_2; replace hv102_2 := Option.some.inj (hv102_2.symm.trans hx102_2); injection hv102_2 with hva_ hvn_ hvc_; rw [hva_] at ge102_2; rw [hvc_] at ul102_2; have HL102_2 := Aside0.mk (show Kd.V (Kd.int .u8) 5 _ w.heap.size _ _ ((rd_T26 l1_3 1).f2) from Kd.V_mk ul102_2 ge102_2); clear hva_ hvn_ hvc_ ge102_2 ul102_2; have hv102_3 := hcc102 3 _ rfl; rw [add_field _ _ 3 (by omega)] at hv102_3; replace hv102_3 := Option.some.inj (hv102_3.symm.trans hx102_3); injection hv102_3 with hva_ hvn_ hvc_; rw [hva_] at ge102_3; rw [hvc_] at ul102_3; have HL102_3 := Aside0.mk (show Kd.V k26 26 _ w.heap.size _ _ ((rd_T26 l1_3 1).f3) from Kd.V_mk ul102_3 ge102_3); clear hva_ hvn_ hvc_ ge102_3 ul102_3; clear hcc102 hce102; (try simp only [show (1 : Int).toNat = 1 from rfl, Nat.reduceMul, Nat.reduceEqDiff, Go.Addr.add, ↓reduceIte] at hx102_0); (try simp only [show (1 : Int).toNat = 1 from rfl, Nat.reduceMul, Nat.reduceEqDiff, Go.Addr.add, ↓reduceIte] at hx102_1); (try simp only [show (1 : Int).toNat = 1 from rfl, Nat.reduceMul, Nat.reduceEqDiff, Go.Addr.add, ↓reduceIte] at hx102_2); (try simp only [show (1 : Int).toNat = 1 from rfl, Nat.reduceMul, Nat.reduceEqDiff, Go.Addr.add, ↓reduceIte] at hx102_3); have qi102 : (1 < l1_3.length) = True := eq_true (by omega); (try rw [show ((1 : Int)).toNat = 1 from rfl] at hx102_0); (try rw [show 1 * 4 = 4 from rfl] at hx102_0); (try rw [show ((1 : Int)).toNat = 1 from rfl] at hx102_1); (try rw [show 1 * 4 = 4 from rfl] at hx102_1); (try rw [show ((1 : Int)).toNat = 1 from rfl] at hx102_2); (try rw [show 1 * 4 = 4 from rfl] at hx102_2); (try rw [show ((1 : Int)).toNat = 1 from rfl] at hx102_3); (try rw [show 1 * 4 = 4 from rfl] at hx102_3); have HR102_2 := Aside0.mk hi102_2; have HC102_2 := Aside0.mk hl102_2; clear hi102_2 hl102_2; have HR102_3 := Aside0.mk hi102_3; have HC102_3 := Aside0.mk hl102_3; clear hi102_3 hl102_3; replace p102 := eq_true p102; replace q102 := eq_true q102) | (go_at_call 31; (with_reducible refine (hanaperref06_Has.calls k _ _ l0 ((rd_T26 l1_3 1).f0) ((rd_T26 l1_3 1).f1) _ _ ((rd_T26 l1_3 1).f2) _ _ ((rd_T26 l1_3 1).f3) true _ ?side1 ?side2 ?side3 ?side4 ?side5 ?side6 A8.out).mono ?_); (case side1 => repeat (first | exact (Kd.C_below HR0.out HB.out) | (with_reducible refine Kd.C_alloc ?_ _) | (with_reducible refine Kd.C_drewN ?_ _) | (with_reducible refine Kd.C_drew ?_))); (case side2 => exact HC0.out); (case side3 => repeat (first | exact (by repeat (first | (with_reducible exact HR102_2.out) | (with_reducible refine Kd.C_alloc ?_ _) | (with_reducible refine Kd.C_drewN ?_ _) | (with_reducible refine Kd.C_drew ?_) | exact HR102_2.out)) | (with_reducible refine Kd.C_alloc ?_ _) | (with_reducible refine Kd.C_drewN ?_ _) | (with_reducible refine Kd.C_drew ?_))); (case side4 => exact HC102_2.out); (case side5 => repeat (first | exact (by repeat (first | (with_reducible exact HR102_3.out) | (with_reducible refine Kd.C_alloc ?_ _) | (with_reducible refine Kd.C_drewN ?_ _) | (with_reducible refine Kd.C_drew ?_) | exact HR102_3.out)) | (with_reducible refine Kd.C_alloc ?_ _) | (with_reducible refine Kd.C_drewN ?_ _) | (with_reducible refine Kd.C_drew ?_))); (case side6 => exact HC102_3.out); rintro e w13 ⟨rfl, hb⟩; have n0_ := Aside0.mk (Kd.V_below (by (with_reducible repeat (first | apply Kd.V_alloc | apply Kd.V_drewN | apply Kd.V_drew)); exact HO1_3.out) hb); have n1_ := Aside0.mk (Kd.V_below (by (with_reducible repeat (first | apply Kd.V_alloc | apply Kd.V_drewN | apply Kd.V_drew)); exact HL102_2.out) hb); have n2_ := Aside0.mk (Kd.V_below (by (with_reducible repeat (first | apply Kd.V_alloc | apply Kd.V_drewN | apply Kd.V_drew)); exact HL102_3.out) hb); have n3_ := Aside0.mk (blk_below (g := gb101) (o := .cells #[.int .i64 a1_0, .int .u64 a1_1, .slice A1_2 l1_2.length c1_2, .slice (some ad102) l1_3.length c1_3] 26 (0, 0)) (by (with_reducible repeat (first | refine blk_drewN ?_ _ | refine blk_drew ?_ | refine blk_alloc ?_ _)); exact BK101.out) hb); have n4_ := Aside0.mk (Kd.C_below (by repeat (first | (with_reducible exact HR102_2.out) | (with_reducible refine Kd.C_alloc ?_ _) | (with_reducible refine Kd.C_drewN ?_ _) | (with_reducible refine Kd.C_drew ?_) | exact HR102_2.out)) hb); have n5_ := Aside0.mk (Kd.C_below (by repeat (first | (with_reducible exact HR102_3.out) | (with_reducible refine Kd.C_alloc ?_ _) | (with_reducible refine Kd.C_drewN ?_ _) | (with_reducible refine Kd.C_drew ?_) | exact HR102_3.out)) hb); have n6_ := Aside0.mk (below_step (by repeat (first | (with_reducible first | exact HB.out | apply below_alloc | apply pw_below_drewN | apply below_drew1 | refine below_set ?_ GE101.out) | exact HB.out)) hb); clear HO1_3; clear HL102_2; clear HL102_3; clear BK101; clear HR102_2; clear HR102_3; clear HB; have HO1_3 := n0_; have HL102_2 := n1_; have HL102_3 := n2_; have BK101 := n3_; have HR102_2 := n4_; have HR102_3 := n5_; have HB := n6_; clear n0_ n1_ n2_ n3_ n4_ n5_ n6_; (try clear hb); (try clear hb2); (try clear hk); (try clear hi); have hcz14_0 : w13.cell? ⟨gb101, 0, none⟩ = some (.int .i64 a1_0) := (blk_cell BK101.out 0).trans rfl; have hcz14_1 : w13.cell? ⟨gb101, 1, none⟩ = some (.int .u64 a1_1) := (blk_cell BK101.out 1).trans rfl; have hcz14_2 : w13.cell? ⟨gb101, 2, none⟩ = some (.slice A1_2 l1_2.length c1_2) := (blk_cell BK101.out 2).trans rfl; have hcz14_3 : w13.cell? ⟨gb101, 3, none⟩ = some (.slice (some ad102) l1_3.length c1_3) := (blk_cell BK101.out 3).trans rfl; have hfz14_0 := blk_frozen BK101.out 0; have hfz14_1 := blk_frozen BK101.out 1; have hfz14_2 := blk_frozen BK101.out 2; have hfz14_3 := blk_frozen BK101.out 3; have q15 : (1 : Int) ≤ ((l1_3.length : Int) : Int) := of_decide_eq_true (by first | (with_reducible assumption) | assumption); obtain ⟨i015, hi015, _, hsz15, _⟩ := info_parts info26; have hroom15 : l1_3.length ≤ c1_3 := (Kd.V_reads' HO1_3.out).2.1; have hC15 : Kd.F k26 _ _ (some ad102) l1_3.length l1_3 := (Kd.V_at (base := w.heap.size) HO1_3.out).2.2; have hcut15 := cut_to (P := Try.prog) 24 26 .i64 Try.underlying24 hi015 (some ad102) l1_3.length c1_3 1 (by omega) q15 hroom15; have hr15 := Kd.F_take (m := 1) hC15 (by omega); have hy15 : y104.length = (1 : Int).toNat := (by rw [Ny104.out, List.length_take]; omega); rw [← Ny104.out] at hr15; rw [← hy15] at hcut15; have HO108 := Aside0.mk (show Kd.V k26 26 _ w.heap.size _ (.slice (some ad102) y104.length c1_3) y104 from Kd.V_mk (by omega) hr15); have HC108 := Aside0.mk (show y104.length ≤ c1_3 from by omega); clear hr15 hC15 hroom15 hi015 hsz15; have KY15 := Aside0.mk hy15; clear hy15; replace q15 := eq_true q15))
      go_ret
      exact ⟨_, by first | rfl | (simp [errW_none, errW_some] <;> rfl) | (simp [*, errW_none, errW_some] <;> rfl), by (with_reducible repeat (first | apply Kd.V_alloc | apply Kd.V_drewN | apply Kd.V_drew)); exact Kd.V_mono HO108.out (fun _ hk => hk.1), by repeat (first | (with_reducible first | exact HB.out | apply below_alloc | apply pw_below_drewN | apply below_drew1 | refine below_set ?_ GE101.out) | exact HB.out)⟩
     ·rw [if_neg c10] at H
      exact absurd H (by simp)
    ·replace c9 := Bool.eq_false_iff.mpr c9
     subst c9
     have H1 : (some ([] : List (S26))) = some r := by rw [if_neg (show ¬ (false = true) by decide)] at H; exact H
     clear H
     have H := H1
     clear H1
     obtain rfl := Option.some.inj H
     go_enter Try.func60, Try.ntmps60
     go_wp2_with (first | ((with_reducible refine gate_dst (N := 3) rfl ?_); refine box_event ?hg (N := 3) ?hd (cs := #[.int .i64 a1_0, .int .u64 a1_1, .slice A1_2 l1_2.length c1_2, .slice A1_3 l1_3.length c1_3]) (t := 26) ?hr ?_; (case hd => rfl); (case hg => rfl); (case hr => first | (go_simp; done) | (go_simp; rfl)); intro gb101 hg w16 hbox hb; have n0_ := Aside0.mk (Kd.V_below (Kd.V_elderB (by (with_reducible repeat (first | apply Kd.V_alloc | apply Kd.V_drewN | apply Kd.V_drew)); exact HO1_3.out) gb101 (Nat.le_of_eq hg.symm)) hb); have n1_ := Aside0.mk (below_step (by repeat (first | (with_reducible first | exact HB.out | apply below_alloc | apply pw_below_drewN | apply below_drew1) | exact HB.out)) hb); have n2_ := Aside0.mk (hbox); have n3_ := Aside0.mk ((by rw [hg]; exact (below_size (by repeat (first | (with_reducible first | exact HB.out | apply below_alloc | apply pw_below_drewN | apply below_drew1) | exact HB.out))) : w.heap.size ≤ gb101)); have n4_ := Aside0.mk ((by rw [hg]; exact (below_size (by repeat (first | (with_reducible first | exact HB.out | apply below_alloc | apply pw_below_drewN | apply below_drew1) | exact HB.out))) : w.heap.size ≤ gb101)); clear HO1_3; clear HB; have HO1_3 := n0_; have HB := n1_; have BK101 := n2_; have GW101 := n3_; have GE101 := n4_; clear n0_ n1_ n2_ n3_ n4_; clear hb hbox hg; have hcz17_0 : w16.cell? ⟨gb101, 0, none⟩ = some (.int .i64 a1_0) := (blk_cell BK101.out 0).trans rfl; have hcz17_1 : w16.cell? ⟨gb101, 1, none⟩ = some (.int .u64 a1_1) := (blk_cell BK101.out 1).trans rfl; have hcz17_2 : w16.cell? ⟨gb101, 2, none⟩ = some (.slice A1_2 l1_2.length c1_2) := (blk_cell BK101.out 2).trans rfl; have hcz17_3 : w16.cell? ⟨gb101, 3, none⟩ = some (.slice A1_3 l1_3.length c1_3) := (blk_cell BK101.out 3).trans rfl; have hfz17_0 := blk_frozen BK101.out 0; have hfz17_1 := blk_frozen BK101.out 1; have hfz17_2 := blk_frozen BK101.out 2; have hfz17_3 := blk_frozen BK101.out 3; have p102 : 0 ≤ (1 : Int) := (by omega); have q102 : 1 < (l1_3.length : Int) := of_decide_eq_true (by first | (with_reducible assumption) | assumption); obtain ⟨ad102, A102_2, c102_2, A102_3, c102_3, e102, hx102_0, hx102_1, hx102_2, hx102_3, hl102_2, hi102_2, hl102_3, hi102_3⟩ := at_T26 (Kd.V_reads' HO1_3.out).2.2 1 p102 q102; cases e102; obtain ⟨ce102, hce102, hMe102, hcc102⟩ := Kd.V_get HO1_3.out z26 1 p102 (by first | exact q102 | exact of_decide_eq_true (by first | (with_reducible assumption) | assumption) | (have e_ := (Kd.V_reads' HO1_3.out).1; omega)); obtain ⟨ua102_2, uc102_2, ua102_3, uc102_3, rfl, ul102_2, ge102_2, ul102_3, ge102_3⟩ := k26_openF hMe102; have hv102_2 := hcc102 2 _ rfl; rw [add_field _ _ 2 (by omega)] at hv102_2; replace hv102_2 := Option.some.inj (hv102_2.symm.trans hx102_2); injection hv102_2 with hva_ hvn_ hvc_; rw [hva_] at ge102_2; rw [hvc_] at ul102_2; have HL102_2 := Aside0.mk (show Kd.V (Kd.int .u8) 5 _ w.heap.size _ _ ((rd_T26 l1_3 1).f2) from Kd.V_mk ul102_2 ge102_2); clear hva_ hvn_ hvc_ ge102_2 ul102_2; have hv102_3 := hcc102 3 _ rfl; rw [add_field _ _ 3 (by omega)] at hv102_3; replace hv102_3 := Option.some.inj (hv102_3.symm.trans hx102_3); injection hv102_3 with hva_ hvn_ hvc_; rw [hva_] at ge102_3; rw [hvc_] at ul102_3; have HL102_3 := Aside0.mk (show Kd.V k26 26 _ w.heap.size _ _ ((rd_T26 l1_3 1).f3) from Kd.V_mk ul102_3 ge102_3); clear hva_ hvn_ hvc_ ge102_3 ul102_3; clear hcc102 hce102; (try simp only [show (1 : Int).toNat = 1 from rfl, Nat.reduceMul, Nat.reduceEqDiff, Go.Addr.add, ↓reduceIte] at hx102_0); (try simp only [show (1 : Int).toNat = 1 from rfl, Nat.reduceMul, Nat.reduceEqDiff, Go.Addr.add, ↓reduceIte] at hx102_1); (try simp only [show (1 : Int).toNat = 1 from rfl, Nat.reduceMul, Nat.reduceEqDiff, Go.Addr.add, ↓reduceIte] at hx102_2); (try simp only [show (1 : Int).toNat = 1 from rfl, Nat.reduceMul, Nat.reduceEqDiff, Go.Addr.add, ↓reduceIte] at hx102_3); have qi102 : (1 < l1_3.length) = True := eq_true (by omega); (try rw [show ((1 : Int)).toNat = 1 from rfl] at hx102_0); (try rw [show 1 * 4 = 4 from rfl] at hx102_0); (try rw [show ((1 : Int)).toNat = 1 from rfl] at hx102_1); (try rw [show 1 * 4 = 4 from rfl] at hx102_1); (try rw [show ((1 : Int)).toNat = 1 from rfl] at hx102_2); (try rw [show 1 * 4 = 4 from rfl] at hx102_2); (try rw [show ((1 : Int)).toNat = 1 from rfl] at hx102_3); (try rw [show 1 * 4 = 4 from rfl] at hx102_3); have HR102_2 := Aside0.mk hi102_2; have HC102_2 := Aside0.mk hl102_2; clear hi102_2 hl102_2; have HR102_3 := Aside0.mk hi102_3; have HC102_3 := Aside0.mk hl102_3; clear hi102_3 hl102_3; replace p102 := eq_true p102; replace q102 := eq_true q102) | (go_at_call 31; (with_reducible refine (hanaperref06_Has.calls k _ _ l0 ((rd_T26 l1_3 1).f0) ((rd_T26 l1_3 1).f1) _ _ ((rd_T26 l1_3 1).f2) _ _ ((rd_T26 l1_3 1).f3) false _ ?side1 ?side2 ?side3 ?side4 ?side5 ?side6 A8.out).mono ?_); (case side1 => repeat (first | exact (Kd.C_below HR0.out HB.out) | (with_reducible refine Kd.C_alloc ?_ _) | (with_reducible refine Kd.C_drewN ?_ _) | (with_reducible refine Kd.C_drew ?_))); (case side2 => exact HC0.out); (case side3 => repeat (first | exact (by repeat (first | (with_reducible exact HR102_2.out) | (with_reducible refine Kd.C_alloc ?_ _) | (with_reducible refine Kd.C_drewN ?_ _) | (with_reducible refine Kd.C_drew ?_) | exact HR102_2.out)) | (with_reducible refine Kd.C_alloc ?_ _) | (with_reducible refine Kd.C_drewN ?_ _) | (with_reducible refine Kd.C_drew ?_))); (case side4 => exact HC102_2.out); (case side5 => repeat (first | exact (by repeat (first | (with_reducible exact HR102_3.out) | (with_reducible refine Kd.C_alloc ?_ _) | (with_reducible refine Kd.C_drewN ?_ _) | (with_reducible refine Kd.C_drew ?_) | exact HR102_3.out)) | (with_reducible refine Kd.C_alloc ?_ _) | (with_reducible refine Kd.C_drewN ?_ _) | (with_reducible refine Kd.C_drew ?_))); (case side6 => exact HC102_3.out); rintro e w18 ⟨rfl, hb⟩; have n0_ := Aside0.mk (Kd.V_below (by (with_reducible repeat (first | apply Kd.V_alloc | apply Kd.V_drewN | apply Kd.V_drew)); exact HO1_3.out) hb); have n1_ := Aside0.mk (Kd.V_below (by (with_reducible repeat (first | apply Kd.V_alloc | apply Kd.V_drewN | apply Kd.V_drew)); exact HL102_2.out) hb); have n2_ := Aside0.mk (Kd.V_below (by (with_reducible repeat (first | apply Kd.V_alloc | apply Kd.V_drewN | apply Kd.V_drew)); exact HL102_3.out) hb); have n3_ := Aside0.mk (blk_below (g := gb101) (o := .cells #[.int .i64 a1_0, .int .u64 a1_1, .slice A1_2 l1_2.length c1_2, .slice (some ad102) l1_3.length c1_3] 26 (0, 0)) (by (with_reducible repeat (first | refine blk_drewN ?_ _ | refine blk_drew ?_ | refine blk_alloc ?_ _)); exact BK101.out) hb); have n4_ := Aside0.mk (Kd.C_below (by repeat (first | (with_reducible exact HR102_2.out) | (with_reducible refine Kd.C_alloc ?_ _) | (with_reducible refine Kd.C_drewN ?_ _) | (with_reducible refine Kd.C_drew ?_) | exact HR102_2.out)) hb); have n5_ := Aside0.mk (Kd.C_below (by repeat (first | (with_reducible exact HR102_3.out) | (with_reducible refine Kd.C_alloc ?_ _) | (with_reducible refine Kd.C_drewN ?_ _) | (with_reducible refine Kd.C_drew ?_) | exact HR102_3.out)) hb); have n6_ := Aside0.mk (below_step (by repeat (first | (with_reducible first | exact HB.out | apply below_alloc | apply pw_below_drewN | apply below_drew1 | refine below_set ?_ GE101.out) | exact HB.out)) hb); clear HO1_3; clear HL102_2; clear HL102_3; clear BK101; clear HR102_2; clear HR102_3; clear HB; have HO1_3 := n0_; have HL102_2 := n1_; have HL102_3 := n2_; have BK101 := n3_; have HR102_2 := n4_; have HR102_3 := n5_; have HB := n6_; clear n0_ n1_ n2_ n3_ n4_ n5_ n6_; (try clear hb); (try clear hb2); (try clear hk); (try clear hi)))
     go_ret
     exact ⟨_, by first | rfl | (simp [errW_none, errW_some] <;> rfl) | (simp [*, errW_none, errW_some] <;> rfl), Kd.V_mono (Kd.R_V (by first | exact Kd.R_nil _ _ _ w.heap.size (fun k_ => w.heap.size ≤ k_) | exact Kd.N_nil _ _ _ _ _ | exact Kd.V_nil _ _ _ _ _ | exact Kd.Q_nil _ _ _ _ _ | exact Kd.S_nil _ _ _ _ _)) (fun k_ hk => by first | exact ⟨(.inr (hk.1)), hk.2⟩ | exact (.inr (hk))), by repeat (first | (with_reducible first | exact HB.out | apply below_alloc | apply pw_below_drewN | apply below_drew1 | refine below_set ?_ GE101.out) | exact HB.out)⟩
   ·rw [if_neg c7] at H
    exact absurd H (by simp)
  ·rw [if_neg c6] at H
   have c6b0 : (a1_0 == 5) = false := beq_eq_false_iff_ne.mpr c6
   have c6b1 : (a1_0 != 5) = true := bne_iff_ne.mpr c6
   obtain rfl := Option.some.inj H
   go_enter Try.func60, Try.ntmps60
   go_wp2_with (first | ((with_reducible refine gate_dst (N := 3) rfl ?_); refine box_event ?hg (N := 3) ?hd (cs := #[.int .i64 a1_0, .int .u64 a1_1, .slice A1_2 l1_2.length c1_2, .slice A1_3 l1_3.length c1_3]) (t := 26) ?hr ?_; (case hd => rfl); (case hg => rfl); (case hr => first | (go_simp; done) | (go_simp; rfl)); intro gb101 hg w19 hbox hb; have n0_ := Aside0.mk (Kd.V_below (Kd.V_elderB (by (with_reducible repeat (first | apply Kd.V_alloc | apply Kd.V_drewN | apply Kd.V_drew)); exact HO1_3.out) gb101 (Nat.le_of_eq hg.symm)) hb); have n1_ := Aside0.mk (below_step (by repeat (first | (with_reducible first | exact HB.out | apply below_alloc | apply pw_below_drewN | apply below_drew1) | exact HB.out)) hb); have n2_ := Aside0.mk (hbox); have n3_ := Aside0.mk ((by rw [hg]; exact (below_size (by repeat (first | (with_reducible first | exact HB.out | apply below_alloc | apply pw_below_drewN | apply below_drew1) | exact HB.out))) : w.heap.size ≤ gb101)); have n4_ := Aside0.mk ((by rw [hg]; exact (below_size (by repeat (first | (with_reducible first | exact HB.out | apply below_alloc | apply pw_below_drewN | apply below_drew1) | exact HB.out))) : w.heap.size ≤ gb101)); clear HO1_3; clear HB; have HO1_3 := n0_; have HB := n1_; have BK101 := n2_; have GW101 := n3_; have GE101 := n4_; clear n0_ n1_ n2_ n3_ n4_; clear hb hbox hg; have hcz20_0 : w19.cell? ⟨gb101, 0, none⟩ = some (.int .i64 a1_0) := (blk_cell BK101.out 0).trans rfl; have hcz20_1 : w19.cell? ⟨gb101, 1, none⟩ = some (.int .u64 a1_1) := (blk_cell BK101.out 1).trans rfl; have hcz20_2 : w19.cell? ⟨gb101, 2, none⟩ = some (.slice A1_2 l1_2.length c1_2) := (blk_cell BK101.out 2).trans rfl; have hcz20_3 : w19.cell? ⟨gb101, 3, none⟩ = some (.slice A1_3 l1_3.length c1_3) := (blk_cell BK101.out 3).trans rfl; have hfz20_0 := blk_frozen BK101.out 0; have hfz20_1 := blk_frozen BK101.out 1; have hfz20_2 := blk_frozen BK101.out 2; have hfz20_3 := blk_frozen BK101.out 3))
   go_ret
   exact ⟨_, by first | rfl | (simp [errW_none, errW_some] <;> rfl) | (simp [*, errW_none, errW_some] <;> rfl), Kd.V_mono (Kd.R_V (by first | exact Kd.R_nil _ _ _ w.heap.size (fun k_ => w.heap.size ≤ k_) | exact Kd.N_nil _ _ _ _ _ | exact Kd.V_nil _ _ _ _ _ | exact Kd.Q_nil _ _ _ _ _ | exact Kd.S_nil _ _ _ _ _)) (fun k_ hk => by first | exact ⟨(.inr (hk.1)), hk.2⟩ | exact (.inr (hk))), by repeat (first | (with_reducible first | exact HB.out | apply below_alloc | apply pw_below_drewN | apply below_drew1 | refine below_set ?_ GE101.out) | exact HB.out)⟩

end Go.Proofs.Ytgohmganimamcaa.PZ
