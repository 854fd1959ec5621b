/- Own and printed texts, laid together. -/
import Derived.Test.YtgdpabedlghiaaaSpND
/- ScopeNots: the law's walk (printed by gen_nots.py). -/
namespace Go.Proofs.Ytgdpabedlghiaaa.Scope
set_option linter.unusedVariables false
set_option linter.unusedSimpArgs false
open Go.RowKit Go.Proofs.YtgdpabedlghiaaaW.PrintWords Go.Proofs.YtgdpabedlghiaaaW.PrintLast Go.Proofs.YtgdpabedlghiaaaW.PrintMore Go.Proofs.Ytgdpabedlghiaaa.PZ Go.Proofs.Ytgdpabedlghiaaa.Aid
set_option maxHeartbeats 16000000 in
set_option maxRecDepth 100000 in
theorem nots_walk (w : World) (x y : S40) (Ax : Option Addr) (cx : Nat) (Ay : Option Addr) (cy : Nat) (hrx : Kd.C k40 w Ax x.f4.length x.f4) (hcx : x.f4.length ≤ cx) (hry : Kd.C k40 w Ay y.f4.length y.f4) (hcy : y.f4.length ≤ cy) (q0 q1 q2 q3 : ByteArray) (t u : Int) :
    Calls Try.prog 6 #[.agg #[.int .i64 x.f0, .string x.f1, .int .i64 x.f2, .int .i64 x.f3, .slice Ax x.f4.length cx], .agg #[.int .i64 y.f0, .string y.f1, .int .i64 y.f2, .int .i64 y.f3, .slice Ay y.f4.length cy], .agg #[.string q0, .string q1, .string q2, .string q3, .int .i64 t, .int .i64 u]] w fun e w' => e = .returned (.bool true) ∧ Below w.heap.size w w' := by
  obtain ⟨bx, hbx⟩ := small_c x
  obtain ⟨b_y, hby⟩ := small_c y
  have HSX := Aside0.mk (fun W h => hbx Ax cx W h hcx)
  have HSY := Aside0.mk (fun W h => hby Ay cy W h hcy)
  have HRX := Aside0.mk hrx
  have HRY := Aside0.mk hry
  have HCX := Aside0.mk hcx
  have HCY := Aside0.mk hcy
  have H0 := Aside0.mk (show Blk (((w.alloc (.cells #[.int .i64 x.f0, .string x.f1, .int .i64 x.f2, .int .i64 x.f3, .slice Ax x.f4.length cx] 40)).alloc (.cells #[.int .i64 y.f0, .string y.f1, .int .i64 y.f2, .int .i64 y.f3, .slice Ay y.f4.length cy] 40)).alloc (.cells #[.string q0, .string q1, .string q2, .string q3, .int .i64 t, .int .i64 u] 46)) w.heap.size 40 #[.int .i64 x.f0, .string x.f1, .int .i64 x.f2, .int .i64 x.f3, .slice Ax x.f4.length cx] from blk_alloc (blk_alloc (blk_new _ _) _) _)
  have H1 := Aside0.mk (show Blk (((w.alloc (.cells #[.int .i64 x.f0, .string x.f1, .int .i64 x.f2, .int .i64 x.f3, .slice Ax x.f4.length cx] 40)).alloc (.cells #[.int .i64 y.f0, .string y.f1, .int .i64 y.f2, .int .i64 y.f3, .slice Ay y.f4.length cy] 40)).alloc (.cells #[.string q0, .string q1, .string q2, .string q3, .int .i64 t, .int .i64 u] 46)) (w.heap.size + 1) 40 #[.int .i64 y.f0, .string y.f1, .int .i64 y.f2, .int .i64 y.f3, .slice Ay y.f4.length cy] from blk_alloc (blk2 _ _ _) _)
  have H2 := Aside0.mk (show Blk (((w.alloc (.cells #[.int .i64 x.f0, .string x.f1, .int .i64 x.f2, .int .i64 x.f3, .slice Ax x.f4.length cx] 40)).alloc (.cells #[.int .i64 y.f0, .string y.f1, .int .i64 y.f2, .int .i64 y.f3, .slice Ay y.f4.length cy] 40)).alloc (.cells #[.string q0, .string q1, .string q2, .string q3, .int .i64 t, .int .i64 u] 46)) (w.heap.size + 1 + 1) 46 #[.string q0, .string q1, .string q2, .string q3, .int .i64 t, .int .i64 u] from blk3 _ _ _ _)
  have HB := Aside0.mk (show Below w.heap.size w (((w.alloc (.cells #[.int .i64 x.f0, .string x.f1, .int .i64 x.f2, .int .i64 x.f3, .slice Ax x.f4.length cx] 40)).alloc (.cells #[.int .i64 y.f0, .string y.f1, .int .i64 y.f2, .int .i64 y.f3, .slice Ay y.f4.length cy] 40)).alloc (.cells #[.string q0, .string q1, .string q2, .string q3, .int .i64 t, .int .i64 u] 46)) from below_alloc (below_alloc (below_alloc (Below.refl _ _) _) _) _)
  have hu40 := Try.underlying40
  have hu46 := Try.underlying46
  have hu38 := Try.underlying38
  clear hbx hby hrx hry hcx hcy
  cases bx with
  | false =>
    go_enter Try.func6, Try.ntmps6
    go_wp2_with (first | (go_at_call 23; (with_reducible refine (HSX.out _ (Kd.C_below HRX.out HB.out)).mono ?_); rintro e w1 ⟨rfl, hb⟩; have K0 := Aside0.mk (H0.out.below hb); have K1 := Aside0.mk (H1.out.below hb); have K2 := Aside0.mk (H2.out.below hb); have KB := Aside0.mk (below_step HB.out hb); have e0 := K1.out.cell 0; have e1 := K1.out.cell 1; have e2 := K1.out.cell 2; have e3 := K1.out.cell 3; have e4 := K1.out.cell 4; simp only [List.getElem?_toArray, List.getElem?_cons_zero, List.getElem?_cons_succ] at e0 e1 e2 e3 e4; clear hb) | (go_at_call 24; refine (live_c _).mono ?_; rintro e w3 ⟨rfl, hb⟩; have HF := Aside0.mk (below_step KB.out hb); clear hb))
    go_ret
    exact ⟨rfl, HF.out⟩
  | true =>
  cases b_y with
  | false =>
    go_enter Try.func6, Try.ntmps6
    go_wp2_with (first | (go_at_call 23; (with_reducible refine (HSX.out _ (Kd.C_below HRX.out HB.out)).mono ?_); rintro e w1 ⟨rfl, hb⟩; have K0 := Aside0.mk (H0.out.below hb); have K1 := Aside0.mk (H1.out.below hb); have K2 := Aside0.mk (H2.out.below hb); have KB := Aside0.mk (below_step HB.out hb); have e0 := K1.out.cell 0; have e1 := K1.out.cell 1; have e2 := K1.out.cell 2; have e3 := K1.out.cell 3; have e4 := K1.out.cell 4; simp only [List.getElem?_toArray, List.getElem?_cons_zero, List.getElem?_cons_succ] at e0 e1 e2 e3 e4; clear hb) | (go_at_call 23; (with_reducible refine (HSY.out _ (Kd.C_below HRY.out KB.out)).mono ?_); rintro e w2 ⟨rfl, hb⟩; have L0 := Aside0.mk (K0.out.below hb); have L1 := Aside0.mk (K1.out.below hb); have L2 := Aside0.mk (K2.out.below hb); have LB := Aside0.mk (below_step KB.out hb); clear hb) | (go_at_call 24; refine (live_c _).mono ?_; rintro e w3 ⟨rfl, hb⟩; have HF := Aside0.mk (below_step LB.out hb); clear hb))
    go_ret
    exact ⟨rfl, HF.out⟩
  | true =>
  go_enter Try.func6, Try.ntmps6
  go_upto_region 3 with (first | (go_at_call 23; (with_reducible refine (HSX.out _ (Kd.C_below HRX.out HB.out)).mono ?_); rintro e w1 ⟨rfl, hb⟩; have K0 := Aside0.mk (H0.out.below hb); have K1 := Aside0.mk (H1.out.below hb); have K2 := Aside0.mk (H2.out.below hb); have KB := Aside0.mk (below_step HB.out hb); have e0 := K1.out.cell 0; have e1 := K1.out.cell 1; have e2 := K1.out.cell 2; have e3 := K1.out.cell 3; have e4 := K1.out.cell 4; simp only [List.getElem?_toArray, List.getElem?_cons_zero, List.getElem?_cons_succ] at e0 e1 e2 e3 e4; clear hb) | (go_at_call 23; (with_reducible refine (HSY.out _ (Kd.C_below HRY.out KB.out)).mono ?_); rintro e w2 ⟨rfl, hb⟩; have L0 := Aside0.mk (K0.out.below hb); have L1 := Aside0.mk (K1.out.below hb); have L2 := Aside0.mk (K2.out.below hb); have LB := Aside0.mk (below_step KB.out hb); clear hb))
  clear H0 H1 H2 HB K0 K1 K2 KB HSX HSY
  have HG := Aside0.mk (show w.heap.size ≠ w.heap.size + 1 by omega)
  obtain ⟨g0, hg0⟩ : ∃ g, w.heap.size = g := ⟨_, rfl⟩
  obtain ⟨g1, hg1⟩ : ∃ g, w.heap.size + 1 = g := ⟨_, rfl⟩
  obtain ⟨g2, hg2⟩ : ∃ g, w.heap.size + 1 + 1 = g := ⟨_, rfl⟩
  rw [hg0] at L0
  rw [hg1] at L1
  rw [hg2] at L2
  rw [hg2, hg1, hg0]
  clear hg0 hg1 hg2 HG
  go_cut [7, 8] from 20 to 27 (fun s7 s8 wx => ∃ b7 k7 b8 k8, s7 = .pointer (some ⟨b7, 0, none⟩) ∧ s8 = .pointer (some ⟨b8, 0, none⟩) ∧ Blk wx b7 40 #[.int .i64 6, .string ⟨#[]⟩, .int .i64 0, .int .i64 0, .slice (some ⟨k7, 0, none⟩) 2 2] ∧ Blk wx k7 40 #[.int .i64 x.f0, .string x.f1, .int .i64 x.f2, .int .i64 x.f3, .slice Ax x.f4.length cx, .int .i64 y.f0, .string y.f1, .int .i64 y.f2, .int .i64 y.f3, .slice Ay y.f4.length cy] ∧ Blk wx b8 40 #[.int .i64 7, .string ⟨#[]⟩, .int .i64 0, .int .i64 0, .slice (some ⟨k8, 0, none⟩) 2 2] ∧ Blk wx k8 40 #[.int .i64 x.f0, .string x.f1, .int .i64 x.f2, .int .i64 x.f3, .slice Ax x.f4.length cx, .int .i64 y.f0, .string y.f1, .int .i64 y.f2, .int .i64 y.f3, .slice Ay y.f4.length cy] ∧ Below w2.heap.size w2 wx)
  case first =>
    have R_0 := Aside0.mk (show Below w2.heap.size w2 w2.drew from below_drew1 (Below.refl _ _))
    have Fg0_0 := Aside0.mk (show Blk w2.drew g0 40 #[.int .i64 x.f0, .string x.f1, .int .i64 x.f2, .int .i64 x.f3, .slice Ax x.f4.length cx] from Blk.below L0.out (below_drew1 (Below.refl _ _)))
    have Fg1_0 := Aside0.mk (show Blk w2.drew g1 40 #[.int .i64 y.f0, .string y.f1, .int .i64 y.f2, .int .i64 y.f3, .slice Ay y.f4.length cy] from Blk.below L1.out (below_drew1 (Below.refl _ _)))
    refine wp_region_held_drew (S := fun w' => w'.cell? ⟨g0, 0, none⟩ = some (.int .i64 x.f0) ∧ w'.cell? ⟨g0, 0 + 1, none⟩ = some (.string x.f1) ∧ w'.cell? ⟨g0, 0 + 2, none⟩ = some (.int .i64 x.f2) ∧ w'.cell? ⟨g0, 0 + 3, none⟩ = some (.int .i64 x.f3) ∧ w'.cell? ⟨g0, 0 + 4, none⟩ = some (.slice Ax x.f4.length cx) ∧ w'.cell? ⟨g1, 0, none⟩ = some (.int .i64 y.f0) ∧ w'.cell? ⟨g1, 0 + 1, none⟩ = some (.string y.f1) ∧ w'.cell? ⟨g1, 0 + 2, none⟩ = some (.int .i64 y.f2) ∧ w'.cell? ⟨g1, 0 + 3, none⟩ = some (.int .i64 y.f3) ∧ w'.cell? ⟨g1, 0 + 4, none⟩ = some (.slice Ay y.f4.length cy)) (by kernel_rfl) (cells10 Fg0_0.out Fg1_0.out) (fun hHeld => ?_)
    (refine wpAnyH_take (i := 0) (v := ?_) rfl (by kernel_rfl) (by kernel_rfl) (by kernel_rfl) (fun _ _ _ h => h) (Or.inl ⟨by rfl, ?_⟩) (by assumption) ?_; (case' refine_2 => (intro w hSw; go_simp; try with_reducible rfl)); (try simp only [Act.put, List.getElem_toArray, List.getElem_cons_zero, List.getElem_cons_succ, List.setIfInBounds_toArray, List.set_cons_zero, List.set_cons_succ]))
    (refine wpAnyH_take (i := 1) (v := ?_) rfl (by kernel_rfl) (by kernel_rfl) (by kernel_rfl) (fun _ _ _ h => h) (Or.inl ⟨by rfl, ?_⟩) (by assumption) ?_; (case' refine_2 => (intro w hSw; go_simp; try with_reducible rfl)); (try simp only [Act.put, List.getElem_toArray, List.getElem_cons_zero, List.getElem_cons_succ, List.setIfInBounds_toArray, List.set_cons_zero, List.set_cons_succ]))
    (refine wpAnyH_take (i := 4) (v := ?_) rfl (by kernel_rfl) (by kernel_rfl) (by kernel_rfl) (fun _ _ _ h => h) (Or.inl ⟨by rfl, ?_⟩) (by assumption) ?_; (case' refine_2 => (intro w hSw; go_simp; try with_reducible rfl)); (try simp only [Act.put, List.getElem_toArray, List.getElem_cons_zero, List.getElem_cons_succ, List.setIfInBounds_toArray, List.set_cons_zero, List.set_cons_succ]))
    (refine wpAnyH_take (i := 5) (v := ?_) rfl (by kernel_rfl) (by kernel_rfl) (by kernel_rfl) (fun _ _ _ h => h) (Or.inl ⟨by rfl, ?_⟩) (by assumption) ?_; (case' refine_2 => (intro w hSw; go_simp; try with_reducible rfl)); (try simp only [Act.put, List.getElem_toArray, List.getElem_cons_zero, List.getElem_cons_succ, List.setIfInBounds_toArray, List.set_cons_zero, List.set_cons_succ]))
    refine wpAnyH_ready (rs := [2, 6, 8, 9]) (by kernel_rfl) (by simp) (AllReadyH.cons rfl (fun K hK => ?_) (AllReadyH.cons rfl (fun K hK => ?_) (AllReadyH.cons rfl (fun K hK => ?_) (AllReadyH.cons rfl (fun K hK => ?_) AllReadyH.nil))))
    ·
     go_simp
     obtain ⟨w1_, hw⟩ : ∃ v, (w2.alloc (.cells #[.int .i64 x.f0, .string x.f1, .int .i64 x.f2, .int .i64 x.f3, .slice Ax x.f4.length cx, .int .i64 y.f0, .string y.f1, .int .i64 y.f2, .int .i64 y.f3, .slice Ay y.f4.length cy] 40)).drew = v := ⟨_, rfl⟩
     obtain ⟨k7, hv⟩ : ∃ v, w2.heap.size = v := ⟨_, rfl⟩
     have Fg0_1 := Aside0.mk (Fg0_0.out.allocd_ hw)
     have Fg1_1 := Aside0.mk (Fg1_0.out.allocd_ hw)
     have Fk7_1 := Aside0.mk (Blk.newd_ hw hv)
     have R_1 := Aside0.mk (restd_ hw)
     have B_k7 := Aside0.mk (show w2.heap.size ≤ k7 from Nat.le_of_eq hv)
     have Ng0_k7 := Aside0.mk (Fg0_0.out.ne_ hv)
     have Ng1_k7 := Aside0.mk (Fg1_0.out.ne_ hv)
     rw [hw, hv]
     clear hv hw
     refine Shut.out hK _ _ (cells10 Fg0_1.out Fg1_1.out) (fun hHeld => ?_)
     clear hK K
     (try simp only [Act.put, List.getElem_toArray, List.getElem_cons_zero, List.getElem_cons_succ, List.setIfInBounds_toArray, List.set_cons_zero, List.set_cons_succ])
     (refine wpAnyH_take (i := 3) (v := ?_) rfl (by kernel_rfl) (by kernel_rfl) (by kernel_rfl) (fun _ _ _ h => h) (Or.inl ⟨by rfl, ?_⟩) (by assumption) ?_; (case' refine_2 => (intro w hSw; go_simp; try with_reducible rfl)); (try simp only [Act.put, List.getElem_toArray, List.getElem_cons_zero, List.getElem_cons_succ, List.setIfInBounds_toArray, List.set_cons_zero, List.set_cons_succ]))
     refine wpAnyH_ready (rs := [6, 8, 9]) (by kernel_rfl) (by simp) (AllReadyH.cons rfl (fun K hK => ?_) (AllReadyH.cons rfl (fun K hK => ?_) (AllReadyH.cons rfl (fun K hK => ?_) AllReadyH.nil)))
     ·
      go_simp
      obtain ⟨w2_, hw⟩ : ∃ v, (w1_.alloc (.cells #[.int .i64 x.f0, .string x.f1, .int .i64 x.f2, .int .i64 x.f3, .slice Ax x.f4.length cx, .int .i64 y.f0, .string y.f1, .int .i64 y.f2, .int .i64 y.f3, .slice Ay y.f4.length cy] 40)) = v := ⟨_, rfl⟩
      obtain ⟨k8, hv⟩ : ∃ v, w1_.heap.size = v := ⟨_, rfl⟩
      have Fg0_2 := Aside0.mk (Fg0_1.out.alloc_ hw)
      have Fg1_2 := Aside0.mk (Fg1_1.out.alloc_ hw)
      have Fk7_2 := Aside0.mk (Fk7_1.out.alloc_ hw)
      have Fk8_2 := Aside0.mk (Blk.new_ hw hv)
      have R_2 := Aside0.mk (rest_ R_1.out hw R_1.out.size)
      have B_k8 := Aside0.mk (show w2.heap.size ≤ k8 from Nat.le_trans R_1.out.size (Nat.le_of_eq hv))
      have Ng0_k8 := Aside0.mk (Fg0_1.out.ne_ hv)
      have Ng1_k8 := Aside0.mk (Fg1_1.out.ne_ hv)
      have Nk7_k8 := Aside0.mk (Fk7_1.out.ne_ hv)
      rw [hw, hv]
      clear hv hw
      refine Shut.out hK _ _ (cells10 Fg0_2.out Fg1_2.out) (fun hHeld => ?_)
      clear hK K
      (try simp only [Act.put, List.getElem_toArray, List.getElem_cons_zero, List.getElem_cons_succ, List.setIfInBounds_toArray, List.set_cons_zero, List.set_cons_succ])
      (refine wpAnyH_take (i := 7) (v := ?_) rfl (by kernel_rfl) (by kernel_rfl) (by kernel_rfl) (fun _ _ _ h => h) (Or.inl ⟨by rfl, ?_⟩) (by assumption) ?_; (case' refine_2 => (intro w hSw; go_simp; try with_reducible rfl)); (try simp only [Act.put, List.getElem_toArray, List.getElem_cons_zero, List.getElem_cons_succ, List.setIfInBounds_toArray, List.set_cons_zero, List.set_cons_succ]))
      refine wpAnyH_ready (rs := [8, 9]) (by kernel_rfl) (by simp) (AllReadyH.cons rfl (fun K hK => ?_) (AllReadyH.cons rfl (fun K hK => ?_) AllReadyH.nil))
      ·
       go_simp
       obtain ⟨w3_, hw⟩ : ∃ v, (w2_.alloc (.cells #[.int .i64 0, .string ⟨#[]⟩, .int .i64 0, .int .i64 0, .slice none 0 0] 40)) = v := ⟨_, rfl⟩
       obtain ⟨b7, hv⟩ : ∃ v, w2_.heap.size = v := ⟨_, rfl⟩
       have Fg0_3 := Aside0.mk (Fg0_2.out.alloc_ hw)
       have Fg1_3 := Aside0.mk (Fg1_2.out.alloc_ hw)
       have Fk7_3 := Aside0.mk (Fk7_2.out.alloc_ hw)
       have Fk8_3 := Aside0.mk (Fk8_2.out.alloc_ hw)
       have Fb7_3 := Aside0.mk (Blk.new_ hw hv)
       have R_3 := Aside0.mk (rest_ R_2.out hw R_2.out.size)
       have B_b7 := Aside0.mk (show w2.heap.size ≤ b7 from Nat.le_trans R_2.out.size (Nat.le_of_eq hv))
       have Ng0_b7 := Aside0.mk (Fg0_2.out.ne_ hv)
       have Ng1_b7 := Aside0.mk (Fg1_2.out.ne_ hv)
       have Nk7_b7 := Aside0.mk (Fk7_2.out.ne_ hv)
       have Nk8_b7 := Aside0.mk (Fk8_2.out.ne_ hv)
       rw [hw, hv]
       clear hv hw
       refine Shut.out hK _ _ (cells10 Fg0_3.out Fg1_3.out) (fun hHeld => ?_)
       clear hK K
       refine wpAnyH_ready (rs := [9]) (by kernel_rfl) (by simp) (AllReadyH.cons rfl (fun K hK => ?_) AllReadyH.nil)
       go_simp
       obtain ⟨w4_, hw⟩ : ∃ v, (w3_.alloc (.cells #[.int .i64 0, .string ⟨#[]⟩, .int .i64 0, .int .i64 0, .slice none 0 0] 40)) = v := ⟨_, rfl⟩
       obtain ⟨b8, hv⟩ : ∃ v, w3_.heap.size = v := ⟨_, rfl⟩
       have Fg0_4 := Aside0.mk (Fg0_3.out.alloc_ hw)
       have Fg1_4 := Aside0.mk (Fg1_3.out.alloc_ hw)
       have Fk7_4 := Aside0.mk (Fk7_3.out.alloc_ hw)
       have Fk8_4 := Aside0.mk (Fk8_3.out.alloc_ hw)
       have Fb7_4 := Aside0.mk (Fb7_3.out.alloc_ hw)
       have Fb8_4 := Aside0.mk (Blk.new_ hw hv)
       have R_4 := Aside0.mk (rest_ R_3.out hw R_3.out.size)
       have B_b8 := Aside0.mk (show w2.heap.size ≤ b8 from Nat.le_trans R_3.out.size (Nat.le_of_eq hv))
       have Ng0_b8 := Aside0.mk (Fg0_3.out.ne_ hv)
       have Ng1_b8 := Aside0.mk (Fg1_3.out.ne_ hv)
       have Nk7_b8 := Aside0.mk (Fk7_3.out.ne_ hv)
       have Nk8_b8 := Aside0.mk (Fk8_3.out.ne_ hv)
       have Nb7_b8 := Aside0.mk (Fb7_3.out.ne_ hv)
       rw [hw, hv]
       clear hv hw
       refine Shut.out hK _ _ (cells10 Fg0_4.out Fg1_4.out) (fun hHeld => ?_)
       clear hK K
       (try simp only [Act.put, List.getElem_toArray, List.getElem_cons_zero, List.getElem_cons_succ, List.setIfInBounds_toArray, List.set_cons_zero, List.set_cons_succ])
       refine wpAnyH_ready (rs := [10]) (by kernel_rfl) (by simp) (AllReadyH.cons rfl (fun K hK => ?_) AllReadyH.nil)
       rw [if_pos (by rfl)]
       refine wp_store_row 40 (.tmp 7) (.tmp 23) rfl b7 #[.int .i64 6, .string ⟨#[]⟩, .int .i64 0, .int .i64 0, .slice (some ⟨k7, 0, none⟩) 2 2] rfl rfl 40 #[.int .i64 0, .string ⟨#[]⟩, .int .i64 0, .int .i64 0, .slice none 0 0] Fb7_4.out info_scope rfl (by simp [Value.oneCell']) ?_
       obtain ⟨w5_, hw⟩ : ∃ v, w4_.setRow b7 #[.int .i64 6, .string ⟨#[]⟩, .int .i64 0, .int .i64 0, .slice (some ⟨k7, 0, none⟩) 2 2] = v := ⟨_, rfl⟩
       have Fg0_5 := Aside0.mk (Fg0_4.out.other_ hw (fun h_ => Ng0_b7.out h_.symm))
       have Fg1_5 := Aside0.mk (Fg1_4.out.other_ hw (fun h_ => Ng1_b7.out h_.symm))
       have Fk7_5 := Aside0.mk (Fk7_4.out.other_ hw (fun h_ => Nk7_b7.out h_.symm))
       have Fk8_5 := Aside0.mk (Fk8_4.out.other_ hw (fun h_ => Nk8_b7.out h_.symm))
       have Fb7_5 := Aside0.mk (Fb7_4.out.same_ hw)
       have Fb8_5 := Aside0.mk (Fb8_4.out.other_ hw Nb7_b8.out)
       have R_5 := Aside0.mk (rests_ R_4.out hw B_b7.out)
       rw [hw]
       clear hw
       refine Shut.out hK _ _ (cells10 Fg0_5.out Fg1_5.out) (fun hHeld => ?_)
       clear hK K
       (try simp only [Act.put, List.getElem_toArray, List.getElem_cons_zero, List.getElem_cons_succ, List.setIfInBounds_toArray, List.set_cons_zero, List.set_cons_succ])
       refine wpAnyH_ready (rs := [11]) (by kernel_rfl) (by simp) (AllReadyH.cons rfl (fun K hK => ?_) AllReadyH.nil)
       rw [if_pos (by rfl)]
       refine wp_store_row 40 (.tmp 8) (.tmp 27) rfl b8 #[.int .i64 7, .string ⟨#[]⟩, .int .i64 0, .int .i64 0, .slice (some ⟨k8, 0, none⟩) 2 2] rfl rfl 40 #[.int .i64 0, .string ⟨#[]⟩, .int .i64 0, .int .i64 0, .slice none 0 0] Fb8_5.out info_scope rfl (by simp [Value.oneCell']) ?_
       obtain ⟨w6_, hw⟩ : ∃ v, w5_.setRow b8 #[.int .i64 7, .string ⟨#[]⟩, .int .i64 0, .int .i64 0, .slice (some ⟨k8, 0, none⟩) 2 2] = v := ⟨_, rfl⟩
       have Fg0_6 := Aside0.mk (Fg0_5.out.other_ hw (fun h_ => Ng0_b8.out h_.symm))
       have Fg1_6 := Aside0.mk (Fg1_5.out.other_ hw (fun h_ => Ng1_b8.out h_.symm))
       have Fk7_6 := Aside0.mk (Fk7_5.out.other_ hw (fun h_ => Nk7_b8.out h_.symm))
       have Fk8_6 := Aside0.mk (Fk8_5.out.other_ hw (fun h_ => Nk8_b8.out h_.symm))
       have Fb7_6 := Aside0.mk (Fb7_5.out.other_ hw (fun h_ => Nb7_b8.out h_.symm))
       have Fb8_6 := Aside0.mk (Fb8_5.out.same_ hw)
       have R_6 := Aside0.mk (rests_ R_5.out hw B_b8.out)
       rw [hw]
       clear hw
       refine Shut.out hK _ _ (cells10 Fg0_6.out Fg1_6.out) (fun hHeld => ?_)
       clear hK K
       (try simp only [Act.put, List.getElem_toArray, List.getElem_cons_zero, List.getElem_cons_succ, List.setIfInBounds_toArray, List.set_cons_zero, List.set_cons_succ])
       refine wpAnyH_done (by kernel_rfl) ?_ _
       go_wp2_with (fail)
       go_meet
       case rel => exact ⟨b7, k7, b8, k8, rfl, rfl, Fb7_6.out, Fk7_6.out, Fb8_6.out, Fk8_6.out, R_6.out⟩
      ·
       go_simp
       obtain ⟨w3_, hw⟩ : ∃ v, (w2_.alloc (.cells #[.int .i64 0, .string ⟨#[]⟩, .int .i64 0, .int .i64 0, .slice none 0 0] 40)) = v := ⟨_, rfl⟩
       obtain ⟨b8, hv⟩ : ∃ v, w2_.heap.size = v := ⟨_, rfl⟩
       have Fg0_3 := Aside0.mk (Fg0_2.out.alloc_ hw)
       have Fg1_3 := Aside0.mk (Fg1_2.out.alloc_ hw)
       have Fk7_3 := Aside0.mk (Fk7_2.out.alloc_ hw)
       have Fk8_3 := Aside0.mk (Fk8_2.out.alloc_ hw)
       have Fb8_3 := Aside0.mk (Blk.new_ hw hv)
       have R_3 := Aside0.mk (rest_ R_2.out hw R_2.out.size)
       have B_b8 := Aside0.mk (show w2.heap.size ≤ b8 from Nat.le_trans R_2.out.size (Nat.le_of_eq hv))
       have Ng0_b8 := Aside0.mk (Fg0_2.out.ne_ hv)
       have Ng1_b8 := Aside0.mk (Fg1_2.out.ne_ hv)
       have Nk7_b8 := Aside0.mk (Fk7_2.out.ne_ hv)
       have Nk8_b8 := Aside0.mk (Fk8_2.out.ne_ hv)
       rw [hw, hv]
       clear hv hw
       refine Shut.out hK _ _ (cells10 Fg0_3.out Fg1_3.out) (fun hHeld => ?_)
       clear hK K
       refine wpAnyH_ready (rs := [8]) (by kernel_rfl) (by simp) (AllReadyH.cons rfl (fun K hK => ?_) AllReadyH.nil)
       go_simp
       obtain ⟨w4_, hw⟩ : ∃ v, (w3_.alloc (.cells #[.int .i64 0, .string ⟨#[]⟩, .int .i64 0, .int .i64 0, .slice none 0 0] 40)) = v := ⟨_, rfl⟩
       obtain ⟨b7, hv⟩ : ∃ v, w3_.heap.size = v := ⟨_, rfl⟩
       have Fg0_4 := Aside0.mk (Fg0_3.out.alloc_ hw)
       have Fg1_4 := Aside0.mk (Fg1_3.out.alloc_ hw)
       have Fk7_4 := Aside0.mk (Fk7_3.out.alloc_ hw)
       have Fk8_4 := Aside0.mk (Fk8_3.out.alloc_ hw)
       have Fb8_4 := Aside0.mk (Fb8_3.out.alloc_ hw)
       have Fb7_4 := Aside0.mk (Blk.new_ hw hv)
       have R_4 := Aside0.mk (rest_ R_3.out hw R_3.out.size)
       have B_b7 := Aside0.mk (show w2.heap.size ≤ b7 from Nat.le_trans R_3.out.size (Nat.le_of_eq hv))
       have Ng0_b7 := Aside0.mk (Fg0_3.out.ne_ hv)
       have Ng1_b7 := Aside0.mk (Fg1_3.out.ne_ hv)
       have Nk7_b7 := Aside0.mk (Fk7_3.out.ne_ hv)
       have Nk8_b7 := Aside0.mk (Fk8_3.out.ne_ hv)
       have Nb8_b7 := Aside0.mk (Fb8_3.out.ne_ hv)
       rw [hw, hv]
       clear hv hw
       refine Shut.out hK _ _ (cells10 Fg0_4.out Fg1_4.out) (fun hHeld => ?_)
       clear hK K
       (try simp only [Act.put, List.getElem_toArray, List.getElem_cons_zero, List.getElem_cons_succ, List.setIfInBounds_toArray, List.set_cons_zero, List.set_cons_succ])
       refine wpAnyH_ready (rs := [10]) (by kernel_rfl) (by simp) (AllReadyH.cons rfl (fun K hK => ?_) AllReadyH.nil)
       rw [if_pos (by rfl)]
       refine wp_store_row 40 (.tmp 7) (.tmp 23) rfl b7 #[.int .i64 6, .string ⟨#[]⟩, .int .i64 0, .int .i64 0, .slice (some ⟨k7, 0, none⟩) 2 2] rfl rfl 40 #[.int .i64 0, .string ⟨#[]⟩, .int .i64 0, .int .i64 0, .slice none 0 0] Fb7_4.out info_scope rfl (by simp [Value.oneCell']) ?_
       obtain ⟨w5_, hw⟩ : ∃ v, w4_.setRow b7 #[.int .i64 6, .string ⟨#[]⟩, .int .i64 0, .int .i64 0, .slice (some ⟨k7, 0, none⟩) 2 2] = v := ⟨_, rfl⟩
       have Fg0_5 := Aside0.mk (Fg0_4.out.other_ hw (fun h_ => Ng0_b7.out h_.symm))
       have Fg1_5 := Aside0.mk (Fg1_4.out.other_ hw (fun h_ => Ng1_b7.out h_.symm))
       have Fk7_5 := Aside0.mk (Fk7_4.out.other_ hw (fun h_ => Nk7_b7.out h_.symm))
       have Fk8_5 := Aside0.mk (Fk8_4.out.other_ hw (fun h_ => Nk8_b7.out h_.symm))
       have Fb8_5 := Aside0.mk (Fb8_4.out.other_ hw (fun h_ => Nb8_b7.out h_.symm))
       have Fb7_5 := Aside0.mk (Fb7_4.out.same_ hw)
       have R_5 := Aside0.mk (rests_ R_4.out hw B_b7.out)
       rw [hw]
       clear hw
       refine Shut.out hK _ _ (cells10 Fg0_5.out Fg1_5.out) (fun hHeld => ?_)
       clear hK K
       (try simp only [Act.put, List.getElem_toArray, List.getElem_cons_zero, List.getElem_cons_succ, List.setIfInBounds_toArray, List.set_cons_zero, List.set_cons_succ])
       refine wpAnyH_ready (rs := [11]) (by kernel_rfl) (by simp) (AllReadyH.cons rfl (fun K hK => ?_) AllReadyH.nil)
       rw [if_pos (by rfl)]
       refine wp_store_row 40 (.tmp 8) (.tmp 27) rfl b8 #[.int .i64 7, .string ⟨#[]⟩, .int .i64 0, .int .i64 0, .slice (some ⟨k8, 0, none⟩) 2 2] rfl rfl 40 #[.int .i64 0, .string ⟨#[]⟩, .int .i64 0, .int .i64 0, .slice none 0 0] Fb8_5.out info_scope rfl (by simp [Value.oneCell']) ?_
       obtain ⟨w6_, hw⟩ : ∃ v, w5_.setRow b8 #[.int .i64 7, .string ⟨#[]⟩, .int .i64 0, .int .i64 0, .slice (some ⟨k8, 0, none⟩) 2 2] = v := ⟨_, rfl⟩
       have Fg0_6 := Aside0.mk (Fg0_5.out.other_ hw (fun h_ => Ng0_b8.out h_.symm))
       have Fg1_6 := Aside0.mk (Fg1_5.out.other_ hw (fun h_ => Ng1_b8.out h_.symm))
       have Fk7_6 := Aside0.mk (Fk7_5.out.other_ hw (fun h_ => Nk7_b8.out h_.symm))
       have Fk8_6 := Aside0.mk (Fk8_5.out.other_ hw (fun h_ => Nk8_b8.out h_.symm))
       have Fb8_6 := Aside0.mk (Fb8_5.out.same_ hw)
       have Fb7_6 := Aside0.mk (Fb7_5.out.other_ hw Nb8_b7.out)
       have R_6 := Aside0.mk (rests_ R_5.out hw B_b8.out)
       rw [hw]
       clear hw
       refine Shut.out hK _ _ (cells10 Fg0_6.out Fg1_6.out) (fun hHeld => ?_)
       clear hK K
       (try simp only [Act.put, List.getElem_toArray, List.getElem_cons_zero, List.getElem_cons_succ, List.setIfInBounds_toArray, List.set_cons_zero, List.set_cons_succ])
       refine wpAnyH_done (by kernel_rfl) ?_ _
       go_wp2_with (fail)
       go_meet
       case rel => exact ⟨b7, k7, b8, k8, rfl, rfl, Fb7_6.out, Fk7_6.out, Fb8_6.out, Fk8_6.out, R_6.out⟩
     ·
      go_simp
      obtain ⟨w2_, hw⟩ : ∃ v, (w1_.alloc (.cells #[.int .i64 0, .string ⟨#[]⟩, .int .i64 0, .int .i64 0, .slice none 0 0] 40)) = v := ⟨_, rfl⟩
      obtain ⟨b7, hv⟩ : ∃ v, w1_.heap.size = v := ⟨_, rfl⟩
      have Fg0_2 := Aside0.mk (Fg0_1.out.alloc_ hw)
      have Fg1_2 := Aside0.mk (Fg1_1.out.alloc_ hw)
      have Fk7_2 := Aside0.mk (Fk7_1.out.alloc_ hw)
      have Fb7_2 := Aside0.mk (Blk.new_ hw hv)
      have R_2 := Aside0.mk (rest_ R_1.out hw R_1.out.size)
      have B_b7 := Aside0.mk (show w2.heap.size ≤ b7 from Nat.le_trans R_1.out.size (Nat.le_of_eq hv))
      have Ng0_b7 := Aside0.mk (Fg0_1.out.ne_ hv)
      have Ng1_b7 := Aside0.mk (Fg1_1.out.ne_ hv)
      have Nk7_b7 := Aside0.mk (Fk7_1.out.ne_ hv)
      rw [hw, hv]
      clear hv hw
      refine Shut.out hK _ _ (cells10 Fg0_2.out Fg1_2.out) (fun hHeld => ?_)
      clear hK K
      refine wpAnyH_ready (rs := [6, 9]) (by kernel_rfl) (by simp) (AllReadyH.cons rfl (fun K hK => ?_) (AllReadyH.cons rfl (fun K hK => ?_) AllReadyH.nil))
      ·
       go_simp
       obtain ⟨w3_, hw⟩ : ∃ v, (w2_.alloc (.cells #[.int .i64 x.f0, .string x.f1, .int .i64 x.f2, .int .i64 x.f3, .slice Ax x.f4.length cx, .int .i64 y.f0, .string y.f1, .int .i64 y.f2, .int .i64 y.f3, .slice Ay y.f4.length cy] 40)) = v := ⟨_, rfl⟩
       obtain ⟨k8, hv⟩ : ∃ v, w2_.heap.size = v := ⟨_, rfl⟩
       have Fg0_3 := Aside0.mk (Fg0_2.out.alloc_ hw)
       have Fg1_3 := Aside0.mk (Fg1_2.out.alloc_ hw)
       have Fk7_3 := Aside0.mk (Fk7_2.out.alloc_ hw)
       have Fb7_3 := Aside0.mk (Fb7_2.out.alloc_ hw)
       have Fk8_3 := Aside0.mk (Blk.new_ hw hv)
       have R_3 := Aside0.mk (rest_ R_2.out hw R_2.out.size)
       have B_k8 := Aside0.mk (show w2.heap.size ≤ k8 from Nat.le_trans R_2.out.size (Nat.le_of_eq hv))
       have Ng0_k8 := Aside0.mk (Fg0_2.out.ne_ hv)
       have Ng1_k8 := Aside0.mk (Fg1_2.out.ne_ hv)
       have Nk7_k8 := Aside0.mk (Fk7_2.out.ne_ hv)
       have Nb7_k8 := Aside0.mk (Fb7_2.out.ne_ hv)
       rw [hw, hv]
       clear hv hw
       refine Shut.out hK _ _ (cells10 Fg0_3.out Fg1_3.out) (fun hHeld => ?_)
       clear hK K
       (try simp only [Act.put, List.getElem_toArray, List.getElem_cons_zero, List.getElem_cons_succ, List.setIfInBounds_toArray, List.set_cons_zero, List.set_cons_succ])
       (refine wpAnyH_take (i := 7) (v := ?_) rfl (by kernel_rfl) (by kernel_rfl) (by kernel_rfl) (fun _ _ _ h => h) (Or.inl ⟨by rfl, ?_⟩) (by assumption) ?_; (case' refine_2 => (intro w hSw; go_simp; try with_reducible rfl)); (try simp only [Act.put, List.getElem_toArray, List.getElem_cons_zero, List.getElem_cons_succ, List.setIfInBounds_toArray, List.set_cons_zero, List.set_cons_succ]))
       refine wpAnyH_ready (rs := [9]) (by kernel_rfl) (by simp) (AllReadyH.cons rfl (fun K hK => ?_) AllReadyH.nil)
       go_simp
       obtain ⟨w4_, hw⟩ : ∃ v, (w3_.alloc (.cells #[.int .i64 0, .string ⟨#[]⟩, .int .i64 0, .int .i64 0, .slice none 0 0] 40)) = v := ⟨_, rfl⟩
       obtain ⟨b8, hv⟩ : ∃ v, w3_.heap.size = v := ⟨_, rfl⟩
       have Fg0_4 := Aside0.mk (Fg0_3.out.alloc_ hw)
       have Fg1_4 := Aside0.mk (Fg1_3.out.alloc_ hw)
       have Fk7_4 := Aside0.mk (Fk7_3.out.alloc_ hw)
       have Fb7_4 := Aside0.mk (Fb7_3.out.alloc_ hw)
       have Fk8_4 := Aside0.mk (Fk8_3.out.alloc_ hw)
       have Fb8_4 := Aside0.mk (Blk.new_ hw hv)
       have R_4 := Aside0.mk (rest_ R_3.out hw R_3.out.size)
       have B_b8 := Aside0.mk (show w2.heap.size ≤ b8 from Nat.le_trans R_3.out.size (Nat.le_of_eq hv))
       have Ng0_b8 := Aside0.mk (Fg0_3.out.ne_ hv)
       have Ng1_b8 := Aside0.mk (Fg1_3.out.ne_ hv)
       have Nk7_b8 := Aside0.mk (Fk7_3.out.ne_ hv)
       have Nb7_b8 := Aside0.mk (Fb7_3.out.ne_ hv)
       have Nk8_b8 := Aside0.mk (Fk8_3.out.ne_ hv)
       rw [hw, hv]
       clear hv hw
       refine Shut.out hK _ _ (cells10 Fg0_4.out Fg1_4.out) (fun hHeld => ?_)
       clear hK K
       (try simp only [Act.put, List.getElem_toArray, List.getElem_cons_zero, List.getElem_cons_succ, List.setIfInBounds_toArray, List.set_cons_zero, List.set_cons_succ])
       refine wpAnyH_ready (rs := [10]) (by kernel_rfl) (by simp) (AllReadyH.cons rfl (fun K hK => ?_) AllReadyH.nil)
       rw [if_pos (by rfl)]
       refine wp_store_row 40 (.tmp 7) (.tmp 23) rfl b7 #[.int .i64 6, .string ⟨#[]⟩, .int .i64 0, .int .i64 0, .slice (some ⟨k7, 0, none⟩) 2 2] rfl rfl 40 #[.int .i64 0, .string ⟨#[]⟩, .int .i64 0, .int .i64 0, .slice none 0 0] Fb7_4.out info_scope rfl (by simp [Value.oneCell']) ?_
       obtain ⟨w5_, hw⟩ : ∃ v, w4_.setRow b7 #[.int .i64 6, .string ⟨#[]⟩, .int .i64 0, .int .i64 0, .slice (some ⟨k7, 0, none⟩) 2 2] = v := ⟨_, rfl⟩
       have Fg0_5 := Aside0.mk (Fg0_4.out.other_ hw (fun h_ => Ng0_b7.out h_.symm))
       have Fg1_5 := Aside0.mk (Fg1_4.out.other_ hw (fun h_ => Ng1_b7.out h_.symm))
       have Fk7_5 := Aside0.mk (Fk7_4.out.other_ hw (fun h_ => Nk7_b7.out h_.symm))
       have Fb7_5 := Aside0.mk (Fb7_4.out.same_ hw)
       have Fk8_5 := Aside0.mk (Fk8_4.out.other_ hw Nb7_k8.out)
       have Fb8_5 := Aside0.mk (Fb8_4.out.other_ hw Nb7_b8.out)
       have R_5 := Aside0.mk (rests_ R_4.out hw B_b7.out)
       rw [hw]
       clear hw
       refine Shut.out hK _ _ (cells10 Fg0_5.out Fg1_5.out) (fun hHeld => ?_)
       clear hK K
       (try simp only [Act.put, List.getElem_toArray, List.getElem_cons_zero, List.getElem_cons_succ, List.setIfInBounds_toArray, List.set_cons_zero, List.set_cons_succ])
       refine wpAnyH_ready (rs := [11]) (by kernel_rfl) (by simp) (AllReadyH.cons rfl (fun K hK => ?_) AllReadyH.nil)
       rw [if_pos (by rfl)]
       refine wp_store_row 40 (.tmp 8) (.tmp 27) rfl b8 #[.int .i64 7, .string ⟨#[]⟩, .int .i64 0, .int .i64 0, .slice (some ⟨k8, 0, none⟩) 2 2] rfl rfl 40 #[.int .i64 0, .string ⟨#[]⟩, .int .i64 0, .int .i64 0, .slice none 0 0] Fb8_5.out info_scope rfl (by simp [Value.oneCell']) ?_
       obtain ⟨w6_, hw⟩ : ∃ v, w5_.setRow b8 #[.int .i64 7, .string ⟨#[]⟩, .int .i64 0, .int .i64 0, .slice (some ⟨k8, 0, none⟩) 2 2] = v := ⟨_, rfl⟩
       have Fg0_6 := Aside0.mk (Fg0_5.out.other_ hw (fun h_ => Ng0_b8.out h_.symm))
       have Fg1_6 := Aside0.mk (Fg1_5.out.other_ hw (fun h_ => Ng1_b8.out h_.symm))
       have Fk7_6 := Aside0.mk (Fk7_5.out.other_ hw (fun h_ => Nk7_b8.out h_.symm))
       have Fb7_6 := Aside0.mk (Fb7_5.out.other_ hw (fun h_ => Nb7_b8.out h_.symm))
       have Fk8_6 := Aside0.mk (Fk8_5.out.other_ hw (fun h_ => Nk8_b8.out h_.symm))
       have Fb8_6 := Aside0.mk (Fb8_5.out.same_ hw)
       have R_6 := Aside0.mk (rests_ R_5.out hw B_b8.out)
       rw [hw]
       clear hw
       refine Shut.out hK _ _ (cells10 Fg0_6.out Fg1_6.out) (fun hHeld => ?_)
       clear hK K
       (try simp only [Act.put, List.getElem_toArray, List.getElem_cons_zero, List.getElem_cons_succ, List.setIfInBounds_toArray, List.set_cons_zero, List.set_cons_succ])
       refine wpAnyH_done (by kernel_rfl) ?_ _
       go_wp2_with (fail)
       go_meet
       case rel => exact ⟨b7, k7, b8, k8, rfl, rfl, Fb7_6.out, Fk7_6.out, Fb8_6.out, Fk8_6.out, R_6.out⟩
      ·
       go_simp
       obtain ⟨w3_, hw⟩ : ∃ v, (w2_.alloc (.cells #[.int .i64 0, .string ⟨#[]⟩, .int .i64 0, .int .i64 0, .slice none 0 0] 40)) = v := ⟨_, rfl⟩
       obtain ⟨b8, hv⟩ : ∃ v, w2_.heap.size = v := ⟨_, rfl⟩
       have Fg0_3 := Aside0.mk (Fg0_2.out.alloc_ hw)
       have Fg1_3 := Aside0.mk (Fg1_2.out.alloc_ hw)
       have Fk7_3 := Aside0.mk (Fk7_2.out.alloc_ hw)
       have Fb7_3 := Aside0.mk (Fb7_2.out.alloc_ hw)
       have Fb8_3 := Aside0.mk (Blk.new_ hw hv)
       have R_3 := Aside0.mk (rest_ R_2.out hw R_2.out.size)
       have B_b8 := Aside0.mk (show w2.heap.size ≤ b8 from Nat.le_trans R_2.out.size (Nat.le_of_eq hv))
       have Ng0_b8 := Aside0.mk (Fg0_2.out.ne_ hv)
       have Ng1_b8 := Aside0.mk (Fg1_2.out.ne_ hv)
       have Nk7_b8 := Aside0.mk (Fk7_2.out.ne_ hv)
       have Nb7_b8 := Aside0.mk (Fb7_2.out.ne_ hv)
       rw [hw, hv]
       clear hv hw
       refine Shut.out hK _ _ (cells10 Fg0_3.out Fg1_3.out) (fun hHeld => ?_)
       clear hK K
       (try simp only [Act.put, List.getElem_toArray, List.getElem_cons_zero, List.getElem_cons_succ, List.setIfInBounds_toArray, List.set_cons_zero, List.set_cons_succ])
       refine wpAnyH_ready (rs := [6, 10]) (by kernel_rfl) (by simp) (AllReadyH.cons rfl (fun K hK => ?_) (AllReadyH.cons rfl (fun K hK => ?_) AllReadyH.nil))
       ·
        go_simp
        obtain ⟨w4_, hw⟩ : ∃ v, (w3_.alloc (.cells #[.int .i64 x.f0, .string x.f1, .int .i64 x.f2, .int .i64 x.f3, .slice Ax x.f4.length cx, .int .i64 y.f0, .string y.f1, .int .i64 y.f2, .int .i64 y.f3, .slice Ay y.f4.length cy] 40)) = v := ⟨_, rfl⟩
        obtain ⟨k8, hv⟩ : ∃ v, w3_.heap.size = v := ⟨_, rfl⟩
        have Fg0_4 := Aside0.mk (Fg0_3.out.alloc_ hw)
        have Fg1_4 := Aside0.mk (Fg1_3.out.alloc_ hw)
        have Fk7_4 := Aside0.mk (Fk7_3.out.alloc_ hw)
        have Fb7_4 := Aside0.mk (Fb7_3.out.alloc_ hw)
        have Fb8_4 := Aside0.mk (Fb8_3.out.alloc_ hw)
        have Fk8_4 := Aside0.mk (Blk.new_ hw hv)
        have R_4 := Aside0.mk (rest_ R_3.out hw R_3.out.size)
        have B_k8 := Aside0.mk (show w2.heap.size ≤ k8 from Nat.le_trans R_3.out.size (Nat.le_of_eq hv))
        have Ng0_k8 := Aside0.mk (Fg0_3.out.ne_ hv)
        have Ng1_k8 := Aside0.mk (Fg1_3.out.ne_ hv)
        have Nk7_k8 := Aside0.mk (Fk7_3.out.ne_ hv)
        have Nb7_k8 := Aside0.mk (Fb7_3.out.ne_ hv)
        have Nb8_k8 := Aside0.mk (Fb8_3.out.ne_ hv)
        rw [hw, hv]
        clear hv hw
        refine Shut.out hK _ _ (cells10 Fg0_4.out Fg1_4.out) (fun hHeld => ?_)
        clear hK K
        (try simp only [Act.put, List.getElem_toArray, List.getElem_cons_zero, List.getElem_cons_succ, List.setIfInBounds_toArray, List.set_cons_zero, List.set_cons_succ])
        (refine wpAnyH_take (i := 7) (v := ?_) rfl (by kernel_rfl) (by kernel_rfl) (by kernel_rfl) (fun _ _ _ h => h) (Or.inl ⟨by rfl, ?_⟩) (by assumption) ?_; (case' refine_2 => (intro w hSw; go_simp; try with_reducible rfl)); (try simp only [Act.put, List.getElem_toArray, List.getElem_cons_zero, List.getElem_cons_succ, List.setIfInBounds_toArray, List.set_cons_zero, List.set_cons_succ]))
        refine wpAnyH_ready (rs := [10]) (by kernel_rfl) (by simp) (AllReadyH.cons rfl (fun K hK => ?_) AllReadyH.nil)
        rw [if_pos (by rfl)]
        refine wp_store_row 40 (.tmp 7) (.tmp 23) rfl b7 #[.int .i64 6, .string ⟨#[]⟩, .int .i64 0, .int .i64 0, .slice (some ⟨k7, 0, none⟩) 2 2] rfl rfl 40 #[.int .i64 0, .string ⟨#[]⟩, .int .i64 0, .int .i64 0, .slice none 0 0] Fb7_4.out info_scope rfl (by simp [Value.oneCell']) ?_
        obtain ⟨w5_, hw⟩ : ∃ v, w4_.setRow b7 #[.int .i64 6, .string ⟨#[]⟩, .int .i64 0, .int .i64 0, .slice (some ⟨k7, 0, none⟩) 2 2] = v := ⟨_, rfl⟩
        have Fg0_5 := Aside0.mk (Fg0_4.out.other_ hw (fun h_ => Ng0_b7.out h_.symm))
        have Fg1_5 := Aside0.mk (Fg1_4.out.other_ hw (fun h_ => Ng1_b7.out h_.symm))
        have Fk7_5 := Aside0.mk (Fk7_4.out.other_ hw (fun h_ => Nk7_b7.out h_.symm))
        have Fb7_5 := Aside0.mk (Fb7_4.out.same_ hw)
        have Fb8_5 := Aside0.mk (Fb8_4.out.other_ hw Nb7_b8.out)
        have Fk8_5 := Aside0.mk (Fk8_4.out.other_ hw Nb7_k8.out)
        have R_5 := Aside0.mk (rests_ R_4.out hw B_b7.out)
        rw [hw]
        clear hw
        refine Shut.out hK _ _ (cells10 Fg0_5.out Fg1_5.out) (fun hHeld => ?_)
        clear hK K
        (try simp only [Act.put, List.getElem_toArray, List.getElem_cons_zero, List.getElem_cons_succ, List.setIfInBounds_toArray, List.set_cons_zero, List.set_cons_succ])
        refine wpAnyH_ready (rs := [11]) (by kernel_rfl) (by simp) (AllReadyH.cons rfl (fun K hK => ?_) AllReadyH.nil)
        rw [if_pos (by rfl)]
        refine wp_store_row 40 (.tmp 8) (.tmp 27) rfl b8 #[.int .i64 7, .string ⟨#[]⟩, .int .i64 0, .int .i64 0, .slice (some ⟨k8, 0, none⟩) 2 2] rfl rfl 40 #[.int .i64 0, .string ⟨#[]⟩, .int .i64 0, .int .i64 0, .slice none 0 0] Fb8_5.out info_scope rfl (by simp [Value.oneCell']) ?_
        obtain ⟨w6_, hw⟩ : ∃ v, w5_.setRow b8 #[.int .i64 7, .string ⟨#[]⟩, .int .i64 0, .int .i64 0, .slice (some ⟨k8, 0, none⟩) 2 2] = v := ⟨_, rfl⟩
        have Fg0_6 := Aside0.mk (Fg0_5.out.other_ hw (fun h_ => Ng0_b8.out h_.symm))
        have Fg1_6 := Aside0.mk (Fg1_5.out.other_ hw (fun h_ => Ng1_b8.out h_.symm))
        have Fk7_6 := Aside0.mk (Fk7_5.out.other_ hw (fun h_ => Nk7_b8.out h_.symm))
        have Fb7_6 := Aside0.mk (Fb7_5.out.other_ hw (fun h_ => Nb7_b8.out h_.symm))
        have Fb8_6 := Aside0.mk (Fb8_5.out.same_ hw)
        have Fk8_6 := Aside0.mk (Fk8_5.out.other_ hw Nb8_k8.out)
        have R_6 := Aside0.mk (rests_ R_5.out hw B_b8.out)
        rw [hw]
        clear hw
        refine Shut.out hK _ _ (cells10 Fg0_6.out Fg1_6.out) (fun hHeld => ?_)
        clear hK K
        (try simp only [Act.put, List.getElem_toArray, List.getElem_cons_zero, List.getElem_cons_succ, List.setIfInBounds_toArray, List.set_cons_zero, List.set_cons_succ])
        refine wpAnyH_done (by kernel_rfl) ?_ _
        go_wp2_with (fail)
        go_meet
        case rel => exact ⟨b7, k7, b8, k8, rfl, rfl, Fb7_6.out, Fk7_6.out, Fb8_6.out, Fk8_6.out, R_6.out⟩
       ·
        rw [if_pos (by rfl)]
        refine wp_store_row 40 (.tmp 7) (.tmp 23) rfl b7 #[.int .i64 6, .string ⟨#[]⟩, .int .i64 0, .int .i64 0, .slice (some ⟨k7, 0, none⟩) 2 2] rfl rfl 40 #[.int .i64 0, .string ⟨#[]⟩, .int .i64 0, .int .i64 0, .slice none 0 0] Fb7_3.out info_scope rfl (by simp [Value.oneCell']) ?_
        obtain ⟨w4_, hw⟩ : ∃ v, w3_.setRow b7 #[.int .i64 6, .string ⟨#[]⟩, .int .i64 0, .int .i64 0, .slice (some ⟨k7, 0, none⟩) 2 2] = v := ⟨_, rfl⟩
        have Fg0_4 := Aside0.mk (Fg0_3.out.other_ hw (fun h_ => Ng0_b7.out h_.symm))
        have Fg1_4 := Aside0.mk (Fg1_3.out.other_ hw (fun h_ => Ng1_b7.out h_.symm))
        have Fk7_4 := Aside0.mk (Fk7_3.out.other_ hw (fun h_ => Nk7_b7.out h_.symm))
        have Fb7_4 := Aside0.mk (Fb7_3.out.same_ hw)
        have Fb8_4 := Aside0.mk (Fb8_3.out.other_ hw Nb7_b8.out)
        have R_4 := Aside0.mk (rests_ R_3.out hw B_b7.out)
        rw [hw]
        clear hw
        refine Shut.out hK _ _ (cells10 Fg0_4.out Fg1_4.out) (fun hHeld => ?_)
        clear hK K
        (try simp only [Act.put, List.getElem_toArray, List.getElem_cons_zero, List.getElem_cons_succ, List.setIfInBounds_toArray, List.set_cons_zero, List.set_cons_succ])
        refine wpAnyH_ready (rs := [6]) (by kernel_rfl) (by simp) (AllReadyH.cons rfl (fun K hK => ?_) AllReadyH.nil)
        go_simp
        obtain ⟨w5_, hw⟩ : ∃ v, (w4_.alloc (.cells #[.int .i64 x.f0, .string x.f1, .int .i64 x.f2, .int .i64 x.f3, .slice Ax x.f4.length cx, .int .i64 y.f0, .string y.f1, .int .i64 y.f2, .int .i64 y.f3, .slice Ay y.f4.length cy] 40)) = v := ⟨_, rfl⟩
        obtain ⟨k8, hv⟩ : ∃ v, w4_.heap.size = v := ⟨_, rfl⟩
        have Fg0_5 := Aside0.mk (Fg0_4.out.alloc_ hw)
        have Fg1_5 := Aside0.mk (Fg1_4.out.alloc_ hw)
        have Fk7_5 := Aside0.mk (Fk7_4.out.alloc_ hw)
        have Fb7_5 := Aside0.mk (Fb7_4.out.alloc_ hw)
        have Fb8_5 := Aside0.mk (Fb8_4.out.alloc_ hw)
        have Fk8_5 := Aside0.mk (Blk.new_ hw hv)
        have R_5 := Aside0.mk (rest_ R_4.out hw R_4.out.size)
        have B_k8 := Aside0.mk (show w2.heap.size ≤ k8 from Nat.le_trans R_4.out.size (Nat.le_of_eq hv))
        have Ng0_k8 := Aside0.mk (Fg0_4.out.ne_ hv)
        have Ng1_k8 := Aside0.mk (Fg1_4.out.ne_ hv)
        have Nk7_k8 := Aside0.mk (Fk7_4.out.ne_ hv)
        have Nb7_k8 := Aside0.mk (Fb7_4.out.ne_ hv)
        have Nb8_k8 := Aside0.mk (Fb8_4.out.ne_ hv)
        rw [hw, hv]
        clear hv hw
        refine Shut.out hK _ _ (cells10 Fg0_5.out Fg1_5.out) (fun hHeld => ?_)
        clear hK K
        (try simp only [Act.put, List.getElem_toArray, List.getElem_cons_zero, List.getElem_cons_succ, List.setIfInBounds_toArray, List.set_cons_zero, List.set_cons_succ])
        (refine wpAnyH_take (i := 7) (v := ?_) rfl (by kernel_rfl) (by kernel_rfl) (by kernel_rfl) (fun _ _ _ h => h) (Or.inl ⟨by rfl, ?_⟩) (by assumption) ?_; (case' refine_2 => (intro w hSw; go_simp; try with_reducible rfl)); (try simp only [Act.put, List.getElem_toArray, List.getElem_cons_zero, List.getElem_cons_succ, List.setIfInBounds_toArray, List.set_cons_zero, List.set_cons_succ]))
        refine wpAnyH_ready (rs := [11]) (by kernel_rfl) (by simp) (AllReadyH.cons rfl (fun K hK => ?_) AllReadyH.nil)
        rw [if_pos (by rfl)]
        refine wp_store_row 40 (.tmp 8) (.tmp 27) rfl b8 #[.int .i64 7, .string ⟨#[]⟩, .int .i64 0, .int .i64 0, .slice (some ⟨k8, 0, none⟩) 2 2] rfl rfl 40 #[.int .i64 0, .string ⟨#[]⟩, .int .i64 0, .int .i64 0, .slice none 0 0] Fb8_5.out info_scope rfl (by simp [Value.oneCell']) ?_
        obtain ⟨w6_, hw⟩ : ∃ v, w5_.setRow b8 #[.int .i64 7, .string ⟨#[]⟩, .int .i64 0, .int .i64 0, .slice (some ⟨k8, 0, none⟩) 2 2] = v := ⟨_, rfl⟩
        have Fg0_6 := Aside0.mk (Fg0_5.out.other_ hw (fun h_ => Ng0_b8.out h_.symm))
        have Fg1_6 := Aside0.mk (Fg1_5.out.other_ hw (fun h_ => Ng1_b8.out h_.symm))
        have Fk7_6 := Aside0.mk (Fk7_5.out.other_ hw (fun h_ => Nk7_b8.out h_.symm))
        have Fb7_6 := Aside0.mk (Fb7_5.out.other_ hw (fun h_ => Nb7_b8.out h_.symm))
        have Fb8_6 := Aside0.mk (Fb8_5.out.same_ hw)
        have Fk8_6 := Aside0.mk (Fk8_5.out.other_ hw Nb8_k8.out)
        have R_6 := Aside0.mk (rests_ R_5.out hw B_b8.out)
        rw [hw]
        clear hw
        refine Shut.out hK _ _ (cells10 Fg0_6.out Fg1_6.out) (fun hHeld => ?_)
        clear hK K
        (try simp only [Act.put, List.getElem_toArray, List.getElem_cons_zero, List.getElem_cons_succ, List.setIfInBounds_toArray, List.set_cons_zero, List.set_cons_succ])
        refine wpAnyH_done (by kernel_rfl) ?_ _
        go_wp2_with (fail)
        go_meet
        case rel => exact ⟨b7, k7, b8, k8, rfl, rfl, Fb7_6.out, Fk7_6.out, Fb8_6.out, Fk8_6.out, R_6.out⟩
     ·
      go_simp
      obtain ⟨w2_, hw⟩ : ∃ v, (w1_.alloc (.cells #[.int .i64 0, .string ⟨#[]⟩, .int .i64 0, .int .i64 0, .slice none 0 0] 40)) = v := ⟨_, rfl⟩
      obtain ⟨b8, hv⟩ : ∃ v, w1_.heap.size = v := ⟨_, rfl⟩
      have Fg0_2 := Aside0.mk (Fg0_1.out.alloc_ hw)
      have Fg1_2 := Aside0.mk (Fg1_1.out.alloc_ hw)
      have Fk7_2 := Aside0.mk (Fk7_1.out.alloc_ hw)
      have Fb8_2 := Aside0.mk (Blk.new_ hw hv)
      have R_2 := Aside0.mk (rest_ R_1.out hw R_1.out.size)
      have B_b8 := Aside0.mk (show w2.heap.size ≤ b8 from Nat.le_trans R_1.out.size (Nat.le_of_eq hv))
      have Ng0_b8 := Aside0.mk (Fg0_1.out.ne_ hv)
      have Ng1_b8 := Aside0.mk (Fg1_1.out.ne_ hv)
      have Nk7_b8 := Aside0.mk (Fk7_1.out.ne_ hv)
      rw [hw, hv]
      clear hv hw
      refine Shut.out hK _ _ (cells10 Fg0_2.out Fg1_2.out) (fun hHeld => ?_)
      clear hK K
      refine wpAnyH_ready (rs := [6, 8]) (by kernel_rfl) (by simp) (AllReadyH.cons rfl (fun K hK => ?_) (AllReadyH.cons rfl (fun K hK => ?_) AllReadyH.nil))
      ·
       go_simp
       obtain ⟨w3_, hw⟩ : ∃ v, (w2_.alloc (.cells #[.int .i64 x.f0, .string x.f1, .int .i64 x.f2, .int .i64 x.f3, .slice Ax x.f4.length cx, .int .i64 y.f0, .string y.f1, .int .i64 y.f2, .int .i64 y.f3, .slice Ay y.f4.length cy] 40)) = v := ⟨_, rfl⟩
       obtain ⟨k8, hv⟩ : ∃ v, w2_.heap.size = v := ⟨_, rfl⟩
       have Fg0_3 := Aside0.mk (Fg0_2.out.alloc_ hw)
       have Fg1_3 := Aside0.mk (Fg1_2.out.alloc_ hw)
       have Fk7_3 := Aside0.mk (Fk7_2.out.alloc_ hw)
       have Fb8_3 := Aside0.mk (Fb8_2.out.alloc_ hw)
       have Fk8_3 := Aside0.mk (Blk.new_ hw hv)
       have R_3 := Aside0.mk (rest_ R_2.out hw R_2.out.size)
       have B_k8 := Aside0.mk (show w2.heap.size ≤ k8 from Nat.le_trans R_2.out.size (Nat.le_of_eq hv))
       have Ng0_k8 := Aside0.mk (Fg0_2.out.ne_ hv)
       have Ng1_k8 := Aside0.mk (Fg1_2.out.ne_ hv)
       have Nk7_k8 := Aside0.mk (Fk7_2.out.ne_ hv)
       have Nb8_k8 := Aside0.mk (Fb8_2.out.ne_ hv)
       rw [hw, hv]
       clear hv hw
       refine Shut.out hK _ _ (cells10 Fg0_3.out Fg1_3.out) (fun hHeld => ?_)
       clear hK K
       (try simp only [Act.put, List.getElem_toArray, List.getElem_cons_zero, List.getElem_cons_succ, List.setIfInBounds_toArray, List.set_cons_zero, List.set_cons_succ])
       (refine wpAnyH_take (i := 7) (v := ?_) rfl (by kernel_rfl) (by kernel_rfl) (by kernel_rfl) (fun _ _ _ h => h) (Or.inl ⟨by rfl, ?_⟩) (by assumption) ?_; (case' refine_2 => (intro w hSw; go_simp; try with_reducible rfl)); (try simp only [Act.put, List.getElem_toArray, List.getElem_cons_zero, List.getElem_cons_succ, List.setIfInBounds_toArray, List.set_cons_zero, List.set_cons_succ]))
       refine wpAnyH_ready (rs := [8]) (by kernel_rfl) (by simp) (AllReadyH.cons rfl (fun K hK => ?_) AllReadyH.nil)
       go_simp
       obtain ⟨w4_, hw⟩ : ∃ v, (w3_.alloc (.cells #[.int .i64 0, .string ⟨#[]⟩, .int .i64 0, .int .i64 0, .slice none 0 0] 40)) = v := ⟨_, rfl⟩
       obtain ⟨b7, hv⟩ : ∃ v, w3_.heap.size = v := ⟨_, rfl⟩
       have Fg0_4 := Aside0.mk (Fg0_3.out.alloc_ hw)
       have Fg1_4 := Aside0.mk (Fg1_3.out.alloc_ hw)
       have Fk7_4 := Aside0.mk (Fk7_3.out.alloc_ hw)
       have Fb8_4 := Aside0.mk (Fb8_3.out.alloc_ hw)
       have Fk8_4 := Aside0.mk (Fk8_3.out.alloc_ hw)
       have Fb7_4 := Aside0.mk (Blk.new_ hw hv)
       have R_4 := Aside0.mk (rest_ R_3.out hw R_3.out.size)
       have B_b7 := Aside0.mk (show w2.heap.size ≤ b7 from Nat.le_trans R_3.out.size (Nat.le_of_eq hv))
       have Ng0_b7 := Aside0.mk (Fg0_3.out.ne_ hv)
       have Ng1_b7 := Aside0.mk (Fg1_3.out.ne_ hv)
       have Nk7_b7 := Aside0.mk (Fk7_3.out.ne_ hv)
       have Nb8_b7 := Aside0.mk (Fb8_3.out.ne_ hv)
       have Nk8_b7 := Aside0.mk (Fk8_3.out.ne_ hv)
       rw [hw, hv]
       clear hv hw
       refine Shut.out hK _ _ (cells10 Fg0_4.out Fg1_4.out) (fun hHeld => ?_)
       clear hK K
       (try simp only [Act.put, List.getElem_toArray, List.getElem_cons_zero, List.getElem_cons_succ, List.setIfInBounds_toArray, List.set_cons_zero, List.set_cons_succ])
       refine wpAnyH_ready (rs := [10]) (by kernel_rfl) (by simp) (AllReadyH.cons rfl (fun K hK => ?_) AllReadyH.nil)
       rw [if_pos (by rfl)]
       refine wp_store_row 40 (.tmp 7) (.tmp 23) rfl b7 #[.int .i64 6, .string ⟨#[]⟩, .int .i64 0, .int .i64 0, .slice (some ⟨k7, 0, none⟩) 2 2] rfl rfl 40 #[.int .i64 0, .string ⟨#[]⟩, .int .i64 0, .int .i64 0, .slice none 0 0] Fb7_4.out info_scope rfl (by simp [Value.oneCell']) ?_
       obtain ⟨w5_, hw⟩ : ∃ v, w4_.setRow b7 #[.int .i64 6, .string ⟨#[]⟩, .int .i64 0, .int .i64 0, .slice (some ⟨k7, 0, none⟩) 2 2] = v := ⟨_, rfl⟩
       have Fg0_5 := Aside0.mk (Fg0_4.out.other_ hw (fun h_ => Ng0_b7.out h_.symm))
       have Fg1_5 := Aside0.mk (Fg1_4.out.other_ hw (fun h_ => Ng1_b7.out h_.symm))
       have Fk7_5 := Aside0.mk (Fk7_4.out.other_ hw (fun h_ => Nk7_b7.out h_.symm))
       have Fb8_5 := Aside0.mk (Fb8_4.out.other_ hw (fun h_ => Nb8_b7.out h_.symm))
       have Fk8_5 := Aside0.mk (Fk8_4.out.other_ hw (fun h_ => Nk8_b7.out h_.symm))
       have Fb7_5 := Aside0.mk (Fb7_4.out.same_ hw)
       have R_5 := Aside0.mk (rests_ R_4.out hw B_b7.out)
       rw [hw]
       clear hw
       refine Shut.out hK _ _ (cells10 Fg0_5.out Fg1_5.out) (fun hHeld => ?_)
       clear hK K
       (try simp only [Act.put, List.getElem_toArray, List.getElem_cons_zero, List.getElem_cons_succ, List.setIfInBounds_toArray, List.set_cons_zero, List.set_cons_succ])
       refine wpAnyH_ready (rs := [11]) (by kernel_rfl) (by simp) (AllReadyH.cons rfl (fun K hK => ?_) AllReadyH.nil)
       rw [if_pos (by rfl)]
       refine wp_store_row 40 (.tmp 8) (.tmp 27) rfl b8 #[.int .i64 7, .string ⟨#[]⟩, .int .i64 0, .int .i64 0, .slice (some ⟨k8, 0, none⟩) 2 2] rfl rfl 40 #[.int .i64 0, .string ⟨#[]⟩, .int .i64 0, .int .i64 0, .slice none 0 0] Fb8_5.out info_scope rfl (by simp [Value.oneCell']) ?_
       obtain ⟨w6_, hw⟩ : ∃ v, w5_.setRow b8 #[.int .i64 7, .string ⟨#[]⟩, .int .i64 0, .int .i64 0, .slice (some ⟨k8, 0, none⟩) 2 2] = v := ⟨_, rfl⟩
       have Fg0_6 := Aside0.mk (Fg0_5.out.other_ hw (fun h_ => Ng0_b8.out h_.symm))
       have Fg1_6 := Aside0.mk (Fg1_5.out.other_ hw (fun h_ => Ng1_b8.out h_.symm))
       have Fk7_6 := Aside0.mk (Fk7_5.out.other_ hw (fun h_ => Nk7_b8.out h_.symm))
       have Fb8_6 := Aside0.mk (Fb8_5.out.same_ hw)
       have Fk8_6 := Aside0.mk (Fk8_5.out.other_ hw Nb8_k8.out)
       have Fb7_6 := Aside0.mk (Fb7_5.out.other_ hw Nb8_b7.out)
       have R_6 := Aside0.mk (rests_ R_5.out hw B_b8.out)
       rw [hw]
       clear hw
       refine Shut.out hK _ _ (cells10 Fg0_6.out Fg1_6.out) (fun hHeld => ?_)
       clear hK K
       (try simp only [Act.put, List.getElem_toArray, List.getElem_cons_zero, List.getElem_cons_succ, List.setIfInBounds_toArray, List.set_cons_zero, List.set_cons_succ])
       refine wpAnyH_done (by kernel_rfl) ?_ _
       go_wp2_with (fail)
       go_meet
       case rel => exact ⟨b7, k7, b8, k8, rfl, rfl, Fb7_6.out, Fk7_6.out, Fb8_6.out, Fk8_6.out, R_6.out⟩
      ·
       go_simp
       obtain ⟨w3_, hw⟩ : ∃ v, (w2_.alloc (.cells #[.int .i64 0, .string ⟨#[]⟩, .int .i64 0, .int .i64 0, .slice none 0 0] 40)) = v := ⟨_, rfl⟩
       obtain ⟨b7, hv⟩ : ∃ v, w2_.heap.size = v := ⟨_, rfl⟩
       have Fg0_3 := Aside0.mk (Fg0_2.out.alloc_ hw)
       have Fg1_3 := Aside0.mk (Fg1_2.out.alloc_ hw)
       have Fk7_3 := Aside0.mk (Fk7_2.out.alloc_ hw)
       have Fb8_3 := Aside0.mk (Fb8_2.out.alloc_ hw)
       have Fb7_3 := Aside0.mk (Blk.new_ hw hv)
       have R_3 := Aside0.mk (rest_ R_2.out hw R_2.out.size)
       have B_b7 := Aside0.mk (show w2.heap.size ≤ b7 from Nat.le_trans R_2.out.size (Nat.le_of_eq hv))
       have Ng0_b7 := Aside0.mk (Fg0_2.out.ne_ hv)
       have Ng1_b7 := Aside0.mk (Fg1_2.out.ne_ hv)
       have Nk7_b7 := Aside0.mk (Fk7_2.out.ne_ hv)
       have Nb8_b7 := Aside0.mk (Fb8_2.out.ne_ hv)
       rw [hw, hv]
       clear hv hw
       refine Shut.out hK _ _ (cells10 Fg0_3.out Fg1_3.out) (fun hHeld => ?_)
       clear hK K
       (try simp only [Act.put, List.getElem_toArray, List.getElem_cons_zero, List.getElem_cons_succ, List.setIfInBounds_toArray, List.set_cons_zero, List.set_cons_succ])
       refine wpAnyH_ready (rs := [6, 10]) (by kernel_rfl) (by simp) (AllReadyH.cons rfl (fun K hK => ?_) (AllReadyH.cons rfl (fun K hK => ?_) AllReadyH.nil))
       ·
        go_simp
        obtain ⟨w4_, hw⟩ : ∃ v, (w3_.alloc (.cells #[.int .i64 x.f0, .string x.f1, .int .i64 x.f2, .int .i64 x.f3, .slice Ax x.f4.length cx, .int .i64 y.f0, .string y.f1, .int .i64 y.f2, .int .i64 y.f3, .slice Ay y.f4.length cy] 40)) = v := ⟨_, rfl⟩
        obtain ⟨k8, hv⟩ : ∃ v, w3_.heap.size = v := ⟨_, rfl⟩
        have Fg0_4 := Aside0.mk (Fg0_3.out.alloc_ hw)
        have Fg1_4 := Aside0.mk (Fg1_3.out.alloc_ hw)
        have Fk7_4 := Aside0.mk (Fk7_3.out.alloc_ hw)
        have Fb8_4 := Aside0.mk (Fb8_3.out.alloc_ hw)
        have Fb7_4 := Aside0.mk (Fb7_3.out.alloc_ hw)
        have Fk8_4 := Aside0.mk (Blk.new_ hw hv)
        have R_4 := Aside0.mk (rest_ R_3.out hw R_3.out.size)
        have B_k8 := Aside0.mk (show w2.heap.size ≤ k8 from Nat.le_trans R_3.out.size (Nat.le_of_eq hv))
        have Ng0_k8 := Aside0.mk (Fg0_3.out.ne_ hv)
        have Ng1_k8 := Aside0.mk (Fg1_3.out.ne_ hv)
        have Nk7_k8 := Aside0.mk (Fk7_3.out.ne_ hv)
        have Nb8_k8 := Aside0.mk (Fb8_3.out.ne_ hv)
        have Nb7_k8 := Aside0.mk (Fb7_3.out.ne_ hv)
        rw [hw, hv]
        clear hv hw
        refine Shut.out hK _ _ (cells10 Fg0_4.out Fg1_4.out) (fun hHeld => ?_)
        clear hK K
        (try simp only [Act.put, List.getElem_toArray, List.getElem_cons_zero, List.getElem_cons_succ, List.setIfInBounds_toArray, List.set_cons_zero, List.set_cons_succ])
        (refine wpAnyH_take (i := 7) (v := ?_) rfl (by kernel_rfl) (by kernel_rfl) (by kernel_rfl) (fun _ _ _ h => h) (Or.inl ⟨by rfl, ?_⟩) (by assumption) ?_; (case' refine_2 => (intro w hSw; go_simp; try with_reducible rfl)); (try simp only [Act.put, List.getElem_toArray, List.getElem_cons_zero, List.getElem_cons_succ, List.setIfInBounds_toArray, List.set_cons_zero, List.set_cons_succ]))
        refine wpAnyH_ready (rs := [10]) (by kernel_rfl) (by simp) (AllReadyH.cons rfl (fun K hK => ?_) AllReadyH.nil)
        rw [if_pos (by rfl)]
        refine wp_store_row 40 (.tmp 7) (.tmp 23) rfl b7 #[.int .i64 6, .string ⟨#[]⟩, .int .i64 0, .int .i64 0, .slice (some ⟨k7, 0, none⟩) 2 2] rfl rfl 40 #[.int .i64 0, .string ⟨#[]⟩, .int .i64 0, .int .i64 0, .slice none 0 0] Fb7_4.out info_scope rfl (by simp [Value.oneCell']) ?_
        obtain ⟨w5_, hw⟩ : ∃ v, w4_.setRow b7 #[.int .i64 6, .string ⟨#[]⟩, .int .i64 0, .int .i64 0, .slice (some ⟨k7, 0, none⟩) 2 2] = v := ⟨_, rfl⟩
        have Fg0_5 := Aside0.mk (Fg0_4.out.other_ hw (fun h_ => Ng0_b7.out h_.symm))
        have Fg1_5 := Aside0.mk (Fg1_4.out.other_ hw (fun h_ => Ng1_b7.out h_.symm))
        have Fk7_5 := Aside0.mk (Fk7_4.out.other_ hw (fun h_ => Nk7_b7.out h_.symm))
        have Fb8_5 := Aside0.mk (Fb8_4.out.other_ hw (fun h_ => Nb8_b7.out h_.symm))
        have Fb7_5 := Aside0.mk (Fb7_4.out.same_ hw)
        have Fk8_5 := Aside0.mk (Fk8_4.out.other_ hw Nb7_k8.out)
        have R_5 := Aside0.mk (rests_ R_4.out hw B_b7.out)
        rw [hw]
        clear hw
        refine Shut.out hK _ _ (cells10 Fg0_5.out Fg1_5.out) (fun hHeld => ?_)
        clear hK K
        (try simp only [Act.put, List.getElem_toArray, List.getElem_cons_zero, List.getElem_cons_succ, List.setIfInBounds_toArray, List.set_cons_zero, List.set_cons_succ])
        refine wpAnyH_ready (rs := [11]) (by kernel_rfl) (by simp) (AllReadyH.cons rfl (fun K hK => ?_) AllReadyH.nil)
        rw [if_pos (by rfl)]
        refine wp_store_row 40 (.tmp 8) (.tmp 27) rfl b8 #[.int .i64 7, .string ⟨#[]⟩, .int .i64 0, .int .i64 0, .slice (some ⟨k8, 0, none⟩) 2 2] rfl rfl 40 #[.int .i64 0, .string ⟨#[]⟩, .int .i64 0, .int .i64 0, .slice none 0 0] Fb8_5.out info_scope rfl (by simp [Value.oneCell']) ?_
        obtain ⟨w6_, hw⟩ : ∃ v, w5_.setRow b8 #[.int .i64 7, .string ⟨#[]⟩, .int .i64 0, .int .i64 0, .slice (some ⟨k8, 0, none⟩) 2 2] = v := ⟨_, rfl⟩
        have Fg0_6 := Aside0.mk (Fg0_5.out.other_ hw (fun h_ => Ng0_b8.out h_.symm))
        have Fg1_6 := Aside0.mk (Fg1_5.out.other_ hw (fun h_ => Ng1_b8.out h_.symm))
        have Fk7_6 := Aside0.mk (Fk7_5.out.other_ hw (fun h_ => Nk7_b8.out h_.symm))
        have Fb8_6 := Aside0.mk (Fb8_5.out.same_ hw)
        have Fb7_6 := Aside0.mk (Fb7_5.out.other_ hw Nb8_b7.out)
        have Fk8_6 := Aside0.mk (Fk8_5.out.other_ hw Nb8_k8.out)
        have R_6 := Aside0.mk (rests_ R_5.out hw B_b8.out)
        rw [hw]
        clear hw
        refine Shut.out hK _ _ (cells10 Fg0_6.out Fg1_6.out) (fun hHeld => ?_)
        clear hK K
        (try simp only [Act.put, List.getElem_toArray, List.getElem_cons_zero, List.getElem_cons_succ, List.setIfInBounds_toArray, List.set_cons_zero, List.set_cons_succ])
        refine wpAnyH_done (by kernel_rfl) ?_ _
        go_wp2_with (fail)
        go_meet
        case rel => exact ⟨b7, k7, b8, k8, rfl, rfl, Fb7_6.out, Fk7_6.out, Fb8_6.out, Fk8_6.out, R_6.out⟩
       ·
        rw [if_pos (by rfl)]
        refine wp_store_row 40 (.tmp 7) (.tmp 23) rfl b7 #[.int .i64 6, .string ⟨#[]⟩, .int .i64 0, .int .i64 0, .slice (some ⟨k7, 0, none⟩) 2 2] rfl rfl 40 #[.int .i64 0, .string ⟨#[]⟩, .int .i64 0, .int .i64 0, .slice none 0 0] Fb7_3.out info_scope rfl (by simp [Value.oneCell']) ?_
        obtain ⟨w4_, hw⟩ : ∃ v, w3_.setRow b7 #[.int .i64 6, .string ⟨#[]⟩, .int .i64 0, .int .i64 0, .slice (some ⟨k7, 0, none⟩) 2 2] = v := ⟨_, rfl⟩
        have Fg0_4 := Aside0.mk (Fg0_3.out.other_ hw (fun h_ => Ng0_b7.out h_.symm))
        have Fg1_4 := Aside0.mk (Fg1_3.out.other_ hw (fun h_ => Ng1_b7.out h_.symm))
        have Fk7_4 := Aside0.mk (Fk7_3.out.other_ hw (fun h_ => Nk7_b7.out h_.symm))
        have Fb8_4 := Aside0.mk (Fb8_3.out.other_ hw (fun h_ => Nb8_b7.out h_.symm))
        have Fb7_4 := Aside0.mk (Fb7_3.out.same_ hw)
        have R_4 := Aside0.mk (rests_ R_3.out hw B_b7.out)
        rw [hw]
        clear hw
        refine Shut.out hK _ _ (cells10 Fg0_4.out Fg1_4.out) (fun hHeld => ?_)
        clear hK K
        (try simp only [Act.put, List.getElem_toArray, List.getElem_cons_zero, List.getElem_cons_succ, List.setIfInBounds_toArray, List.set_cons_zero, List.set_cons_succ])
        refine wpAnyH_ready (rs := [6]) (by kernel_rfl) (by simp) (AllReadyH.cons rfl (fun K hK => ?_) AllReadyH.nil)
        go_simp
        obtain ⟨w5_, hw⟩ : ∃ v, (w4_.alloc (.cells #[.int .i64 x.f0, .string x.f1, .int .i64 x.f2, .int .i64 x.f3, .slice Ax x.f4.length cx, .int .i64 y.f0, .string y.f1, .int .i64 y.f2, .int .i64 y.f3, .slice Ay y.f4.length cy] 40)) = v := ⟨_, rfl⟩
        obtain ⟨k8, hv⟩ : ∃ v, w4_.heap.size = v := ⟨_, rfl⟩
        have Fg0_5 := Aside0.mk (Fg0_4.out.alloc_ hw)
        have Fg1_5 := Aside0.mk (Fg1_4.out.alloc_ hw)
        have Fk7_5 := Aside0.mk (Fk7_4.out.alloc_ hw)
        have Fb8_5 := Aside0.mk (Fb8_4.out.alloc_ hw)
        have Fb7_5 := Aside0.mk (Fb7_4.out.alloc_ hw)
        have Fk8_5 := Aside0.mk (Blk.new_ hw hv)
        have R_5 := Aside0.mk (rest_ R_4.out hw R_4.out.size)
        have B_k8 := Aside0.mk (show w2.heap.size ≤ k8 from Nat.le_trans R_4.out.size (Nat.le_of_eq hv))
        have Ng0_k8 := Aside0.mk (Fg0_4.out.ne_ hv)
        have Ng1_k8 := Aside0.mk (Fg1_4.out.ne_ hv)
        have Nk7_k8 := Aside0.mk (Fk7_4.out.ne_ hv)
        have Nb8_k8 := Aside0.mk (Fb8_4.out.ne_ hv)
        have Nb7_k8 := Aside0.mk (Fb7_4.out.ne_ hv)
        rw [hw, hv]
        clear hv hw
        refine Shut.out hK _ _ (cells10 Fg0_5.out Fg1_5.out) (fun hHeld => ?_)
        clear hK K
        (try simp only [Act.put, List.getElem_toArray, List.getElem_cons_zero, List.getElem_cons_succ, List.setIfInBounds_toArray, List.set_cons_zero, List.set_cons_succ])
        (refine wpAnyH_take (i := 7) (v := ?_) rfl (by kernel_rfl) (by kernel_rfl) (by kernel_rfl) (fun _ _ _ h => h) (Or.inl ⟨by rfl, ?_⟩) (by assumption) ?_; (case' refine_2 => (intro w hSw; go_simp; try with_reducible rfl)); (try simp only [Act.put, List.getElem_toArray, List.getElem_cons_zero, List.getElem_cons_succ, List.setIfInBounds_toArray, List.set_cons_zero, List.set_cons_succ]))
        refine wpAnyH_ready (rs := [11]) (by kernel_rfl) (by simp) (AllReadyH.cons rfl (fun K hK => ?_) AllReadyH.nil)
        rw [if_pos (by rfl)]
        refine wp_store_row 40 (.tmp 8) (.tmp 27) rfl b8 #[.int .i64 7, .string ⟨#[]⟩, .int .i64 0, .int .i64 0, .slice (some ⟨k8, 0, none⟩) 2 2] rfl rfl 40 #[.int .i64 0, .string ⟨#[]⟩, .int .i64 0, .int .i64 0, .slice none 0 0] Fb8_5.out info_scope rfl (by simp [Value.oneCell']) ?_
        obtain ⟨w6_, hw⟩ : ∃ v, w5_.setRow b8 #[.int .i64 7, .string ⟨#[]⟩, .int .i64 0, .int .i64 0, .slice (some ⟨k8, 0, none⟩) 2 2] = v := ⟨_, rfl⟩
        have Fg0_6 := Aside0.mk (Fg0_5.out.other_ hw (fun h_ => Ng0_b8.out h_.symm))
        have Fg1_6 := Aside0.mk (Fg1_5.out.other_ hw (fun h_ => Ng1_b8.out h_.symm))
        have Fk7_6 := Aside0.mk (Fk7_5.out.other_ hw (fun h_ => Nk7_b8.out h_.symm))
        have Fb8_6 := Aside0.mk (Fb8_5.out.same_ hw)
        have Fb7_6 := Aside0.mk (Fb7_5.out.other_ hw Nb8_b7.out)
        have Fk8_6 := Aside0.mk (Fk8_5.out.other_ hw Nb8_k8.out)
        have R_6 := Aside0.mk (rests_ R_5.out hw B_b8.out)
        rw [hw]
        clear hw
        refine Shut.out hK _ _ (cells10 Fg0_6.out Fg1_6.out) (fun hHeld => ?_)
        clear hK K
        (try simp only [Act.put, List.getElem_toArray, List.getElem_cons_zero, List.getElem_cons_succ, List.setIfInBounds_toArray, List.set_cons_zero, List.set_cons_succ])
        refine wpAnyH_done (by kernel_rfl) ?_ _
        go_wp2_with (fail)
        go_meet
        case rel => exact ⟨b7, k7, b8, k8, rfl, rfl, Fb7_6.out, Fk7_6.out, Fb8_6.out, Fk8_6.out, R_6.out⟩
    ·
     go_simp
     obtain ⟨w1_, hw⟩ : ∃ v, (w2.alloc (.cells #[.int .i64 x.f0, .string x.f1, .int .i64 x.f2, .int .i64 x.f3, .slice Ax x.f4.length cx, .int .i64 y.f0, .string y.f1, .int .i64 y.f2, .int .i64 y.f3, .slice Ay y.f4.length cy] 40)).drew = v := ⟨_, rfl⟩
     obtain ⟨k8, hv⟩ : ∃ v, w2.heap.size = v := ⟨_, rfl⟩
     have Fg0_1 := Aside0.mk (Fg0_0.out.allocd_ hw)
     have Fg1_1 := Aside0.mk (Fg1_0.out.allocd_ hw)
     have Fk8_1 := Aside0.mk (Blk.newd_ hw hv)
     have R_1 := Aside0.mk (restd_ hw)
     have B_k8 := Aside0.mk (show w2.heap.size ≤ k8 from Nat.le_of_eq hv)
     have Ng0_k8 := Aside0.mk (Fg0_0.out.ne_ hv)
     have Ng1_k8 := Aside0.mk (Fg1_0.out.ne_ hv)
     rw [hw, hv]
     clear hv hw
     refine Shut.out hK _ _ (cells10 Fg0_1.out Fg1_1.out) (fun hHeld => ?_)
     clear hK K
     (try simp only [Act.put, List.getElem_toArray, List.getElem_cons_zero, List.getElem_cons_succ, List.setIfInBounds_toArray, List.set_cons_zero, List.set_cons_succ])
     (refine wpAnyH_take (i := 7) (v := ?_) rfl (by kernel_rfl) (by kernel_rfl) (by kernel_rfl) (fun _ _ _ h => h) (Or.inl ⟨by rfl, ?_⟩) (by assumption) ?_; (case' refine_2 => (intro w hSw; go_simp; try with_reducible rfl)); (try simp only [Act.put, List.getElem_toArray, List.getElem_cons_zero, List.getElem_cons_succ, List.setIfInBounds_toArray, List.set_cons_zero, List.set_cons_succ]))
     refine wpAnyH_ready (rs := [2, 8, 9]) (by kernel_rfl) (by simp) (AllReadyH.cons rfl (fun K hK => ?_) (AllReadyH.cons rfl (fun K hK => ?_) (AllReadyH.cons rfl (fun K hK => ?_) AllReadyH.nil)))
     ·
      go_simp
      obtain ⟨w2_, hw⟩ : ∃ v, (w1_.alloc (.cells #[.int .i64 x.f0, .string x.f1, .int .i64 x.f2, .int .i64 x.f3, .slice Ax x.f4.length cx, .int .i64 y.f0, .string y.f1, .int .i64 y.f2, .int .i64 y.f3, .slice Ay y.f4.length cy] 40)) = v := ⟨_, rfl⟩
      obtain ⟨k7, hv⟩ : ∃ v, w1_.heap.size = v := ⟨_, rfl⟩
      have Fg0_2 := Aside0.mk (Fg0_1.out.alloc_ hw)
      have Fg1_2 := Aside0.mk (Fg1_1.out.alloc_ hw)
      have Fk8_2 := Aside0.mk (Fk8_1.out.alloc_ hw)
      have Fk7_2 := Aside0.mk (Blk.new_ hw hv)
      have R_2 := Aside0.mk (rest_ R_1.out hw R_1.out.size)
      have B_k7 := Aside0.mk (show w2.heap.size ≤ k7 from Nat.le_trans R_1.out.size (Nat.le_of_eq hv))
      have Ng0_k7 := Aside0.mk (Fg0_1.out.ne_ hv)
      have Ng1_k7 := Aside0.mk (Fg1_1.out.ne_ hv)
      have Nk8_k7 := Aside0.mk (Fk8_1.out.ne_ hv)
      rw [hw, hv]
      clear hv hw
      refine Shut.out hK _ _ (cells10 Fg0_2.out Fg1_2.out) (fun hHeld => ?_)
      clear hK K
      (try simp only [Act.put, List.getElem_toArray, List.getElem_cons_zero, List.getElem_cons_succ, List.setIfInBounds_toArray, List.set_cons_zero, List.set_cons_succ])
      (refine wpAnyH_take (i := 3) (v := ?_) rfl (by kernel_rfl) (by kernel_rfl) (by kernel_rfl) (fun _ _ _ h => h) (Or.inl ⟨by rfl, ?_⟩) (by assumption) ?_; (case' refine_2 => (intro w hSw; go_simp; try with_reducible rfl)); (try simp only [Act.put, List.getElem_toArray, List.getElem_cons_zero, List.getElem_cons_succ, List.setIfInBounds_toArray, List.set_cons_zero, List.set_cons_succ]))
      refine wpAnyH_ready (rs := [8, 9]) (by kernel_rfl) (by simp) (AllReadyH.cons rfl (fun K hK => ?_) (AllReadyH.cons rfl (fun K hK => ?_) AllReadyH.nil))
      ·
       go_simp
       obtain ⟨w3_, hw⟩ : ∃ v, (w2_.alloc (.cells #[.int .i64 0, .string ⟨#[]⟩, .int .i64 0, .int .i64 0, .slice none 0 0] 40)) = v := ⟨_, rfl⟩
       obtain ⟨b7, hv⟩ : ∃ v, w2_.heap.size = v := ⟨_, rfl⟩
       have Fg0_3 := Aside0.mk (Fg0_2.out.alloc_ hw)
       have Fg1_3 := Aside0.mk (Fg1_2.out.alloc_ hw)
       have Fk8_3 := Aside0.mk (Fk8_2.out.alloc_ hw)
       have Fk7_3 := Aside0.mk (Fk7_2.out.alloc_ hw)
       have Fb7_3 := Aside0.mk (Blk.new_ hw hv)
       have R_3 := Aside0.mk (rest_ R_2.out hw R_2.out.size)
       have B_b7 := Aside0.mk (show w2.heap.size ≤ b7 from Nat.le_trans R_2.out.size (Nat.le_of_eq hv))
       have Ng0_b7 := Aside0.mk (Fg0_2.out.ne_ hv)
       have Ng1_b7 := Aside0.mk (Fg1_2.out.ne_ hv)
       have Nk8_b7 := Aside0.mk (Fk8_2.out.ne_ hv)
       have Nk7_b7 := Aside0.mk (Fk7_2.out.ne_ hv)
       rw [hw, hv]
       clear hv hw
       refine Shut.out hK _ _ (cells10 Fg0_3.out Fg1_3.out) (fun hHeld => ?_)
       clear hK K
       refine wpAnyH_ready (rs := [9]) (by kernel_rfl) (by simp) (AllReadyH.cons rfl (fun K hK => ?_) AllReadyH.nil)
       go_simp
       obtain ⟨w4_, hw⟩ : ∃ v, (w3_.alloc (.cells #[.int .i64 0, .string ⟨#[]⟩, .int .i64 0, .int .i64 0, .slice none 0 0] 40)) = v := ⟨_, rfl⟩
       obtain ⟨b8, hv⟩ : ∃ v, w3_.heap.size = v := ⟨_, rfl⟩
       have Fg0_4 := Aside0.mk (Fg0_3.out.alloc_ hw)
       have Fg1_4 := Aside0.mk (Fg1_3.out.alloc_ hw)
       have Fk8_4 := Aside0.mk (Fk8_3.out.alloc_ hw)
       have Fk7_4 := Aside0.mk (Fk7_3.out.alloc_ hw)
       have Fb7_4 := Aside0.mk (Fb7_3.out.alloc_ hw)
       have Fb8_4 := Aside0.mk (Blk.new_ hw hv)
       have R_4 := Aside0.mk (rest_ R_3.out hw R_3.out.size)
       have B_b8 := Aside0.mk (show w2.heap.size ≤ b8 from Nat.le_trans R_3.out.size (Nat.le_of_eq hv))
       have Ng0_b8 := Aside0.mk (Fg0_3.out.ne_ hv)
       have Ng1_b8 := Aside0.mk (Fg1_3.out.ne_ hv)
       have Nk8_b8 := Aside0.mk (Fk8_3.out.ne_ hv)
       have Nk7_b8 := Aside0.mk (Fk7_3.out.ne_ hv)
       have Nb7_b8 := Aside0.mk (Fb7_3.out.ne_ hv)
       rw [hw, hv]
       clear hv hw
       refine Shut.out hK _ _ (cells10 Fg0_4.out Fg1_4.out) (fun hHeld => ?_)
       clear hK K
       (try simp only [Act.put, List.getElem_toArray, List.getElem_cons_zero, List.getElem_cons_succ, List.setIfInBounds_toArray, List.set_cons_zero, List.set_cons_succ])
       refine wpAnyH_ready (rs := [10]) (by kernel_rfl) (by simp) (AllReadyH.cons rfl (fun K hK => ?_) AllReadyH.nil)
       rw [if_pos (by rfl)]
       refine wp_store_row 40 (.tmp 7) (.tmp 23) rfl b7 #[.int .i64 6, .string ⟨#[]⟩, .int .i64 0, .int .i64 0, .slice (some ⟨k7, 0, none⟩) 2 2] rfl rfl 40 #[.int .i64 0, .string ⟨#[]⟩, .int .i64 0, .int .i64 0, .slice none 0 0] Fb7_4.out info_scope rfl (by simp [Value.oneCell']) ?_
       obtain ⟨w5_, hw⟩ : ∃ v, w4_.setRow b7 #[.int .i64 6, .string ⟨#[]⟩, .int .i64 0, .int .i64 0, .slice (some ⟨k7, 0, none⟩) 2 2] = v := ⟨_, rfl⟩
       have Fg0_5 := Aside0.mk (Fg0_4.out.other_ hw (fun h_ => Ng0_b7.out h_.symm))
       have Fg1_5 := Aside0.mk (Fg1_4.out.other_ hw (fun h_ => Ng1_b7.out h_.symm))
       have Fk8_5 := Aside0.mk (Fk8_4.out.other_ hw (fun h_ => Nk8_b7.out h_.symm))
       have Fk7_5 := Aside0.mk (Fk7_4.out.other_ hw (fun h_ => Nk7_b7.out h_.symm))
       have Fb7_5 := Aside0.mk (Fb7_4.out.same_ hw)
       have Fb8_5 := Aside0.mk (Fb8_4.out.other_ hw Nb7_b8.out)
       have R_5 := Aside0.mk (rests_ R_4.out hw B_b7.out)
       rw [hw]
       clear hw
       refine Shut.out hK _ _ (cells10 Fg0_5.out Fg1_5.out) (fun hHeld => ?_)
       clear hK K
       (try simp only [Act.put, List.getElem_toArray, List.getElem_cons_zero, List.getElem_cons_succ, List.setIfInBounds_toArray, List.set_cons_zero, List.set_cons_succ])
       refine wpAnyH_ready (rs := [11]) (by kernel_rfl) (by simp) (AllReadyH.cons rfl (fun K hK => ?_) AllReadyH.nil)
       rw [if_pos (by rfl)]
       refine wp_store_row 40 (.tmp 8) (.tmp 27) rfl b8 #[.int .i64 7, .string ⟨#[]⟩, .int .i64 0, .int .i64 0, .slice (some ⟨k8, 0, none⟩) 2 2] rfl rfl 40 #[.int .i64 0, .string ⟨#[]⟩, .int .i64 0, .int .i64 0, .slice none 0 0] Fb8_5.out info_scope rfl (by simp [Value.oneCell']) ?_
       obtain ⟨w6_, hw⟩ : ∃ v, w5_.setRow b8 #[.int .i64 7, .string ⟨#[]⟩, .int .i64 0, .int .i64 0, .slice (some ⟨k8, 0, none⟩) 2 2] = v := ⟨_, rfl⟩
       have Fg0_6 := Aside0.mk (Fg0_5.out.other_ hw (fun h_ => Ng0_b8.out h_.symm))
       have Fg1_6 := Aside0.mk (Fg1_5.out.other_ hw (fun h_ => Ng1_b8.out h_.symm))
       have Fk8_6 := Aside0.mk (Fk8_5.out.other_ hw (fun h_ => Nk8_b8.out h_.symm))
       have Fk7_6 := Aside0.mk (Fk7_5.out.other_ hw (fun h_ => Nk7_b8.out h_.symm))
       have Fb7_6 := Aside0.mk (Fb7_5.out.other_ hw (fun h_ => Nb7_b8.out h_.symm))
       have Fb8_6 := Aside0.mk (Fb8_5.out.same_ hw)
       have R_6 := Aside0.mk (rests_ R_5.out hw B_b8.out)
       rw [hw]
       clear hw
       refine Shut.out hK _ _ (cells10 Fg0_6.out Fg1_6.out) (fun hHeld => ?_)
       clear hK K
       (try simp only [Act.put, List.getElem_toArray, List.getElem_cons_zero, List.getElem_cons_succ, List.setIfInBounds_toArray, List.set_cons_zero, List.set_cons_succ])
       refine wpAnyH_done (by kernel_rfl) ?_ _
       go_wp2_with (fail)
       go_meet
       case rel => exact ⟨b7, k7, b8, k8, rfl, rfl, Fb7_6.out, Fk7_6.out, Fb8_6.out, Fk8_6.out, R_6.out⟩
      ·
       go_simp
       obtain ⟨w3_, hw⟩ : ∃ v, (w2_.alloc (.cells #[.int .i64 0, .string ⟨#[]⟩, .int .i64 0, .int .i64 0, .slice none 0 0] 40)) = v := ⟨_, rfl⟩
       obtain ⟨b8, hv⟩ : ∃ v, w2_.heap.size = v := ⟨_, rfl⟩
       have Fg0_3 := Aside0.mk (Fg0_2.out.alloc_ hw)
       have Fg1_3 := Aside0.mk (Fg1_2.out.alloc_ hw)
       have Fk8_3 := Aside0.mk (Fk8_2.out.alloc_ hw)
       have Fk7_3 := Aside0.mk (Fk7_2.out.alloc_ hw)
       have Fb8_3 := Aside0.mk (Blk.new_ hw hv)
       have R_3 := Aside0.mk (rest_ R_2.out hw R_2.out.size)
       have B_b8 := Aside0.mk (show w2.heap.size ≤ b8 from Nat.le_trans R_2.out.size (Nat.le_of_eq hv))
       have Ng0_b8 := Aside0.mk (Fg0_2.out.ne_ hv)
       have Ng1_b8 := Aside0.mk (Fg1_2.out.ne_ hv)
       have Nk8_b8 := Aside0.mk (Fk8_2.out.ne_ hv)
       have Nk7_b8 := Aside0.mk (Fk7_2.out.ne_ hv)
       rw [hw, hv]
       clear hv hw
       refine Shut.out hK _ _ (cells10 Fg0_3.out Fg1_3.out) (fun hHeld => ?_)
       clear hK K
       refine wpAnyH_ready (rs := [8]) (by kernel_rfl) (by simp) (AllReadyH.cons rfl (fun K hK => ?_) AllReadyH.nil)
       go_simp
       obtain ⟨w4_, hw⟩ : ∃ v, (w3_.alloc (.cells #[.int .i64 0, .string ⟨#[]⟩, .int .i64 0, .int .i64 0, .slice none 0 0] 40)) = v := ⟨_, rfl⟩
       obtain ⟨b7, hv⟩ : ∃ v, w3_.heap.size = v := ⟨_, rfl⟩
       have Fg0_4 := Aside0.mk (Fg0_3.out.alloc_ hw)
       have Fg1_4 := Aside0.mk (Fg1_3.out.alloc_ hw)
       have Fk8_4 := Aside0.mk (Fk8_3.out.alloc_ hw)
       have Fk7_4 := Aside0.mk (Fk7_3.out.alloc_ hw)
       have Fb8_4 := Aside0.mk (Fb8_3.out.alloc_ hw)
       have Fb7_4 := Aside0.mk (Blk.new_ hw hv)
       have R_4 := Aside0.mk (rest_ R_3.out hw R_3.out.size)
       have B_b7 := Aside0.mk (show w2.heap.size ≤ b7 from Nat.le_trans R_3.out.size (Nat.le_of_eq hv))
       have Ng0_b7 := Aside0.mk (Fg0_3.out.ne_ hv)
       have Ng1_b7 := Aside0.mk (Fg1_3.out.ne_ hv)
       have Nk8_b7 := Aside0.mk (Fk8_3.out.ne_ hv)
       have Nk7_b7 := Aside0.mk (Fk7_3.out.ne_ hv)
       have Nb8_b7 := Aside0.mk (Fb8_3.out.ne_ hv)
       rw [hw, hv]
       clear hv hw
       refine Shut.out hK _ _ (cells10 Fg0_4.out Fg1_4.out) (fun hHeld => ?_)
       clear hK K
       (try simp only [Act.put, List.getElem_toArray, List.getElem_cons_zero, List.getElem_cons_succ, List.setIfInBounds_toArray, List.set_cons_zero, List.set_cons_succ])
       refine wpAnyH_ready (rs := [10]) (by kernel_rfl) (by simp) (AllReadyH.cons rfl (fun K hK => ?_) AllReadyH.nil)
       rw [if_pos (by rfl)]
       refine wp_store_row 40 (.tmp 7) (.tmp 23) rfl b7 #[.int .i64 6, .string ⟨#[]⟩, .int .i64 0, .int .i64 0, .slice (some ⟨k7, 0, none⟩) 2 2] rfl rfl 40 #[.int .i64 0, .string ⟨#[]⟩, .int .i64 0, .int .i64 0, .slice none 0 0] Fb7_4.out info_scope rfl (by simp [Value.oneCell']) ?_
       obtain ⟨w5_, hw⟩ : ∃ v, w4_.setRow b7 #[.int .i64 6, .string ⟨#[]⟩, .int .i64 0, .int .i64 0, .slice (some ⟨k7, 0, none⟩) 2 2] = v := ⟨_, rfl⟩
       have Fg0_5 := Aside0.mk (Fg0_4.out.other_ hw (fun h_ => Ng0_b7.out h_.symm))
       have Fg1_5 := Aside0.mk (Fg1_4.out.other_ hw (fun h_ => Ng1_b7.out h_.symm))
       have Fk8_5 := Aside0.mk (Fk8_4.out.other_ hw (fun h_ => Nk8_b7.out h_.symm))
       have Fk7_5 := Aside0.mk (Fk7_4.out.other_ hw (fun h_ => Nk7_b7.out h_.symm))
       have Fb8_5 := Aside0.mk (Fb8_4.out.other_ hw (fun h_ => Nb8_b7.out h_.symm))
       have Fb7_5 := Aside0.mk (Fb7_4.out.same_ hw)
       have R_5 := Aside0.mk (rests_ R_4.out hw B_b7.out)
       rw [hw]
       clear hw
       refine Shut.out hK _ _ (cells10 Fg0_5.out Fg1_5.out) (fun hHeld => ?_)
       clear hK K
       (try simp only [Act.put, List.getElem_toArray, List.getElem_cons_zero, List.getElem_cons_succ, List.setIfInBounds_toArray, List.set_cons_zero, List.set_cons_succ])
       refine wpAnyH_ready (rs := [11]) (by kernel_rfl) (by simp) (AllReadyH.cons rfl (fun K hK => ?_) AllReadyH.nil)
       rw [if_pos (by rfl)]
       refine wp_store_row 40 (.tmp 8) (.tmp 27) rfl b8 #[.int .i64 7, .string ⟨#[]⟩, .int .i64 0, .int .i64 0, .slice (some ⟨k8, 0, none⟩) 2 2] rfl rfl 40 #[.int .i64 0, .string ⟨#[]⟩, .int .i64 0, .int .i64 0, .slice none 0 0] Fb8_5.out info_scope rfl (by simp [Value.oneCell']) ?_
       obtain ⟨w6_, hw⟩ : ∃ v, w5_.setRow b8 #[.int .i64 7, .string ⟨#[]⟩, .int .i64 0, .int .i64 0, .slice (some ⟨k8, 0, none⟩) 2 2] = v := ⟨_, rfl⟩
       have Fg0_6 := Aside0.mk (Fg0_5.out.other_ hw (fun h_ => Ng0_b8.out h_.symm))
       have Fg1_6 := Aside0.mk (Fg1_5.out.other_ hw (fun h_ => Ng1_b8.out h_.symm))
       have Fk8_6 := Aside0.mk (Fk8_5.out.other_ hw (fun h_ => Nk8_b8.out h_.symm))
       have Fk7_6 := Aside0.mk (Fk7_5.out.other_ hw (fun h_ => Nk7_b8.out h_.symm))
       have Fb8_6 := Aside0.mk (Fb8_5.out.same_ hw)
       have Fb7_6 := Aside0.mk (Fb7_5.out.other_ hw Nb8_b7.out)
       have R_6 := Aside0.mk (rests_ R_5.out hw B_b8.out)
       rw [hw]
       clear hw
       refine Shut.out hK _ _ (cells10 Fg0_6.out Fg1_6.out) (fun hHeld => ?_)
       clear hK K
       (try simp only [Act.put, List.getElem_toArray, List.getElem_cons_zero, List.getElem_cons_succ, List.setIfInBounds_toArray, List.set_cons_zero, List.set_cons_succ])
       refine wpAnyH_done (by kernel_rfl) ?_ _
       go_wp2_with (fail)
       go_meet
       case rel => exact ⟨b7, k7, b8, k8, rfl, rfl, Fb7_6.out, Fk7_6.out, Fb8_6.out, Fk8_6.out, R_6.out⟩
     ·
      go_simp
      obtain ⟨w2_, hw⟩ : ∃ v, (w1_.alloc (.cells #[.int .i64 0, .string ⟨#[]⟩, .int .i64 0, .int .i64 0, .slice none 0 0] 40)) = v := ⟨_, rfl⟩
      obtain ⟨b7, hv⟩ : ∃ v, w1_.heap.size = v := ⟨_, rfl⟩
      have Fg0_2 := Aside0.mk (Fg0_1.out.alloc_ hw)
      have Fg1_2 := Aside0.mk (Fg1_1.out.alloc_ hw)
      have Fk8_2 := Aside0.mk (Fk8_1.out.alloc_ hw)
      have Fb7_2 := Aside0.mk (Blk.new_ hw hv)
      have R_2 := Aside0.mk (rest_ R_1.out hw R_1.out.size)
      have B_b7 := Aside0.mk (show w2.heap.size ≤ b7 from Nat.le_trans R_1.out.size (Nat.le_of_eq hv))
      have Ng0_b7 := Aside0.mk (Fg0_1.out.ne_ hv)
      have Ng1_b7 := Aside0.mk (Fg1_1.out.ne_ hv)
      have Nk8_b7 := Aside0.mk (Fk8_1.out.ne_ hv)
      rw [hw, hv]
      clear hv hw
      refine Shut.out hK _ _ (cells10 Fg0_2.out Fg1_2.out) (fun hHeld => ?_)
      clear hK K
      refine wpAnyH_ready (rs := [2, 9]) (by kernel_rfl) (by simp) (AllReadyH.cons rfl (fun K hK => ?_) (AllReadyH.cons rfl (fun K hK => ?_) AllReadyH.nil))
      ·
       go_simp
       obtain ⟨w3_, hw⟩ : ∃ v, (w2_.alloc (.cells #[.int .i64 x.f0, .string x.f1, .int .i64 x.f2, .int .i64 x.f3, .slice Ax x.f4.length cx, .int .i64 y.f0, .string y.f1, .int .i64 y.f2, .int .i64 y.f3, .slice Ay y.f4.length cy] 40)) = v := ⟨_, rfl⟩
       obtain ⟨k7, hv⟩ : ∃ v, w2_.heap.size = v := ⟨_, rfl⟩
       have Fg0_3 := Aside0.mk (Fg0_2.out.alloc_ hw)
       have Fg1_3 := Aside0.mk (Fg1_2.out.alloc_ hw)
       have Fk8_3 := Aside0.mk (Fk8_2.out.alloc_ hw)
       have Fb7_3 := Aside0.mk (Fb7_2.out.alloc_ hw)
       have Fk7_3 := Aside0.mk (Blk.new_ hw hv)
       have R_3 := Aside0.mk (rest_ R_2.out hw R_2.out.size)
       have B_k7 := Aside0.mk (show w2.heap.size ≤ k7 from Nat.le_trans R_2.out.size (Nat.le_of_eq hv))
       have Ng0_k7 := Aside0.mk (Fg0_2.out.ne_ hv)
       have Ng1_k7 := Aside0.mk (Fg1_2.out.ne_ hv)
       have Nk8_k7 := Aside0.mk (Fk8_2.out.ne_ hv)
       have Nb7_k7 := Aside0.mk (Fb7_2.out.ne_ hv)
       rw [hw, hv]
       clear hv hw
       refine Shut.out hK _ _ (cells10 Fg0_3.out Fg1_3.out) (fun hHeld => ?_)
       clear hK K
       (try simp only [Act.put, List.getElem_toArray, List.getElem_cons_zero, List.getElem_cons_succ, List.setIfInBounds_toArray, List.set_cons_zero, List.set_cons_succ])
       (refine wpAnyH_take (i := 3) (v := ?_) rfl (by kernel_rfl) (by kernel_rfl) (by kernel_rfl) (fun _ _ _ h => h) (Or.inl ⟨by rfl, ?_⟩) (by assumption) ?_; (case' refine_2 => (intro w hSw; go_simp; try with_reducible rfl)); (try simp only [Act.put, List.getElem_toArray, List.getElem_cons_zero, List.getElem_cons_succ, List.setIfInBounds_toArray, List.set_cons_zero, List.set_cons_succ]))
       refine wpAnyH_ready (rs := [9]) (by kernel_rfl) (by simp) (AllReadyH.cons rfl (fun K hK => ?_) AllReadyH.nil)
       go_simp
       obtain ⟨w4_, hw⟩ : ∃ v, (w3_.alloc (.cells #[.int .i64 0, .string ⟨#[]⟩, .int .i64 0, .int .i64 0, .slice none 0 0] 40)) = v := ⟨_, rfl⟩
       obtain ⟨b8, hv⟩ : ∃ v, w3_.heap.size = v := ⟨_, rfl⟩
       have Fg0_4 := Aside0.mk (Fg0_3.out.alloc_ hw)
       have Fg1_4 := Aside0.mk (Fg1_3.out.alloc_ hw)
       have Fk8_4 := Aside0.mk (Fk8_3.out.alloc_ hw)
       have Fb7_4 := Aside0.mk (Fb7_3.out.alloc_ hw)
       have Fk7_4 := Aside0.mk (Fk7_3.out.alloc_ hw)
       have Fb8_4 := Aside0.mk (Blk.new_ hw hv)
       have R_4 := Aside0.mk (rest_ R_3.out hw R_3.out.size)
       have B_b8 := Aside0.mk (show w2.heap.size ≤ b8 from Nat.le_trans R_3.out.size (Nat.le_of_eq hv))
       have Ng0_b8 := Aside0.mk (Fg0_3.out.ne_ hv)
       have Ng1_b8 := Aside0.mk (Fg1_3.out.ne_ hv)
       have Nk8_b8 := Aside0.mk (Fk8_3.out.ne_ hv)
       have Nb7_b8 := Aside0.mk (Fb7_3.out.ne_ hv)
       have Nk7_b8 := Aside0.mk (Fk7_3.out.ne_ hv)
       rw [hw, hv]
       clear hv hw
       refine Shut.out hK _ _ (cells10 Fg0_4.out Fg1_4.out) (fun hHeld => ?_)
       clear hK K
       (try simp only [Act.put, List.getElem_toArray, List.getElem_cons_zero, List.getElem_cons_succ, List.setIfInBounds_toArray, List.set_cons_zero, List.set_cons_succ])
       refine wpAnyH_ready (rs := [10]) (by kernel_rfl) (by simp) (AllReadyH.cons rfl (fun K hK => ?_) AllReadyH.nil)
       rw [if_pos (by rfl)]
       refine wp_store_row 40 (.tmp 7) (.tmp 23) rfl b7 #[.int .i64 6, .string ⟨#[]⟩, .int .i64 0, .int .i64 0, .slice (some ⟨k7, 0, none⟩) 2 2] rfl rfl 40 #[.int .i64 0, .string ⟨#[]⟩, .int .i64 0, .int .i64 0, .slice none 0 0] Fb7_4.out info_scope rfl (by simp [Value.oneCell']) ?_
       obtain ⟨w5_, hw⟩ : ∃ v, w4_.setRow b7 #[.int .i64 6, .string ⟨#[]⟩, .int .i64 0, .int .i64 0, .slice (some ⟨k7, 0, none⟩) 2 2] = v := ⟨_, rfl⟩
       have Fg0_5 := Aside0.mk (Fg0_4.out.other_ hw (fun h_ => Ng0_b7.out h_.symm))
       have Fg1_5 := Aside0.mk (Fg1_4.out.other_ hw (fun h_ => Ng1_b7.out h_.symm))
       have Fk8_5 := Aside0.mk (Fk8_4.out.other_ hw (fun h_ => Nk8_b7.out h_.symm))
       have Fb7_5 := Aside0.mk (Fb7_4.out.same_ hw)
       have Fk7_5 := Aside0.mk (Fk7_4.out.other_ hw Nb7_k7.out)
       have Fb8_5 := Aside0.mk (Fb8_4.out.other_ hw Nb7_b8.out)
       have R_5 := Aside0.mk (rests_ R_4.out hw B_b7.out)
       rw [hw]
       clear hw
       refine Shut.out hK _ _ (cells10 Fg0_5.out Fg1_5.out) (fun hHeld => ?_)
       clear hK K
       (try simp only [Act.put, List.getElem_toArray, List.getElem_cons_zero, List.getElem_cons_succ, List.setIfInBounds_toArray, List.set_cons_zero, List.set_cons_succ])
       refine wpAnyH_ready (rs := [11]) (by kernel_rfl) (by simp) (AllReadyH.cons rfl (fun K hK => ?_) AllReadyH.nil)
       rw [if_pos (by rfl)]
       refine wp_store_row 40 (.tmp 8) (.tmp 27) rfl b8 #[.int .i64 7, .string ⟨#[]⟩, .int .i64 0, .int .i64 0, .slice (some ⟨k8, 0, none⟩) 2 2] rfl rfl 40 #[.int .i64 0, .string ⟨#[]⟩, .int .i64 0, .int .i64 0, .slice none 0 0] Fb8_5.out info_scope rfl (by simp [Value.oneCell']) ?_
       obtain ⟨w6_, hw⟩ : ∃ v, w5_.setRow b8 #[.int .i64 7, .string ⟨#[]⟩, .int .i64 0, .int .i64 0, .slice (some ⟨k8, 0, none⟩) 2 2] = v := ⟨_, rfl⟩
       have Fg0_6 := Aside0.mk (Fg0_5.out.other_ hw (fun h_ => Ng0_b8.out h_.symm))
       have Fg1_6 := Aside0.mk (Fg1_5.out.other_ hw (fun h_ => Ng1_b8.out h_.symm))
       have Fk8_6 := Aside0.mk (Fk8_5.out.other_ hw (fun h_ => Nk8_b8.out h_.symm))
       have Fb7_6 := Aside0.mk (Fb7_5.out.other_ hw (fun h_ => Nb7_b8.out h_.symm))
       have Fk7_6 := Aside0.mk (Fk7_5.out.other_ hw (fun h_ => Nk7_b8.out h_.symm))
       have Fb8_6 := Aside0.mk (Fb8_5.out.same_ hw)
       have R_6 := Aside0.mk (rests_ R_5.out hw B_b8.out)
       rw [hw]
       clear hw
       refine Shut.out hK _ _ (cells10 Fg0_6.out Fg1_6.out) (fun hHeld => ?_)
       clear hK K
       (try simp only [Act.put, List.getElem_toArray, List.getElem_cons_zero, List.getElem_cons_succ, List.setIfInBounds_toArray, List.set_cons_zero, List.set_cons_succ])
       refine wpAnyH_done (by kernel_rfl) ?_ _
       go_wp2_with (fail)
       go_meet
       case rel => exact ⟨b7, k7, b8, k8, rfl, rfl, Fb7_6.out, Fk7_6.out, Fb8_6.out, Fk8_6.out, R_6.out⟩
      ·
       go_simp
       obtain ⟨w3_, hw⟩ : ∃ v, (w2_.alloc (.cells #[.int .i64 0, .string ⟨#[]⟩, .int .i64 0, .int .i64 0, .slice none 0 0] 40)) = v := ⟨_, rfl⟩
       obtain ⟨b8, hv⟩ : ∃ v, w2_.heap.size = v := ⟨_, rfl⟩
       have Fg0_3 := Aside0.mk (Fg0_2.out.alloc_ hw)
       have Fg1_3 := Aside0.mk (Fg1_2.out.alloc_ hw)
       have Fk8_3 := Aside0.mk (Fk8_2.out.alloc_ hw)
       have Fb7_3 := Aside0.mk (Fb7_2.out.alloc_ hw)
       have Fb8_3 := Aside0.mk (Blk.new_ hw hv)
       have R_3 := Aside0.mk (rest_ R_2.out hw R_2.out.size)
       have B_b8 := Aside0.mk (show w2.heap.size ≤ b8 from Nat.le_trans R_2.out.size (Nat.le_of_eq hv))
       have Ng0_b8 := Aside0.mk (Fg0_2.out.ne_ hv)
       have Ng1_b8 := Aside0.mk (Fg1_2.out.ne_ hv)
       have Nk8_b8 := Aside0.mk (Fk8_2.out.ne_ hv)
       have Nb7_b8 := Aside0.mk (Fb7_2.out.ne_ hv)
       rw [hw, hv]
       clear hv hw
       refine Shut.out hK _ _ (cells10 Fg0_3.out Fg1_3.out) (fun hHeld => ?_)
       clear hK K
       refine wpAnyH_ready (rs := [2]) (by kernel_rfl) (by simp) (AllReadyH.cons rfl (fun K hK => ?_) AllReadyH.nil)
       go_simp
       obtain ⟨w4_, hw⟩ : ∃ v, (w3_.alloc (.cells #[.int .i64 x.f0, .string x.f1, .int .i64 x.f2, .int .i64 x.f3, .slice Ax x.f4.length cx, .int .i64 y.f0, .string y.f1, .int .i64 y.f2, .int .i64 y.f3, .slice Ay y.f4.length cy] 40)) = v := ⟨_, rfl⟩
       obtain ⟨k7, hv⟩ : ∃ v, w3_.heap.size = v := ⟨_, rfl⟩
       have Fg0_4 := Aside0.mk (Fg0_3.out.alloc_ hw)
       have Fg1_4 := Aside0.mk (Fg1_3.out.alloc_ hw)
       have Fk8_4 := Aside0.mk (Fk8_3.out.alloc_ hw)
       have Fb7_4 := Aside0.mk (Fb7_3.out.alloc_ hw)
       have Fb8_4 := Aside0.mk (Fb8_3.out.alloc_ hw)
       have Fk7_4 := Aside0.mk (Blk.new_ hw hv)
       have R_4 := Aside0.mk (rest_ R_3.out hw R_3.out.size)
       have B_k7 := Aside0.mk (show w2.heap.size ≤ k7 from Nat.le_trans R_3.out.size (Nat.le_of_eq hv))
       have Ng0_k7 := Aside0.mk (Fg0_3.out.ne_ hv)
       have Ng1_k7 := Aside0.mk (Fg1_3.out.ne_ hv)
       have Nk8_k7 := Aside0.mk (Fk8_3.out.ne_ hv)
       have Nb7_k7 := Aside0.mk (Fb7_3.out.ne_ hv)
       have Nb8_k7 := Aside0.mk (Fb8_3.out.ne_ hv)
       rw [hw, hv]
       clear hv hw
       refine Shut.out hK _ _ (cells10 Fg0_4.out Fg1_4.out) (fun hHeld => ?_)
       clear hK K
       (try simp only [Act.put, List.getElem_toArray, List.getElem_cons_zero, List.getElem_cons_succ, List.setIfInBounds_toArray, List.set_cons_zero, List.set_cons_succ])
       (refine wpAnyH_take (i := 3) (v := ?_) rfl (by kernel_rfl) (by kernel_rfl) (by kernel_rfl) (fun _ _ _ h => h) (Or.inl ⟨by rfl, ?_⟩) (by assumption) ?_; (case' refine_2 => (intro w hSw; go_simp; try with_reducible rfl)); (try simp only [Act.put, List.getElem_toArray, List.getElem_cons_zero, List.getElem_cons_succ, List.setIfInBounds_toArray, List.set_cons_zero, List.set_cons_succ]))
       refine wpAnyH_ready (rs := [10]) (by kernel_rfl) (by simp) (AllReadyH.cons rfl (fun K hK => ?_) AllReadyH.nil)
       rw [if_pos (by rfl)]
       refine wp_store_row 40 (.tmp 7) (.tmp 23) rfl b7 #[.int .i64 6, .string ⟨#[]⟩, .int .i64 0, .int .i64 0, .slice (some ⟨k7, 0, none⟩) 2 2] rfl rfl 40 #[.int .i64 0, .string ⟨#[]⟩, .int .i64 0, .int .i64 0, .slice none 0 0] Fb7_4.out info_scope rfl (by simp [Value.oneCell']) ?_
       obtain ⟨w5_, hw⟩ : ∃ v, w4_.setRow b7 #[.int .i64 6, .string ⟨#[]⟩, .int .i64 0, .int .i64 0, .slice (some ⟨k7, 0, none⟩) 2 2] = v := ⟨_, rfl⟩
       have Fg0_5 := Aside0.mk (Fg0_4.out.other_ hw (fun h_ => Ng0_b7.out h_.symm))
       have Fg1_5 := Aside0.mk (Fg1_4.out.other_ hw (fun h_ => Ng1_b7.out h_.symm))
       have Fk8_5 := Aside0.mk (Fk8_4.out.other_ hw (fun h_ => Nk8_b7.out h_.symm))
       have Fb7_5 := Aside0.mk (Fb7_4.out.same_ hw)
       have Fb8_5 := Aside0.mk (Fb8_4.out.other_ hw Nb7_b8.out)
       have Fk7_5 := Aside0.mk (Fk7_4.out.other_ hw Nb7_k7.out)
       have R_5 := Aside0.mk (rests_ R_4.out hw B_b7.out)
       rw [hw]
       clear hw
       refine Shut.out hK _ _ (cells10 Fg0_5.out Fg1_5.out) (fun hHeld => ?_)
       clear hK K
       (try simp only [Act.put, List.getElem_toArray, List.getElem_cons_zero, List.getElem_cons_succ, List.setIfInBounds_toArray, List.set_cons_zero, List.set_cons_succ])
       refine wpAnyH_ready (rs := [11]) (by kernel_rfl) (by simp) (AllReadyH.cons rfl (fun K hK => ?_) AllReadyH.nil)
       rw [if_pos (by rfl)]
       refine wp_store_row 40 (.tmp 8) (.tmp 27) rfl b8 #[.int .i64 7, .string ⟨#[]⟩, .int .i64 0, .int .i64 0, .slice (some ⟨k8, 0, none⟩) 2 2] rfl rfl 40 #[.int .i64 0, .string ⟨#[]⟩, .int .i64 0, .int .i64 0, .slice none 0 0] Fb8_5.out info_scope rfl (by simp [Value.oneCell']) ?_
       obtain ⟨w6_, hw⟩ : ∃ v, w5_.setRow b8 #[.int .i64 7, .string ⟨#[]⟩, .int .i64 0, .int .i64 0, .slice (some ⟨k8, 0, none⟩) 2 2] = v := ⟨_, rfl⟩
       have Fg0_6 := Aside0.mk (Fg0_5.out.other_ hw (fun h_ => Ng0_b8.out h_.symm))
       have Fg1_6 := Aside0.mk (Fg1_5.out.other_ hw (fun h_ => Ng1_b8.out h_.symm))
       have Fk8_6 := Aside0.mk (Fk8_5.out.other_ hw (fun h_ => Nk8_b8.out h_.symm))
       have Fb7_6 := Aside0.mk (Fb7_5.out.other_ hw (fun h_ => Nb7_b8.out h_.symm))
       have Fb8_6 := Aside0.mk (Fb8_5.out.same_ hw)
       have Fk7_6 := Aside0.mk (Fk7_5.out.other_ hw Nb8_k7.out)
       have R_6 := Aside0.mk (rests_ R_5.out hw B_b8.out)
       rw [hw]
       clear hw
       refine Shut.out hK _ _ (cells10 Fg0_6.out Fg1_6.out) (fun hHeld => ?_)
       clear hK K
       (try simp only [Act.put, List.getElem_toArray, List.getElem_cons_zero, List.getElem_cons_succ, List.setIfInBounds_toArray, List.set_cons_zero, List.set_cons_succ])
       refine wpAnyH_done (by kernel_rfl) ?_ _
       go_wp2_with (fail)
       go_meet
       case rel => exact ⟨b7, k7, b8, k8, rfl, rfl, Fb7_6.out, Fk7_6.out, Fb8_6.out, Fk8_6.out, R_6.out⟩
     ·
      go_simp
      obtain ⟨w2_, hw⟩ : ∃ v, (w1_.alloc (.cells #[.int .i64 0, .string ⟨#[]⟩, .int .i64 0, .int .i64 0, .slice none 0 0] 40)) = v := ⟨_, rfl⟩
      obtain ⟨b8, hv⟩ : ∃ v, w1_.heap.size = v := ⟨_, rfl⟩
      have Fg0_2 := Aside0.mk (Fg0_1.out.alloc_ hw)
      have Fg1_2 := Aside0.mk (Fg1_1.out.alloc_ hw)
      have Fk8_2 := Aside0.mk (Fk8_1.out.alloc_ hw)
      have Fb8_2 := Aside0.mk (Blk.new_ hw hv)
      have R_2 := Aside0.mk (rest_ R_1.out hw R_1.out.size)
      have B_b8 := Aside0.mk (show w2.heap.size ≤ b8 from Nat.le_trans R_1.out.size (Nat.le_of_eq hv))
      have Ng0_b8 := Aside0.mk (Fg0_1.out.ne_ hv)
      have Ng1_b8 := Aside0.mk (Fg1_1.out.ne_ hv)
      have Nk8_b8 := Aside0.mk (Fk8_1.out.ne_ hv)
      rw [hw, hv]
      clear hv hw
      refine Shut.out hK _ _ (cells10 Fg0_2.out Fg1_2.out) (fun hHeld => ?_)
      clear hK K
      refine wpAnyH_ready (rs := [2, 8]) (by kernel_rfl) (by simp) (AllReadyH.cons rfl (fun K hK => ?_) (AllReadyH.cons rfl (fun K hK => ?_) AllReadyH.nil))
      ·
       go_simp
       obtain ⟨w3_, hw⟩ : ∃ v, (w2_.alloc (.cells #[.int .i64 x.f0, .string x.f1, .int .i64 x.f2, .int .i64 x.f3, .slice Ax x.f4.length cx, .int .i64 y.f0, .string y.f1, .int .i64 y.f2, .int .i64 y.f3, .slice Ay y.f4.length cy] 40)) = v := ⟨_, rfl⟩
       obtain ⟨k7, hv⟩ : ∃ v, w2_.heap.size = v := ⟨_, rfl⟩
       have Fg0_3 := Aside0.mk (Fg0_2.out.alloc_ hw)
       have Fg1_3 := Aside0.mk (Fg1_2.out.alloc_ hw)
       have Fk8_3 := Aside0.mk (Fk8_2.out.alloc_ hw)
       have Fb8_3 := Aside0.mk (Fb8_2.out.alloc_ hw)
       have Fk7_3 := Aside0.mk (Blk.new_ hw hv)
       have R_3 := Aside0.mk (rest_ R_2.out hw R_2.out.size)
       have B_k7 := Aside0.mk (show w2.heap.size ≤ k7 from Nat.le_trans R_2.out.size (Nat.le_of_eq hv))
       have Ng0_k7 := Aside0.mk (Fg0_2.out.ne_ hv)
       have Ng1_k7 := Aside0.mk (Fg1_2.out.ne_ hv)
       have Nk8_k7 := Aside0.mk (Fk8_2.out.ne_ hv)
       have Nb8_k7 := Aside0.mk (Fb8_2.out.ne_ hv)
       rw [hw, hv]
       clear hv hw
       refine Shut.out hK _ _ (cells10 Fg0_3.out Fg1_3.out) (fun hHeld => ?_)
       clear hK K
       (try simp only [Act.put, List.getElem_toArray, List.getElem_cons_zero, List.getElem_cons_succ, List.setIfInBounds_toArray, List.set_cons_zero, List.set_cons_succ])
       (refine wpAnyH_take (i := 3) (v := ?_) rfl (by kernel_rfl) (by kernel_rfl) (by kernel_rfl) (fun _ _ _ h => h) (Or.inl ⟨by rfl, ?_⟩) (by assumption) ?_; (case' refine_2 => (intro w hSw; go_simp; try with_reducible rfl)); (try simp only [Act.put, List.getElem_toArray, List.getElem_cons_zero, List.getElem_cons_succ, List.setIfInBounds_toArray, List.set_cons_zero, List.set_cons_succ]))
       refine wpAnyH_ready (rs := [8]) (by kernel_rfl) (by simp) (AllReadyH.cons rfl (fun K hK => ?_) AllReadyH.nil)
       go_simp
       obtain ⟨w4_, hw⟩ : ∃ v, (w3_.alloc (.cells #[.int .i64 0, .string ⟨#[]⟩, .int .i64 0, .int .i64 0, .slice none 0 0] 40)) = v := ⟨_, rfl⟩
       obtain ⟨b7, hv⟩ : ∃ v, w3_.heap.size = v := ⟨_, rfl⟩
       have Fg0_4 := Aside0.mk (Fg0_3.out.alloc_ hw)
       have Fg1_4 := Aside0.mk (Fg1_3.out.alloc_ hw)
       have Fk8_4 := Aside0.mk (Fk8_3.out.alloc_ hw)
       have Fb8_4 := Aside0.mk (Fb8_3.out.alloc_ hw)
       have Fk7_4 := Aside0.mk (Fk7_3.out.alloc_ hw)
       have Fb7_4 := Aside0.mk (Blk.new_ hw hv)
       have R_4 := Aside0.mk (rest_ R_3.out hw R_3.out.size)
       have B_b7 := Aside0.mk (show w2.heap.size ≤ b7 from Nat.le_trans R_3.out.size (Nat.le_of_eq hv))
       have Ng0_b7 := Aside0.mk (Fg0_3.out.ne_ hv)
       have Ng1_b7 := Aside0.mk (Fg1_3.out.ne_ hv)
       have Nk8_b7 := Aside0.mk (Fk8_3.out.ne_ hv)
       have Nb8_b7 := Aside0.mk (Fb8_3.out.ne_ hv)
       have Nk7_b7 := Aside0.mk (Fk7_3.out.ne_ hv)
       rw [hw, hv]
       clear hv hw
       refine Shut.out hK _ _ (cells10 Fg0_4.out Fg1_4.out) (fun hHeld => ?_)
       clear hK K
       (try simp only [Act.put, List.getElem_toArray, List.getElem_cons_zero, List.getElem_cons_succ, List.setIfInBounds_toArray, List.set_cons_zero, List.set_cons_succ])
       refine wpAnyH_ready (rs := [10]) (by kernel_rfl) (by simp) (AllReadyH.cons rfl (fun K hK => ?_) AllReadyH.nil)
       rw [if_pos (by rfl)]
       refine wp_store_row 40 (.tmp 7) (.tmp 23) rfl b7 #[.int .i64 6, .string ⟨#[]⟩, .int .i64 0, .int .i64 0, .slice (some ⟨k7, 0, none⟩) 2 2] rfl rfl 40 #[.int .i64 0, .string ⟨#[]⟩, .int .i64 0, .int .i64 0, .slice none 0 0] Fb7_4.out info_scope rfl (by simp [Value.oneCell']) ?_
       obtain ⟨w5_, hw⟩ : ∃ v, w4_.setRow b7 #[.int .i64 6, .string ⟨#[]⟩, .int .i64 0, .int .i64 0, .slice (some ⟨k7, 0, none⟩) 2 2] = v := ⟨_, rfl⟩
       have Fg0_5 := Aside0.mk (Fg0_4.out.other_ hw (fun h_ => Ng0_b7.out h_.symm))
       have Fg1_5 := Aside0.mk (Fg1_4.out.other_ hw (fun h_ => Ng1_b7.out h_.symm))
       have Fk8_5 := Aside0.mk (Fk8_4.out.other_ hw (fun h_ => Nk8_b7.out h_.symm))
       have Fb8_5 := Aside0.mk (Fb8_4.out.other_ hw (fun h_ => Nb8_b7.out h_.symm))
       have Fk7_5 := Aside0.mk (Fk7_4.out.other_ hw (fun h_ => Nk7_b7.out h_.symm))
       have Fb7_5 := Aside0.mk (Fb7_4.out.same_ hw)
       have R_5 := Aside0.mk (rests_ R_4.out hw B_b7.out)
       rw [hw]
       clear hw
       refine Shut.out hK _ _ (cells10 Fg0_5.out Fg1_5.out) (fun hHeld => ?_)
       clear hK K
       (try simp only [Act.put, List.getElem_toArray, List.getElem_cons_zero, List.getElem_cons_succ, List.setIfInBounds_toArray, List.set_cons_zero, List.set_cons_succ])
       refine wpAnyH_ready (rs := [11]) (by kernel_rfl) (by simp) (AllReadyH.cons rfl (fun K hK => ?_) AllReadyH.nil)
       rw [if_pos (by rfl)]
       refine wp_store_row 40 (.tmp 8) (.tmp 27) rfl b8 #[.int .i64 7, .string ⟨#[]⟩, .int .i64 0, .int .i64 0, .slice (some ⟨k8, 0, none⟩) 2 2] rfl rfl 40 #[.int .i64 0, .string ⟨#[]⟩, .int .i64 0, .int .i64 0, .slice none 0 0] Fb8_5.out info_scope rfl (by simp [Value.oneCell']) ?_
       obtain ⟨w6_, hw⟩ : ∃ v, w5_.setRow b8 #[.int .i64 7, .string ⟨#[]⟩, .int .i64 0, .int .i64 0, .slice (some ⟨k8, 0, none⟩) 2 2] = v := ⟨_, rfl⟩
       have Fg0_6 := Aside0.mk (Fg0_5.out.other_ hw (fun h_ => Ng0_b8.out h_.symm))
       have Fg1_6 := Aside0.mk (Fg1_5.out.other_ hw (fun h_ => Ng1_b8.out h_.symm))
       have Fk8_6 := Aside0.mk (Fk8_5.out.other_ hw (fun h_ => Nk8_b8.out h_.symm))
       have Fb8_6 := Aside0.mk (Fb8_5.out.same_ hw)
       have Fk7_6 := Aside0.mk (Fk7_5.out.other_ hw Nb8_k7.out)
       have Fb7_6 := Aside0.mk (Fb7_5.out.other_ hw Nb8_b7.out)
       have R_6 := Aside0.mk (rests_ R_5.out hw B_b8.out)
       rw [hw]
       clear hw
       refine Shut.out hK _ _ (cells10 Fg0_6.out Fg1_6.out) (fun hHeld => ?_)
       clear hK K
       (try simp only [Act.put, List.getElem_toArray, List.getElem_cons_zero, List.getElem_cons_succ, List.setIfInBounds_toArray, List.set_cons_zero, List.set_cons_succ])
       refine wpAnyH_done (by kernel_rfl) ?_ _
       go_wp2_with (fail)
       go_meet
       case rel => exact ⟨b7, k7, b8, k8, rfl, rfl, Fb7_6.out, Fk7_6.out, Fb8_6.out, Fk8_6.out, R_6.out⟩
      ·
       go_simp
       obtain ⟨w3_, hw⟩ : ∃ v, (w2_.alloc (.cells #[.int .i64 0, .string ⟨#[]⟩, .int .i64 0, .int .i64 0, .slice none 0 0] 40)) = v := ⟨_, rfl⟩
       obtain ⟨b7, hv⟩ : ∃ v, w2_.heap.size = v := ⟨_, rfl⟩
       have Fg0_3 := Aside0.mk (Fg0_2.out.alloc_ hw)
       have Fg1_3 := Aside0.mk (Fg1_2.out.alloc_ hw)
       have Fk8_3 := Aside0.mk (Fk8_2.out.alloc_ hw)
       have Fb8_3 := Aside0.mk (Fb8_2.out.alloc_ hw)
       have Fb7_3 := Aside0.mk (Blk.new_ hw hv)
       have R_3 := Aside0.mk (rest_ R_2.out hw R_2.out.size)
       have B_b7 := Aside0.mk (show w2.heap.size ≤ b7 from Nat.le_trans R_2.out.size (Nat.le_of_eq hv))
       have Ng0_b7 := Aside0.mk (Fg0_2.out.ne_ hv)
       have Ng1_b7 := Aside0.mk (Fg1_2.out.ne_ hv)
       have Nk8_b7 := Aside0.mk (Fk8_2.out.ne_ hv)
       have Nb8_b7 := Aside0.mk (Fb8_2.out.ne_ hv)
       rw [hw, hv]
       clear hv hw
       refine Shut.out hK _ _ (cells10 Fg0_3.out Fg1_3.out) (fun hHeld => ?_)
       clear hK K
       refine wpAnyH_ready (rs := [2]) (by kernel_rfl) (by simp) (AllReadyH.cons rfl (fun K hK => ?_) AllReadyH.nil)
       go_simp
       obtain ⟨w4_, hw⟩ : ∃ v, (w3_.alloc (.cells #[.int .i64 x.f0, .string x.f1, .int .i64 x.f2, .int .i64 x.f3, .slice Ax x.f4.length cx, .int .i64 y.f0, .string y.f1, .int .i64 y.f2, .int .i64 y.f3, .slice Ay y.f4.length cy] 40)) = v := ⟨_, rfl⟩
       obtain ⟨k7, hv⟩ : ∃ v, w3_.heap.size = v := ⟨_, rfl⟩
       have Fg0_4 := Aside0.mk (Fg0_3.out.alloc_ hw)
       have Fg1_4 := Aside0.mk (Fg1_3.out.alloc_ hw)
       have Fk8_4 := Aside0.mk (Fk8_3.out.alloc_ hw)
       have Fb8_4 := Aside0.mk (Fb8_3.out.alloc_ hw)
       have Fb7_4 := Aside0.mk (Fb7_3.out.alloc_ hw)
       have Fk7_4 := Aside0.mk (Blk.new_ hw hv)
       have R_4 := Aside0.mk (rest_ R_3.out hw R_3.out.size)
       have B_k7 := Aside0.mk (show w2.heap.size ≤ k7 from Nat.le_trans R_3.out.size (Nat.le_of_eq hv))
       have Ng0_k7 := Aside0.mk (Fg0_3.out.ne_ hv)
       have Ng1_k7 := Aside0.mk (Fg1_3.out.ne_ hv)
       have Nk8_k7 := Aside0.mk (Fk8_3.out.ne_ hv)
       have Nb8_k7 := Aside0.mk (Fb8_3.out.ne_ hv)
       have Nb7_k7 := Aside0.mk (Fb7_3.out.ne_ hv)
       rw [hw, hv]
       clear hv hw
       refine Shut.out hK _ _ (cells10 Fg0_4.out Fg1_4.out) (fun hHeld => ?_)
       clear hK K
       (try simp only [Act.put, List.getElem_toArray, List.getElem_cons_zero, List.getElem_cons_succ, List.setIfInBounds_toArray, List.set_cons_zero, List.set_cons_succ])
       (refine wpAnyH_take (i := 3) (v := ?_) rfl (by kernel_rfl) (by kernel_rfl) (by kernel_rfl) (fun _ _ _ h => h) (Or.inl ⟨by rfl, ?_⟩) (by assumption) ?_; (case' refine_2 => (intro w hSw; go_simp; try with_reducible rfl)); (try simp only [Act.put, List.getElem_toArray, List.getElem_cons_zero, List.getElem_cons_succ, List.setIfInBounds_toArray, List.set_cons_zero, List.set_cons_succ]))
       refine wpAnyH_ready (rs := [10]) (by kernel_rfl) (by simp) (AllReadyH.cons rfl (fun K hK => ?_) AllReadyH.nil)
       rw [if_pos (by rfl)]
       refine wp_store_row 40 (.tmp 7) (.tmp 23) rfl b7 #[.int .i64 6, .string ⟨#[]⟩, .int .i64 0, .int .i64 0, .slice (some ⟨k7, 0, none⟩) 2 2] rfl rfl 40 #[.int .i64 0, .string ⟨#[]⟩, .int .i64 0, .int .i64 0, .slice none 0 0] Fb7_4.out info_scope rfl (by simp [Value.oneCell']) ?_
       obtain ⟨w5_, hw⟩ : ∃ v, w4_.setRow b7 #[.int .i64 6, .string ⟨#[]⟩, .int .i64 0, .int .i64 0, .slice (some ⟨k7, 0, none⟩) 2 2] = v := ⟨_, rfl⟩
       have Fg0_5 := Aside0.mk (Fg0_4.out.other_ hw (fun h_ => Ng0_b7.out h_.symm))
       have Fg1_5 := Aside0.mk (Fg1_4.out.other_ hw (fun h_ => Ng1_b7.out h_.symm))
       have Fk8_5 := Aside0.mk (Fk8_4.out.other_ hw (fun h_ => Nk8_b7.out h_.symm))
       have Fb8_5 := Aside0.mk (Fb8_4.out.other_ hw (fun h_ => Nb8_b7.out h_.symm))
       have Fb7_5 := Aside0.mk (Fb7_4.out.same_ hw)
       have Fk7_5 := Aside0.mk (Fk7_4.out.other_ hw Nb7_k7.out)
       have R_5 := Aside0.mk (rests_ R_4.out hw B_b7.out)
       rw [hw]
       clear hw
       refine Shut.out hK _ _ (cells10 Fg0_5.out Fg1_5.out) (fun hHeld => ?_)
       clear hK K
       (try simp only [Act.put, List.getElem_toArray, List.getElem_cons_zero, List.getElem_cons_succ, List.setIfInBounds_toArray, List.set_cons_zero, List.set_cons_succ])
       refine wpAnyH_ready (rs := [11]) (by kernel_rfl) (by simp) (AllReadyH.cons rfl (fun K hK => ?_) AllReadyH.nil)
       rw [if_pos (by rfl)]
       refine wp_store_row 40 (.tmp 8) (.tmp 27) rfl b8 #[.int .i64 7, .string ⟨#[]⟩, .int .i64 0, .int .i64 0, .slice (some ⟨k8, 0, none⟩) 2 2] rfl rfl 40 #[.int .i64 0, .string ⟨#[]⟩, .int .i64 0, .int .i64 0, .slice none 0 0] Fb8_5.out info_scope rfl (by simp [Value.oneCell']) ?_
       obtain ⟨w6_, hw⟩ : ∃ v, w5_.setRow b8 #[.int .i64 7, .string ⟨#[]⟩, .int .i64 0, .int .i64 0, .slice (some ⟨k8, 0, none⟩) 2 2] = v := ⟨_, rfl⟩
       have Fg0_6 := Aside0.mk (Fg0_5.out.other_ hw (fun h_ => Ng0_b8.out h_.symm))
       have Fg1_6 := Aside0.mk (Fg1_5.out.other_ hw (fun h_ => Ng1_b8.out h_.symm))
       have Fk8_6 := Aside0.mk (Fk8_5.out.other_ hw (fun h_ => Nk8_b8.out h_.symm))
       have Fb8_6 := Aside0.mk (Fb8_5.out.same_ hw)
       have Fb7_6 := Aside0.mk (Fb7_5.out.other_ hw Nb8_b7.out)
       have Fk7_6 := Aside0.mk (Fk7_5.out.other_ hw Nb8_k7.out)
       have R_6 := Aside0.mk (rests_ R_5.out hw B_b8.out)
       rw [hw]
       clear hw
       refine Shut.out hK _ _ (cells10 Fg0_6.out Fg1_6.out) (fun hHeld => ?_)
       clear hK K
       (try simp only [Act.put, List.getElem_toArray, List.getElem_cons_zero, List.getElem_cons_succ, List.setIfInBounds_toArray, List.set_cons_zero, List.set_cons_succ])
       refine wpAnyH_done (by kernel_rfl) ?_ _
       go_wp2_with (fail)
       go_meet
       case rel => exact ⟨b7, k7, b8, k8, rfl, rfl, Fb7_6.out, Fk7_6.out, Fb8_6.out, Fk8_6.out, R_6.out⟩
    ·
     go_simp
     obtain ⟨w1_, hw⟩ : ∃ v, (w2.alloc (.cells #[.int .i64 0, .string ⟨#[]⟩, .int .i64 0, .int .i64 0, .slice none 0 0] 40)).drew = v := ⟨_, rfl⟩
     obtain ⟨b7, hv⟩ : ∃ v, w2.heap.size = v := ⟨_, rfl⟩
     have Fg0_1 := Aside0.mk (Fg0_0.out.allocd_ hw)
     have Fg1_1 := Aside0.mk (Fg1_0.out.allocd_ hw)
     have Fb7_1 := Aside0.mk (Blk.newd_ hw hv)
     have R_1 := Aside0.mk (restd_ hw)
     have B_b7 := Aside0.mk (show w2.heap.size ≤ b7 from Nat.le_of_eq hv)
     have Ng0_b7 := Aside0.mk (Fg0_0.out.ne_ hv)
     have Ng1_b7 := Aside0.mk (Fg1_0.out.ne_ hv)
     rw [hw, hv]
     clear hv hw
     refine Shut.out hK _ _ (cells10 Fg0_1.out Fg1_1.out) (fun hHeld => ?_)
     clear hK K
     refine wpAnyH_ready (rs := [2, 6, 9]) (by kernel_rfl) (by simp) (AllReadyH.cons rfl (fun K hK => ?_) (AllReadyH.cons rfl (fun K hK => ?_) (AllReadyH.cons rfl (fun K hK => ?_) AllReadyH.nil)))
     ·
      go_simp
      obtain ⟨w2_, hw⟩ : ∃ v, (w1_.alloc (.cells #[.int .i64 x.f0, .string x.f1, .int .i64 x.f2, .int .i64 x.f3, .slice Ax x.f4.length cx, .int .i64 y.f0, .string y.f1, .int .i64 y.f2, .int .i64 y.f3, .slice Ay y.f4.length cy] 40)) = v := ⟨_, rfl⟩
      obtain ⟨k7, hv⟩ : ∃ v, w1_.heap.size = v := ⟨_, rfl⟩
      have Fg0_2 := Aside0.mk (Fg0_1.out.alloc_ hw)
      have Fg1_2 := Aside0.mk (Fg1_1.out.alloc_ hw)
      have Fb7_2 := Aside0.mk (Fb7_1.out.alloc_ hw)
      have Fk7_2 := Aside0.mk (Blk.new_ hw hv)
      have R_2 := Aside0.mk (rest_ R_1.out hw R_1.out.size)
      have B_k7 := Aside0.mk (show w2.heap.size ≤ k7 from Nat.le_trans R_1.out.size (Nat.le_of_eq hv))
      have Ng0_k7 := Aside0.mk (Fg0_1.out.ne_ hv)
      have Ng1_k7 := Aside0.mk (Fg1_1.out.ne_ hv)
      have Nb7_k7 := Aside0.mk (Fb7_1.out.ne_ hv)
      rw [hw, hv]
      clear hv hw
      refine Shut.out hK _ _ (cells10 Fg0_2.out Fg1_2.out) (fun hHeld => ?_)
      clear hK K
      (try simp only [Act.put, List.getElem_toArray, List.getElem_cons_zero, List.getElem_cons_succ, List.setIfInBounds_toArray, List.set_cons_zero, List.set_cons_succ])
      (refine wpAnyH_take (i := 3) (v := ?_) rfl (by kernel_rfl) (by kernel_rfl) (by kernel_rfl) (fun _ _ _ h => h) (Or.inl ⟨by rfl, ?_⟩) (by assumption) ?_; (case' refine_2 => (intro w hSw; go_simp; try with_reducible rfl)); (try simp only [Act.put, List.getElem_toArray, List.getElem_cons_zero, List.getElem_cons_succ, List.setIfInBounds_toArray, List.set_cons_zero, List.set_cons_succ]))
      refine wpAnyH_ready (rs := [6, 9]) (by kernel_rfl) (by simp) (AllReadyH.cons rfl (fun K hK => ?_) (AllReadyH.cons rfl (fun K hK => ?_) AllReadyH.nil))
      ·
       go_simp
       obtain ⟨w3_, hw⟩ : ∃ v, (w2_.alloc (.cells #[.int .i64 x.f0, .string x.f1, .int .i64 x.f2, .int .i64 x.f3, .slice Ax x.f4.length cx, .int .i64 y.f0, .string y.f1, .int .i64 y.f2, .int .i64 y.f3, .slice Ay y.f4.length cy] 40)) = v := ⟨_, rfl⟩
       obtain ⟨k8, hv⟩ : ∃ v, w2_.heap.size = v := ⟨_, rfl⟩
       have Fg0_3 := Aside0.mk (Fg0_2.out.alloc_ hw)
       have Fg1_3 := Aside0.mk (Fg1_2.out.alloc_ hw)
       have Fb7_3 := Aside0.mk (Fb7_2.out.alloc_ hw)
       have Fk7_3 := Aside0.mk (Fk7_2.out.alloc_ hw)
       have Fk8_3 := Aside0.mk (Blk.new_ hw hv)
       have R_3 := Aside0.mk (rest_ R_2.out hw R_2.out.size)
       have B_k8 := Aside0.mk (show w2.heap.size ≤ k8 from Nat.le_trans R_2.out.size (Nat.le_of_eq hv))
       have Ng0_k8 := Aside0.mk (Fg0_2.out.ne_ hv)
       have Ng1_k8 := Aside0.mk (Fg1_2.out.ne_ hv)
       have Nb7_k8 := Aside0.mk (Fb7_2.out.ne_ hv)
       have Nk7_k8 := Aside0.mk (Fk7_2.out.ne_ hv)
       rw [hw, hv]
       clear hv hw
       refine Shut.out hK _ _ (cells10 Fg0_3.out Fg1_3.out) (fun hHeld => ?_)
       clear hK K
       (try simp only [Act.put, List.getElem_toArray, List.getElem_cons_zero, List.getElem_cons_succ, List.setIfInBounds_toArray, List.set_cons_zero, List.set_cons_succ])
       (refine wpAnyH_take (i := 7) (v := ?_) rfl (by kernel_rfl) (by kernel_rfl) (by kernel_rfl) (fun _ _ _ h => h) (Or.inl ⟨by rfl, ?_⟩) (by assumption) ?_; (case' refine_2 => (intro w hSw; go_simp; try with_reducible rfl)); (try simp only [Act.put, List.getElem_toArray, List.getElem_cons_zero, List.getElem_cons_succ, List.setIfInBounds_toArray, List.set_cons_zero, List.set_cons_succ]))
       refine wpAnyH_ready (rs := [9]) (by kernel_rfl) (by simp) (AllReadyH.cons rfl (fun K hK => ?_) AllReadyH.nil)
       go_simp
       obtain ⟨w4_, hw⟩ : ∃ v, (w3_.alloc (.cells #[.int .i64 0, .string ⟨#[]⟩, .int .i64 0, .int .i64 0, .slice none 0 0] 40)) = v := ⟨_, rfl⟩
       obtain ⟨b8, hv⟩ : ∃ v, w3_.heap.size = v := ⟨_, rfl⟩
       have Fg0_4 := Aside0.mk (Fg0_3.out.alloc_ hw)
       have Fg1_4 := Aside0.mk (Fg1_3.out.alloc_ hw)
       have Fb7_4 := Aside0.mk (Fb7_3.out.alloc_ hw)
       have Fk7_4 := Aside0.mk (Fk7_3.out.alloc_ hw)
       have Fk8_4 := Aside0.mk (Fk8_3.out.alloc_ hw)
       have Fb8_4 := Aside0.mk (Blk.new_ hw hv)
       have R_4 := Aside0.mk (rest_ R_3.out hw R_3.out.size)
       have B_b8 := Aside0.mk (show w2.heap.size ≤ b8 from Nat.le_trans R_3.out.size (Nat.le_of_eq hv))
       have Ng0_b8 := Aside0.mk (Fg0_3.out.ne_ hv)
       have Ng1_b8 := Aside0.mk (Fg1_3.out.ne_ hv)
       have Nb7_b8 := Aside0.mk (Fb7_3.out.ne_ hv)
       have Nk7_b8 := Aside0.mk (Fk7_3.out.ne_ hv)
       have Nk8_b8 := Aside0.mk (Fk8_3.out.ne_ hv)
       rw [hw, hv]
       clear hv hw
       refine Shut.out hK _ _ (cells10 Fg0_4.out Fg1_4.out) (fun hHeld => ?_)
       clear hK K
       (try simp only [Act.put, List.getElem_toArray, List.getElem_cons_zero, List.getElem_cons_succ, List.setIfInBounds_toArray, List.set_cons_zero, List.set_cons_succ])
       refine wpAnyH_ready (rs := [10]) (by kernel_rfl) (by simp) (AllReadyH.cons rfl (fun K hK => ?_) AllReadyH.nil)
       rw [if_pos (by rfl)]
       refine wp_store_row 40 (.tmp 7) (.tmp 23) rfl b7 #[.int .i64 6, .string ⟨#[]⟩, .int .i64 0, .int .i64 0, .slice (some ⟨k7, 0, none⟩) 2 2] rfl rfl 40 #[.int .i64 0, .string ⟨#[]⟩, .int .i64 0, .int .i64 0, .slice none 0 0] Fb7_4.out info_scope rfl (by simp [Value.oneCell']) ?_
       obtain ⟨w5_, hw⟩ : ∃ v, w4_.setRow b7 #[.int .i64 6, .string ⟨#[]⟩, .int .i64 0, .int .i64 0, .slice (some ⟨k7, 0, none⟩) 2 2] = v := ⟨_, rfl⟩
       have Fg0_5 := Aside0.mk (Fg0_4.out.other_ hw (fun h_ => Ng0_b7.out h_.symm))
       have Fg1_5 := Aside0.mk (Fg1_4.out.other_ hw (fun h_ => Ng1_b7.out h_.symm))
       have Fb7_5 := Aside0.mk (Fb7_4.out.same_ hw)
       have Fk7_5 := Aside0.mk (Fk7_4.out.other_ hw Nb7_k7.out)
       have Fk8_5 := Aside0.mk (Fk8_4.out.other_ hw Nb7_k8.out)
       have Fb8_5 := Aside0.mk (Fb8_4.out.other_ hw Nb7_b8.out)
       have R_5 := Aside0.mk (rests_ R_4.out hw B_b7.out)
       rw [hw]
       clear hw
       refine Shut.out hK _ _ (cells10 Fg0_5.out Fg1_5.out) (fun hHeld => ?_)
       clear hK K
       (try simp only [Act.put, List.getElem_toArray, List.getElem_cons_zero, List.getElem_cons_succ, List.setIfInBounds_toArray, List.set_cons_zero, List.set_cons_succ])
       refine wpAnyH_ready (rs := [11]) (by kernel_rfl) (by simp) (AllReadyH.cons rfl (fun K hK => ?_) AllReadyH.nil)
       rw [if_pos (by rfl)]
       refine wp_store_row 40 (.tmp 8) (.tmp 27) rfl b8 #[.int .i64 7, .string ⟨#[]⟩, .int .i64 0, .int .i64 0, .slice (some ⟨k8, 0, none⟩) 2 2] rfl rfl 40 #[.int .i64 0, .string ⟨#[]⟩, .int .i64 0, .int .i64 0, .slice none 0 0] Fb8_5.out info_scope rfl (by simp [Value.oneCell']) ?_
       obtain ⟨w6_, hw⟩ : ∃ v, w5_.setRow b8 #[.int .i64 7, .string ⟨#[]⟩, .int .i64 0, .int .i64 0, .slice (some ⟨k8, 0, none⟩) 2 2] = v := ⟨_, rfl⟩
       have Fg0_6 := Aside0.mk (Fg0_5.out.other_ hw (fun h_ => Ng0_b8.out h_.symm))
       have Fg1_6 := Aside0.mk (Fg1_5.out.other_ hw (fun h_ => Ng1_b8.out h_.symm))
       have Fb7_6 := Aside0.mk (Fb7_5.out.other_ hw (fun h_ => Nb7_b8.out h_.symm))
       have Fk7_6 := Aside0.mk (Fk7_5.out.other_ hw (fun h_ => Nk7_b8.out h_.symm))
       have Fk8_6 := Aside0.mk (Fk8_5.out.other_ hw (fun h_ => Nk8_b8.out h_.symm))
       have Fb8_6 := Aside0.mk (Fb8_5.out.same_ hw)
       have R_6 := Aside0.mk (rests_ R_5.out hw B_b8.out)
       rw [hw]
       clear hw
       refine Shut.out hK _ _ (cells10 Fg0_6.out Fg1_6.out) (fun hHeld => ?_)
       clear hK K
       (try simp only [Act.put, List.getElem_toArray, List.getElem_cons_zero, List.getElem_cons_succ, List.setIfInBounds_toArray, List.set_cons_zero, List.set_cons_succ])
       refine wpAnyH_done (by kernel_rfl) ?_ _
       go_wp2_with (fail)
       go_meet
       case rel => exact ⟨b7, k7, b8, k8, rfl, rfl, Fb7_6.out, Fk7_6.out, Fb8_6.out, Fk8_6.out, R_6.out⟩
      ·
       go_simp
       obtain ⟨w3_, hw⟩ : ∃ v, (w2_.alloc (.cells #[.int .i64 0, .string ⟨#[]⟩, .int .i64 0, .int .i64 0, .slice none 0 0] 40)) = v := ⟨_, rfl⟩
       obtain ⟨b8, hv⟩ : ∃ v, w2_.heap.size = v := ⟨_, rfl⟩
       have Fg0_3 := Aside0.mk (Fg0_2.out.alloc_ hw)
       have Fg1_3 := Aside0.mk (Fg1_2.out.alloc_ hw)
       have Fb7_3 := Aside0.mk (Fb7_2.out.alloc_ hw)
       have Fk7_3 := Aside0.mk (Fk7_2.out.alloc_ hw)
       have Fb8_3 := Aside0.mk (Blk.new_ hw hv)
       have R_3 := Aside0.mk (rest_ R_2.out hw R_2.out.size)
       have B_b8 := Aside0.mk (show w2.heap.size ≤ b8 from Nat.le_trans R_2.out.size (Nat.le_of_eq hv))
       have Ng0_b8 := Aside0.mk (Fg0_2.out.ne_ hv)
       have Ng1_b8 := Aside0.mk (Fg1_2.out.ne_ hv)
       have Nb7_b8 := Aside0.mk (Fb7_2.out.ne_ hv)
       have Nk7_b8 := Aside0.mk (Fk7_2.out.ne_ hv)
       rw [hw, hv]
       clear hv hw
       refine Shut.out hK _ _ (cells10 Fg0_3.out Fg1_3.out) (fun hHeld => ?_)
       clear hK K
       (try simp only [Act.put, List.getElem_toArray, List.getElem_cons_zero, List.getElem_cons_succ, List.setIfInBounds_toArray, List.set_cons_zero, List.set_cons_succ])
       refine wpAnyH_ready (rs := [6, 10]) (by kernel_rfl) (by simp) (AllReadyH.cons rfl (fun K hK => ?_) (AllReadyH.cons rfl (fun K hK => ?_) AllReadyH.nil))
       ·
        go_simp
        obtain ⟨w4_, hw⟩ : ∃ v, (w3_.alloc (.cells #[.int .i64 x.f0, .string x.f1, .int .i64 x.f2, .int .i64 x.f3, .slice Ax x.f4.length cx, .int .i64 y.f0, .string y.f1, .int .i64 y.f2, .int .i64 y.f3, .slice Ay y.f4.length cy] 40)) = v := ⟨_, rfl⟩
        obtain ⟨k8, hv⟩ : ∃ v, w3_.heap.size = v := ⟨_, rfl⟩
        have Fg0_4 := Aside0.mk (Fg0_3.out.alloc_ hw)
        have Fg1_4 := Aside0.mk (Fg1_3.out.alloc_ hw)
        have Fb7_4 := Aside0.mk (Fb7_3.out.alloc_ hw)
        have Fk7_4 := Aside0.mk (Fk7_3.out.alloc_ hw)
        have Fb8_4 := Aside0.mk (Fb8_3.out.alloc_ hw)
        have Fk8_4 := Aside0.mk (Blk.new_ hw hv)
        have R_4 := Aside0.mk (rest_ R_3.out hw R_3.out.size)
        have B_k8 := Aside0.mk (show w2.heap.size ≤ k8 from Nat.le_trans R_3.out.size (Nat.le_of_eq hv))
        have Ng0_k8 := Aside0.mk (Fg0_3.out.ne_ hv)
        have Ng1_k8 := Aside0.mk (Fg1_3.out.ne_ hv)
        have Nb7_k8 := Aside0.mk (Fb7_3.out.ne_ hv)
        have Nk7_k8 := Aside0.mk (Fk7_3.out.ne_ hv)
        have Nb8_k8 := Aside0.mk (Fb8_3.out.ne_ hv)
        rw [hw, hv]
        clear hv hw
        refine Shut.out hK _ _ (cells10 Fg0_4.out Fg1_4.out) (fun hHeld => ?_)
        clear hK K
        (try simp only [Act.put, List.getElem_toArray, List.getElem_cons_zero, List.getElem_cons_succ, List.setIfInBounds_toArray, List.set_cons_zero, List.set_cons_succ])
        (refine wpAnyH_take (i := 7) (v := ?_) rfl (by kernel_rfl) (by kernel_rfl) (by kernel_rfl) (fun _ _ _ h => h) (Or.inl ⟨by rfl, ?_⟩) (by assumption) ?_; (case' refine_2 => (intro w hSw; go_simp; try with_reducible rfl)); (try simp only [Act.put, List.getElem_toArray, List.getElem_cons_zero, List.getElem_cons_succ, List.setIfInBounds_toArray, List.set_cons_zero, List.set_cons_succ]))
        refine wpAnyH_ready (rs := [10]) (by kernel_rfl) (by simp) (AllReadyH.cons rfl (fun K hK => ?_) AllReadyH.nil)
        rw [if_pos (by rfl)]
        refine wp_store_row 40 (.tmp 7) (.tmp 23) rfl b7 #[.int .i64 6, .string ⟨#[]⟩, .int .i64 0, .int .i64 0, .slice (some ⟨k7, 0, none⟩) 2 2] rfl rfl 40 #[.int .i64 0, .string ⟨#[]⟩, .int .i64 0, .int .i64 0, .slice none 0 0] Fb7_4.out info_scope rfl (by simp [Value.oneCell']) ?_
        obtain ⟨w5_, hw⟩ : ∃ v, w4_.setRow b7 #[.int .i64 6, .string ⟨#[]⟩, .int .i64 0, .int .i64 0, .slice (some ⟨k7, 0, none⟩) 2 2] = v := ⟨_, rfl⟩
        have Fg0_5 := Aside0.mk (Fg0_4.out.other_ hw (fun h_ => Ng0_b7.out h_.symm))
        have Fg1_5 := Aside0.mk (Fg1_4.out.other_ hw (fun h_ => Ng1_b7.out h_.symm))
        have Fb7_5 := Aside0.mk (Fb7_4.out.same_ hw)
        have Fk7_5 := Aside0.mk (Fk7_4.out.other_ hw Nb7_k7.out)
        have Fb8_5 := Aside0.mk (Fb8_4.out.other_ hw Nb7_b8.out)
        have Fk8_5 := Aside0.mk (Fk8_4.out.other_ hw Nb7_k8.out)
        have R_5 := Aside0.mk (rests_ R_4.out hw B_b7.out)
        rw [hw]
        clear hw
        refine Shut.out hK _ _ (cells10 Fg0_5.out Fg1_5.out) (fun hHeld => ?_)
        clear hK K
        (try simp only [Act.put, List.getElem_toArray, List.getElem_cons_zero, List.getElem_cons_succ, List.setIfInBounds_toArray, List.set_cons_zero, List.set_cons_succ])
        refine wpAnyH_ready (rs := [11]) (by kernel_rfl) (by simp) (AllReadyH.cons rfl (fun K hK => ?_) AllReadyH.nil)
        rw [if_pos (by rfl)]
        refine wp_store_row 40 (.tmp 8) (.tmp 27) rfl b8 #[.int .i64 7, .string ⟨#[]⟩, .int .i64 0, .int .i64 0, .slice (some ⟨k8, 0, none⟩) 2 2] rfl rfl 40 #[.int .i64 0, .string ⟨#[]⟩, .int .i64 0, .int .i64 0, .slice none 0 0] Fb8_5.out info_scope rfl (by simp [Value.oneCell']) ?_
        obtain ⟨w6_, hw⟩ : ∃ v, w5_.setRow b8 #[.int .i64 7, .string ⟨#[]⟩, .int .i64 0, .int .i64 0, .slice (some ⟨k8, 0, none⟩) 2 2] = v := ⟨_, rfl⟩
        have Fg0_6 := Aside0.mk (Fg0_5.out.other_ hw (fun h_ => Ng0_b8.out h_.symm))
        have Fg1_6 := Aside0.mk (Fg1_5.out.other_ hw (fun h_ => Ng1_b8.out h_.symm))
        have Fb7_6 := Aside0.mk (Fb7_5.out.other_ hw (fun h_ => Nb7_b8.out h_.symm))
        have Fk7_6 := Aside0.mk (Fk7_5.out.other_ hw (fun h_ => Nk7_b8.out h_.symm))
        have Fb8_6 := Aside0.mk (Fb8_5.out.same_ hw)
        have Fk8_6 := Aside0.mk (Fk8_5.out.other_ hw Nb8_k8.out)
        have R_6 := Aside0.mk (rests_ R_5.out hw B_b8.out)
        rw [hw]
        clear hw
        refine Shut.out hK _ _ (cells10 Fg0_6.out Fg1_6.out) (fun hHeld => ?_)
        clear hK K
        (try simp only [Act.put, List.getElem_toArray, List.getElem_cons_zero, List.getElem_cons_succ, List.setIfInBounds_toArray, List.set_cons_zero, List.set_cons_succ])
        refine wpAnyH_done (by kernel_rfl) ?_ _
        go_wp2_with (fail)
        go_meet
        case rel => exact ⟨b7, k7, b8, k8, rfl, rfl, Fb7_6.out, Fk7_6.out, Fb8_6.out, Fk8_6.out, R_6.out⟩
       ·
        rw [if_pos (by rfl)]
        refine wp_store_row 40 (.tmp 7) (.tmp 23) rfl b7 #[.int .i64 6, .string ⟨#[]⟩, .int .i64 0, .int .i64 0, .slice (some ⟨k7, 0, none⟩) 2 2] rfl rfl 40 #[.int .i64 0, .string ⟨#[]⟩, .int .i64 0, .int .i64 0, .slice none 0 0] Fb7_3.out info_scope rfl (by simp [Value.oneCell']) ?_
        obtain ⟨w4_, hw⟩ : ∃ v, w3_.setRow b7 #[.int .i64 6, .string ⟨#[]⟩, .int .i64 0, .int .i64 0, .slice (some ⟨k7, 0, none⟩) 2 2] = v := ⟨_, rfl⟩
        have Fg0_4 := Aside0.mk (Fg0_3.out.other_ hw (fun h_ => Ng0_b7.out h_.symm))
        have Fg1_4 := Aside0.mk (Fg1_3.out.other_ hw (fun h_ => Ng1_b7.out h_.symm))
        have Fb7_4 := Aside0.mk (Fb7_3.out.same_ hw)
        have Fk7_4 := Aside0.mk (Fk7_3.out.other_ hw Nb7_k7.out)
        have Fb8_4 := Aside0.mk (Fb8_3.out.other_ hw Nb7_b8.out)
        have R_4 := Aside0.mk (rests_ R_3.out hw B_b7.out)
        rw [hw]
        clear hw
        refine Shut.out hK _ _ (cells10 Fg0_4.out Fg1_4.out) (fun hHeld => ?_)
        clear hK K
        (try simp only [Act.put, List.getElem_toArray, List.getElem_cons_zero, List.getElem_cons_succ, List.setIfInBounds_toArray, List.set_cons_zero, List.set_cons_succ])
        refine wpAnyH_ready (rs := [6]) (by kernel_rfl) (by simp) (AllReadyH.cons rfl (fun K hK => ?_) AllReadyH.nil)
        go_simp
        obtain ⟨w5_, hw⟩ : ∃ v, (w4_.alloc (.cells #[.int .i64 x.f0, .string x.f1, .int .i64 x.f2, .int .i64 x.f3, .slice Ax x.f4.length cx, .int .i64 y.f0, .string y.f1, .int .i64 y.f2, .int .i64 y.f3, .slice Ay y.f4.length cy] 40)) = v := ⟨_, rfl⟩
        obtain ⟨k8, hv⟩ : ∃ v, w4_.heap.size = v := ⟨_, rfl⟩
        have Fg0_5 := Aside0.mk (Fg0_4.out.alloc_ hw)
        have Fg1_5 := Aside0.mk (Fg1_4.out.alloc_ hw)
        have Fb7_5 := Aside0.mk (Fb7_4.out.alloc_ hw)
        have Fk7_5 := Aside0.mk (Fk7_4.out.alloc_ hw)
        have Fb8_5 := Aside0.mk (Fb8_4.out.alloc_ hw)
        have Fk8_5 := Aside0.mk (Blk.new_ hw hv)
        have R_5 := Aside0.mk (rest_ R_4.out hw R_4.out.size)
        have B_k8 := Aside0.mk (show w2.heap.size ≤ k8 from Nat.le_trans R_4.out.size (Nat.le_of_eq hv))
        have Ng0_k8 := Aside0.mk (Fg0_4.out.ne_ hv)
        have Ng1_k8 := Aside0.mk (Fg1_4.out.ne_ hv)
        have Nb7_k8 := Aside0.mk (Fb7_4.out.ne_ hv)
        have Nk7_k8 := Aside0.mk (Fk7_4.out.ne_ hv)
        have Nb8_k8 := Aside0.mk (Fb8_4.out.ne_ hv)
        rw [hw, hv]
        clear hv hw
        refine Shut.out hK _ _ (cells10 Fg0_5.out Fg1_5.out) (fun hHeld => ?_)
        clear hK K
        (try simp only [Act.put, List.getElem_toArray, List.getElem_cons_zero, List.getElem_cons_succ, List.setIfInBounds_toArray, List.set_cons_zero, List.set_cons_succ])
        (refine wpAnyH_take (i := 7) (v := ?_) rfl (by kernel_rfl) (by kernel_rfl) (by kernel_rfl) (fun _ _ _ h => h) (Or.inl ⟨by rfl, ?_⟩) (by assumption) ?_; (case' refine_2 => (intro w hSw; go_simp; try with_reducible rfl)); (try simp only [Act.put, List.getElem_toArray, List.getElem_cons_zero, List.getElem_cons_succ, List.setIfInBounds_toArray, List.set_cons_zero, List.set_cons_succ]))
        refine wpAnyH_ready (rs := [11]) (by kernel_rfl) (by simp) (AllReadyH.cons rfl (fun K hK => ?_) AllReadyH.nil)
        rw [if_pos (by rfl)]
        refine wp_store_row 40 (.tmp 8) (.tmp 27) rfl b8 #[.int .i64 7, .string ⟨#[]⟩, .int .i64 0, .int .i64 0, .slice (some ⟨k8, 0, none⟩) 2 2] rfl rfl 40 #[.int .i64 0, .string ⟨#[]⟩, .int .i64 0, .int .i64 0, .slice none 0 0] Fb8_5.out info_scope rfl (by simp [Value.oneCell']) ?_
        obtain ⟨w6_, hw⟩ : ∃ v, w5_.setRow b8 #[.int .i64 7, .string ⟨#[]⟩, .int .i64 0, .int .i64 0, .slice (some ⟨k8, 0, none⟩) 2 2] = v := ⟨_, rfl⟩
        have Fg0_6 := Aside0.mk (Fg0_5.out.other_ hw (fun h_ => Ng0_b8.out h_.symm))
        have Fg1_6 := Aside0.mk (Fg1_5.out.other_ hw (fun h_ => Ng1_b8.out h_.symm))
        have Fb7_6 := Aside0.mk (Fb7_5.out.other_ hw (fun h_ => Nb7_b8.out h_.symm))
        have Fk7_6 := Aside0.mk (Fk7_5.out.other_ hw (fun h_ => Nk7_b8.out h_.symm))
        have Fb8_6 := Aside0.mk (Fb8_5.out.same_ hw)
        have Fk8_6 := Aside0.mk (Fk8_5.out.other_ hw Nb8_k8.out)
        have R_6 := Aside0.mk (rests_ R_5.out hw B_b8.out)
        rw [hw]
        clear hw
        refine Shut.out hK _ _ (cells10 Fg0_6.out Fg1_6.out) (fun hHeld => ?_)
        clear hK K
        (try simp only [Act.put, List.getElem_toArray, List.getElem_cons_zero, List.getElem_cons_succ, List.setIfInBounds_toArray, List.set_cons_zero, List.set_cons_succ])
        refine wpAnyH_done (by kernel_rfl) ?_ _
        go_wp2_with (fail)
        go_meet
        case rel => exact ⟨b7, k7, b8, k8, rfl, rfl, Fb7_6.out, Fk7_6.out, Fb8_6.out, Fk8_6.out, R_6.out⟩
     ·
      go_simp
      obtain ⟨w2_, hw⟩ : ∃ v, (w1_.alloc (.cells #[.int .i64 x.f0, .string x.f1, .int .i64 x.f2, .int .i64 x.f3, .slice Ax x.f4.length cx, .int .i64 y.f0, .string y.f1, .int .i64 y.f2, .int .i64 y.f3, .slice Ay y.f4.length cy] 40)) = v := ⟨_, rfl⟩
      obtain ⟨k8, hv⟩ : ∃ v, w1_.heap.size = v := ⟨_, rfl⟩
      have Fg0_2 := Aside0.mk (Fg0_1.out.alloc_ hw)
      have Fg1_2 := Aside0.mk (Fg1_1.out.alloc_ hw)
      have Fb7_2 := Aside0.mk (Fb7_1.out.alloc_ hw)
      have Fk8_2 := Aside0.mk (Blk.new_ hw hv)
      have R_2 := Aside0.mk (rest_ R_1.out hw R_1.out.size)
      have B_k8 := Aside0.mk (show w2.heap.size ≤ k8 from Nat.le_trans R_1.out.size (Nat.le_of_eq hv))
      have Ng0_k8 := Aside0.mk (Fg0_1.out.ne_ hv)
      have Ng1_k8 := Aside0.mk (Fg1_1.out.ne_ hv)
      have Nb7_k8 := Aside0.mk (Fb7_1.out.ne_ hv)
      rw [hw, hv]
      clear hv hw
      refine Shut.out hK _ _ (cells10 Fg0_2.out Fg1_2.out) (fun hHeld => ?_)
      clear hK K
      (try simp only [Act.put, List.getElem_toArray, List.getElem_cons_zero, List.getElem_cons_succ, List.setIfInBounds_toArray, List.set_cons_zero, List.set_cons_succ])
      (refine wpAnyH_take (i := 7) (v := ?_) rfl (by kernel_rfl) (by kernel_rfl) (by kernel_rfl) (fun _ _ _ h => h) (Or.inl ⟨by rfl, ?_⟩) (by assumption) ?_; (case' refine_2 => (intro w hSw; go_simp; try with_reducible rfl)); (try simp only [Act.put, List.getElem_toArray, List.getElem_cons_zero, List.getElem_cons_succ, List.setIfInBounds_toArray, List.set_cons_zero, List.set_cons_succ]))
      refine wpAnyH_ready (rs := [2, 9]) (by kernel_rfl) (by simp) (AllReadyH.cons rfl (fun K hK => ?_) (AllReadyH.cons rfl (fun K hK => ?_) AllReadyH.nil))
      ·
       go_simp
       obtain ⟨w3_, hw⟩ : ∃ v, (w2_.alloc (.cells #[.int .i64 x.f0, .string x.f1, .int .i64 x.f2, .int .i64 x.f3, .slice Ax x.f4.length cx, .int .i64 y.f0, .string y.f1, .int .i64 y.f2, .int .i64 y.f3, .slice Ay y.f4.length cy] 40)) = v := ⟨_, rfl⟩
       obtain ⟨k7, hv⟩ : ∃ v, w2_.heap.size = v := ⟨_, rfl⟩
       have Fg0_3 := Aside0.mk (Fg0_2.out.alloc_ hw)
       have Fg1_3 := Aside0.mk (Fg1_2.out.alloc_ hw)
       have Fb7_3 := Aside0.mk (Fb7_2.out.alloc_ hw)
       have Fk8_3 := Aside0.mk (Fk8_2.out.alloc_ hw)
       have Fk7_3 := Aside0.mk (Blk.new_ hw hv)
       have R_3 := Aside0.mk (rest_ R_2.out hw R_2.out.size)
       have B_k7 := Aside0.mk (show w2.heap.size ≤ k7 from Nat.le_trans R_2.out.size (Nat.le_of_eq hv))
       have Ng0_k7 := Aside0.mk (Fg0_2.out.ne_ hv)
       have Ng1_k7 := Aside0.mk (Fg1_2.out.ne_ hv)
       have Nb7_k7 := Aside0.mk (Fb7_2.out.ne_ hv)
       have Nk8_k7 := Aside0.mk (Fk8_2.out.ne_ hv)
       rw [hw, hv]
       clear hv hw
       refine Shut.out hK _ _ (cells10 Fg0_3.out Fg1_3.out) (fun hHeld => ?_)
       clear hK K
       (try simp only [Act.put, List.getElem_toArray, List.getElem_cons_zero, List.getElem_cons_succ, List.setIfInBounds_toArray, List.set_cons_zero, List.set_cons_succ])
       (refine wpAnyH_take (i := 3) (v := ?_) rfl (by kernel_rfl) (by kernel_rfl) (by kernel_rfl) (fun _ _ _ h => h) (Or.inl ⟨by rfl, ?_⟩) (by assumption) ?_; (case' refine_2 => (intro w hSw; go_simp; try with_reducible rfl)); (try simp only [Act.put, List.getElem_toArray, List.getElem_cons_zero, List.getElem_cons_succ, List.setIfInBounds_toArray, List.set_cons_zero, List.set_cons_succ]))
       refine wpAnyH_ready (rs := [9]) (by kernel_rfl) (by simp) (AllReadyH.cons rfl (fun K hK => ?_) AllReadyH.nil)
       go_simp
       obtain ⟨w4_, hw⟩ : ∃ v, (w3_.alloc (.cells #[.int .i64 0, .string ⟨#[]⟩, .int .i64 0, .int .i64 0, .slice none 0 0] 40)) = v := ⟨_, rfl⟩
       obtain ⟨b8, hv⟩ : ∃ v, w3_.heap.size = v := ⟨_, rfl⟩
       have Fg0_4 := Aside0.mk (Fg0_3.out.alloc_ hw)
       have Fg1_4 := Aside0.mk (Fg1_3.out.alloc_ hw)
       have Fb7_4 := Aside0.mk (Fb7_3.out.alloc_ hw)
       have Fk8_4 := Aside0.mk (Fk8_3.out.alloc_ hw)
       have Fk7_4 := Aside0.mk (Fk7_3.out.alloc_ hw)
       have Fb8_4 := Aside0.mk (Blk.new_ hw hv)
       have R_4 := Aside0.mk (rest_ R_3.out hw R_3.out.size)
       have B_b8 := Aside0.mk (show w2.heap.size ≤ b8 from Nat.le_trans R_3.out.size (Nat.le_of_eq hv))
       have Ng0_b8 := Aside0.mk (Fg0_3.out.ne_ hv)
       have Ng1_b8 := Aside0.mk (Fg1_3.out.ne_ hv)
       have Nb7_b8 := Aside0.mk (Fb7_3.out.ne_ hv)
       have Nk8_b8 := Aside0.mk (Fk8_3.out.ne_ hv)
       have Nk7_b8 := Aside0.mk (Fk7_3.out.ne_ hv)
       rw [hw, hv]
       clear hv hw
       refine Shut.out hK _ _ (cells10 Fg0_4.out Fg1_4.out) (fun hHeld => ?_)
       clear hK K
       (try simp only [Act.put, List.getElem_toArray, List.getElem_cons_zero, List.getElem_cons_succ, List.setIfInBounds_toArray, List.set_cons_zero, List.set_cons_succ])
       refine wpAnyH_ready (rs := [10]) (by kernel_rfl) (by simp) (AllReadyH.cons rfl (fun K hK => ?_) AllReadyH.nil)
       rw [if_pos (by rfl)]
       refine wp_store_row 40 (.tmp 7) (.tmp 23) rfl b7 #[.int .i64 6, .string ⟨#[]⟩, .int .i64 0, .int .i64 0, .slice (some ⟨k7, 0, none⟩) 2 2] rfl rfl 40 #[.int .i64 0, .string ⟨#[]⟩, .int .i64 0, .int .i64 0, .slice none 0 0] Fb7_4.out info_scope rfl (by simp [Value.oneCell']) ?_
       obtain ⟨w5_, hw⟩ : ∃ v, w4_.setRow b7 #[.int .i64 6, .string ⟨#[]⟩, .int .i64 0, .int .i64 0, .slice (some ⟨k7, 0, none⟩) 2 2] = v := ⟨_, rfl⟩
       have Fg0_5 := Aside0.mk (Fg0_4.out.other_ hw (fun h_ => Ng0_b7.out h_.symm))
       have Fg1_5 := Aside0.mk (Fg1_4.out.other_ hw (fun h_ => Ng1_b7.out h_.symm))
       have Fb7_5 := Aside0.mk (Fb7_4.out.same_ hw)
       have Fk8_5 := Aside0.mk (Fk8_4.out.other_ hw Nb7_k8.out)
       have Fk7_5 := Aside0.mk (Fk7_4.out.other_ hw Nb7_k7.out)
       have Fb8_5 := Aside0.mk (Fb8_4.out.other_ hw Nb7_b8.out)
       have R_5 := Aside0.mk (rests_ R_4.out hw B_b7.out)
       rw [hw]
       clear hw
       refine Shut.out hK _ _ (cells10 Fg0_5.out Fg1_5.out) (fun hHeld => ?_)
       clear hK K
       (try simp only [Act.put, List.getElem_toArray, List.getElem_cons_zero, List.getElem_cons_succ, List.setIfInBounds_toArray, List.set_cons_zero, List.set_cons_succ])
       refine wpAnyH_ready (rs := [11]) (by kernel_rfl) (by simp) (AllReadyH.cons rfl (fun K hK => ?_) AllReadyH.nil)
       rw [if_pos (by rfl)]
       refine wp_store_row 40 (.tmp 8) (.tmp 27) rfl b8 #[.int .i64 7, .string ⟨#[]⟩, .int .i64 0, .int .i64 0, .slice (some ⟨k8, 0, none⟩) 2 2] rfl rfl 40 #[.int .i64 0, .string ⟨#[]⟩, .int .i64 0, .int .i64 0, .slice none 0 0] Fb8_5.out info_scope rfl (by simp [Value.oneCell']) ?_
       obtain ⟨w6_, hw⟩ : ∃ v, w5_.setRow b8 #[.int .i64 7, .string ⟨#[]⟩, .int .i64 0, .int .i64 0, .slice (some ⟨k8, 0, none⟩) 2 2] = v := ⟨_, rfl⟩
       have Fg0_6 := Aside0.mk (Fg0_5.out.other_ hw (fun h_ => Ng0_b8.out h_.symm))
       have Fg1_6 := Aside0.mk (Fg1_5.out.other_ hw (fun h_ => Ng1_b8.out h_.symm))
       have Fb7_6 := Aside0.mk (Fb7_5.out.other_ hw (fun h_ => Nb7_b8.out h_.symm))
       have Fk8_6 := Aside0.mk (Fk8_5.out.other_ hw (fun h_ => Nk8_b8.out h_.symm))
       have Fk7_6 := Aside0.mk (Fk7_5.out.other_ hw (fun h_ => Nk7_b8.out h_.symm))
       have Fb8_6 := Aside0.mk (Fb8_5.out.same_ hw)
       have R_6 := Aside0.mk (rests_ R_5.out hw B_b8.out)
       rw [hw]
       clear hw
       refine Shut.out hK _ _ (cells10 Fg0_6.out Fg1_6.out) (fun hHeld => ?_)
       clear hK K
       (try simp only [Act.put, List.getElem_toArray, List.getElem_cons_zero, List.getElem_cons_succ, List.setIfInBounds_toArray, List.set_cons_zero, List.set_cons_succ])
       refine wpAnyH_done (by kernel_rfl) ?_ _
       go_wp2_with (fail)
       go_meet
       case rel => exact ⟨b7, k7, b8, k8, rfl, rfl, Fb7_6.out, Fk7_6.out, Fb8_6.out, Fk8_6.out, R_6.out⟩
      ·
       go_simp
       obtain ⟨w3_, hw⟩ : ∃ v, (w2_.alloc (.cells #[.int .i64 0, .string ⟨#[]⟩, .int .i64 0, .int .i64 0, .slice none 0 0] 40)) = v := ⟨_, rfl⟩
       obtain ⟨b8, hv⟩ : ∃ v, w2_.heap.size = v := ⟨_, rfl⟩
       have Fg0_3 := Aside0.mk (Fg0_2.out.alloc_ hw)
       have Fg1_3 := Aside0.mk (Fg1_2.out.alloc_ hw)
       have Fb7_3 := Aside0.mk (Fb7_2.out.alloc_ hw)
       have Fk8_3 := Aside0.mk (Fk8_2.out.alloc_ hw)
       have Fb8_3 := Aside0.mk (Blk.new_ hw hv)
       have R_3 := Aside0.mk (rest_ R_2.out hw R_2.out.size)
       have B_b8 := Aside0.mk (show w2.heap.size ≤ b8 from Nat.le_trans R_2.out.size (Nat.le_of_eq hv))
       have Ng0_b8 := Aside0.mk (Fg0_2.out.ne_ hv)
       have Ng1_b8 := Aside0.mk (Fg1_2.out.ne_ hv)
       have Nb7_b8 := Aside0.mk (Fb7_2.out.ne_ hv)
       have Nk8_b8 := Aside0.mk (Fk8_2.out.ne_ hv)
       rw [hw, hv]
       clear hv hw
       refine Shut.out hK _ _ (cells10 Fg0_3.out Fg1_3.out) (fun hHeld => ?_)
       clear hK K
       refine wpAnyH_ready (rs := [2]) (by kernel_rfl) (by simp) (AllReadyH.cons rfl (fun K hK => ?_) AllReadyH.nil)
       go_simp
       obtain ⟨w4_, hw⟩ : ∃ v, (w3_.alloc (.cells #[.int .i64 x.f0, .string x.f1, .int .i64 x.f2, .int .i64 x.f3, .slice Ax x.f4.length cx, .int .i64 y.f0, .string y.f1, .int .i64 y.f2, .int .i64 y.f3, .slice Ay y.f4.length cy] 40)) = v := ⟨_, rfl⟩
       obtain ⟨k7, hv⟩ : ∃ v, w3_.heap.size = v := ⟨_, rfl⟩
       have Fg0_4 := Aside0.mk (Fg0_3.out.alloc_ hw)
       have Fg1_4 := Aside0.mk (Fg1_3.out.alloc_ hw)
       have Fb7_4 := Aside0.mk (Fb7_3.out.alloc_ hw)
       have Fk8_4 := Aside0.mk (Fk8_3.out.alloc_ hw)
       have Fb8_4 := Aside0.mk (Fb8_3.out.alloc_ hw)
       have Fk7_4 := Aside0.mk (Blk.new_ hw hv)
       have R_4 := Aside0.mk (rest_ R_3.out hw R_3.out.size)
       have B_k7 := Aside0.mk (show w2.heap.size ≤ k7 from Nat.le_trans R_3.out.size (Nat.le_of_eq hv))
       have Ng0_k7 := Aside0.mk (Fg0_3.out.ne_ hv)
       have Ng1_k7 := Aside0.mk (Fg1_3.out.ne_ hv)
       have Nb7_k7 := Aside0.mk (Fb7_3.out.ne_ hv)
       have Nk8_k7 := Aside0.mk (Fk8_3.out.ne_ hv)
       have Nb8_k7 := Aside0.mk (Fb8_3.out.ne_ hv)
       rw [hw, hv]
       clear hv hw
       refine Shut.out hK _ _ (cells10 Fg0_4.out Fg1_4.out) (fun hHeld => ?_)
       clear hK K
       (try simp only [Act.put, List.getElem_toArray, List.getElem_cons_zero, List.getElem_cons_succ, List.setIfInBounds_toArray, List.set_cons_zero, List.set_cons_succ])
       (refine wpAnyH_take (i := 3) (v := ?_) rfl (by kernel_rfl) (by kernel_rfl) (by kernel_rfl) (fun _ _ _ h => h) (Or.inl ⟨by rfl, ?_⟩) (by assumption) ?_; (case' refine_2 => (intro w hSw; go_simp; try with_reducible rfl)); (try simp only [Act.put, List.getElem_toArray, List.getElem_cons_zero, List.getElem_cons_succ, List.setIfInBounds_toArray, List.set_cons_zero, List.set_cons_succ]))
       refine wpAnyH_ready (rs := [10]) (by kernel_rfl) (by simp) (AllReadyH.cons rfl (fun K hK => ?_) AllReadyH.nil)
       rw [if_pos (by rfl)]
       refine wp_store_row 40 (.tmp 7) (.tmp 23) rfl b7 #[.int .i64 6, .string ⟨#[]⟩, .int .i64 0, .int .i64 0, .slice (some ⟨k7, 0, none⟩) 2 2] rfl rfl 40 #[.int .i64 0, .string ⟨#[]⟩, .int .i64 0, .int .i64 0, .slice none 0 0] Fb7_4.out info_scope rfl (by simp [Value.oneCell']) ?_
       obtain ⟨w5_, hw⟩ : ∃ v, w4_.setRow b7 #[.int .i64 6, .string ⟨#[]⟩, .int .i64 0, .int .i64 0, .slice (some ⟨k7, 0, none⟩) 2 2] = v := ⟨_, rfl⟩
       have Fg0_5 := Aside0.mk (Fg0_4.out.other_ hw (fun h_ => Ng0_b7.out h_.symm))
       have Fg1_5 := Aside0.mk (Fg1_4.out.other_ hw (fun h_ => Ng1_b7.out h_.symm))
       have Fb7_5 := Aside0.mk (Fb7_4.out.same_ hw)
       have Fk8_5 := Aside0.mk (Fk8_4.out.other_ hw Nb7_k8.out)
       have Fb8_5 := Aside0.mk (Fb8_4.out.other_ hw Nb7_b8.out)
       have Fk7_5 := Aside0.mk (Fk7_4.out.other_ hw Nb7_k7.out)
       have R_5 := Aside0.mk (rests_ R_4.out hw B_b7.out)
       rw [hw]
       clear hw
       refine Shut.out hK _ _ (cells10 Fg0_5.out Fg1_5.out) (fun hHeld => ?_)
       clear hK K
       (try simp only [Act.put, List.getElem_toArray, List.getElem_cons_zero, List.getElem_cons_succ, List.setIfInBounds_toArray, List.set_cons_zero, List.set_cons_succ])
       refine wpAnyH_ready (rs := [11]) (by kernel_rfl) (by simp) (AllReadyH.cons rfl (fun K hK => ?_) AllReadyH.nil)
       rw [if_pos (by rfl)]
       refine wp_store_row 40 (.tmp 8) (.tmp 27) rfl b8 #[.int .i64 7, .string ⟨#[]⟩, .int .i64 0, .int .i64 0, .slice (some ⟨k8, 0, none⟩) 2 2] rfl rfl 40 #[.int .i64 0, .string ⟨#[]⟩, .int .i64 0, .int .i64 0, .slice none 0 0] Fb8_5.out info_scope rfl (by simp [Value.oneCell']) ?_
       obtain ⟨w6_, hw⟩ : ∃ v, w5_.setRow b8 #[.int .i64 7, .string ⟨#[]⟩, .int .i64 0, .int .i64 0, .slice (some ⟨k8, 0, none⟩) 2 2] = v := ⟨_, rfl⟩
       have Fg0_6 := Aside0.mk (Fg0_5.out.other_ hw (fun h_ => Ng0_b8.out h_.symm))
       have Fg1_6 := Aside0.mk (Fg1_5.out.other_ hw (fun h_ => Ng1_b8.out h_.symm))
       have Fb7_6 := Aside0.mk (Fb7_5.out.other_ hw (fun h_ => Nb7_b8.out h_.symm))
       have Fk8_6 := Aside0.mk (Fk8_5.out.other_ hw (fun h_ => Nk8_b8.out h_.symm))
       have Fb8_6 := Aside0.mk (Fb8_5.out.same_ hw)
       have Fk7_6 := Aside0.mk (Fk7_5.out.other_ hw Nb8_k7.out)
       have R_6 := Aside0.mk (rests_ R_5.out hw B_b8.out)
       rw [hw]
       clear hw
       refine Shut.out hK _ _ (cells10 Fg0_6.out Fg1_6.out) (fun hHeld => ?_)
       clear hK K
       (try simp only [Act.put, List.getElem_toArray, List.getElem_cons_zero, List.getElem_cons_succ, List.setIfInBounds_toArray, List.set_cons_zero, List.set_cons_succ])
       refine wpAnyH_done (by kernel_rfl) ?_ _
       go_wp2_with (fail)
       go_meet
       case rel => exact ⟨b7, k7, b8, k8, rfl, rfl, Fb7_6.out, Fk7_6.out, Fb8_6.out, Fk8_6.out, R_6.out⟩
     ·
      go_simp
      obtain ⟨w2_, hw⟩ : ∃ v, (w1_.alloc (.cells #[.int .i64 0, .string ⟨#[]⟩, .int .i64 0, .int .i64 0, .slice none 0 0] 40)) = v := ⟨_, rfl⟩
      obtain ⟨b8, hv⟩ : ∃ v, w1_.heap.size = v := ⟨_, rfl⟩
      have Fg0_2 := Aside0.mk (Fg0_1.out.alloc_ hw)
      have Fg1_2 := Aside0.mk (Fg1_1.out.alloc_ hw)
      have Fb7_2 := Aside0.mk (Fb7_1.out.alloc_ hw)
      have Fb8_2 := Aside0.mk (Blk.new_ hw hv)
      have R_2 := Aside0.mk (rest_ R_1.out hw R_1.out.size)
      have B_b8 := Aside0.mk (show w2.heap.size ≤ b8 from Nat.le_trans R_1.out.size (Nat.le_of_eq hv))
      have Ng0_b8 := Aside0.mk (Fg0_1.out.ne_ hv)
      have Ng1_b8 := Aside0.mk (Fg1_1.out.ne_ hv)
      have Nb7_b8 := Aside0.mk (Fb7_1.out.ne_ hv)
      rw [hw, hv]
      clear hv hw
      refine Shut.out hK _ _ (cells10 Fg0_2.out Fg1_2.out) (fun hHeld => ?_)
      clear hK K
      refine wpAnyH_ready (rs := [2, 6]) (by kernel_rfl) (by simp) (AllReadyH.cons rfl (fun K hK => ?_) (AllReadyH.cons rfl (fun K hK => ?_) AllReadyH.nil))
      ·
       go_simp
       obtain ⟨w3_, hw⟩ : ∃ v, (w2_.alloc (.cells #[.int .i64 x.f0, .string x.f1, .int .i64 x.f2, .int .i64 x.f3, .slice Ax x.f4.length cx, .int .i64 y.f0, .string y.f1, .int .i64 y.f2, .int .i64 y.f3, .slice Ay y.f4.length cy] 40)) = v := ⟨_, rfl⟩
       obtain ⟨k7, hv⟩ : ∃ v, w2_.heap.size = v := ⟨_, rfl⟩
       have Fg0_3 := Aside0.mk (Fg0_2.out.alloc_ hw)
       have Fg1_3 := Aside0.mk (Fg1_2.out.alloc_ hw)
       have Fb7_3 := Aside0.mk (Fb7_2.out.alloc_ hw)
       have Fb8_3 := Aside0.mk (Fb8_2.out.alloc_ hw)
       have Fk7_3 := Aside0.mk (Blk.new_ hw hv)
       have R_3 := Aside0.mk (rest_ R_2.out hw R_2.out.size)
       have B_k7 := Aside0.mk (show w2.heap.size ≤ k7 from Nat.le_trans R_2.out.size (Nat.le_of_eq hv))
       have Ng0_k7 := Aside0.mk (Fg0_2.out.ne_ hv)
       have Ng1_k7 := Aside0.mk (Fg1_2.out.ne_ hv)
       have Nb7_k7 := Aside0.mk (Fb7_2.out.ne_ hv)
       have Nb8_k7 := Aside0.mk (Fb8_2.out.ne_ hv)
       rw [hw, hv]
       clear hv hw
       refine Shut.out hK _ _ (cells10 Fg0_3.out Fg1_3.out) (fun hHeld => ?_)
       clear hK K
       (try simp only [Act.put, List.getElem_toArray, List.getElem_cons_zero, List.getElem_cons_succ, List.setIfInBounds_toArray, List.set_cons_zero, List.set_cons_succ])
       (refine wpAnyH_take (i := 3) (v := ?_) rfl (by kernel_rfl) (by kernel_rfl) (by kernel_rfl) (fun _ _ _ h => h) (Or.inl ⟨by rfl, ?_⟩) (by assumption) ?_; (case' refine_2 => (intro w hSw; go_simp; try with_reducible rfl)); (try simp only [Act.put, List.getElem_toArray, List.getElem_cons_zero, List.getElem_cons_succ, List.setIfInBounds_toArray, List.set_cons_zero, List.set_cons_succ]))
       refine wpAnyH_ready (rs := [6, 10]) (by kernel_rfl) (by simp) (AllReadyH.cons rfl (fun K hK => ?_) (AllReadyH.cons rfl (fun K hK => ?_) AllReadyH.nil))
       ·
        go_simp
        obtain ⟨w4_, hw⟩ : ∃ v, (w3_.alloc (.cells #[.int .i64 x.f0, .string x.f1, .int .i64 x.f2, .int .i64 x.f3, .slice Ax x.f4.length cx, .int .i64 y.f0, .string y.f1, .int .i64 y.f2, .int .i64 y.f3, .slice Ay y.f4.length cy] 40)) = v := ⟨_, rfl⟩
        obtain ⟨k8, hv⟩ : ∃ v, w3_.heap.size = v := ⟨_, rfl⟩
        have Fg0_4 := Aside0.mk (Fg0_3.out.alloc_ hw)
        have Fg1_4 := Aside0.mk (Fg1_3.out.alloc_ hw)
        have Fb7_4 := Aside0.mk (Fb7_3.out.alloc_ hw)
        have Fb8_4 := Aside0.mk (Fb8_3.out.alloc_ hw)
        have Fk7_4 := Aside0.mk (Fk7_3.out.alloc_ hw)
        have Fk8_4 := Aside0.mk (Blk.new_ hw hv)
        have R_4 := Aside0.mk (rest_ R_3.out hw R_3.out.size)
        have B_k8 := Aside0.mk (show w2.heap.size ≤ k8 from Nat.le_trans R_3.out.size (Nat.le_of_eq hv))
        have Ng0_k8 := Aside0.mk (Fg0_3.out.ne_ hv)
        have Ng1_k8 := Aside0.mk (Fg1_3.out.ne_ hv)
        have Nb7_k8 := Aside0.mk (Fb7_3.out.ne_ hv)
        have Nb8_k8 := Aside0.mk (Fb8_3.out.ne_ hv)
        have Nk7_k8 := Aside0.mk (Fk7_3.out.ne_ hv)
        rw [hw, hv]
        clear hv hw
        refine Shut.out hK _ _ (cells10 Fg0_4.out Fg1_4.out) (fun hHeld => ?_)
        clear hK K
        (try simp only [Act.put, List.getElem_toArray, List.getElem_cons_zero, List.getElem_cons_succ, List.setIfInBounds_toArray, List.set_cons_zero, List.set_cons_succ])
        (refine wpAnyH_take (i := 7) (v := ?_) rfl (by kernel_rfl) (by kernel_rfl) (by kernel_rfl) (fun _ _ _ h => h) (Or.inl ⟨by rfl, ?_⟩) (by assumption) ?_; (case' refine_2 => (intro w hSw; go_simp; try with_reducible rfl)); (try simp only [Act.put, List.getElem_toArray, List.getElem_cons_zero, List.getElem_cons_succ, List.setIfInBounds_toArray, List.set_cons_zero, List.set_cons_succ]))
        refine wpAnyH_ready (rs := [10]) (by kernel_rfl) (by simp) (AllReadyH.cons rfl (fun K hK => ?_) AllReadyH.nil)
        rw [if_pos (by rfl)]
        refine wp_store_row 40 (.tmp 7) (.tmp 23) rfl b7 #[.int .i64 6, .string ⟨#[]⟩, .int .i64 0, .int .i64 0, .slice (some ⟨k7, 0, none⟩) 2 2] rfl rfl 40 #[.int .i64 0, .string ⟨#[]⟩, .int .i64 0, .int .i64 0, .slice none 0 0] Fb7_4.out info_scope rfl (by simp [Value.oneCell']) ?_
        obtain ⟨w5_, hw⟩ : ∃ v, w4_.setRow b7 #[.int .i64 6, .string ⟨#[]⟩, .int .i64 0, .int .i64 0, .slice (some ⟨k7, 0, none⟩) 2 2] = v := ⟨_, rfl⟩
        have Fg0_5 := Aside0.mk (Fg0_4.out.other_ hw (fun h_ => Ng0_b7.out h_.symm))
        have Fg1_5 := Aside0.mk (Fg1_4.out.other_ hw (fun h_ => Ng1_b7.out h_.symm))
        have Fb7_5 := Aside0.mk (Fb7_4.out.same_ hw)
        have Fb8_5 := Aside0.mk (Fb8_4.out.other_ hw Nb7_b8.out)
        have Fk7_5 := Aside0.mk (Fk7_4.out.other_ hw Nb7_k7.out)
        have Fk8_5 := Aside0.mk (Fk8_4.out.other_ hw Nb7_k8.out)
        have R_5 := Aside0.mk (rests_ R_4.out hw B_b7.out)
        rw [hw]
        clear hw
        refine Shut.out hK _ _ (cells10 Fg0_5.out Fg1_5.out) (fun hHeld => ?_)
        clear hK K
        (try simp only [Act.put, List.getElem_toArray, List.getElem_cons_zero, List.getElem_cons_succ, List.setIfInBounds_toArray, List.set_cons_zero, List.set_cons_succ])
        refine wpAnyH_ready (rs := [11]) (by kernel_rfl) (by simp) (AllReadyH.cons rfl (fun K hK => ?_) AllReadyH.nil)
        rw [if_pos (by rfl)]
        refine wp_store_row 40 (.tmp 8) (.tmp 27) rfl b8 #[.int .i64 7, .string ⟨#[]⟩, .int .i64 0, .int .i64 0, .slice (some ⟨k8, 0, none⟩) 2 2] rfl rfl 40 #[.int .i64 0, .string ⟨#[]⟩, .int .i64 0, .int .i64 0, .slice none 0 0] Fb8_5.out info_scope rfl (by simp [Value.oneCell']) ?_
        obtain ⟨w6_, hw⟩ : ∃ v, w5_.setRow b8 #[.int .i64 7, .string ⟨#[]⟩, .int .i64 0, .int .i64 0, .slice (some ⟨k8, 0, none⟩) 2 2] = v := ⟨_, rfl⟩
        have Fg0_6 := Aside0.mk (Fg0_5.out.other_ hw (fun h_ => Ng0_b8.out h_.symm))
        have Fg1_6 := Aside0.mk (Fg1_5.out.other_ hw (fun h_ => Ng1_b8.out h_.symm))
        have Fb7_6 := Aside0.mk (Fb7_5.out.other_ hw (fun h_ => Nb7_b8.out h_.symm))
        have Fb8_6 := Aside0.mk (Fb8_5.out.same_ hw)
        have Fk7_6 := Aside0.mk (Fk7_5.out.other_ hw Nb8_k7.out)
        have Fk8_6 := Aside0.mk (Fk8_5.out.other_ hw Nb8_k8.out)
        have R_6 := Aside0.mk (rests_ R_5.out hw B_b8.out)
        rw [hw]
        clear hw
        refine Shut.out hK _ _ (cells10 Fg0_6.out Fg1_6.out) (fun hHeld => ?_)
        clear hK K
        (try simp only [Act.put, List.getElem_toArray, List.getElem_cons_zero, List.getElem_cons_succ, List.setIfInBounds_toArray, List.set_cons_zero, List.set_cons_succ])
        refine wpAnyH_done (by kernel_rfl) ?_ _
        go_wp2_with (fail)
        go_meet
        case rel => exact ⟨b7, k7, b8, k8, rfl, rfl, Fb7_6.out, Fk7_6.out, Fb8_6.out, Fk8_6.out, R_6.out⟩
       ·
        rw [if_pos (by rfl)]
        refine wp_store_row 40 (.tmp 7) (.tmp 23) rfl b7 #[.int .i64 6, .string ⟨#[]⟩, .int .i64 0, .int .i64 0, .slice (some ⟨k7, 0, none⟩) 2 2] rfl rfl 40 #[.int .i64 0, .string ⟨#[]⟩, .int .i64 0, .int .i64 0, .slice none 0 0] Fb7_3.out info_scope rfl (by simp [Value.oneCell']) ?_
        obtain ⟨w4_, hw⟩ : ∃ v, w3_.setRow b7 #[.int .i64 6, .string ⟨#[]⟩, .int .i64 0, .int .i64 0, .slice (some ⟨k7, 0, none⟩) 2 2] = v := ⟨_, rfl⟩
        have Fg0_4 := Aside0.mk (Fg0_3.out.other_ hw (fun h_ => Ng0_b7.out h_.symm))
        have Fg1_4 := Aside0.mk (Fg1_3.out.other_ hw (fun h_ => Ng1_b7.out h_.symm))
        have Fb7_4 := Aside0.mk (Fb7_3.out.same_ hw)
        have Fb8_4 := Aside0.mk (Fb8_3.out.other_ hw Nb7_b8.out)
        have Fk7_4 := Aside0.mk (Fk7_3.out.other_ hw Nb7_k7.out)
        have R_4 := Aside0.mk (rests_ R_3.out hw B_b7.out)
        rw [hw]
        clear hw
        refine Shut.out hK _ _ (cells10 Fg0_4.out Fg1_4.out) (fun hHeld => ?_)
        clear hK K
        (try simp only [Act.put, List.getElem_toArray, List.getElem_cons_zero, List.getElem_cons_succ, List.setIfInBounds_toArray, List.set_cons_zero, List.set_cons_succ])
        refine wpAnyH_ready (rs := [6]) (by kernel_rfl) (by simp) (AllReadyH.cons rfl (fun K hK => ?_) AllReadyH.nil)
        go_simp
        obtain ⟨w5_, hw⟩ : ∃ v, (w4_.alloc (.cells #[.int .i64 x.f0, .string x.f1, .int .i64 x.f2, .int .i64 x.f3, .slice Ax x.f4.length cx, .int .i64 y.f0, .string y.f1, .int .i64 y.f2, .int .i64 y.f3, .slice Ay y.f4.length cy] 40)) = v := ⟨_, rfl⟩
        obtain ⟨k8, hv⟩ : ∃ v, w4_.heap.size = v := ⟨_, rfl⟩
        have Fg0_5 := Aside0.mk (Fg0_4.out.alloc_ hw)
        have Fg1_5 := Aside0.mk (Fg1_4.out.alloc_ hw)
        have Fb7_5 := Aside0.mk (Fb7_4.out.alloc_ hw)
        have Fb8_5 := Aside0.mk (Fb8_4.out.alloc_ hw)
        have Fk7_5 := Aside0.mk (Fk7_4.out.alloc_ hw)
        have Fk8_5 := Aside0.mk (Blk.new_ hw hv)
        have R_5 := Aside0.mk (rest_ R_4.out hw R_4.out.size)
        have B_k8 := Aside0.mk (show w2.heap.size ≤ k8 from Nat.le_trans R_4.out.size (Nat.le_of_eq hv))
        have Ng0_k8 := Aside0.mk (Fg0_4.out.ne_ hv)
        have Ng1_k8 := Aside0.mk (Fg1_4.out.ne_ hv)
        have Nb7_k8 := Aside0.mk (Fb7_4.out.ne_ hv)
        have Nb8_k8 := Aside0.mk (Fb8_4.out.ne_ hv)
        have Nk7_k8 := Aside0.mk (Fk7_4.out.ne_ hv)
        rw [hw, hv]
        clear hv hw
        refine Shut.out hK _ _ (cells10 Fg0_5.out Fg1_5.out) (fun hHeld => ?_)
        clear hK K
        (try simp only [Act.put, List.getElem_toArray, List.getElem_cons_zero, List.getElem_cons_succ, List.setIfInBounds_toArray, List.set_cons_zero, List.set_cons_succ])
        (refine wpAnyH_take (i := 7) (v := ?_) rfl (by kernel_rfl) (by kernel_rfl) (by kernel_rfl) (fun _ _ _ h => h) (Or.inl ⟨by rfl, ?_⟩) (by assumption) ?_; (case' refine_2 => (intro w hSw; go_simp; try with_reducible rfl)); (try simp only [Act.put, List.getElem_toArray, List.getElem_cons_zero, List.getElem_cons_succ, List.setIfInBounds_toArray, List.set_cons_zero, List.set_cons_succ]))
        refine wpAnyH_ready (rs := [11]) (by kernel_rfl) (by simp) (AllReadyH.cons rfl (fun K hK => ?_) AllReadyH.nil)
        rw [if_pos (by rfl)]
        refine wp_store_row 40 (.tmp 8) (.tmp 27) rfl b8 #[.int .i64 7, .string ⟨#[]⟩, .int .i64 0, .int .i64 0, .slice (some ⟨k8, 0, none⟩) 2 2] rfl rfl 40 #[.int .i64 0, .string ⟨#[]⟩, .int .i64 0, .int .i64 0, .slice none 0 0] Fb8_5.out info_scope rfl (by simp [Value.oneCell']) ?_
        obtain ⟨w6_, hw⟩ : ∃ v, w5_.setRow b8 #[.int .i64 7, .string ⟨#[]⟩, .int .i64 0, .int .i64 0, .slice (some ⟨k8, 0, none⟩) 2 2] = v := ⟨_, rfl⟩
        have Fg0_6 := Aside0.mk (Fg0_5.out.other_ hw (fun h_ => Ng0_b8.out h_.symm))
        have Fg1_6 := Aside0.mk (Fg1_5.out.other_ hw (fun h_ => Ng1_b8.out h_.symm))
        have Fb7_6 := Aside0.mk (Fb7_5.out.other_ hw (fun h_ => Nb7_b8.out h_.symm))
        have Fb8_6 := Aside0.mk (Fb8_5.out.same_ hw)
        have Fk7_6 := Aside0.mk (Fk7_5.out.other_ hw Nb8_k7.out)
        have Fk8_6 := Aside0.mk (Fk8_5.out.other_ hw Nb8_k8.out)
        have R_6 := Aside0.mk (rests_ R_5.out hw B_b8.out)
        rw [hw]
        clear hw
        refine Shut.out hK _ _ (cells10 Fg0_6.out Fg1_6.out) (fun hHeld => ?_)
        clear hK K
        (try simp only [Act.put, List.getElem_toArray, List.getElem_cons_zero, List.getElem_cons_succ, List.setIfInBounds_toArray, List.set_cons_zero, List.set_cons_succ])
        refine wpAnyH_done (by kernel_rfl) ?_ _
        go_wp2_with (fail)
        go_meet
        case rel => exact ⟨b7, k7, b8, k8, rfl, rfl, Fb7_6.out, Fk7_6.out, Fb8_6.out, Fk8_6.out, R_6.out⟩
      ·
       go_simp
       obtain ⟨w3_, hw⟩ : ∃ v, (w2_.alloc (.cells #[.int .i64 x.f0, .string x.f1, .int .i64 x.f2, .int .i64 x.f3, .slice Ax x.f4.length cx, .int .i64 y.f0, .string y.f1, .int .i64 y.f2, .int .i64 y.f3, .slice Ay y.f4.length cy] 40)) = v := ⟨_, rfl⟩
       obtain ⟨k8, hv⟩ : ∃ v, w2_.heap.size = v := ⟨_, rfl⟩
       have Fg0_3 := Aside0.mk (Fg0_2.out.alloc_ hw)
       have Fg1_3 := Aside0.mk (Fg1_2.out.alloc_ hw)
       have Fb7_3 := Aside0.mk (Fb7_2.out.alloc_ hw)
       have Fb8_3 := Aside0.mk (Fb8_2.out.alloc_ hw)
       have Fk8_3 := Aside0.mk (Blk.new_ hw hv)
       have R_3 := Aside0.mk (rest_ R_2.out hw R_2.out.size)
       have B_k8 := Aside0.mk (show w2.heap.size ≤ k8 from Nat.le_trans R_2.out.size (Nat.le_of_eq hv))
       have Ng0_k8 := Aside0.mk (Fg0_2.out.ne_ hv)
       have Ng1_k8 := Aside0.mk (Fg1_2.out.ne_ hv)
       have Nb7_k8 := Aside0.mk (Fb7_2.out.ne_ hv)
       have Nb8_k8 := Aside0.mk (Fb8_2.out.ne_ hv)
       rw [hw, hv]
       clear hv hw
       refine Shut.out hK _ _ (cells10 Fg0_3.out Fg1_3.out) (fun hHeld => ?_)
       clear hK K
       (try simp only [Act.put, List.getElem_toArray, List.getElem_cons_zero, List.getElem_cons_succ, List.setIfInBounds_toArray, List.set_cons_zero, List.set_cons_succ])
       (refine wpAnyH_take (i := 7) (v := ?_) rfl (by kernel_rfl) (by kernel_rfl) (by kernel_rfl) (fun _ _ _ h => h) (Or.inl ⟨by rfl, ?_⟩) (by assumption) ?_; (case' refine_2 => (intro w hSw; go_simp; try with_reducible rfl)); (try simp only [Act.put, List.getElem_toArray, List.getElem_cons_zero, List.getElem_cons_succ, List.setIfInBounds_toArray, List.set_cons_zero, List.set_cons_succ]))
       refine wpAnyH_ready (rs := [2]) (by kernel_rfl) (by simp) (AllReadyH.cons rfl (fun K hK => ?_) AllReadyH.nil)
       go_simp
       obtain ⟨w4_, hw⟩ : ∃ v, (w3_.alloc (.cells #[.int .i64 x.f0, .string x.f1, .int .i64 x.f2, .int .i64 x.f3, .slice Ax x.f4.length cx, .int .i64 y.f0, .string y.f1, .int .i64 y.f2, .int .i64 y.f3, .slice Ay y.f4.length cy] 40)) = v := ⟨_, rfl⟩
       obtain ⟨k7, hv⟩ : ∃ v, w3_.heap.size = v := ⟨_, rfl⟩
       have Fg0_4 := Aside0.mk (Fg0_3.out.alloc_ hw)
       have Fg1_4 := Aside0.mk (Fg1_3.out.alloc_ hw)
       have Fb7_4 := Aside0.mk (Fb7_3.out.alloc_ hw)
       have Fb8_4 := Aside0.mk (Fb8_3.out.alloc_ hw)
       have Fk8_4 := Aside0.mk (Fk8_3.out.alloc_ hw)
       have Fk7_4 := Aside0.mk (Blk.new_ hw hv)
       have R_4 := Aside0.mk (rest_ R_3.out hw R_3.out.size)
       have B_k7 := Aside0.mk (show w2.heap.size ≤ k7 from Nat.le_trans R_3.out.size (Nat.le_of_eq hv))
       have Ng0_k7 := Aside0.mk (Fg0_3.out.ne_ hv)
       have Ng1_k7 := Aside0.mk (Fg1_3.out.ne_ hv)
       have Nb7_k7 := Aside0.mk (Fb7_3.out.ne_ hv)
       have Nb8_k7 := Aside0.mk (Fb8_3.out.ne_ hv)
       have Nk8_k7 := Aside0.mk (Fk8_3.out.ne_ hv)
       rw [hw, hv]
       clear hv hw
       refine Shut.out hK _ _ (cells10 Fg0_4.out Fg1_4.out) (fun hHeld => ?_)
       clear hK K
       (try simp only [Act.put, List.getElem_toArray, List.getElem_cons_zero, List.getElem_cons_succ, List.setIfInBounds_toArray, List.set_cons_zero, List.set_cons_succ])
       (refine wpAnyH_take (i := 3) (v := ?_) rfl (by kernel_rfl) (by kernel_rfl) (by kernel_rfl) (fun _ _ _ h => h) (Or.inl ⟨by rfl, ?_⟩) (by assumption) ?_; (case' refine_2 => (intro w hSw; go_simp; try with_reducible rfl)); (try simp only [Act.put, List.getElem_toArray, List.getElem_cons_zero, List.getElem_cons_succ, List.setIfInBounds_toArray, List.set_cons_zero, List.set_cons_succ]))
       refine wpAnyH_ready (rs := [10]) (by kernel_rfl) (by simp) (AllReadyH.cons rfl (fun K hK => ?_) AllReadyH.nil)
       rw [if_pos (by rfl)]
       refine wp_store_row 40 (.tmp 7) (.tmp 23) rfl b7 #[.int .i64 6, .string ⟨#[]⟩, .int .i64 0, .int .i64 0, .slice (some ⟨k7, 0, none⟩) 2 2] rfl rfl 40 #[.int .i64 0, .string ⟨#[]⟩, .int .i64 0, .int .i64 0, .slice none 0 0] Fb7_4.out info_scope rfl (by simp [Value.oneCell']) ?_
       obtain ⟨w5_, hw⟩ : ∃ v, w4_.setRow b7 #[.int .i64 6, .string ⟨#[]⟩, .int .i64 0, .int .i64 0, .slice (some ⟨k7, 0, none⟩) 2 2] = v := ⟨_, rfl⟩
       have Fg0_5 := Aside0.mk (Fg0_4.out.other_ hw (fun h_ => Ng0_b7.out h_.symm))
       have Fg1_5 := Aside0.mk (Fg1_4.out.other_ hw (fun h_ => Ng1_b7.out h_.symm))
       have Fb7_5 := Aside0.mk (Fb7_4.out.same_ hw)
       have Fb8_5 := Aside0.mk (Fb8_4.out.other_ hw Nb7_b8.out)
       have Fk8_5 := Aside0.mk (Fk8_4.out.other_ hw Nb7_k8.out)
       have Fk7_5 := Aside0.mk (Fk7_4.out.other_ hw Nb7_k7.out)
       have R_5 := Aside0.mk (rests_ R_4.out hw B_b7.out)
       rw [hw]
       clear hw
       refine Shut.out hK _ _ (cells10 Fg0_5.out Fg1_5.out) (fun hHeld => ?_)
       clear hK K
       (try simp only [Act.put, List.getElem_toArray, List.getElem_cons_zero, List.getElem_cons_succ, List.setIfInBounds_toArray, List.set_cons_zero, List.set_cons_succ])
       refine wpAnyH_ready (rs := [11]) (by kernel_rfl) (by simp) (AllReadyH.cons rfl (fun K hK => ?_) AllReadyH.nil)
       rw [if_pos (by rfl)]
       refine wp_store_row 40 (.tmp 8) (.tmp 27) rfl b8 #[.int .i64 7, .string ⟨#[]⟩, .int .i64 0, .int .i64 0, .slice (some ⟨k8, 0, none⟩) 2 2] rfl rfl 40 #[.int .i64 0, .string ⟨#[]⟩, .int .i64 0, .int .i64 0, .slice none 0 0] Fb8_5.out info_scope rfl (by simp [Value.oneCell']) ?_
       obtain ⟨w6_, hw⟩ : ∃ v, w5_.setRow b8 #[.int .i64 7, .string ⟨#[]⟩, .int .i64 0, .int .i64 0, .slice (some ⟨k8, 0, none⟩) 2 2] = v := ⟨_, rfl⟩
       have Fg0_6 := Aside0.mk (Fg0_5.out.other_ hw (fun h_ => Ng0_b8.out h_.symm))
       have Fg1_6 := Aside0.mk (Fg1_5.out.other_ hw (fun h_ => Ng1_b8.out h_.symm))
       have Fb7_6 := Aside0.mk (Fb7_5.out.other_ hw (fun h_ => Nb7_b8.out h_.symm))
       have Fb8_6 := Aside0.mk (Fb8_5.out.same_ hw)
       have Fk8_6 := Aside0.mk (Fk8_5.out.other_ hw Nb8_k8.out)
       have Fk7_6 := Aside0.mk (Fk7_5.out.other_ hw Nb8_k7.out)
       have R_6 := Aside0.mk (rests_ R_5.out hw B_b8.out)
       rw [hw]
       clear hw
       refine Shut.out hK _ _ (cells10 Fg0_6.out Fg1_6.out) (fun hHeld => ?_)
       clear hK K
       (try simp only [Act.put, List.getElem_toArray, List.getElem_cons_zero, List.getElem_cons_succ, List.setIfInBounds_toArray, List.set_cons_zero, List.set_cons_succ])
       refine wpAnyH_done (by kernel_rfl) ?_ _
       go_wp2_with (fail)
       go_meet
       case rel => exact ⟨b7, k7, b8, k8, rfl, rfl, Fb7_6.out, Fk7_6.out, Fb8_6.out, Fk8_6.out, R_6.out⟩
    ·
     go_simp
     obtain ⟨w1_, hw⟩ : ∃ v, (w2.alloc (.cells #[.int .i64 0, .string ⟨#[]⟩, .int .i64 0, .int .i64 0, .slice none 0 0] 40)).drew = v := ⟨_, rfl⟩
     obtain ⟨b8, hv⟩ : ∃ v, w2.heap.size = v := ⟨_, rfl⟩
     have Fg0_1 := Aside0.mk (Fg0_0.out.allocd_ hw)
     have Fg1_1 := Aside0.mk (Fg1_0.out.allocd_ hw)
     have Fb8_1 := Aside0.mk (Blk.newd_ hw hv)
     have R_1 := Aside0.mk (restd_ hw)
     have B_b8 := Aside0.mk (show w2.heap.size ≤ b8 from Nat.le_of_eq hv)
     have Ng0_b8 := Aside0.mk (Fg0_0.out.ne_ hv)
     have Ng1_b8 := Aside0.mk (Fg1_0.out.ne_ hv)
     rw [hw, hv]
     clear hv hw
     refine Shut.out hK _ _ (cells10 Fg0_1.out Fg1_1.out) (fun hHeld => ?_)
     clear hK K
     refine wpAnyH_ready (rs := [2, 6, 8]) (by kernel_rfl) (by simp) (AllReadyH.cons rfl (fun K hK => ?_) (AllReadyH.cons rfl (fun K hK => ?_) (AllReadyH.cons rfl (fun K hK => ?_) AllReadyH.nil)))
     ·
      go_simp
      obtain ⟨w2_, hw⟩ : ∃ v, (w1_.alloc (.cells #[.int .i64 x.f0, .string x.f1, .int .i64 x.f2, .int .i64 x.f3, .slice Ax x.f4.length cx, .int .i64 y.f0, .string y.f1, .int .i64 y.f2, .int .i64 y.f3, .slice Ay y.f4.length cy] 40)) = v := ⟨_, rfl⟩
      obtain ⟨k7, hv⟩ : ∃ v, w1_.heap.size = v := ⟨_, rfl⟩
      have Fg0_2 := Aside0.mk (Fg0_1.out.alloc_ hw)
      have Fg1_2 := Aside0.mk (Fg1_1.out.alloc_ hw)
      have Fb8_2 := Aside0.mk (Fb8_1.out.alloc_ hw)
      have Fk7_2 := Aside0.mk (Blk.new_ hw hv)
      have R_2 := Aside0.mk (rest_ R_1.out hw R_1.out.size)
      have B_k7 := Aside0.mk (show w2.heap.size ≤ k7 from Nat.le_trans R_1.out.size (Nat.le_of_eq hv))
      have Ng0_k7 := Aside0.mk (Fg0_1.out.ne_ hv)
      have Ng1_k7 := Aside0.mk (Fg1_1.out.ne_ hv)
      have Nb8_k7 := Aside0.mk (Fb8_1.out.ne_ hv)
      rw [hw, hv]
      clear hv hw
      refine Shut.out hK _ _ (cells10 Fg0_2.out Fg1_2.out) (fun hHeld => ?_)
      clear hK K
      (try simp only [Act.put, List.getElem_toArray, List.getElem_cons_zero, List.getElem_cons_succ, List.setIfInBounds_toArray, List.set_cons_zero, List.set_cons_succ])
      (refine wpAnyH_take (i := 3) (v := ?_) rfl (by kernel_rfl) (by kernel_rfl) (by kernel_rfl) (fun _ _ _ h => h) (Or.inl ⟨by rfl, ?_⟩) (by assumption) ?_; (case' refine_2 => (intro w hSw; go_simp; try with_reducible rfl)); (try simp only [Act.put, List.getElem_toArray, List.getElem_cons_zero, List.getElem_cons_succ, List.setIfInBounds_toArray, List.set_cons_zero, List.set_cons_succ]))
      refine wpAnyH_ready (rs := [6, 8]) (by kernel_rfl) (by simp) (AllReadyH.cons rfl (fun K hK => ?_) (AllReadyH.cons rfl (fun K hK => ?_) AllReadyH.nil))
      ·
       go_simp
       obtain ⟨w3_, hw⟩ : ∃ v, (w2_.alloc (.cells #[.int .i64 x.f0, .string x.f1, .int .i64 x.f2, .int .i64 x.f3, .slice Ax x.f4.length cx, .int .i64 y.f0, .string y.f1, .int .i64 y.f2, .int .i64 y.f3, .slice Ay y.f4.length cy] 40)) = v := ⟨_, rfl⟩
       obtain ⟨k8, hv⟩ : ∃ v, w2_.heap.size = v := ⟨_, rfl⟩
       have Fg0_3 := Aside0.mk (Fg0_2.out.alloc_ hw)
       have Fg1_3 := Aside0.mk (Fg1_2.out.alloc_ hw)
       have Fb8_3 := Aside0.mk (Fb8_2.out.alloc_ hw)
       have Fk7_3 := Aside0.mk (Fk7_2.out.alloc_ hw)
       have Fk8_3 := Aside0.mk (Blk.new_ hw hv)
       have R_3 := Aside0.mk (rest_ R_2.out hw R_2.out.size)
       have B_k8 := Aside0.mk (show w2.heap.size ≤ k8 from Nat.le_trans R_2.out.size (Nat.le_of_eq hv))
       have Ng0_k8 := Aside0.mk (Fg0_2.out.ne_ hv)
       have Ng1_k8 := Aside0.mk (Fg1_2.out.ne_ hv)
       have Nb8_k8 := Aside0.mk (Fb8_2.out.ne_ hv)
       have Nk7_k8 := Aside0.mk (Fk7_2.out.ne_ hv)
       rw [hw, hv]
       clear hv hw
       refine Shut.out hK _ _ (cells10 Fg0_3.out Fg1_3.out) (fun hHeld => ?_)
       clear hK K
       (try simp only [Act.put, List.getElem_toArray, List.getElem_cons_zero, List.getElem_cons_succ, List.setIfInBounds_toArray, List.set_cons_zero, List.set_cons_succ])
       (refine wpAnyH_take (i := 7) (v := ?_) rfl (by kernel_rfl) (by kernel_rfl) (by kernel_rfl) (fun _ _ _ h => h) (Or.inl ⟨by rfl, ?_⟩) (by assumption) ?_; (case' refine_2 => (intro w hSw; go_simp; try with_reducible rfl)); (try simp only [Act.put, List.getElem_toArray, List.getElem_cons_zero, List.getElem_cons_succ, List.setIfInBounds_toArray, List.set_cons_zero, List.set_cons_succ]))
       refine wpAnyH_ready (rs := [8]) (by kernel_rfl) (by simp) (AllReadyH.cons rfl (fun K hK => ?_) AllReadyH.nil)
       go_simp
       obtain ⟨w4_, hw⟩ : ∃ v, (w3_.alloc (.cells #[.int .i64 0, .string ⟨#[]⟩, .int .i64 0, .int .i64 0, .slice none 0 0] 40)) = v := ⟨_, rfl⟩
       obtain ⟨b7, hv⟩ : ∃ v, w3_.heap.size = v := ⟨_, rfl⟩
       have Fg0_4 := Aside0.mk (Fg0_3.out.alloc_ hw)
       have Fg1_4 := Aside0.mk (Fg1_3.out.alloc_ hw)
       have Fb8_4 := Aside0.mk (Fb8_3.out.alloc_ hw)
       have Fk7_4 := Aside0.mk (Fk7_3.out.alloc_ hw)
       have Fk8_4 := Aside0.mk (Fk8_3.out.alloc_ hw)
       have Fb7_4 := Aside0.mk (Blk.new_ hw hv)
       have R_4 := Aside0.mk (rest_ R_3.out hw R_3.out.size)
       have B_b7 := Aside0.mk (show w2.heap.size ≤ b7 from Nat.le_trans R_3.out.size (Nat.le_of_eq hv))
       have Ng0_b7 := Aside0.mk (Fg0_3.out.ne_ hv)
       have Ng1_b7 := Aside0.mk (Fg1_3.out.ne_ hv)
       have Nb8_b7 := Aside0.mk (Fb8_3.out.ne_ hv)
       have Nk7_b7 := Aside0.mk (Fk7_3.out.ne_ hv)
       have Nk8_b7 := Aside0.mk (Fk8_3.out.ne_ hv)
       rw [hw, hv]
       clear hv hw
       refine Shut.out hK _ _ (cells10 Fg0_4.out Fg1_4.out) (fun hHeld => ?_)
       clear hK K
       (try simp only [Act.put, List.getElem_toArray, List.getElem_cons_zero, List.getElem_cons_succ, List.setIfInBounds_toArray, List.set_cons_zero, List.set_cons_succ])
       refine wpAnyH_ready (rs := [10]) (by kernel_rfl) (by simp) (AllReadyH.cons rfl (fun K hK => ?_) AllReadyH.nil)
       rw [if_pos (by rfl)]
       refine wp_store_row 40 (.tmp 7) (.tmp 23) rfl b7 #[.int .i64 6, .string ⟨#[]⟩, .int .i64 0, .int .i64 0, .slice (some ⟨k7, 0, none⟩) 2 2] rfl rfl 40 #[.int .i64 0, .string ⟨#[]⟩, .int .i64 0, .int .i64 0, .slice none 0 0] Fb7_4.out info_scope rfl (by simp [Value.oneCell']) ?_
       obtain ⟨w5_, hw⟩ : ∃ v, w4_.setRow b7 #[.int .i64 6, .string ⟨#[]⟩, .int .i64 0, .int .i64 0, .slice (some ⟨k7, 0, none⟩) 2 2] = v := ⟨_, rfl⟩
       have Fg0_5 := Aside0.mk (Fg0_4.out.other_ hw (fun h_ => Ng0_b7.out h_.symm))
       have Fg1_5 := Aside0.mk (Fg1_4.out.other_ hw (fun h_ => Ng1_b7.out h_.symm))
       have Fb8_5 := Aside0.mk (Fb8_4.out.other_ hw (fun h_ => Nb8_b7.out h_.symm))
       have Fk7_5 := Aside0.mk (Fk7_4.out.other_ hw (fun h_ => Nk7_b7.out h_.symm))
       have Fk8_5 := Aside0.mk (Fk8_4.out.other_ hw (fun h_ => Nk8_b7.out h_.symm))
       have Fb7_5 := Aside0.mk (Fb7_4.out.same_ hw)
       have R_5 := Aside0.mk (rests_ R_4.out hw B_b7.out)
       rw [hw]
       clear hw
       refine Shut.out hK _ _ (cells10 Fg0_5.out Fg1_5.out) (fun hHeld => ?_)
       clear hK K
       (try simp only [Act.put, List.getElem_toArray, List.getElem_cons_zero, List.getElem_cons_succ, List.setIfInBounds_toArray, List.set_cons_zero, List.set_cons_succ])
       refine wpAnyH_ready (rs := [11]) (by kernel_rfl) (by simp) (AllReadyH.cons rfl (fun K hK => ?_) AllReadyH.nil)
       rw [if_pos (by rfl)]
       refine wp_store_row 40 (.tmp 8) (.tmp 27) rfl b8 #[.int .i64 7, .string ⟨#[]⟩, .int .i64 0, .int .i64 0, .slice (some ⟨k8, 0, none⟩) 2 2] rfl rfl 40 #[.int .i64 0, .string ⟨#[]⟩, .int .i64 0, .int .i64 0, .slice none 0 0] Fb8_5.out info_scope rfl (by simp [Value.oneCell']) ?_
       obtain ⟨w6_, hw⟩ : ∃ v, w5_.setRow b8 #[.int .i64 7, .string ⟨#[]⟩, .int .i64 0, .int .i64 0, .slice (some ⟨k8, 0, none⟩) 2 2] = v := ⟨_, rfl⟩
       have Fg0_6 := Aside0.mk (Fg0_5.out.other_ hw (fun h_ => Ng0_b8.out h_.symm))
       have Fg1_6 := Aside0.mk (Fg1_5.out.other_ hw (fun h_ => Ng1_b8.out h_.symm))
       have Fb8_6 := Aside0.mk (Fb8_5.out.same_ hw)
       have Fk7_6 := Aside0.mk (Fk7_5.out.other_ hw Nb8_k7.out)
       have Fk8_6 := Aside0.mk (Fk8_5.out.other_ hw Nb8_k8.out)
       have Fb7_6 := Aside0.mk (Fb7_5.out.other_ hw Nb8_b7.out)
       have R_6 := Aside0.mk (rests_ R_5.out hw B_b8.out)
       rw [hw]
       clear hw
       refine Shut.out hK _ _ (cells10 Fg0_6.out Fg1_6.out) (fun hHeld => ?_)
       clear hK K
       (try simp only [Act.put, List.getElem_toArray, List.getElem_cons_zero, List.getElem_cons_succ, List.setIfInBounds_toArray, List.set_cons_zero, List.set_cons_succ])
       refine wpAnyH_done (by kernel_rfl) ?_ _
       go_wp2_with (fail)
       go_meet
       case rel => exact ⟨b7, k7, b8, k8, rfl, rfl, Fb7_6.out, Fk7_6.out, Fb8_6.out, Fk8_6.out, R_6.out⟩
      ·
       go_simp
       obtain ⟨w3_, hw⟩ : ∃ v, (w2_.alloc (.cells #[.int .i64 0, .string ⟨#[]⟩, .int .i64 0, .int .i64 0, .slice none 0 0] 40)) = v := ⟨_, rfl⟩
       obtain ⟨b7, hv⟩ : ∃ v, w2_.heap.size = v := ⟨_, rfl⟩
       have Fg0_3 := Aside0.mk (Fg0_2.out.alloc_ hw)
       have Fg1_3 := Aside0.mk (Fg1_2.out.alloc_ hw)
       have Fb8_3 := Aside0.mk (Fb8_2.out.alloc_ hw)
       have Fk7_3 := Aside0.mk (Fk7_2.out.alloc_ hw)
       have Fb7_3 := Aside0.mk (Blk.new_ hw hv)
       have R_3 := Aside0.mk (rest_ R_2.out hw R_2.out.size)
       have B_b7 := Aside0.mk (show w2.heap.size ≤ b7 from Nat.le_trans R_2.out.size (Nat.le_of_eq hv))
       have Ng0_b7 := Aside0.mk (Fg0_2.out.ne_ hv)
       have Ng1_b7 := Aside0.mk (Fg1_2.out.ne_ hv)
       have Nb8_b7 := Aside0.mk (Fb8_2.out.ne_ hv)
       have Nk7_b7 := Aside0.mk (Fk7_2.out.ne_ hv)
       rw [hw, hv]
       clear hv hw
       refine Shut.out hK _ _ (cells10 Fg0_3.out Fg1_3.out) (fun hHeld => ?_)
       clear hK K
       (try simp only [Act.put, List.getElem_toArray, List.getElem_cons_zero, List.getElem_cons_succ, List.setIfInBounds_toArray, List.set_cons_zero, List.set_cons_succ])
       refine wpAnyH_ready (rs := [6, 10]) (by kernel_rfl) (by simp) (AllReadyH.cons rfl (fun K hK => ?_) (AllReadyH.cons rfl (fun K hK => ?_) AllReadyH.nil))
       ·
        go_simp
        obtain ⟨w4_, hw⟩ : ∃ v, (w3_.alloc (.cells #[.int .i64 x.f0, .string x.f1, .int .i64 x.f2, .int .i64 x.f3, .slice Ax x.f4.length cx, .int .i64 y.f0, .string y.f1, .int .i64 y.f2, .int .i64 y.f3, .slice Ay y.f4.length cy] 40)) = v := ⟨_, rfl⟩
        obtain ⟨k8, hv⟩ : ∃ v, w3_.heap.size = v := ⟨_, rfl⟩
        have Fg0_4 := Aside0.mk (Fg0_3.out.alloc_ hw)
        have Fg1_4 := Aside0.mk (Fg1_3.out.alloc_ hw)
        have Fb8_4 := Aside0.mk (Fb8_3.out.alloc_ hw)
        have Fk7_4 := Aside0.mk (Fk7_3.out.alloc_ hw)
        have Fb7_4 := Aside0.mk (Fb7_3.out.alloc_ hw)
        have Fk8_4 := Aside0.mk (Blk.new_ hw hv)
        have R_4 := Aside0.mk (rest_ R_3.out hw R_3.out.size)
        have B_k8 := Aside0.mk (show w2.heap.size ≤ k8 from Nat.le_trans R_3.out.size (Nat.le_of_eq hv))
        have Ng0_k8 := Aside0.mk (Fg0_3.out.ne_ hv)
        have Ng1_k8 := Aside0.mk (Fg1_3.out.ne_ hv)
        have Nb8_k8 := Aside0.mk (Fb8_3.out.ne_ hv)
        have Nk7_k8 := Aside0.mk (Fk7_3.out.ne_ hv)
        have Nb7_k8 := Aside0.mk (Fb7_3.out.ne_ hv)
        rw [hw, hv]
        clear hv hw
        refine Shut.out hK _ _ (cells10 Fg0_4.out Fg1_4.out) (fun hHeld => ?_)
        clear hK K
        (try simp only [Act.put, List.getElem_toArray, List.getElem_cons_zero, List.getElem_cons_succ, List.setIfInBounds_toArray, List.set_cons_zero, List.set_cons_succ])
        (refine wpAnyH_take (i := 7) (v := ?_) rfl (by kernel_rfl) (by kernel_rfl) (by kernel_rfl) (fun _ _ _ h => h) (Or.inl ⟨by rfl, ?_⟩) (by assumption) ?_; (case' refine_2 => (intro w hSw; go_simp; try with_reducible rfl)); (try simp only [Act.put, List.getElem_toArray, List.getElem_cons_zero, List.getElem_cons_succ, List.setIfInBounds_toArray, List.set_cons_zero, List.set_cons_succ]))
        refine wpAnyH_ready (rs := [10]) (by kernel_rfl) (by simp) (AllReadyH.cons rfl (fun K hK => ?_) AllReadyH.nil)
        rw [if_pos (by rfl)]
        refine wp_store_row 40 (.tmp 7) (.tmp 23) rfl b7 #[.int .i64 6, .string ⟨#[]⟩, .int .i64 0, .int .i64 0, .slice (some ⟨k7, 0, none⟩) 2 2] rfl rfl 40 #[.int .i64 0, .string ⟨#[]⟩, .int .i64 0, .int .i64 0, .slice none 0 0] Fb7_4.out info_scope rfl (by simp [Value.oneCell']) ?_
        obtain ⟨w5_, hw⟩ : ∃ v, w4_.setRow b7 #[.int .i64 6, .string ⟨#[]⟩, .int .i64 0, .int .i64 0, .slice (some ⟨k7, 0, none⟩) 2 2] = v := ⟨_, rfl⟩
        have Fg0_5 := Aside0.mk (Fg0_4.out.other_ hw (fun h_ => Ng0_b7.out h_.symm))
        have Fg1_5 := Aside0.mk (Fg1_4.out.other_ hw (fun h_ => Ng1_b7.out h_.symm))
        have Fb8_5 := Aside0.mk (Fb8_4.out.other_ hw (fun h_ => Nb8_b7.out h_.symm))
        have Fk7_5 := Aside0.mk (Fk7_4.out.other_ hw (fun h_ => Nk7_b7.out h_.symm))
        have Fb7_5 := Aside0.mk (Fb7_4.out.same_ hw)
        have Fk8_5 := Aside0.mk (Fk8_4.out.other_ hw Nb7_k8.out)
        have R_5 := Aside0.mk (rests_ R_4.out hw B_b7.out)
        rw [hw]
        clear hw
        refine Shut.out hK _ _ (cells10 Fg0_5.out Fg1_5.out) (fun hHeld => ?_)
        clear hK K
        (try simp only [Act.put, List.getElem_toArray, List.getElem_cons_zero, List.getElem_cons_succ, List.setIfInBounds_toArray, List.set_cons_zero, List.set_cons_succ])
        refine wpAnyH_ready (rs := [11]) (by kernel_rfl) (by simp) (AllReadyH.cons rfl (fun K hK => ?_) AllReadyH.nil)
        rw [if_pos (by rfl)]
        refine wp_store_row 40 (.tmp 8) (.tmp 27) rfl b8 #[.int .i64 7, .string ⟨#[]⟩, .int .i64 0, .int .i64 0, .slice (some ⟨k8, 0, none⟩) 2 2] rfl rfl 40 #[.int .i64 0, .string ⟨#[]⟩, .int .i64 0, .int .i64 0, .slice none 0 0] Fb8_5.out info_scope rfl (by simp [Value.oneCell']) ?_
        obtain ⟨w6_, hw⟩ : ∃ v, w5_.setRow b8 #[.int .i64 7, .string ⟨#[]⟩, .int .i64 0, .int .i64 0, .slice (some ⟨k8, 0, none⟩) 2 2] = v := ⟨_, rfl⟩
        have Fg0_6 := Aside0.mk (Fg0_5.out.other_ hw (fun h_ => Ng0_b8.out h_.symm))
        have Fg1_6 := Aside0.mk (Fg1_5.out.other_ hw (fun h_ => Ng1_b8.out h_.symm))
        have Fb8_6 := Aside0.mk (Fb8_5.out.same_ hw)
        have Fk7_6 := Aside0.mk (Fk7_5.out.other_ hw Nb8_k7.out)
        have Fb7_6 := Aside0.mk (Fb7_5.out.other_ hw Nb8_b7.out)
        have Fk8_6 := Aside0.mk (Fk8_5.out.other_ hw Nb8_k8.out)
        have R_6 := Aside0.mk (rests_ R_5.out hw B_b8.out)
        rw [hw]
        clear hw
        refine Shut.out hK _ _ (cells10 Fg0_6.out Fg1_6.out) (fun hHeld => ?_)
        clear hK K
        (try simp only [Act.put, List.getElem_toArray, List.getElem_cons_zero, List.getElem_cons_succ, List.setIfInBounds_toArray, List.set_cons_zero, List.set_cons_succ])
        refine wpAnyH_done (by kernel_rfl) ?_ _
        go_wp2_with (fail)
        go_meet
        case rel => exact ⟨b7, k7, b8, k8, rfl, rfl, Fb7_6.out, Fk7_6.out, Fb8_6.out, Fk8_6.out, R_6.out⟩
       ·
        rw [if_pos (by rfl)]
        refine wp_store_row 40 (.tmp 7) (.tmp 23) rfl b7 #[.int .i64 6, .string ⟨#[]⟩, .int .i64 0, .int .i64 0, .slice (some ⟨k7, 0, none⟩) 2 2] rfl rfl 40 #[.int .i64 0, .string ⟨#[]⟩, .int .i64 0, .int .i64 0, .slice none 0 0] Fb7_3.out info_scope rfl (by simp [Value.oneCell']) ?_
        obtain ⟨w4_, hw⟩ : ∃ v, w3_.setRow b7 #[.int .i64 6, .string ⟨#[]⟩, .int .i64 0, .int .i64 0, .slice (some ⟨k7, 0, none⟩) 2 2] = v := ⟨_, rfl⟩
        have Fg0_4 := Aside0.mk (Fg0_3.out.other_ hw (fun h_ => Ng0_b7.out h_.symm))
        have Fg1_4 := Aside0.mk (Fg1_3.out.other_ hw (fun h_ => Ng1_b7.out h_.symm))
        have Fb8_4 := Aside0.mk (Fb8_3.out.other_ hw (fun h_ => Nb8_b7.out h_.symm))
        have Fk7_4 := Aside0.mk (Fk7_3.out.other_ hw (fun h_ => Nk7_b7.out h_.symm))
        have Fb7_4 := Aside0.mk (Fb7_3.out.same_ hw)
        have R_4 := Aside0.mk (rests_ R_3.out hw B_b7.out)
        rw [hw]
        clear hw
        refine Shut.out hK _ _ (cells10 Fg0_4.out Fg1_4.out) (fun hHeld => ?_)
        clear hK K
        (try simp only [Act.put, List.getElem_toArray, List.getElem_cons_zero, List.getElem_cons_succ, List.setIfInBounds_toArray, List.set_cons_zero, List.set_cons_succ])
        refine wpAnyH_ready (rs := [6]) (by kernel_rfl) (by simp) (AllReadyH.cons rfl (fun K hK => ?_) AllReadyH.nil)
        go_simp
        obtain ⟨w5_, hw⟩ : ∃ v, (w4_.alloc (.cells #[.int .i64 x.f0, .string x.f1, .int .i64 x.f2, .int .i64 x.f3, .slice Ax x.f4.length cx, .int .i64 y.f0, .string y.f1, .int .i64 y.f2, .int .i64 y.f3, .slice Ay y.f4.length cy] 40)) = v := ⟨_, rfl⟩
        obtain ⟨k8, hv⟩ : ∃ v, w4_.heap.size = v := ⟨_, rfl⟩
        have Fg0_5 := Aside0.mk (Fg0_4.out.alloc_ hw)
        have Fg1_5 := Aside0.mk (Fg1_4.out.alloc_ hw)
        have Fb8_5 := Aside0.mk (Fb8_4.out.alloc_ hw)
        have Fk7_5 := Aside0.mk (Fk7_4.out.alloc_ hw)
        have Fb7_5 := Aside0.mk (Fb7_4.out.alloc_ hw)
        have Fk8_5 := Aside0.mk (Blk.new_ hw hv)
        have R_5 := Aside0.mk (rest_ R_4.out hw R_4.out.size)
        have B_k8 := Aside0.mk (show w2.heap.size ≤ k8 from Nat.le_trans R_4.out.size (Nat.le_of_eq hv))
        have Ng0_k8 := Aside0.mk (Fg0_4.out.ne_ hv)
        have Ng1_k8 := Aside0.mk (Fg1_4.out.ne_ hv)
        have Nb8_k8 := Aside0.mk (Fb8_4.out.ne_ hv)
        have Nk7_k8 := Aside0.mk (Fk7_4.out.ne_ hv)
        have Nb7_k8 := Aside0.mk (Fb7_4.out.ne_ hv)
        rw [hw, hv]
        clear hv hw
        refine Shut.out hK _ _ (cells10 Fg0_5.out Fg1_5.out) (fun hHeld => ?_)
        clear hK K
        (try simp only [Act.put, List.getElem_toArray, List.getElem_cons_zero, List.getElem_cons_succ, List.setIfInBounds_toArray, List.set_cons_zero, List.set_cons_succ])
        (refine wpAnyH_take (i := 7) (v := ?_) rfl (by kernel_rfl) (by kernel_rfl) (by kernel_rfl) (fun _ _ _ h => h) (Or.inl ⟨by rfl, ?_⟩) (by assumption) ?_; (case' refine_2 => (intro w hSw; go_simp; try with_reducible rfl)); (try simp only [Act.put, List.getElem_toArray, List.getElem_cons_zero, List.getElem_cons_succ, List.setIfInBounds_toArray, List.set_cons_zero, List.set_cons_succ]))
        refine wpAnyH_ready (rs := [11]) (by kernel_rfl) (by simp) (AllReadyH.cons rfl (fun K hK => ?_) AllReadyH.nil)
        rw [if_pos (by rfl)]
        refine wp_store_row 40 (.tmp 8) (.tmp 27) rfl b8 #[.int .i64 7, .string ⟨#[]⟩, .int .i64 0, .int .i64 0, .slice (some ⟨k8, 0, none⟩) 2 2] rfl rfl 40 #[.int .i64 0, .string ⟨#[]⟩, .int .i64 0, .int .i64 0, .slice none 0 0] Fb8_5.out info_scope rfl (by simp [Value.oneCell']) ?_
        obtain ⟨w6_, hw⟩ : ∃ v, w5_.setRow b8 #[.int .i64 7, .string ⟨#[]⟩, .int .i64 0, .int .i64 0, .slice (some ⟨k8, 0, none⟩) 2 2] = v := ⟨_, rfl⟩
        have Fg0_6 := Aside0.mk (Fg0_5.out.other_ hw (fun h_ => Ng0_b8.out h_.symm))
        have Fg1_6 := Aside0.mk (Fg1_5.out.other_ hw (fun h_ => Ng1_b8.out h_.symm))
        have Fb8_6 := Aside0.mk (Fb8_5.out.same_ hw)
        have Fk7_6 := Aside0.mk (Fk7_5.out.other_ hw Nb8_k7.out)
        have Fb7_6 := Aside0.mk (Fb7_5.out.other_ hw Nb8_b7.out)
        have Fk8_6 := Aside0.mk (Fk8_5.out.other_ hw Nb8_k8.out)
        have R_6 := Aside0.mk (rests_ R_5.out hw B_b8.out)
        rw [hw]
        clear hw
        refine Shut.out hK _ _ (cells10 Fg0_6.out Fg1_6.out) (fun hHeld => ?_)
        clear hK K
        (try simp only [Act.put, List.getElem_toArray, List.getElem_cons_zero, List.getElem_cons_succ, List.setIfInBounds_toArray, List.set_cons_zero, List.set_cons_succ])
        refine wpAnyH_done (by kernel_rfl) ?_ _
        go_wp2_with (fail)
        go_meet
        case rel => exact ⟨b7, k7, b8, k8, rfl, rfl, Fb7_6.out, Fk7_6.out, Fb8_6.out, Fk8_6.out, R_6.out⟩
     ·
      go_simp
      obtain ⟨w2_, hw⟩ : ∃ v, (w1_.alloc (.cells #[.int .i64 x.f0, .string x.f1, .int .i64 x.f2, .int .i64 x.f3, .slice Ax x.f4.length cx, .int .i64 y.f0, .string y.f1, .int .i64 y.f2, .int .i64 y.f3, .slice Ay y.f4.length cy] 40)) = v := ⟨_, rfl⟩
      obtain ⟨k8, hv⟩ : ∃ v, w1_.heap.size = v := ⟨_, rfl⟩
      have Fg0_2 := Aside0.mk (Fg0_1.out.alloc_ hw)
      have Fg1_2 := Aside0.mk (Fg1_1.out.alloc_ hw)
      have Fb8_2 := Aside0.mk (Fb8_1.out.alloc_ hw)
      have Fk8_2 := Aside0.mk (Blk.new_ hw hv)
      have R_2 := Aside0.mk (rest_ R_1.out hw R_1.out.size)
      have B_k8 := Aside0.mk (show w2.heap.size ≤ k8 from Nat.le_trans R_1.out.size (Nat.le_of_eq hv))
      have Ng0_k8 := Aside0.mk (Fg0_1.out.ne_ hv)
      have Ng1_k8 := Aside0.mk (Fg1_1.out.ne_ hv)
      have Nb8_k8 := Aside0.mk (Fb8_1.out.ne_ hv)
      rw [hw, hv]
      clear hv hw
      refine Shut.out hK _ _ (cells10 Fg0_2.out Fg1_2.out) (fun hHeld => ?_)
      clear hK K
      (try simp only [Act.put, List.getElem_toArray, List.getElem_cons_zero, List.getElem_cons_succ, List.setIfInBounds_toArray, List.set_cons_zero, List.set_cons_succ])
      (refine wpAnyH_take (i := 7) (v := ?_) rfl (by kernel_rfl) (by kernel_rfl) (by kernel_rfl) (fun _ _ _ h => h) (Or.inl ⟨by rfl, ?_⟩) (by assumption) ?_; (case' refine_2 => (intro w hSw; go_simp; try with_reducible rfl)); (try simp only [Act.put, List.getElem_toArray, List.getElem_cons_zero, List.getElem_cons_succ, List.setIfInBounds_toArray, List.set_cons_zero, List.set_cons_succ]))
      refine wpAnyH_ready (rs := [2, 8]) (by kernel_rfl) (by simp) (AllReadyH.cons rfl (fun K hK => ?_) (AllReadyH.cons rfl (fun K hK => ?_) AllReadyH.nil))
      ·
       go_simp
       obtain ⟨w3_, hw⟩ : ∃ v, (w2_.alloc (.cells #[.int .i64 x.f0, .string x.f1, .int .i64 x.f2, .int .i64 x.f3, .slice Ax x.f4.length cx, .int .i64 y.f0, .string y.f1, .int .i64 y.f2, .int .i64 y.f3, .slice Ay y.f4.length cy] 40)) = v := ⟨_, rfl⟩
       obtain ⟨k7, hv⟩ : ∃ v, w2_.heap.size = v := ⟨_, rfl⟩
       have Fg0_3 := Aside0.mk (Fg0_2.out.alloc_ hw)
       have Fg1_3 := Aside0.mk (Fg1_2.out.alloc_ hw)
       have Fb8_3 := Aside0.mk (Fb8_2.out.alloc_ hw)
       have Fk8_3 := Aside0.mk (Fk8_2.out.alloc_ hw)
       have Fk7_3 := Aside0.mk (Blk.new_ hw hv)
       have R_3 := Aside0.mk (rest_ R_2.out hw R_2.out.size)
       have B_k7 := Aside0.mk (show w2.heap.size ≤ k7 from Nat.le_trans R_2.out.size (Nat.le_of_eq hv))
       have Ng0_k7 := Aside0.mk (Fg0_2.out.ne_ hv)
       have Ng1_k7 := Aside0.mk (Fg1_2.out.ne_ hv)
       have Nb8_k7 := Aside0.mk (Fb8_2.out.ne_ hv)
       have Nk8_k7 := Aside0.mk (Fk8_2.out.ne_ hv)
       rw [hw, hv]
       clear hv hw
       refine Shut.out hK _ _ (cells10 Fg0_3.out Fg1_3.out) (fun hHeld => ?_)
       clear hK K
       (try simp only [Act.put, List.getElem_toArray, List.getElem_cons_zero, List.getElem_cons_succ, List.setIfInBounds_toArray, List.set_cons_zero, List.set_cons_succ])
       (refine wpAnyH_take (i := 3) (v := ?_) rfl (by kernel_rfl) (by kernel_rfl) (by kernel_rfl) (fun _ _ _ h => h) (Or.inl ⟨by rfl, ?_⟩) (by assumption) ?_; (case' refine_2 => (intro w hSw; go_simp; try with_reducible rfl)); (try simp only [Act.put, List.getElem_toArray, List.getElem_cons_zero, List.getElem_cons_succ, List.setIfInBounds_toArray, List.set_cons_zero, List.set_cons_succ]))
       refine wpAnyH_ready (rs := [8]) (by kernel_rfl) (by simp) (AllReadyH.cons rfl (fun K hK => ?_) AllReadyH.nil)
       go_simp
       obtain ⟨w4_, hw⟩ : ∃ v, (w3_.alloc (.cells #[.int .i64 0, .string ⟨#[]⟩, .int .i64 0, .int .i64 0, .slice none 0 0] 40)) = v := ⟨_, rfl⟩
       obtain ⟨b7, hv⟩ : ∃ v, w3_.heap.size = v := ⟨_, rfl⟩
       have Fg0_4 := Aside0.mk (Fg0_3.out.alloc_ hw)
       have Fg1_4 := Aside0.mk (Fg1_3.out.alloc_ hw)
       have Fb8_4 := Aside0.mk (Fb8_3.out.alloc_ hw)
       have Fk8_4 := Aside0.mk (Fk8_3.out.alloc_ hw)
       have Fk7_4 := Aside0.mk (Fk7_3.out.alloc_ hw)
       have Fb7_4 := Aside0.mk (Blk.new_ hw hv)
       have R_4 := Aside0.mk (rest_ R_3.out hw R_3.out.size)
       have B_b7 := Aside0.mk (show w2.heap.size ≤ b7 from Nat.le_trans R_3.out.size (Nat.le_of_eq hv))
       have Ng0_b7 := Aside0.mk (Fg0_3.out.ne_ hv)
       have Ng1_b7 := Aside0.mk (Fg1_3.out.ne_ hv)
       have Nb8_b7 := Aside0.mk (Fb8_3.out.ne_ hv)
       have Nk8_b7 := Aside0.mk (Fk8_3.out.ne_ hv)
       have Nk7_b7 := Aside0.mk (Fk7_3.out.ne_ hv)
       rw [hw, hv]
       clear hv hw
       refine Shut.out hK _ _ (cells10 Fg0_4.out Fg1_4.out) (fun hHeld => ?_)
       clear hK K
       (try simp only [Act.put, List.getElem_toArray, List.getElem_cons_zero, List.getElem_cons_succ, List.setIfInBounds_toArray, List.set_cons_zero, List.set_cons_succ])
       refine wpAnyH_ready (rs := [10]) (by kernel_rfl) (by simp) (AllReadyH.cons rfl (fun K hK => ?_) AllReadyH.nil)
       rw [if_pos (by rfl)]
       refine wp_store_row 40 (.tmp 7) (.tmp 23) rfl b7 #[.int .i64 6, .string ⟨#[]⟩, .int .i64 0, .int .i64 0, .slice (some ⟨k7, 0, none⟩) 2 2] rfl rfl 40 #[.int .i64 0, .string ⟨#[]⟩, .int .i64 0, .int .i64 0, .slice none 0 0] Fb7_4.out info_scope rfl (by simp [Value.oneCell']) ?_
       obtain ⟨w5_, hw⟩ : ∃ v, w4_.setRow b7 #[.int .i64 6, .string ⟨#[]⟩, .int .i64 0, .int .i64 0, .slice (some ⟨k7, 0, none⟩) 2 2] = v := ⟨_, rfl⟩
       have Fg0_5 := Aside0.mk (Fg0_4.out.other_ hw (fun h_ => Ng0_b7.out h_.symm))
       have Fg1_5 := Aside0.mk (Fg1_4.out.other_ hw (fun h_ => Ng1_b7.out h_.symm))
       have Fb8_5 := Aside0.mk (Fb8_4.out.other_ hw (fun h_ => Nb8_b7.out h_.symm))
       have Fk8_5 := Aside0.mk (Fk8_4.out.other_ hw (fun h_ => Nk8_b7.out h_.symm))
       have Fk7_5 := Aside0.mk (Fk7_4.out.other_ hw (fun h_ => Nk7_b7.out h_.symm))
       have Fb7_5 := Aside0.mk (Fb7_4.out.same_ hw)
       have R_5 := Aside0.mk (rests_ R_4.out hw B_b7.out)
       rw [hw]
       clear hw
       refine Shut.out hK _ _ (cells10 Fg0_5.out Fg1_5.out) (fun hHeld => ?_)
       clear hK K
       (try simp only [Act.put, List.getElem_toArray, List.getElem_cons_zero, List.getElem_cons_succ, List.setIfInBounds_toArray, List.set_cons_zero, List.set_cons_succ])
       refine wpAnyH_ready (rs := [11]) (by kernel_rfl) (by simp) (AllReadyH.cons rfl (fun K hK => ?_) AllReadyH.nil)
       rw [if_pos (by rfl)]
       refine wp_store_row 40 (.tmp 8) (.tmp 27) rfl b8 #[.int .i64 7, .string ⟨#[]⟩, .int .i64 0, .int .i64 0, .slice (some ⟨k8, 0, none⟩) 2 2] rfl rfl 40 #[.int .i64 0, .string ⟨#[]⟩, .int .i64 0, .int .i64 0, .slice none 0 0] Fb8_5.out info_scope rfl (by simp [Value.oneCell']) ?_
       obtain ⟨w6_, hw⟩ : ∃ v, w5_.setRow b8 #[.int .i64 7, .string ⟨#[]⟩, .int .i64 0, .int .i64 0, .slice (some ⟨k8, 0, none⟩) 2 2] = v := ⟨_, rfl⟩
       have Fg0_6 := Aside0.mk (Fg0_5.out.other_ hw (fun h_ => Ng0_b8.out h_.symm))
       have Fg1_6 := Aside0.mk (Fg1_5.out.other_ hw (fun h_ => Ng1_b8.out h_.symm))
       have Fb8_6 := Aside0.mk (Fb8_5.out.same_ hw)
       have Fk8_6 := Aside0.mk (Fk8_5.out.other_ hw Nb8_k8.out)
       have Fk7_6 := Aside0.mk (Fk7_5.out.other_ hw Nb8_k7.out)
       have Fb7_6 := Aside0.mk (Fb7_5.out.other_ hw Nb8_b7.out)
       have R_6 := Aside0.mk (rests_ R_5.out hw B_b8.out)
       rw [hw]
       clear hw
       refine Shut.out hK _ _ (cells10 Fg0_6.out Fg1_6.out) (fun hHeld => ?_)
       clear hK K
       (try simp only [Act.put, List.getElem_toArray, List.getElem_cons_zero, List.getElem_cons_succ, List.setIfInBounds_toArray, List.set_cons_zero, List.set_cons_succ])
       refine wpAnyH_done (by kernel_rfl) ?_ _
       go_wp2_with (fail)
       go_meet
       case rel => exact ⟨b7, k7, b8, k8, rfl, rfl, Fb7_6.out, Fk7_6.out, Fb8_6.out, Fk8_6.out, R_6.out⟩
      ·
       go_simp
       obtain ⟨w3_, hw⟩ : ∃ v, (w2_.alloc (.cells #[.int .i64 0, .string ⟨#[]⟩, .int .i64 0, .int .i64 0, .slice none 0 0] 40)) = v := ⟨_, rfl⟩
       obtain ⟨b7, hv⟩ : ∃ v, w2_.heap.size = v := ⟨_, rfl⟩
       have Fg0_3 := Aside0.mk (Fg0_2.out.alloc_ hw)
       have Fg1_3 := Aside0.mk (Fg1_2.out.alloc_ hw)
       have Fb8_3 := Aside0.mk (Fb8_2.out.alloc_ hw)
       have Fk8_3 := Aside0.mk (Fk8_2.out.alloc_ hw)
       have Fb7_3 := Aside0.mk (Blk.new_ hw hv)
       have R_3 := Aside0.mk (rest_ R_2.out hw R_2.out.size)
       have B_b7 := Aside0.mk (show w2.heap.size ≤ b7 from Nat.le_trans R_2.out.size (Nat.le_of_eq hv))
       have Ng0_b7 := Aside0.mk (Fg0_2.out.ne_ hv)
       have Ng1_b7 := Aside0.mk (Fg1_2.out.ne_ hv)
       have Nb8_b7 := Aside0.mk (Fb8_2.out.ne_ hv)
       have Nk8_b7 := Aside0.mk (Fk8_2.out.ne_ hv)
       rw [hw, hv]
       clear hv hw
       refine Shut.out hK _ _ (cells10 Fg0_3.out Fg1_3.out) (fun hHeld => ?_)
       clear hK K
       refine wpAnyH_ready (rs := [2]) (by kernel_rfl) (by simp) (AllReadyH.cons rfl (fun K hK => ?_) AllReadyH.nil)
       go_simp
       obtain ⟨w4_, hw⟩ : ∃ v, (w3_.alloc (.cells #[.int .i64 x.f0, .string x.f1, .int .i64 x.f2, .int .i64 x.f3, .slice Ax x.f4.length cx, .int .i64 y.f0, .string y.f1, .int .i64 y.f2, .int .i64 y.f3, .slice Ay y.f4.length cy] 40)) = v := ⟨_, rfl⟩
       obtain ⟨k7, hv⟩ : ∃ v, w3_.heap.size = v := ⟨_, rfl⟩
       have Fg0_4 := Aside0.mk (Fg0_3.out.alloc_ hw)
       have Fg1_4 := Aside0.mk (Fg1_3.out.alloc_ hw)
       have Fb8_4 := Aside0.mk (Fb8_3.out.alloc_ hw)
       have Fk8_4 := Aside0.mk (Fk8_3.out.alloc_ hw)
       have Fb7_4 := Aside0.mk (Fb7_3.out.alloc_ hw)
       have Fk7_4 := Aside0.mk (Blk.new_ hw hv)
       have R_4 := Aside0.mk (rest_ R_3.out hw R_3.out.size)
       have B_k7 := Aside0.mk (show w2.heap.size ≤ k7 from Nat.le_trans R_3.out.size (Nat.le_of_eq hv))
       have Ng0_k7 := Aside0.mk (Fg0_3.out.ne_ hv)
       have Ng1_k7 := Aside0.mk (Fg1_3.out.ne_ hv)
       have Nb8_k7 := Aside0.mk (Fb8_3.out.ne_ hv)
       have Nk8_k7 := Aside0.mk (Fk8_3.out.ne_ hv)
       have Nb7_k7 := Aside0.mk (Fb7_3.out.ne_ hv)
       rw [hw, hv]
       clear hv hw
       refine Shut.out hK _ _ (cells10 Fg0_4.out Fg1_4.out) (fun hHeld => ?_)
       clear hK K
       (try simp only [Act.put, List.getElem_toArray, List.getElem_cons_zero, List.getElem_cons_succ, List.setIfInBounds_toArray, List.set_cons_zero, List.set_cons_succ])
       (refine wpAnyH_take (i := 3) (v := ?_) rfl (by kernel_rfl) (by kernel_rfl) (by kernel_rfl) (fun _ _ _ h => h) (Or.inl ⟨by rfl, ?_⟩) (by assumption) ?_; (case' refine_2 => (intro w hSw; go_simp; try with_reducible rfl)); (try simp only [Act.put, List.getElem_toArray, List.getElem_cons_zero, List.getElem_cons_succ, List.setIfInBounds_toArray, List.set_cons_zero, List.set_cons_succ]))
       refine wpAnyH_ready (rs := [10]) (by kernel_rfl) (by simp) (AllReadyH.cons rfl (fun K hK => ?_) AllReadyH.nil)
       rw [if_pos (by rfl)]
       refine wp_store_row 40 (.tmp 7) (.tmp 23) rfl b7 #[.int .i64 6, .string ⟨#[]⟩, .int .i64 0, .int .i64 0, .slice (some ⟨k7, 0, none⟩) 2 2] rfl rfl 40 #[.int .i64 0, .string ⟨#[]⟩, .int .i64 0, .int .i64 0, .slice none 0 0] Fb7_4.out info_scope rfl (by simp [Value.oneCell']) ?_
       obtain ⟨w5_, hw⟩ : ∃ v, w4_.setRow b7 #[.int .i64 6, .string ⟨#[]⟩, .int .i64 0, .int .i64 0, .slice (some ⟨k7, 0, none⟩) 2 2] = v := ⟨_, rfl⟩
       have Fg0_5 := Aside0.mk (Fg0_4.out.other_ hw (fun h_ => Ng0_b7.out h_.symm))
       have Fg1_5 := Aside0.mk (Fg1_4.out.other_ hw (fun h_ => Ng1_b7.out h_.symm))
       have Fb8_5 := Aside0.mk (Fb8_4.out.other_ hw (fun h_ => Nb8_b7.out h_.symm))
       have Fk8_5 := Aside0.mk (Fk8_4.out.other_ hw (fun h_ => Nk8_b7.out h_.symm))
       have Fb7_5 := Aside0.mk (Fb7_4.out.same_ hw)
       have Fk7_5 := Aside0.mk (Fk7_4.out.other_ hw Nb7_k7.out)
       have R_5 := Aside0.mk (rests_ R_4.out hw B_b7.out)
       rw [hw]
       clear hw
       refine Shut.out hK _ _ (cells10 Fg0_5.out Fg1_5.out) (fun hHeld => ?_)
       clear hK K
       (try simp only [Act.put, List.getElem_toArray, List.getElem_cons_zero, List.getElem_cons_succ, List.setIfInBounds_toArray, List.set_cons_zero, List.set_cons_succ])
       refine wpAnyH_ready (rs := [11]) (by kernel_rfl) (by simp) (AllReadyH.cons rfl (fun K hK => ?_) AllReadyH.nil)
       rw [if_pos (by rfl)]
       refine wp_store_row 40 (.tmp 8) (.tmp 27) rfl b8 #[.int .i64 7, .string ⟨#[]⟩, .int .i64 0, .int .i64 0, .slice (some ⟨k8, 0, none⟩) 2 2] rfl rfl 40 #[.int .i64 0, .string ⟨#[]⟩, .int .i64 0, .int .i64 0, .slice none 0 0] Fb8_5.out info_scope rfl (by simp [Value.oneCell']) ?_
       obtain ⟨w6_, hw⟩ : ∃ v, w5_.setRow b8 #[.int .i64 7, .string ⟨#[]⟩, .int .i64 0, .int .i64 0, .slice (some ⟨k8, 0, none⟩) 2 2] = v := ⟨_, rfl⟩
       have Fg0_6 := Aside0.mk (Fg0_5.out.other_ hw (fun h_ => Ng0_b8.out h_.symm))
       have Fg1_6 := Aside0.mk (Fg1_5.out.other_ hw (fun h_ => Ng1_b8.out h_.symm))
       have Fb8_6 := Aside0.mk (Fb8_5.out.same_ hw)
       have Fk8_6 := Aside0.mk (Fk8_5.out.other_ hw Nb8_k8.out)
       have Fb7_6 := Aside0.mk (Fb7_5.out.other_ hw Nb8_b7.out)
       have Fk7_6 := Aside0.mk (Fk7_5.out.other_ hw Nb8_k7.out)
       have R_6 := Aside0.mk (rests_ R_5.out hw B_b8.out)
       rw [hw]
       clear hw
       refine Shut.out hK _ _ (cells10 Fg0_6.out Fg1_6.out) (fun hHeld => ?_)
       clear hK K
       (try simp only [Act.put, List.getElem_toArray, List.getElem_cons_zero, List.getElem_cons_succ, List.setIfInBounds_toArray, List.set_cons_zero, List.set_cons_succ])
       refine wpAnyH_done (by kernel_rfl) ?_ _
       go_wp2_with (fail)
       go_meet
       case rel => exact ⟨b7, k7, b8, k8, rfl, rfl, Fb7_6.out, Fk7_6.out, Fb8_6.out, Fk8_6.out, R_6.out⟩
     ·
      go_simp
      obtain ⟨w2_, hw⟩ : ∃ v, (w1_.alloc (.cells #[.int .i64 0, .string ⟨#[]⟩, .int .i64 0, .int .i64 0, .slice none 0 0] 40)) = v := ⟨_, rfl⟩
      obtain ⟨b7, hv⟩ : ∃ v, w1_.heap.size = v := ⟨_, rfl⟩
      have Fg0_2 := Aside0.mk (Fg0_1.out.alloc_ hw)
      have Fg1_2 := Aside0.mk (Fg1_1.out.alloc_ hw)
      have Fb8_2 := Aside0.mk (Fb8_1.out.alloc_ hw)
      have Fb7_2 := Aside0.mk (Blk.new_ hw hv)
      have R_2 := Aside0.mk (rest_ R_1.out hw R_1.out.size)
      have B_b7 := Aside0.mk (show w2.heap.size ≤ b7 from Nat.le_trans R_1.out.size (Nat.le_of_eq hv))
      have Ng0_b7 := Aside0.mk (Fg0_1.out.ne_ hv)
      have Ng1_b7 := Aside0.mk (Fg1_1.out.ne_ hv)
      have Nb8_b7 := Aside0.mk (Fb8_1.out.ne_ hv)
      rw [hw, hv]
      clear hv hw
      refine Shut.out hK _ _ (cells10 Fg0_2.out Fg1_2.out) (fun hHeld => ?_)
      clear hK K
      refine wpAnyH_ready (rs := [2, 6]) (by kernel_rfl) (by simp) (AllReadyH.cons rfl (fun K hK => ?_) (AllReadyH.cons rfl (fun K hK => ?_) AllReadyH.nil))
      ·
       go_simp
       obtain ⟨w3_, hw⟩ : ∃ v, (w2_.alloc (.cells #[.int .i64 x.f0, .string x.f1, .int .i64 x.f2, .int .i64 x.f3, .slice Ax x.f4.length cx, .int .i64 y.f0, .string y.f1, .int .i64 y.f2, .int .i64 y.f3, .slice Ay y.f4.length cy] 40)) = v := ⟨_, rfl⟩
       obtain ⟨k7, hv⟩ : ∃ v, w2_.heap.size = v := ⟨_, rfl⟩
       have Fg0_3 := Aside0.mk (Fg0_2.out.alloc_ hw)
       have Fg1_3 := Aside0.mk (Fg1_2.out.alloc_ hw)
       have Fb8_3 := Aside0.mk (Fb8_2.out.alloc_ hw)
       have Fb7_3 := Aside0.mk (Fb7_2.out.alloc_ hw)
       have Fk7_3 := Aside0.mk (Blk.new_ hw hv)
       have R_3 := Aside0.mk (rest_ R_2.out hw R_2.out.size)
       have B_k7 := Aside0.mk (show w2.heap.size ≤ k7 from Nat.le_trans R_2.out.size (Nat.le_of_eq hv))
       have Ng0_k7 := Aside0.mk (Fg0_2.out.ne_ hv)
       have Ng1_k7 := Aside0.mk (Fg1_2.out.ne_ hv)
       have Nb8_k7 := Aside0.mk (Fb8_2.out.ne_ hv)
       have Nb7_k7 := Aside0.mk (Fb7_2.out.ne_ hv)
       rw [hw, hv]
       clear hv hw
       refine Shut.out hK _ _ (cells10 Fg0_3.out Fg1_3.out) (fun hHeld => ?_)
       clear hK K
       (try simp only [Act.put, List.getElem_toArray, List.getElem_cons_zero, List.getElem_cons_succ, List.setIfInBounds_toArray, List.set_cons_zero, List.set_cons_succ])
       (refine wpAnyH_take (i := 3) (v := ?_) rfl (by kernel_rfl) (by kernel_rfl) (by kernel_rfl) (fun _ _ _ h => h) (Or.inl ⟨by rfl, ?_⟩) (by assumption) ?_; (case' refine_2 => (intro w hSw; go_simp; try with_reducible rfl)); (try simp only [Act.put, List.getElem_toArray, List.getElem_cons_zero, List.getElem_cons_succ, List.setIfInBounds_toArray, List.set_cons_zero, List.set_cons_succ]))
       refine wpAnyH_ready (rs := [6, 10]) (by kernel_rfl) (by simp) (AllReadyH.cons rfl (fun K hK => ?_) (AllReadyH.cons rfl (fun K hK => ?_) AllReadyH.nil))
       ·
        go_simp
        obtain ⟨w4_, hw⟩ : ∃ v, (w3_.alloc (.cells #[.int .i64 x.f0, .string x.f1, .int .i64 x.f2, .int .i64 x.f3, .slice Ax x.f4.length cx, .int .i64 y.f0, .string y.f1, .int .i64 y.f2, .int .i64 y.f3, .slice Ay y.f4.length cy] 40)) = v := ⟨_, rfl⟩
        obtain ⟨k8, hv⟩ : ∃ v, w3_.heap.size = v := ⟨_, rfl⟩
        have Fg0_4 := Aside0.mk (Fg0_3.out.alloc_ hw)
        have Fg1_4 := Aside0.mk (Fg1_3.out.alloc_ hw)
        have Fb8_4 := Aside0.mk (Fb8_3.out.alloc_ hw)
        have Fb7_4 := Aside0.mk (Fb7_3.out.alloc_ hw)
        have Fk7_4 := Aside0.mk (Fk7_3.out.alloc_ hw)
        have Fk8_4 := Aside0.mk (Blk.new_ hw hv)
        have R_4 := Aside0.mk (rest_ R_3.out hw R_3.out.size)
        have B_k8 := Aside0.mk (show w2.heap.size ≤ k8 from Nat.le_trans R_3.out.size (Nat.le_of_eq hv))
        have Ng0_k8 := Aside0.mk (Fg0_3.out.ne_ hv)
        have Ng1_k8 := Aside0.mk (Fg1_3.out.ne_ hv)
        have Nb8_k8 := Aside0.mk (Fb8_3.out.ne_ hv)
        have Nb7_k8 := Aside0.mk (Fb7_3.out.ne_ hv)
        have Nk7_k8 := Aside0.mk (Fk7_3.out.ne_ hv)
        rw [hw, hv]
        clear hv hw
        refine Shut.out hK _ _ (cells10 Fg0_4.out Fg1_4.out) (fun hHeld => ?_)
        clear hK K
        (try simp only [Act.put, List.getElem_toArray, List.getElem_cons_zero, List.getElem_cons_succ, List.setIfInBounds_toArray, List.set_cons_zero, List.set_cons_succ])
        (refine wpAnyH_take (i := 7) (v := ?_) rfl (by kernel_rfl) (by kernel_rfl) (by kernel_rfl) (fun _ _ _ h => h) (Or.inl ⟨by rfl, ?_⟩) (by assumption) ?_; (case' refine_2 => (intro w hSw; go_simp; try with_reducible rfl)); (try simp only [Act.put, List.getElem_toArray, List.getElem_cons_zero, List.getElem_cons_succ, List.setIfInBounds_toArray, List.set_cons_zero, List.set_cons_succ]))
        refine wpAnyH_ready (rs := [10]) (by kernel_rfl) (by simp) (AllReadyH.cons rfl (fun K hK => ?_) AllReadyH.nil)
        rw [if_pos (by rfl)]
        refine wp_store_row 40 (.tmp 7) (.tmp 23) rfl b7 #[.int .i64 6, .string ⟨#[]⟩, .int .i64 0, .int .i64 0, .slice (some ⟨k7, 0, none⟩) 2 2] rfl rfl 40 #[.int .i64 0, .string ⟨#[]⟩, .int .i64 0, .int .i64 0, .slice none 0 0] Fb7_4.out info_scope rfl (by simp [Value.oneCell']) ?_
        obtain ⟨w5_, hw⟩ : ∃ v, w4_.setRow b7 #[.int .i64 6, .string ⟨#[]⟩, .int .i64 0, .int .i64 0, .slice (some ⟨k7, 0, none⟩) 2 2] = v := ⟨_, rfl⟩
        have Fg0_5 := Aside0.mk (Fg0_4.out.other_ hw (fun h_ => Ng0_b7.out h_.symm))
        have Fg1_5 := Aside0.mk (Fg1_4.out.other_ hw (fun h_ => Ng1_b7.out h_.symm))
        have Fb8_5 := Aside0.mk (Fb8_4.out.other_ hw (fun h_ => Nb8_b7.out h_.symm))
        have Fb7_5 := Aside0.mk (Fb7_4.out.same_ hw)
        have Fk7_5 := Aside0.mk (Fk7_4.out.other_ hw Nb7_k7.out)
        have Fk8_5 := Aside0.mk (Fk8_4.out.other_ hw Nb7_k8.out)
        have R_5 := Aside0.mk (rests_ R_4.out hw B_b7.out)
        rw [hw]
        clear hw
        refine Shut.out hK _ _ (cells10 Fg0_5.out Fg1_5.out) (fun hHeld => ?_)
        clear hK K
        (try simp only [Act.put, List.getElem_toArray, List.getElem_cons_zero, List.getElem_cons_succ, List.setIfInBounds_toArray, List.set_cons_zero, List.set_cons_succ])
        refine wpAnyH_ready (rs := [11]) (by kernel_rfl) (by simp) (AllReadyH.cons rfl (fun K hK => ?_) AllReadyH.nil)
        rw [if_pos (by rfl)]
        refine wp_store_row 40 (.tmp 8) (.tmp 27) rfl b8 #[.int .i64 7, .string ⟨#[]⟩, .int .i64 0, .int .i64 0, .slice (some ⟨k8, 0, none⟩) 2 2] rfl rfl 40 #[.int .i64 0, .string ⟨#[]⟩, .int .i64 0, .int .i64 0, .slice none 0 0] Fb8_5.out info_scope rfl (by simp [Value.oneCell']) ?_
        obtain ⟨w6_, hw⟩ : ∃ v, w5_.setRow b8 #[.int .i64 7, .string ⟨#[]⟩, .int .i64 0, .int .i64 0, .slice (some ⟨k8, 0, none⟩) 2 2] = v := ⟨_, rfl⟩
        have Fg0_6 := Aside0.mk (Fg0_5.out.other_ hw (fun h_ => Ng0_b8.out h_.symm))
        have Fg1_6 := Aside0.mk (Fg1_5.out.other_ hw (fun h_ => Ng1_b8.out h_.symm))
        have Fb8_6 := Aside0.mk (Fb8_5.out.same_ hw)
        have Fb7_6 := Aside0.mk (Fb7_5.out.other_ hw Nb8_b7.out)
        have Fk7_6 := Aside0.mk (Fk7_5.out.other_ hw Nb8_k7.out)
        have Fk8_6 := Aside0.mk (Fk8_5.out.other_ hw Nb8_k8.out)
        have R_6 := Aside0.mk (rests_ R_5.out hw B_b8.out)
        rw [hw]
        clear hw
        refine Shut.out hK _ _ (cells10 Fg0_6.out Fg1_6.out) (fun hHeld => ?_)
        clear hK K
        (try simp only [Act.put, List.getElem_toArray, List.getElem_cons_zero, List.getElem_cons_succ, List.setIfInBounds_toArray, List.set_cons_zero, List.set_cons_succ])
        refine wpAnyH_done (by kernel_rfl) ?_ _
        go_wp2_with (fail)
        go_meet
        case rel => exact ⟨b7, k7, b8, k8, rfl, rfl, Fb7_6.out, Fk7_6.out, Fb8_6.out, Fk8_6.out, R_6.out⟩
       ·
        rw [if_pos (by rfl)]
        refine wp_store_row 40 (.tmp 7) (.tmp 23) rfl b7 #[.int .i64 6, .string ⟨#[]⟩, .int .i64 0, .int .i64 0, .slice (some ⟨k7, 0, none⟩) 2 2] rfl rfl 40 #[.int .i64 0, .string ⟨#[]⟩, .int .i64 0, .int .i64 0, .slice none 0 0] Fb7_3.out info_scope rfl (by simp [Value.oneCell']) ?_
        obtain ⟨w4_, hw⟩ : ∃ v, w3_.setRow b7 #[.int .i64 6, .string ⟨#[]⟩, .int .i64 0, .int .i64 0, .slice (some ⟨k7, 0, none⟩) 2 2] = v := ⟨_, rfl⟩
        have Fg0_4 := Aside0.mk (Fg0_3.out.other_ hw (fun h_ => Ng0_b7.out h_.symm))
        have Fg1_4 := Aside0.mk (Fg1_3.out.other_ hw (fun h_ => Ng1_b7.out h_.symm))
        have Fb8_4 := Aside0.mk (Fb8_3.out.other_ hw (fun h_ => Nb8_b7.out h_.symm))
        have Fb7_4 := Aside0.mk (Fb7_3.out.same_ hw)
        have Fk7_4 := Aside0.mk (Fk7_3.out.other_ hw Nb7_k7.out)
        have R_4 := Aside0.mk (rests_ R_3.out hw B_b7.out)
        rw [hw]
        clear hw
        refine Shut.out hK _ _ (cells10 Fg0_4.out Fg1_4.out) (fun hHeld => ?_)
        clear hK K
        (try simp only [Act.put, List.getElem_toArray, List.getElem_cons_zero, List.getElem_cons_succ, List.setIfInBounds_toArray, List.set_cons_zero, List.set_cons_succ])
        refine wpAnyH_ready (rs := [6]) (by kernel_rfl) (by simp) (AllReadyH.cons rfl (fun K hK => ?_) AllReadyH.nil)
        go_simp
        obtain ⟨w5_, hw⟩ : ∃ v, (w4_.alloc (.cells #[.int .i64 x.f0, .string x.f1, .int .i64 x.f2, .int .i64 x.f3, .slice Ax x.f4.length cx, .int .i64 y.f0, .string y.f1, .int .i64 y.f2, .int .i64 y.f3, .slice Ay y.f4.length cy] 40)) = v := ⟨_, rfl⟩
        obtain ⟨k8, hv⟩ : ∃ v, w4_.heap.size = v := ⟨_, rfl⟩
        have Fg0_5 := Aside0.mk (Fg0_4.out.alloc_ hw)
        have Fg1_5 := Aside0.mk (Fg1_4.out.alloc_ hw)
        have Fb8_5 := Aside0.mk (Fb8_4.out.alloc_ hw)
        have Fb7_5 := Aside0.mk (Fb7_4.out.alloc_ hw)
        have Fk7_5 := Aside0.mk (Fk7_4.out.alloc_ hw)
        have Fk8_5 := Aside0.mk (Blk.new_ hw hv)
        have R_5 := Aside0.mk (rest_ R_4.out hw R_4.out.size)
        have B_k8 := Aside0.mk (show w2.heap.size ≤ k8 from Nat.le_trans R_4.out.size (Nat.le_of_eq hv))
        have Ng0_k8 := Aside0.mk (Fg0_4.out.ne_ hv)
        have Ng1_k8 := Aside0.mk (Fg1_4.out.ne_ hv)
        have Nb8_k8 := Aside0.mk (Fb8_4.out.ne_ hv)
        have Nb7_k8 := Aside0.mk (Fb7_4.out.ne_ hv)
        have Nk7_k8 := Aside0.mk (Fk7_4.out.ne_ hv)
        rw [hw, hv]
        clear hv hw
        refine Shut.out hK _ _ (cells10 Fg0_5.out Fg1_5.out) (fun hHeld => ?_)
        clear hK K
        (try simp only [Act.put, List.getElem_toArray, List.getElem_cons_zero, List.getElem_cons_succ, List.setIfInBounds_toArray, List.set_cons_zero, List.set_cons_succ])
        (refine wpAnyH_take (i := 7) (v := ?_) rfl (by kernel_rfl) (by kernel_rfl) (by kernel_rfl) (fun _ _ _ h => h) (Or.inl ⟨by rfl, ?_⟩) (by assumption) ?_; (case' refine_2 => (intro w hSw; go_simp; try with_reducible rfl)); (try simp only [Act.put, List.getElem_toArray, List.getElem_cons_zero, List.getElem_cons_succ, List.setIfInBounds_toArray, List.set_cons_zero, List.set_cons_succ]))
        refine wpAnyH_ready (rs := [11]) (by kernel_rfl) (by simp) (AllReadyH.cons rfl (fun K hK => ?_) AllReadyH.nil)
        rw [if_pos (by rfl)]
        refine wp_store_row 40 (.tmp 8) (.tmp 27) rfl b8 #[.int .i64 7, .string ⟨#[]⟩, .int .i64 0, .int .i64 0, .slice (some ⟨k8, 0, none⟩) 2 2] rfl rfl 40 #[.int .i64 0, .string ⟨#[]⟩, .int .i64 0, .int .i64 0, .slice none 0 0] Fb8_5.out info_scope rfl (by simp [Value.oneCell']) ?_
        obtain ⟨w6_, hw⟩ : ∃ v, w5_.setRow b8 #[.int .i64 7, .string ⟨#[]⟩, .int .i64 0, .int .i64 0, .slice (some ⟨k8, 0, none⟩) 2 2] = v := ⟨_, rfl⟩
        have Fg0_6 := Aside0.mk (Fg0_5.out.other_ hw (fun h_ => Ng0_b8.out h_.symm))
        have Fg1_6 := Aside0.mk (Fg1_5.out.other_ hw (fun h_ => Ng1_b8.out h_.symm))
        have Fb8_6 := Aside0.mk (Fb8_5.out.same_ hw)
        have Fb7_6 := Aside0.mk (Fb7_5.out.other_ hw Nb8_b7.out)
        have Fk7_6 := Aside0.mk (Fk7_5.out.other_ hw Nb8_k7.out)
        have Fk8_6 := Aside0.mk (Fk8_5.out.other_ hw Nb8_k8.out)
        have R_6 := Aside0.mk (rests_ R_5.out hw B_b8.out)
        rw [hw]
        clear hw
        refine Shut.out hK _ _ (cells10 Fg0_6.out Fg1_6.out) (fun hHeld => ?_)
        clear hK K
        (try simp only [Act.put, List.getElem_toArray, List.getElem_cons_zero, List.getElem_cons_succ, List.setIfInBounds_toArray, List.set_cons_zero, List.set_cons_succ])
        refine wpAnyH_done (by kernel_rfl) ?_ _
        go_wp2_with (fail)
        go_meet
        case rel => exact ⟨b7, k7, b8, k8, rfl, rfl, Fb7_6.out, Fk7_6.out, Fb8_6.out, Fk8_6.out, R_6.out⟩
      ·
       go_simp
       obtain ⟨w3_, hw⟩ : ∃ v, (w2_.alloc (.cells #[.int .i64 x.f0, .string x.f1, .int .i64 x.f2, .int .i64 x.f3, .slice Ax x.f4.length cx, .int .i64 y.f0, .string y.f1, .int .i64 y.f2, .int .i64 y.f3, .slice Ay y.f4.length cy] 40)) = v := ⟨_, rfl⟩
       obtain ⟨k8, hv⟩ : ∃ v, w2_.heap.size = v := ⟨_, rfl⟩
       have Fg0_3 := Aside0.mk (Fg0_2.out.alloc_ hw)
       have Fg1_3 := Aside0.mk (Fg1_2.out.alloc_ hw)
       have Fb8_3 := Aside0.mk (Fb8_2.out.alloc_ hw)
       have Fb7_3 := Aside0.mk (Fb7_2.out.alloc_ hw)
       have Fk8_3 := Aside0.mk (Blk.new_ hw hv)
       have R_3 := Aside0.mk (rest_ R_2.out hw R_2.out.size)
       have B_k8 := Aside0.mk (show w2.heap.size ≤ k8 from Nat.le_trans R_2.out.size (Nat.le_of_eq hv))
       have Ng0_k8 := Aside0.mk (Fg0_2.out.ne_ hv)
       have Ng1_k8 := Aside0.mk (Fg1_2.out.ne_ hv)
       have Nb8_k8 := Aside0.mk (Fb8_2.out.ne_ hv)
       have Nb7_k8 := Aside0.mk (Fb7_2.out.ne_ hv)
       rw [hw, hv]
       clear hv hw
       refine Shut.out hK _ _ (cells10 Fg0_3.out Fg1_3.out) (fun hHeld => ?_)
       clear hK K
       (try simp only [Act.put, List.getElem_toArray, List.getElem_cons_zero, List.getElem_cons_succ, List.setIfInBounds_toArray, List.set_cons_zero, List.set_cons_succ])
       (refine wpAnyH_take (i := 7) (v := ?_) rfl (by kernel_rfl) (by kernel_rfl) (by kernel_rfl) (fun _ _ _ h => h) (Or.inl ⟨by rfl, ?_⟩) (by assumption) ?_; (case' refine_2 => (intro w hSw; go_simp; try with_reducible rfl)); (try simp only [Act.put, List.getElem_toArray, List.getElem_cons_zero, List.getElem_cons_succ, List.setIfInBounds_toArray, List.set_cons_zero, List.set_cons_succ]))
       refine wpAnyH_ready (rs := [2]) (by kernel_rfl) (by simp) (AllReadyH.cons rfl (fun K hK => ?_) AllReadyH.nil)
       go_simp
       obtain ⟨w4_, hw⟩ : ∃ v, (w3_.alloc (.cells #[.int .i64 x.f0, .string x.f1, .int .i64 x.f2, .int .i64 x.f3, .slice Ax x.f4.length cx, .int .i64 y.f0, .string y.f1, .int .i64 y.f2, .int .i64 y.f3, .slice Ay y.f4.length cy] 40)) = v := ⟨_, rfl⟩
       obtain ⟨k7, hv⟩ : ∃ v, w3_.heap.size = v := ⟨_, rfl⟩
       have Fg0_4 := Aside0.mk (Fg0_3.out.alloc_ hw)
       have Fg1_4 := Aside0.mk (Fg1_3.out.alloc_ hw)
       have Fb8_4 := Aside0.mk (Fb8_3.out.alloc_ hw)
       have Fb7_4 := Aside0.mk (Fb7_3.out.alloc_ hw)
       have Fk8_4 := Aside0.mk (Fk8_3.out.alloc_ hw)
       have Fk7_4 := Aside0.mk (Blk.new_ hw hv)
       have R_4 := Aside0.mk (rest_ R_3.out hw R_3.out.size)
       have B_k7 := Aside0.mk (show w2.heap.size ≤ k7 from Nat.le_trans R_3.out.size (Nat.le_of_eq hv))
       have Ng0_k7 := Aside0.mk (Fg0_3.out.ne_ hv)
       have Ng1_k7 := Aside0.mk (Fg1_3.out.ne_ hv)
       have Nb8_k7 := Aside0.mk (Fb8_3.out.ne_ hv)
       have Nb7_k7 := Aside0.mk (Fb7_3.out.ne_ hv)
       have Nk8_k7 := Aside0.mk (Fk8_3.out.ne_ hv)
       rw [hw, hv]
       clear hv hw
       refine Shut.out hK _ _ (cells10 Fg0_4.out Fg1_4.out) (fun hHeld => ?_)
       clear hK K
       (try simp only [Act.put, List.getElem_toArray, List.getElem_cons_zero, List.getElem_cons_succ, List.setIfInBounds_toArray, List.set_cons_zero, List.set_cons_succ])
       (refine wpAnyH_take (i := 3) (v := ?_) rfl (by kernel_rfl) (by kernel_rfl) (by kernel_rfl) (fun _ _ _ h => h) (Or.inl ⟨by rfl, ?_⟩) (by assumption) ?_; (case' refine_2 => (intro w hSw; go_simp; try with_reducible rfl)); (try simp only [Act.put, List.getElem_toArray, List.getElem_cons_zero, List.getElem_cons_succ, List.setIfInBounds_toArray, List.set_cons_zero, List.set_cons_succ]))
       refine wpAnyH_ready (rs := [10]) (by kernel_rfl) (by simp) (AllReadyH.cons rfl (fun K hK => ?_) AllReadyH.nil)
       rw [if_pos (by rfl)]
       refine wp_store_row 40 (.tmp 7) (.tmp 23) rfl b7 #[.int .i64 6, .string ⟨#[]⟩, .int .i64 0, .int .i64 0, .slice (some ⟨k7, 0, none⟩) 2 2] rfl rfl 40 #[.int .i64 0, .string ⟨#[]⟩, .int .i64 0, .int .i64 0, .slice none 0 0] Fb7_4.out info_scope rfl (by simp [Value.oneCell']) ?_
       obtain ⟨w5_, hw⟩ : ∃ v, w4_.setRow b7 #[.int .i64 6, .string ⟨#[]⟩, .int .i64 0, .int .i64 0, .slice (some ⟨k7, 0, none⟩) 2 2] = v := ⟨_, rfl⟩
       have Fg0_5 := Aside0.mk (Fg0_4.out.other_ hw (fun h_ => Ng0_b7.out h_.symm))
       have Fg1_5 := Aside0.mk (Fg1_4.out.other_ hw (fun h_ => Ng1_b7.out h_.symm))
       have Fb8_5 := Aside0.mk (Fb8_4.out.other_ hw (fun h_ => Nb8_b7.out h_.symm))
       have Fb7_5 := Aside0.mk (Fb7_4.out.same_ hw)
       have Fk8_5 := Aside0.mk (Fk8_4.out.other_ hw Nb7_k8.out)
       have Fk7_5 := Aside0.mk (Fk7_4.out.other_ hw Nb7_k7.out)
       have R_5 := Aside0.mk (rests_ R_4.out hw B_b7.out)
       rw [hw]
       clear hw
       refine Shut.out hK _ _ (cells10 Fg0_5.out Fg1_5.out) (fun hHeld => ?_)
       clear hK K
       (try simp only [Act.put, List.getElem_toArray, List.getElem_cons_zero, List.getElem_cons_succ, List.setIfInBounds_toArray, List.set_cons_zero, List.set_cons_succ])
       refine wpAnyH_ready (rs := [11]) (by kernel_rfl) (by simp) (AllReadyH.cons rfl (fun K hK => ?_) AllReadyH.nil)
       rw [if_pos (by rfl)]
       refine wp_store_row 40 (.tmp 8) (.tmp 27) rfl b8 #[.int .i64 7, .string ⟨#[]⟩, .int .i64 0, .int .i64 0, .slice (some ⟨k8, 0, none⟩) 2 2] rfl rfl 40 #[.int .i64 0, .string ⟨#[]⟩, .int .i64 0, .int .i64 0, .slice none 0 0] Fb8_5.out info_scope rfl (by simp [Value.oneCell']) ?_
       obtain ⟨w6_, hw⟩ : ∃ v, w5_.setRow b8 #[.int .i64 7, .string ⟨#[]⟩, .int .i64 0, .int .i64 0, .slice (some ⟨k8, 0, none⟩) 2 2] = v := ⟨_, rfl⟩
       have Fg0_6 := Aside0.mk (Fg0_5.out.other_ hw (fun h_ => Ng0_b8.out h_.symm))
       have Fg1_6 := Aside0.mk (Fg1_5.out.other_ hw (fun h_ => Ng1_b8.out h_.symm))
       have Fb8_6 := Aside0.mk (Fb8_5.out.same_ hw)
       have Fb7_6 := Aside0.mk (Fb7_5.out.other_ hw Nb8_b7.out)
       have Fk8_6 := Aside0.mk (Fk8_5.out.other_ hw Nb8_k8.out)
       have Fk7_6 := Aside0.mk (Fk7_5.out.other_ hw Nb8_k7.out)
       have R_6 := Aside0.mk (rests_ R_5.out hw B_b8.out)
       rw [hw]
       clear hw
       refine Shut.out hK _ _ (cells10 Fg0_6.out Fg1_6.out) (fun hHeld => ?_)
       clear hK K
       (try simp only [Act.put, List.getElem_toArray, List.getElem_cons_zero, List.getElem_cons_succ, List.setIfInBounds_toArray, List.set_cons_zero, List.set_cons_succ])
       refine wpAnyH_done (by kernel_rfl) ?_ _
       go_wp2_with (fail)
       go_meet
       case rel => exact ⟨b7, k7, b8, k8, rfl, rfl, Fb7_6.out, Fk7_6.out, Fb8_6.out, Fk8_6.out, R_6.out⟩
  case rest =>
  obtain ⟨b7, k7, b8, k8, rfl, rfl, h1, h2, h3, h4, h5⟩ := hcut
  have B7 := Aside0.mk h1
  have K7 := Aside0.mk h2
  have B8 := Aside0.mk h3
  have K8 := Aside0.mk h4
  have M0 := Aside0.mk (L0.out.below h5)
  have M1 := Aside0.mk (L1.out.below h5)
  have M2 := Aside0.mk (L2.out.below h5)
  have MB := Aside0.mk (below_step LB.out h5)
  clear h1 h2 h3 h4 h5 L0 L1 L2 LB
  go_upto_region 4 with (fail)
  go_cut [9] from 28 to 33 (fun s9 wx => ∃ b9 k9 na9 nb9, s9 = .pointer (some ⟨b9, 0, none⟩) ∧ Blk wx b9 40 #[.int .i64 7, .string ⟨#[]⟩, .int .i64 0, .int .i64 0, .slice (some ⟨k9, 0, none⟩) 2 2] ∧ Blk wx k9 40 #[.int .i64 8, .string ⟨#[]⟩, .int .i64 0, .int .i64 0, .slice (some ⟨na9, 0, none⟩) 1 1, .int .i64 8, .string ⟨#[]⟩, .int .i64 0, .int .i64 0, .slice (some ⟨nb9, 0, none⟩) 1 1] ∧ Blk wx na9 40 #[.int .i64 x.f0, .string x.f1, .int .i64 x.f2, .int .i64 x.f3, .slice Ax x.f4.length cx] ∧ Blk wx nb9 40 #[.int .i64 y.f0, .string y.f1, .int .i64 y.f2, .int .i64 y.f3, .slice Ay y.f4.length cy] ∧ Below wc.heap.size wc wx)
  case first =>
    have R_0 := Aside0.mk (show Below wc.heap.size wc wc.drew from below_drew1 (Below.refl _ _))
    have Fg0_0 := Aside0.mk (show Blk wc.drew g0 40 #[.int .i64 x.f0, .string x.f1, .int .i64 x.f2, .int .i64 x.f3, .slice Ax x.f4.length cx] from Blk.below M0.out (below_drew1 (Below.refl _ _)))
    have Fg1_0 := Aside0.mk (show Blk wc.drew g1 40 #[.int .i64 y.f0, .string y.f1, .int .i64 y.f2, .int .i64 y.f3, .slice Ay y.f4.length cy] from Blk.below M1.out (below_drew1 (Below.refl _ _)))
    refine wp_region_held_drew (S := fun w' => w'.cell? ⟨g0, 0, none⟩ = some (.int .i64 x.f0) ∧ w'.cell? ⟨g0, 0 + 1, none⟩ = some (.string x.f1) ∧ w'.cell? ⟨g0, 0 + 2, none⟩ = some (.int .i64 x.f2) ∧ w'.cell? ⟨g0, 0 + 3, none⟩ = some (.int .i64 x.f3) ∧ w'.cell? ⟨g0, 0 + 4, none⟩ = some (.slice Ax x.f4.length cx) ∧ w'.cell? ⟨g1, 0, none⟩ = some (.int .i64 y.f0) ∧ w'.cell? ⟨g1, 0 + 1, none⟩ = some (.string y.f1) ∧ w'.cell? ⟨g1, 0 + 2, none⟩ = some (.int .i64 y.f2) ∧ w'.cell? ⟨g1, 0 + 3, none⟩ = some (.int .i64 y.f3) ∧ w'.cell? ⟨g1, 0 + 4, none⟩ = some (.slice Ay y.f4.length cy)) (by kernel_rfl) (cells10 Fg0_0.out Fg1_0.out) (fun hHeld => ?_)
    (refine wpAnyH_take (i := 0) (v := ?_) rfl (by kernel_rfl) (by kernel_rfl) (by kernel_rfl) (fun _ _ _ h => h) (Or.inl ⟨by rfl, ?_⟩) (by assumption) ?_; (case' refine_2 => (intro w hSw; go_simp; try with_reducible rfl)); (try simp only [Act.put, List.getElem_toArray, List.getElem_cons_zero, List.getElem_cons_succ, List.setIfInBounds_toArray, List.set_cons_zero, List.set_cons_succ]))
    (refine wpAnyH_take (i := 2) (v := ?_) rfl (by kernel_rfl) (by kernel_rfl) (by kernel_rfl) (fun _ _ _ h => h) (Or.inl ⟨by rfl, ?_⟩) (by assumption) ?_; (case' refine_2 => (intro w hSw; go_simp; try with_reducible rfl)); (try simp only [Act.put, List.getElem_toArray, List.getElem_cons_zero, List.getElem_cons_succ, List.setIfInBounds_toArray, List.set_cons_zero, List.set_cons_succ]))
    refine wpAnyH_ready (rs := [1, 6]) (by kernel_rfl) (by simp) (AllReadyH.cons rfl (fun K hK => ?_) (AllReadyH.cons rfl (fun K hK => ?_) AllReadyH.nil))
    ·
     go_simp
     refine (not_c x.f0 x.f1 x.f2 x.f3 Ax x.f4.length cx _).mono ?_
     rintro e w1_ ⟨na9, rfl, hn, hge, hb⟩
     have Fg0_1 := Aside0.mk (Fg0_0.out.below hb)
     have Fg1_1 := Aside0.mk (Fg1_0.out.below hb)
     have Fna9_1 := Aside0.mk hn
     have B_na9 := Aside0.mk (show wc.heap.size ≤ na9 from Nat.le_trans R_0.out.size hge)
     have Ng0_na9 := Aside0.mk (show g0 ≠ na9 from Nat.ne_of_lt (Nat.lt_of_lt_of_le Fg0_0.out.lt hge))
     have Ng1_na9 := Aside0.mk (show g1 ≠ na9 from Nat.ne_of_lt (Nat.lt_of_lt_of_le Fg1_0.out.lt hge))
     have R_1 := Aside0.mk (below_step R_0.out hb)
     clear hn hge hb
     refine Shut.out hK _ _ (cells10 Fg0_1.out Fg1_1.out) (fun hHeld => ?_)
     clear hK K
     refine wpAnyH_ready (rs := [3, 6]) (by kernel_rfl) (by simp) (AllReadyH.cons rfl (fun K hK => ?_) (AllReadyH.cons rfl (fun K hK => ?_) AllReadyH.nil))
     ·
      go_simp
      refine (not_c y.f0 y.f1 y.f2 y.f3 Ay y.f4.length cy _).mono ?_
      rintro e w2_ ⟨nb9, rfl, hn, hge, hb⟩
      have Fg0_2 := Aside0.mk (Fg0_1.out.below hb)
      have Fg1_2 := Aside0.mk (Fg1_1.out.below hb)
      have Fna9_2 := Aside0.mk (Fna9_1.out.below hb)
      have Fnb9_2 := Aside0.mk hn
      have B_nb9 := Aside0.mk (show wc.heap.size ≤ nb9 from Nat.le_trans R_1.out.size hge)
      have Ng0_nb9 := Aside0.mk (show g0 ≠ nb9 from Nat.ne_of_lt (Nat.lt_of_lt_of_le Fg0_1.out.lt hge))
      have Ng1_nb9 := Aside0.mk (show g1 ≠ nb9 from Nat.ne_of_lt (Nat.lt_of_lt_of_le Fg1_1.out.lt hge))
      have Nna9_nb9 := Aside0.mk (show na9 ≠ nb9 from Nat.ne_of_lt (Nat.lt_of_lt_of_le Fna9_1.out.lt hge))
      have R_2 := Aside0.mk (below_step R_1.out hb)
      clear hn hge hb
      refine Shut.out hK _ _ (cells10 Fg0_2.out Fg1_2.out) (fun hHeld => ?_)
      clear hK K
      refine wpAnyH_ready (rs := [4, 6]) (by kernel_rfl) (by simp) (AllReadyH.cons rfl (fun K hK => ?_) (AllReadyH.cons rfl (fun K hK => ?_) AllReadyH.nil))
      ·
       go_simp
       obtain ⟨w3_, hw⟩ : ∃ v, (w2_.alloc (.cells #[.int .i64 8, .string ⟨#[]⟩, .int .i64 0, .int .i64 0, .slice (some ⟨na9, 0, none⟩) 1 1, .int .i64 8, .string ⟨#[]⟩, .int .i64 0, .int .i64 0, .slice (some ⟨nb9, 0, none⟩) 1 1] 40)) = v := ⟨_, rfl⟩
       obtain ⟨k9, hv⟩ : ∃ v, w2_.heap.size = v := ⟨_, rfl⟩
       have Fg0_3 := Aside0.mk (Fg0_2.out.alloc_ hw)
       have Fg1_3 := Aside0.mk (Fg1_2.out.alloc_ hw)
       have Fna9_3 := Aside0.mk (Fna9_2.out.alloc_ hw)
       have Fnb9_3 := Aside0.mk (Fnb9_2.out.alloc_ hw)
       have Fk9_3 := Aside0.mk (Blk.new_ hw hv)
       have R_3 := Aside0.mk (rest_ R_2.out hw R_2.out.size)
       have B_k9 := Aside0.mk (show wc.heap.size ≤ k9 from Nat.le_trans R_2.out.size (Nat.le_of_eq hv))
       have Ng0_k9 := Aside0.mk (Fg0_2.out.ne_ hv)
       have Ng1_k9 := Aside0.mk (Fg1_2.out.ne_ hv)
       have Nna9_k9 := Aside0.mk (Fna9_2.out.ne_ hv)
       have Nnb9_k9 := Aside0.mk (Fnb9_2.out.ne_ hv)
       rw [hw, hv]
       clear hv hw
       refine Shut.out hK _ _ (cells10 Fg0_3.out Fg1_3.out) (fun hHeld => ?_)
       clear hK K
       (try simp only [Act.put, List.getElem_toArray, List.getElem_cons_zero, List.getElem_cons_succ, List.setIfInBounds_toArray, List.set_cons_zero, List.set_cons_succ])
       (refine wpAnyH_take (i := 5) (v := ?_) rfl (by kernel_rfl) (by kernel_rfl) (by kernel_rfl) (fun _ _ _ h => h) (Or.inl ⟨by rfl, ?_⟩) (by assumption) ?_; (case' refine_2 => (intro w hSw; go_simp; try with_reducible rfl)); (try simp only [Act.put, List.getElem_toArray, List.getElem_cons_zero, List.getElem_cons_succ, List.setIfInBounds_toArray, List.set_cons_zero, List.set_cons_succ]))
       refine wpAnyH_ready (rs := [6]) (by kernel_rfl) (by simp) (AllReadyH.cons rfl (fun K hK => ?_) AllReadyH.nil)
       go_simp
       obtain ⟨w4_, hw⟩ : ∃ v, (w3_.alloc (.cells #[.int .i64 0, .string ⟨#[]⟩, .int .i64 0, .int .i64 0, .slice none 0 0] 40)) = v := ⟨_, rfl⟩
       obtain ⟨b9, hv⟩ : ∃ v, w3_.heap.size = v := ⟨_, rfl⟩
       have Fg0_4 := Aside0.mk (Fg0_3.out.alloc_ hw)
       have Fg1_4 := Aside0.mk (Fg1_3.out.alloc_ hw)
       have Fna9_4 := Aside0.mk (Fna9_3.out.alloc_ hw)
       have Fnb9_4 := Aside0.mk (Fnb9_3.out.alloc_ hw)
       have Fk9_4 := Aside0.mk (Fk9_3.out.alloc_ hw)
       have Fb9_4 := Aside0.mk (Blk.new_ hw hv)
       have R_4 := Aside0.mk (rest_ R_3.out hw R_3.out.size)
       have B_b9 := Aside0.mk (show wc.heap.size ≤ b9 from Nat.le_trans R_3.out.size (Nat.le_of_eq hv))
       have Ng0_b9 := Aside0.mk (Fg0_3.out.ne_ hv)
       have Ng1_b9 := Aside0.mk (Fg1_3.out.ne_ hv)
       have Nna9_b9 := Aside0.mk (Fna9_3.out.ne_ hv)
       have Nnb9_b9 := Aside0.mk (Fnb9_3.out.ne_ hv)
       have Nk9_b9 := Aside0.mk (Fk9_3.out.ne_ hv)
       rw [hw, hv]
       clear hv hw
       refine Shut.out hK _ _ (cells10 Fg0_4.out Fg1_4.out) (fun hHeld => ?_)
       clear hK K
       (try simp only [Act.put, List.getElem_toArray, List.getElem_cons_zero, List.getElem_cons_succ, List.setIfInBounds_toArray, List.set_cons_zero, List.set_cons_succ])
       refine wpAnyH_ready (rs := [7]) (by kernel_rfl) (by simp) (AllReadyH.cons rfl (fun K hK => ?_) AllReadyH.nil)
       rw [if_pos (by rfl)]
       refine wp_store_row 40 (.tmp 9) (.tmp 33) rfl b9 #[.int .i64 7, .string ⟨#[]⟩, .int .i64 0, .int .i64 0, .slice (some ⟨k9, 0, none⟩) 2 2] rfl rfl 40 #[.int .i64 0, .string ⟨#[]⟩, .int .i64 0, .int .i64 0, .slice none 0 0] Fb9_4.out info_scope rfl (by simp [Value.oneCell']) ?_
       obtain ⟨w5_, hw⟩ : ∃ v, w4_.setRow b9 #[.int .i64 7, .string ⟨#[]⟩, .int .i64 0, .int .i64 0, .slice (some ⟨k9, 0, none⟩) 2 2] = v := ⟨_, rfl⟩
       have Fg0_5 := Aside0.mk (Fg0_4.out.other_ hw (fun h_ => Ng0_b9.out h_.symm))
       have Fg1_5 := Aside0.mk (Fg1_4.out.other_ hw (fun h_ => Ng1_b9.out h_.symm))
       have Fna9_5 := Aside0.mk (Fna9_4.out.other_ hw (fun h_ => Nna9_b9.out h_.symm))
       have Fnb9_5 := Aside0.mk (Fnb9_4.out.other_ hw (fun h_ => Nnb9_b9.out h_.symm))
       have Fk9_5 := Aside0.mk (Fk9_4.out.other_ hw (fun h_ => Nk9_b9.out h_.symm))
       have Fb9_5 := Aside0.mk (Fb9_4.out.same_ hw)
       have R_5 := Aside0.mk (rests_ R_4.out hw B_b9.out)
       rw [hw]
       clear hw
       refine Shut.out hK _ _ (cells10 Fg0_5.out Fg1_5.out) (fun hHeld => ?_)
       clear hK K
       (try simp only [Act.put, List.getElem_toArray, List.getElem_cons_zero, List.getElem_cons_succ, List.setIfInBounds_toArray, List.set_cons_zero, List.set_cons_succ])
       refine wpAnyH_done (by kernel_rfl) ?_ _
       go_wp2_with (fail)
       go_meet
       case rel => exact ⟨b9, k9, na9, nb9, rfl, Fb9_5.out, Fk9_5.out, Fna9_5.out, Fnb9_5.out, R_5.out⟩
      ·
       go_simp
       obtain ⟨w3_, hw⟩ : ∃ v, (w2_.alloc (.cells #[.int .i64 0, .string ⟨#[]⟩, .int .i64 0, .int .i64 0, .slice none 0 0] 40)) = v := ⟨_, rfl⟩
       obtain ⟨b9, hv⟩ : ∃ v, w2_.heap.size = v := ⟨_, rfl⟩
       have Fg0_3 := Aside0.mk (Fg0_2.out.alloc_ hw)
       have Fg1_3 := Aside0.mk (Fg1_2.out.alloc_ hw)
       have Fna9_3 := Aside0.mk (Fna9_2.out.alloc_ hw)
       have Fnb9_3 := Aside0.mk (Fnb9_2.out.alloc_ hw)
       have Fb9_3 := Aside0.mk (Blk.new_ hw hv)
       have R_3 := Aside0.mk (rest_ R_2.out hw R_2.out.size)
       have B_b9 := Aside0.mk (show wc.heap.size ≤ b9 from Nat.le_trans R_2.out.size (Nat.le_of_eq hv))
       have Ng0_b9 := Aside0.mk (Fg0_2.out.ne_ hv)
       have Ng1_b9 := Aside0.mk (Fg1_2.out.ne_ hv)
       have Nna9_b9 := Aside0.mk (Fna9_2.out.ne_ hv)
       have Nnb9_b9 := Aside0.mk (Fnb9_2.out.ne_ hv)
       rw [hw, hv]
       clear hv hw
       refine Shut.out hK _ _ (cells10 Fg0_3.out Fg1_3.out) (fun hHeld => ?_)
       clear hK K
       refine wpAnyH_ready (rs := [4]) (by kernel_rfl) (by simp) (AllReadyH.cons rfl (fun K hK => ?_) AllReadyH.nil)
       go_simp
       obtain ⟨w4_, hw⟩ : ∃ v, (w3_.alloc (.cells #[.int .i64 8, .string ⟨#[]⟩, .int .i64 0, .int .i64 0, .slice (some ⟨na9, 0, none⟩) 1 1, .int .i64 8, .string ⟨#[]⟩, .int .i64 0, .int .i64 0, .slice (some ⟨nb9, 0, none⟩) 1 1] 40)) = v := ⟨_, rfl⟩
       obtain ⟨k9, hv⟩ : ∃ v, w3_.heap.size = v := ⟨_, rfl⟩
       have Fg0_4 := Aside0.mk (Fg0_3.out.alloc_ hw)
       have Fg1_4 := Aside0.mk (Fg1_3.out.alloc_ hw)
       have Fna9_4 := Aside0.mk (Fna9_3.out.alloc_ hw)
       have Fnb9_4 := Aside0.mk (Fnb9_3.out.alloc_ hw)
       have Fb9_4 := Aside0.mk (Fb9_3.out.alloc_ hw)
       have Fk9_4 := Aside0.mk (Blk.new_ hw hv)
       have R_4 := Aside0.mk (rest_ R_3.out hw R_3.out.size)
       have B_k9 := Aside0.mk (show wc.heap.size ≤ k9 from Nat.le_trans R_3.out.size (Nat.le_of_eq hv))
       have Ng0_k9 := Aside0.mk (Fg0_3.out.ne_ hv)
       have Ng1_k9 := Aside0.mk (Fg1_3.out.ne_ hv)
       have Nna9_k9 := Aside0.mk (Fna9_3.out.ne_ hv)
       have Nnb9_k9 := Aside0.mk (Fnb9_3.out.ne_ hv)
       have Nb9_k9 := Aside0.mk (Fb9_3.out.ne_ hv)
       rw [hw, hv]
       clear hv hw
       refine Shut.out hK _ _ (cells10 Fg0_4.out Fg1_4.out) (fun hHeld => ?_)
       clear hK K
       (try simp only [Act.put, List.getElem_toArray, List.getElem_cons_zero, List.getElem_cons_succ, List.setIfInBounds_toArray, List.set_cons_zero, List.set_cons_succ])
       (refine wpAnyH_take (i := 5) (v := ?_) rfl (by kernel_rfl) (by kernel_rfl) (by kernel_rfl) (fun _ _ _ h => h) (Or.inl ⟨by rfl, ?_⟩) (by assumption) ?_; (case' refine_2 => (intro w hSw; go_simp; try with_reducible rfl)); (try simp only [Act.put, List.getElem_toArray, List.getElem_cons_zero, List.getElem_cons_succ, List.setIfInBounds_toArray, List.set_cons_zero, List.set_cons_succ]))
       refine wpAnyH_ready (rs := [7]) (by kernel_rfl) (by simp) (AllReadyH.cons rfl (fun K hK => ?_) AllReadyH.nil)
       rw [if_pos (by rfl)]
       refine wp_store_row 40 (.tmp 9) (.tmp 33) rfl b9 #[.int .i64 7, .string ⟨#[]⟩, .int .i64 0, .int .i64 0, .slice (some ⟨k9, 0, none⟩) 2 2] rfl rfl 40 #[.int .i64 0, .string ⟨#[]⟩, .int .i64 0, .int .i64 0, .slice none 0 0] Fb9_4.out info_scope rfl (by simp [Value.oneCell']) ?_
       obtain ⟨w5_, hw⟩ : ∃ v, w4_.setRow b9 #[.int .i64 7, .string ⟨#[]⟩, .int .i64 0, .int .i64 0, .slice (some ⟨k9, 0, none⟩) 2 2] = v := ⟨_, rfl⟩
       have Fg0_5 := Aside0.mk (Fg0_4.out.other_ hw (fun h_ => Ng0_b9.out h_.symm))
       have Fg1_5 := Aside0.mk (Fg1_4.out.other_ hw (fun h_ => Ng1_b9.out h_.symm))
       have Fna9_5 := Aside0.mk (Fna9_4.out.other_ hw (fun h_ => Nna9_b9.out h_.symm))
       have Fnb9_5 := Aside0.mk (Fnb9_4.out.other_ hw (fun h_ => Nnb9_b9.out h_.symm))
       have Fb9_5 := Aside0.mk (Fb9_4.out.same_ hw)
       have Fk9_5 := Aside0.mk (Fk9_4.out.other_ hw Nb9_k9.out)
       have R_5 := Aside0.mk (rests_ R_4.out hw B_b9.out)
       rw [hw]
       clear hw
       refine Shut.out hK _ _ (cells10 Fg0_5.out Fg1_5.out) (fun hHeld => ?_)
       clear hK K
       (try simp only [Act.put, List.getElem_toArray, List.getElem_cons_zero, List.getElem_cons_succ, List.setIfInBounds_toArray, List.set_cons_zero, List.set_cons_succ])
       refine wpAnyH_done (by kernel_rfl) ?_ _
       go_wp2_with (fail)
       go_meet
       case rel => exact ⟨b9, k9, na9, nb9, rfl, Fb9_5.out, Fk9_5.out, Fna9_5.out, Fnb9_5.out, R_5.out⟩
     ·
      go_simp
      obtain ⟨w2_, hw⟩ : ∃ v, (w1_.alloc (.cells #[.int .i64 0, .string ⟨#[]⟩, .int .i64 0, .int .i64 0, .slice none 0 0] 40)) = v := ⟨_, rfl⟩
      obtain ⟨b9, hv⟩ : ∃ v, w1_.heap.size = v := ⟨_, rfl⟩
      have Fg0_2 := Aside0.mk (Fg0_1.out.alloc_ hw)
      have Fg1_2 := Aside0.mk (Fg1_1.out.alloc_ hw)
      have Fna9_2 := Aside0.mk (Fna9_1.out.alloc_ hw)
      have Fb9_2 := Aside0.mk (Blk.new_ hw hv)
      have R_2 := Aside0.mk (rest_ R_1.out hw R_1.out.size)
      have B_b9 := Aside0.mk (show wc.heap.size ≤ b9 from Nat.le_trans R_1.out.size (Nat.le_of_eq hv))
      have Ng0_b9 := Aside0.mk (Fg0_1.out.ne_ hv)
      have Ng1_b9 := Aside0.mk (Fg1_1.out.ne_ hv)
      have Nna9_b9 := Aside0.mk (Fna9_1.out.ne_ hv)
      rw [hw, hv]
      clear hv hw
      refine Shut.out hK _ _ (cells10 Fg0_2.out Fg1_2.out) (fun hHeld => ?_)
      clear hK K
      refine wpAnyH_ready (rs := [3]) (by kernel_rfl) (by simp) (AllReadyH.cons rfl (fun K hK => ?_) AllReadyH.nil)
      go_simp
      refine (not_c y.f0 y.f1 y.f2 y.f3 Ay y.f4.length cy _).mono ?_
      rintro e w3_ ⟨nb9, rfl, hn, hge, hb⟩
      have Fg0_3 := Aside0.mk (Fg0_2.out.below hb)
      have Fg1_3 := Aside0.mk (Fg1_2.out.below hb)
      have Fna9_3 := Aside0.mk (Fna9_2.out.below hb)
      have Fb9_3 := Aside0.mk (Fb9_2.out.below hb)
      have Fnb9_3 := Aside0.mk hn
      have B_nb9 := Aside0.mk (show wc.heap.size ≤ nb9 from Nat.le_trans R_2.out.size hge)
      have Ng0_nb9 := Aside0.mk (show g0 ≠ nb9 from Nat.ne_of_lt (Nat.lt_of_lt_of_le Fg0_2.out.lt hge))
      have Ng1_nb9 := Aside0.mk (show g1 ≠ nb9 from Nat.ne_of_lt (Nat.lt_of_lt_of_le Fg1_2.out.lt hge))
      have Nna9_nb9 := Aside0.mk (show na9 ≠ nb9 from Nat.ne_of_lt (Nat.lt_of_lt_of_le Fna9_2.out.lt hge))
      have Nb9_nb9 := Aside0.mk (show b9 ≠ nb9 from Nat.ne_of_lt (Nat.lt_of_lt_of_le Fb9_2.out.lt hge))
      have R_3 := Aside0.mk (below_step R_2.out hb)
      clear hn hge hb
      refine Shut.out hK _ _ (cells10 Fg0_3.out Fg1_3.out) (fun hHeld => ?_)
      clear hK K
      refine wpAnyH_ready (rs := [4]) (by kernel_rfl) (by simp) (AllReadyH.cons rfl (fun K hK => ?_) AllReadyH.nil)
      go_simp
      obtain ⟨w4_, hw⟩ : ∃ v, (w3_.alloc (.cells #[.int .i64 8, .string ⟨#[]⟩, .int .i64 0, .int .i64 0, .slice (some ⟨na9, 0, none⟩) 1 1, .int .i64 8, .string ⟨#[]⟩, .int .i64 0, .int .i64 0, .slice (some ⟨nb9, 0, none⟩) 1 1] 40)) = v := ⟨_, rfl⟩
      obtain ⟨k9, hv⟩ : ∃ v, w3_.heap.size = v := ⟨_, rfl⟩
      have Fg0_4 := Aside0.mk (Fg0_3.out.alloc_ hw)
      have Fg1_4 := Aside0.mk (Fg1_3.out.alloc_ hw)
      have Fna9_4 := Aside0.mk (Fna9_3.out.alloc_ hw)
      have Fb9_4 := Aside0.mk (Fb9_3.out.alloc_ hw)
      have Fnb9_4 := Aside0.mk (Fnb9_3.out.alloc_ hw)
      have Fk9_4 := Aside0.mk (Blk.new_ hw hv)
      have R_4 := Aside0.mk (rest_ R_3.out hw R_3.out.size)
      have B_k9 := Aside0.mk (show wc.heap.size ≤ k9 from Nat.le_trans R_3.out.size (Nat.le_of_eq hv))
      have Ng0_k9 := Aside0.mk (Fg0_3.out.ne_ hv)
      have Ng1_k9 := Aside0.mk (Fg1_3.out.ne_ hv)
      have Nna9_k9 := Aside0.mk (Fna9_3.out.ne_ hv)
      have Nb9_k9 := Aside0.mk (Fb9_3.out.ne_ hv)
      have Nnb9_k9 := Aside0.mk (Fnb9_3.out.ne_ hv)
      rw [hw, hv]
      clear hv hw
      refine Shut.out hK _ _ (cells10 Fg0_4.out Fg1_4.out) (fun hHeld => ?_)
      clear hK K
      (try simp only [Act.put, List.getElem_toArray, List.getElem_cons_zero, List.getElem_cons_succ, List.setIfInBounds_toArray, List.set_cons_zero, List.set_cons_succ])
      (refine wpAnyH_take (i := 5) (v := ?_) rfl (by kernel_rfl) (by kernel_rfl) (by kernel_rfl) (fun _ _ _ h => h) (Or.inl ⟨by rfl, ?_⟩) (by assumption) ?_; (case' refine_2 => (intro w hSw; go_simp; try with_reducible rfl)); (try simp only [Act.put, List.getElem_toArray, List.getElem_cons_zero, List.getElem_cons_succ, List.setIfInBounds_toArray, List.set_cons_zero, List.set_cons_succ]))
      refine wpAnyH_ready (rs := [7]) (by kernel_rfl) (by simp) (AllReadyH.cons rfl (fun K hK => ?_) AllReadyH.nil)
      rw [if_pos (by rfl)]
      refine wp_store_row 40 (.tmp 9) (.tmp 33) rfl b9 #[.int .i64 7, .string ⟨#[]⟩, .int .i64 0, .int .i64 0, .slice (some ⟨k9, 0, none⟩) 2 2] rfl rfl 40 #[.int .i64 0, .string ⟨#[]⟩, .int .i64 0, .int .i64 0, .slice none 0 0] Fb9_4.out info_scope rfl (by simp [Value.oneCell']) ?_
      obtain ⟨w5_, hw⟩ : ∃ v, w4_.setRow b9 #[.int .i64 7, .string ⟨#[]⟩, .int .i64 0, .int .i64 0, .slice (some ⟨k9, 0, none⟩) 2 2] = v := ⟨_, rfl⟩
      have Fg0_5 := Aside0.mk (Fg0_4.out.other_ hw (fun h_ => Ng0_b9.out h_.symm))
      have Fg1_5 := Aside0.mk (Fg1_4.out.other_ hw (fun h_ => Ng1_b9.out h_.symm))
      have Fna9_5 := Aside0.mk (Fna9_4.out.other_ hw (fun h_ => Nna9_b9.out h_.symm))
      have Fb9_5 := Aside0.mk (Fb9_4.out.same_ hw)
      have Fnb9_5 := Aside0.mk (Fnb9_4.out.other_ hw Nb9_nb9.out)
      have Fk9_5 := Aside0.mk (Fk9_4.out.other_ hw Nb9_k9.out)
      have R_5 := Aside0.mk (rests_ R_4.out hw B_b9.out)
      rw [hw]
      clear hw
      refine Shut.out hK _ _ (cells10 Fg0_5.out Fg1_5.out) (fun hHeld => ?_)
      clear hK K
      (try simp only [Act.put, List.getElem_toArray, List.getElem_cons_zero, List.getElem_cons_succ, List.setIfInBounds_toArray, List.set_cons_zero, List.set_cons_succ])
      refine wpAnyH_done (by kernel_rfl) ?_ _
      go_wp2_with (fail)
      go_meet
      case rel => exact ⟨b9, k9, na9, nb9, rfl, Fb9_5.out, Fk9_5.out, Fna9_5.out, Fnb9_5.out, R_5.out⟩
    ·
     go_simp
     obtain ⟨w1_, hw⟩ : ∃ v, (wc.alloc (.cells #[.int .i64 0, .string ⟨#[]⟩, .int .i64 0, .int .i64 0, .slice none 0 0] 40)).drew = v := ⟨_, rfl⟩
     obtain ⟨b9, hv⟩ : ∃ v, wc.heap.size = v := ⟨_, rfl⟩
     have Fg0_1 := Aside0.mk (Fg0_0.out.allocd_ hw)
     have Fg1_1 := Aside0.mk (Fg1_0.out.allocd_ hw)
     have Fb9_1 := Aside0.mk (Blk.newd_ hw hv)
     have R_1 := Aside0.mk (restd_ hw)
     have B_b9 := Aside0.mk (show wc.heap.size ≤ b9 from Nat.le_of_eq hv)
     have Ng0_b9 := Aside0.mk (Fg0_0.out.ne_ hv)
     have Ng1_b9 := Aside0.mk (Fg1_0.out.ne_ hv)
     rw [hw, hv]
     clear hv hw
     refine Shut.out hK _ _ (cells10 Fg0_1.out Fg1_1.out) (fun hHeld => ?_)
     clear hK K
     refine wpAnyH_ready (rs := [1]) (by kernel_rfl) (by simp) (AllReadyH.cons rfl (fun K hK => ?_) AllReadyH.nil)
     go_simp
     refine (not_c x.f0 x.f1 x.f2 x.f3 Ax x.f4.length cx _).mono ?_
     rintro e w2_ ⟨na9, rfl, hn, hge, hb⟩
     have Fg0_2 := Aside0.mk (Fg0_1.out.below hb)
     have Fg1_2 := Aside0.mk (Fg1_1.out.below hb)
     have Fb9_2 := Aside0.mk (Fb9_1.out.below hb)
     have Fna9_2 := Aside0.mk hn
     have B_na9 := Aside0.mk (show wc.heap.size ≤ na9 from Nat.le_trans R_1.out.size hge)
     have Ng0_na9 := Aside0.mk (show g0 ≠ na9 from Nat.ne_of_lt (Nat.lt_of_lt_of_le Fg0_1.out.lt hge))
     have Ng1_na9 := Aside0.mk (show g1 ≠ na9 from Nat.ne_of_lt (Nat.lt_of_lt_of_le Fg1_1.out.lt hge))
     have Nb9_na9 := Aside0.mk (show b9 ≠ na9 from Nat.ne_of_lt (Nat.lt_of_lt_of_le Fb9_1.out.lt hge))
     have R_2 := Aside0.mk (below_step R_1.out hb)
     clear hn hge hb
     refine Shut.out hK _ _ (cells10 Fg0_2.out Fg1_2.out) (fun hHeld => ?_)
     clear hK K
     refine wpAnyH_ready (rs := [3]) (by kernel_rfl) (by simp) (AllReadyH.cons rfl (fun K hK => ?_) AllReadyH.nil)
     go_simp
     refine (not_c y.f0 y.f1 y.f2 y.f3 Ay y.f4.length cy _).mono ?_
     rintro e w3_ ⟨nb9, rfl, hn, hge, hb⟩
     have Fg0_3 := Aside0.mk (Fg0_2.out.below hb)
     have Fg1_3 := Aside0.mk (Fg1_2.out.below hb)
     have Fb9_3 := Aside0.mk (Fb9_2.out.below hb)
     have Fna9_3 := Aside0.mk (Fna9_2.out.below hb)
     have Fnb9_3 := Aside0.mk hn
     have B_nb9 := Aside0.mk (show wc.heap.size ≤ nb9 from Nat.le_trans R_2.out.size hge)
     have Ng0_nb9 := Aside0.mk (show g0 ≠ nb9 from Nat.ne_of_lt (Nat.lt_of_lt_of_le Fg0_2.out.lt hge))
     have Ng1_nb9 := Aside0.mk (show g1 ≠ nb9 from Nat.ne_of_lt (Nat.lt_of_lt_of_le Fg1_2.out.lt hge))
     have Nb9_nb9 := Aside0.mk (show b9 ≠ nb9 from Nat.ne_of_lt (Nat.lt_of_lt_of_le Fb9_2.out.lt hge))
     have Nna9_nb9 := Aside0.mk (show na9 ≠ nb9 from Nat.ne_of_lt (Nat.lt_of_lt_of_le Fna9_2.out.lt hge))
     have R_3 := Aside0.mk (below_step R_2.out hb)
     clear hn hge hb
     refine Shut.out hK _ _ (cells10 Fg0_3.out Fg1_3.out) (fun hHeld => ?_)
     clear hK K
     refine wpAnyH_ready (rs := [4]) (by kernel_rfl) (by simp) (AllReadyH.cons rfl (fun K hK => ?_) AllReadyH.nil)
     go_simp
     obtain ⟨w4_, hw⟩ : ∃ v, (w3_.alloc (.cells #[.int .i64 8, .string ⟨#[]⟩, .int .i64 0, .int .i64 0, .slice (some ⟨na9, 0, none⟩) 1 1, .int .i64 8, .string ⟨#[]⟩, .int .i64 0, .int .i64 0, .slice (some ⟨nb9, 0, none⟩) 1 1] 40)) = v := ⟨_, rfl⟩
     obtain ⟨k9, hv⟩ : ∃ v, w3_.heap.size = v := ⟨_, rfl⟩
     have Fg0_4 := Aside0.mk (Fg0_3.out.alloc_ hw)
     have Fg1_4 := Aside0.mk (Fg1_3.out.alloc_ hw)
     have Fb9_4 := Aside0.mk (Fb9_3.out.alloc_ hw)
     have Fna9_4 := Aside0.mk (Fna9_3.out.alloc_ hw)
     have Fnb9_4 := Aside0.mk (Fnb9_3.out.alloc_ hw)
     have Fk9_4 := Aside0.mk (Blk.new_ hw hv)
     have R_4 := Aside0.mk (rest_ R_3.out hw R_3.out.size)
     have B_k9 := Aside0.mk (show wc.heap.size ≤ k9 from Nat.le_trans R_3.out.size (Nat.le_of_eq hv))
     have Ng0_k9 := Aside0.mk (Fg0_3.out.ne_ hv)
     have Ng1_k9 := Aside0.mk (Fg1_3.out.ne_ hv)
     have Nb9_k9 := Aside0.mk (Fb9_3.out.ne_ hv)
     have Nna9_k9 := Aside0.mk (Fna9_3.out.ne_ hv)
     have Nnb9_k9 := Aside0.mk (Fnb9_3.out.ne_ hv)
     rw [hw, hv]
     clear hv hw
     refine Shut.out hK _ _ (cells10 Fg0_4.out Fg1_4.out) (fun hHeld => ?_)
     clear hK K
     (try simp only [Act.put, List.getElem_toArray, List.getElem_cons_zero, List.getElem_cons_succ, List.setIfInBounds_toArray, List.set_cons_zero, List.set_cons_succ])
     (refine wpAnyH_take (i := 5) (v := ?_) rfl (by kernel_rfl) (by kernel_rfl) (by kernel_rfl) (fun _ _ _ h => h) (Or.inl ⟨by rfl, ?_⟩) (by assumption) ?_; (case' refine_2 => (intro w hSw; go_simp; try with_reducible rfl)); (try simp only [Act.put, List.getElem_toArray, List.getElem_cons_zero, List.getElem_cons_succ, List.setIfInBounds_toArray, List.set_cons_zero, List.set_cons_succ]))
     refine wpAnyH_ready (rs := [7]) (by kernel_rfl) (by simp) (AllReadyH.cons rfl (fun K hK => ?_) AllReadyH.nil)
     rw [if_pos (by rfl)]
     refine wp_store_row 40 (.tmp 9) (.tmp 33) rfl b9 #[.int .i64 7, .string ⟨#[]⟩, .int .i64 0, .int .i64 0, .slice (some ⟨k9, 0, none⟩) 2 2] rfl rfl 40 #[.int .i64 0, .string ⟨#[]⟩, .int .i64 0, .int .i64 0, .slice none 0 0] Fb9_4.out info_scope rfl (by simp [Value.oneCell']) ?_
     obtain ⟨w5_, hw⟩ : ∃ v, w4_.setRow b9 #[.int .i64 7, .string ⟨#[]⟩, .int .i64 0, .int .i64 0, .slice (some ⟨k9, 0, none⟩) 2 2] = v := ⟨_, rfl⟩
     have Fg0_5 := Aside0.mk (Fg0_4.out.other_ hw (fun h_ => Ng0_b9.out h_.symm))
     have Fg1_5 := Aside0.mk (Fg1_4.out.other_ hw (fun h_ => Ng1_b9.out h_.symm))
     have Fb9_5 := Aside0.mk (Fb9_4.out.same_ hw)
     have Fna9_5 := Aside0.mk (Fna9_4.out.other_ hw Nb9_na9.out)
     have Fnb9_5 := Aside0.mk (Fnb9_4.out.other_ hw Nb9_nb9.out)
     have Fk9_5 := Aside0.mk (Fk9_4.out.other_ hw Nb9_k9.out)
     have R_5 := Aside0.mk (rests_ R_4.out hw B_b9.out)
     rw [hw]
     clear hw
     refine Shut.out hK _ _ (cells10 Fg0_5.out Fg1_5.out) (fun hHeld => ?_)
     clear hK K
     (try simp only [Act.put, List.getElem_toArray, List.getElem_cons_zero, List.getElem_cons_succ, List.setIfInBounds_toArray, List.set_cons_zero, List.set_cons_succ])
     refine wpAnyH_done (by kernel_rfl) ?_ _
     go_wp2_with (fail)
     go_meet
     case rel => exact ⟨b9, k9, na9, nb9, rfl, Fb9_5.out, Fk9_5.out, Fna9_5.out, Fnb9_5.out, R_5.out⟩
  case rest =>
  obtain ⟨b9, k9, na9, nb9, rfl, h1, h2, h3, h4, h5⟩ := hcut
  have n_ := Aside0.mk (Blk.below M0.out h5)
  clear M0
  have M0 := n_
  clear n_
  have n_ := Aside0.mk (Blk.below M1.out h5)
  clear M1
  have M1 := n_
  clear n_
  have n_ := Aside0.mk (Blk.below M2.out h5)
  clear M2
  have M2 := n_
  clear n_
  have n_ := Aside0.mk (Blk.below B7.out h5)
  clear B7
  have B7 := n_
  clear n_
  have n_ := Aside0.mk (Blk.below K7.out h5)
  clear K7
  have K7 := n_
  clear n_
  have n_ := Aside0.mk (Blk.below B8.out h5)
  clear B8
  have B8 := n_
  clear n_
  have n_ := Aside0.mk (Blk.below K8.out h5)
  clear K8
  have K8 := n_
  clear n_
  have n_ := Aside0.mk (below_step MB.out h5)
  clear MB
  have MB := n_
  clear n_
  have B9 := Aside0.mk h1
  have K9 := Aside0.mk h2
  have NA9 := Aside0.mk h3
  have NB9 := Aside0.mk h4
  clear h1 h2 h3 h4 h5
  go_upto_region 5 with (fail)
  go_cut [10] from 34 to 39 (fun s9 wx => ∃ b10 k10 na10 nb10, s9 = .pointer (some ⟨b10, 0, none⟩) ∧ Blk wx b10 40 #[.int .i64 6, .string ⟨#[]⟩, .int .i64 0, .int .i64 0, .slice (some ⟨k10, 0, none⟩) 2 2] ∧ Blk wx k10 40 #[.int .i64 8, .string ⟨#[]⟩, .int .i64 0, .int .i64 0, .slice (some ⟨na10, 0, none⟩) 1 1, .int .i64 8, .string ⟨#[]⟩, .int .i64 0, .int .i64 0, .slice (some ⟨nb10, 0, none⟩) 1 1] ∧ Blk wx na10 40 #[.int .i64 x.f0, .string x.f1, .int .i64 x.f2, .int .i64 x.f3, .slice Ax x.f4.length cx] ∧ Blk wx nb10 40 #[.int .i64 y.f0, .string y.f1, .int .i64 y.f2, .int .i64 y.f3, .slice Ay y.f4.length cy] ∧ Below wc.heap.size wc wx)
  case first =>
    have R_0 := Aside0.mk (show Below wc.heap.size wc wc.drew from below_drew1 (Below.refl _ _))
    have Fg0_0 := Aside0.mk (show Blk wc.drew g0 40 #[.int .i64 x.f0, .string x.f1, .int .i64 x.f2, .int .i64 x.f3, .slice Ax x.f4.length cx] from Blk.below M0.out (below_drew1 (Below.refl _ _)))
    have Fg1_0 := Aside0.mk (show Blk wc.drew g1 40 #[.int .i64 y.f0, .string y.f1, .int .i64 y.f2, .int .i64 y.f3, .slice Ay y.f4.length cy] from Blk.below M1.out (below_drew1 (Below.refl _ _)))
    refine wp_region_held_drew (S := fun w' => w'.cell? ⟨g0, 0, none⟩ = some (.int .i64 x.f0) ∧ w'.cell? ⟨g0, 0 + 1, none⟩ = some (.string x.f1) ∧ w'.cell? ⟨g0, 0 + 2, none⟩ = some (.int .i64 x.f2) ∧ w'.cell? ⟨g0, 0 + 3, none⟩ = some (.int .i64 x.f3) ∧ w'.cell? ⟨g0, 0 + 4, none⟩ = some (.slice Ax x.f4.length cx) ∧ w'.cell? ⟨g1, 0, none⟩ = some (.int .i64 y.f0) ∧ w'.cell? ⟨g1, 0 + 1, none⟩ = some (.string y.f1) ∧ w'.cell? ⟨g1, 0 + 2, none⟩ = some (.int .i64 y.f2) ∧ w'.cell? ⟨g1, 0 + 3, none⟩ = some (.int .i64 y.f3) ∧ w'.cell? ⟨g1, 0 + 4, none⟩ = some (.slice Ay y.f4.length cy)) (by kernel_rfl) (cells10 Fg0_0.out Fg1_0.out) (fun hHeld => ?_)
    (refine wpAnyH_take (i := 0) (v := ?_) rfl (by kernel_rfl) (by kernel_rfl) (by kernel_rfl) (fun _ _ _ h => h) (Or.inl ⟨by rfl, ?_⟩) (by assumption) ?_; (case' refine_2 => (intro w hSw; go_simp; try with_reducible rfl)); (try simp only [Act.put, List.getElem_toArray, List.getElem_cons_zero, List.getElem_cons_succ, List.setIfInBounds_toArray, List.set_cons_zero, List.set_cons_succ]))
    (refine wpAnyH_take (i := 2) (v := ?_) rfl (by kernel_rfl) (by kernel_rfl) (by kernel_rfl) (fun _ _ _ h => h) (Or.inl ⟨by rfl, ?_⟩) (by assumption) ?_; (case' refine_2 => (intro w hSw; go_simp; try with_reducible rfl)); (try simp only [Act.put, List.getElem_toArray, List.getElem_cons_zero, List.getElem_cons_succ, List.setIfInBounds_toArray, List.set_cons_zero, List.set_cons_succ]))
    refine wpAnyH_ready (rs := [1, 6]) (by kernel_rfl) (by simp) (AllReadyH.cons rfl (fun K hK => ?_) (AllReadyH.cons rfl (fun K hK => ?_) AllReadyH.nil))
    ·
     go_simp
     refine (not_c x.f0 x.f1 x.f2 x.f3 Ax x.f4.length cx _).mono ?_
     rintro e w1_ ⟨na10, rfl, hn, hge, hb⟩
     have Fg0_1 := Aside0.mk (Fg0_0.out.below hb)
     have Fg1_1 := Aside0.mk (Fg1_0.out.below hb)
     have Fna10_1 := Aside0.mk hn
     have B_na10 := Aside0.mk (show wc.heap.size ≤ na10 from Nat.le_trans R_0.out.size hge)
     have Ng0_na10 := Aside0.mk (show g0 ≠ na10 from Nat.ne_of_lt (Nat.lt_of_lt_of_le Fg0_0.out.lt hge))
     have Ng1_na10 := Aside0.mk (show g1 ≠ na10 from Nat.ne_of_lt (Nat.lt_of_lt_of_le Fg1_0.out.lt hge))
     have R_1 := Aside0.mk (below_step R_0.out hb)
     clear hn hge hb
     refine Shut.out hK _ _ (cells10 Fg0_1.out Fg1_1.out) (fun hHeld => ?_)
     clear hK K
     refine wpAnyH_ready (rs := [3, 6]) (by kernel_rfl) (by simp) (AllReadyH.cons rfl (fun K hK => ?_) (AllReadyH.cons rfl (fun K hK => ?_) AllReadyH.nil))
     ·
      go_simp
      refine (not_c y.f0 y.f1 y.f2 y.f3 Ay y.f4.length cy _).mono ?_
      rintro e w2_ ⟨nb10, rfl, hn, hge, hb⟩
      have Fg0_2 := Aside0.mk (Fg0_1.out.below hb)
      have Fg1_2 := Aside0.mk (Fg1_1.out.below hb)
      have Fna10_2 := Aside0.mk (Fna10_1.out.below hb)
      have Fnb10_2 := Aside0.mk hn
      have B_nb10 := Aside0.mk (show wc.heap.size ≤ nb10 from Nat.le_trans R_1.out.size hge)
      have Ng0_nb10 := Aside0.mk (show g0 ≠ nb10 from Nat.ne_of_lt (Nat.lt_of_lt_of_le Fg0_1.out.lt hge))
      have Ng1_nb10 := Aside0.mk (show g1 ≠ nb10 from Nat.ne_of_lt (Nat.lt_of_lt_of_le Fg1_1.out.lt hge))
      have Nna10_nb10 := Aside0.mk (show na10 ≠ nb10 from Nat.ne_of_lt (Nat.lt_of_lt_of_le Fna10_1.out.lt hge))
      have R_2 := Aside0.mk (below_step R_1.out hb)
      clear hn hge hb
      refine Shut.out hK _ _ (cells10 Fg0_2.out Fg1_2.out) (fun hHeld => ?_)
      clear hK K
      refine wpAnyH_ready (rs := [4, 6]) (by kernel_rfl) (by simp) (AllReadyH.cons rfl (fun K hK => ?_) (AllReadyH.cons rfl (fun K hK => ?_) AllReadyH.nil))
      ·
       go_simp
       obtain ⟨w3_, hw⟩ : ∃ v, (w2_.alloc (.cells #[.int .i64 8, .string ⟨#[]⟩, .int .i64 0, .int .i64 0, .slice (some ⟨na10, 0, none⟩) 1 1, .int .i64 8, .string ⟨#[]⟩, .int .i64 0, .int .i64 0, .slice (some ⟨nb10, 0, none⟩) 1 1] 40)) = v := ⟨_, rfl⟩
       obtain ⟨k10, hv⟩ : ∃ v, w2_.heap.size = v := ⟨_, rfl⟩
       have Fg0_3 := Aside0.mk (Fg0_2.out.alloc_ hw)
       have Fg1_3 := Aside0.mk (Fg1_2.out.alloc_ hw)
       have Fna10_3 := Aside0.mk (Fna10_2.out.alloc_ hw)
       have Fnb10_3 := Aside0.mk (Fnb10_2.out.alloc_ hw)
       have Fk10_3 := Aside0.mk (Blk.new_ hw hv)
       have R_3 := Aside0.mk (rest_ R_2.out hw R_2.out.size)
       have B_k10 := Aside0.mk (show wc.heap.size ≤ k10 from Nat.le_trans R_2.out.size (Nat.le_of_eq hv))
       have Ng0_k10 := Aside0.mk (Fg0_2.out.ne_ hv)
       have Ng1_k10 := Aside0.mk (Fg1_2.out.ne_ hv)
       have Nna10_k10 := Aside0.mk (Fna10_2.out.ne_ hv)
       have Nnb10_k10 := Aside0.mk (Fnb10_2.out.ne_ hv)
       rw [hw, hv]
       clear hv hw
       refine Shut.out hK _ _ (cells10 Fg0_3.out Fg1_3.out) (fun hHeld => ?_)
       clear hK K
       (try simp only [Act.put, List.getElem_toArray, List.getElem_cons_zero, List.getElem_cons_succ, List.setIfInBounds_toArray, List.set_cons_zero, List.set_cons_succ])
       (refine wpAnyH_take (i := 5) (v := ?_) rfl (by kernel_rfl) (by kernel_rfl) (by kernel_rfl) (fun _ _ _ h => h) (Or.inl ⟨by rfl, ?_⟩) (by assumption) ?_; (case' refine_2 => (intro w hSw; go_simp; try with_reducible rfl)); (try simp only [Act.put, List.getElem_toArray, List.getElem_cons_zero, List.getElem_cons_succ, List.setIfInBounds_toArray, List.set_cons_zero, List.set_cons_succ]))
       refine wpAnyH_ready (rs := [6]) (by kernel_rfl) (by simp) (AllReadyH.cons rfl (fun K hK => ?_) AllReadyH.nil)
       go_simp
       obtain ⟨w4_, hw⟩ : ∃ v, (w3_.alloc (.cells #[.int .i64 0, .string ⟨#[]⟩, .int .i64 0, .int .i64 0, .slice none 0 0] 40)) = v := ⟨_, rfl⟩
       obtain ⟨b10, hv⟩ : ∃ v, w3_.heap.size = v := ⟨_, rfl⟩
       have Fg0_4 := Aside0.mk (Fg0_3.out.alloc_ hw)
       have Fg1_4 := Aside0.mk (Fg1_3.out.alloc_ hw)
       have Fna10_4 := Aside0.mk (Fna10_3.out.alloc_ hw)
       have Fnb10_4 := Aside0.mk (Fnb10_3.out.alloc_ hw)
       have Fk10_4 := Aside0.mk (Fk10_3.out.alloc_ hw)
       have Fb10_4 := Aside0.mk (Blk.new_ hw hv)
       have R_4 := Aside0.mk (rest_ R_3.out hw R_3.out.size)
       have B_b10 := Aside0.mk (show wc.heap.size ≤ b10 from Nat.le_trans R_3.out.size (Nat.le_of_eq hv))
       have Ng0_b10 := Aside0.mk (Fg0_3.out.ne_ hv)
       have Ng1_b10 := Aside0.mk (Fg1_3.out.ne_ hv)
       have Nna10_b10 := Aside0.mk (Fna10_3.out.ne_ hv)
       have Nnb10_b10 := Aside0.mk (Fnb10_3.out.ne_ hv)
       have Nk10_b10 := Aside0.mk (Fk10_3.out.ne_ hv)
       rw [hw, hv]
       clear hv hw
       refine Shut.out hK _ _ (cells10 Fg0_4.out Fg1_4.out) (fun hHeld => ?_)
       clear hK K
       (try simp only [Act.put, List.getElem_toArray, List.getElem_cons_zero, List.getElem_cons_succ, List.setIfInBounds_toArray, List.set_cons_zero, List.set_cons_succ])
       refine wpAnyH_ready (rs := [7]) (by kernel_rfl) (by simp) (AllReadyH.cons rfl (fun K hK => ?_) AllReadyH.nil)
       rw [if_pos (by rfl)]
       refine wp_store_row 40 (.tmp 10) (.tmp 39) rfl b10 #[.int .i64 6, .string ⟨#[]⟩, .int .i64 0, .int .i64 0, .slice (some ⟨k10, 0, none⟩) 2 2] rfl rfl 40 #[.int .i64 0, .string ⟨#[]⟩, .int .i64 0, .int .i64 0, .slice none 0 0] Fb10_4.out info_scope rfl (by simp [Value.oneCell']) ?_
       obtain ⟨w5_, hw⟩ : ∃ v, w4_.setRow b10 #[.int .i64 6, .string ⟨#[]⟩, .int .i64 0, .int .i64 0, .slice (some ⟨k10, 0, none⟩) 2 2] = v := ⟨_, rfl⟩
       have Fg0_5 := Aside0.mk (Fg0_4.out.other_ hw (fun h_ => Ng0_b10.out h_.symm))
       have Fg1_5 := Aside0.mk (Fg1_4.out.other_ hw (fun h_ => Ng1_b10.out h_.symm))
       have Fna10_5 := Aside0.mk (Fna10_4.out.other_ hw (fun h_ => Nna10_b10.out h_.symm))
       have Fnb10_5 := Aside0.mk (Fnb10_4.out.other_ hw (fun h_ => Nnb10_b10.out h_.symm))
       have Fk10_5 := Aside0.mk (Fk10_4.out.other_ hw (fun h_ => Nk10_b10.out h_.symm))
       have Fb10_5 := Aside0.mk (Fb10_4.out.same_ hw)
       have R_5 := Aside0.mk (rests_ R_4.out hw B_b10.out)
       rw [hw]
       clear hw
       refine Shut.out hK _ _ (cells10 Fg0_5.out Fg1_5.out) (fun hHeld => ?_)
       clear hK K
       (try simp only [Act.put, List.getElem_toArray, List.getElem_cons_zero, List.getElem_cons_succ, List.setIfInBounds_toArray, List.set_cons_zero, List.set_cons_succ])
       refine wpAnyH_done (by kernel_rfl) ?_ _
       go_wp2_with (fail)
       go_meet
       case rel => exact ⟨b10, k10, na10, nb10, rfl, Fb10_5.out, Fk10_5.out, Fna10_5.out, Fnb10_5.out, R_5.out⟩
      ·
       go_simp
       obtain ⟨w3_, hw⟩ : ∃ v, (w2_.alloc (.cells #[.int .i64 0, .string ⟨#[]⟩, .int .i64 0, .int .i64 0, .slice none 0 0] 40)) = v := ⟨_, rfl⟩
       obtain ⟨b10, hv⟩ : ∃ v, w2_.heap.size = v := ⟨_, rfl⟩
       have Fg0_3 := Aside0.mk (Fg0_2.out.alloc_ hw)
       have Fg1_3 := Aside0.mk (Fg1_2.out.alloc_ hw)
       have Fna10_3 := Aside0.mk (Fna10_2.out.alloc_ hw)
       have Fnb10_3 := Aside0.mk (Fnb10_2.out.alloc_ hw)
       have Fb10_3 := Aside0.mk (Blk.new_ hw hv)
       have R_3 := Aside0.mk (rest_ R_2.out hw R_2.out.size)
       have B_b10 := Aside0.mk (show wc.heap.size ≤ b10 from Nat.le_trans R_2.out.size (Nat.le_of_eq hv))
       have Ng0_b10 := Aside0.mk (Fg0_2.out.ne_ hv)
       have Ng1_b10 := Aside0.mk (Fg1_2.out.ne_ hv)
       have Nna10_b10 := Aside0.mk (Fna10_2.out.ne_ hv)
       have Nnb10_b10 := Aside0.mk (Fnb10_2.out.ne_ hv)
       rw [hw, hv]
       clear hv hw
       refine Shut.out hK _ _ (cells10 Fg0_3.out Fg1_3.out) (fun hHeld => ?_)
       clear hK K
       refine wpAnyH_ready (rs := [4]) (by kernel_rfl) (by simp) (AllReadyH.cons rfl (fun K hK => ?_) AllReadyH.nil)
       go_simp
       obtain ⟨w4_, hw⟩ : ∃ v, (w3_.alloc (.cells #[.int .i64 8, .string ⟨#[]⟩, .int .i64 0, .int .i64 0, .slice (some ⟨na10, 0, none⟩) 1 1, .int .i64 8, .string ⟨#[]⟩, .int .i64 0, .int .i64 0, .slice (some ⟨nb10, 0, none⟩) 1 1] 40)) = v := ⟨_, rfl⟩
       obtain ⟨k10, hv⟩ : ∃ v, w3_.heap.size = v := ⟨_, rfl⟩
       have Fg0_4 := Aside0.mk (Fg0_3.out.alloc_ hw)
       have Fg1_4 := Aside0.mk (Fg1_3.out.alloc_ hw)
       have Fna10_4 := Aside0.mk (Fna10_3.out.alloc_ hw)
       have Fnb10_4 := Aside0.mk (Fnb10_3.out.alloc_ hw)
       have Fb10_4 := Aside0.mk (Fb10_3.out.alloc_ hw)
       have Fk10_4 := Aside0.mk (Blk.new_ hw hv)
       have R_4 := Aside0.mk (rest_ R_3.out hw R_3.out.size)
       have B_k10 := Aside0.mk (show wc.heap.size ≤ k10 from Nat.le_trans R_3.out.size (Nat.le_of_eq hv))
       have Ng0_k10 := Aside0.mk (Fg0_3.out.ne_ hv)
       have Ng1_k10 := Aside0.mk (Fg1_3.out.ne_ hv)
       have Nna10_k10 := Aside0.mk (Fna10_3.out.ne_ hv)
       have Nnb10_k10 := Aside0.mk (Fnb10_3.out.ne_ hv)
       have Nb10_k10 := Aside0.mk (Fb10_3.out.ne_ hv)
       rw [hw, hv]
       clear hv hw
       refine Shut.out hK _ _ (cells10 Fg0_4.out Fg1_4.out) (fun hHeld => ?_)
       clear hK K
       (try simp only [Act.put, List.getElem_toArray, List.getElem_cons_zero, List.getElem_cons_succ, List.setIfInBounds_toArray, List.set_cons_zero, List.set_cons_succ])
       (refine wpAnyH_take (i := 5) (v := ?_) rfl (by kernel_rfl) (by kernel_rfl) (by kernel_rfl) (fun _ _ _ h => h) (Or.inl ⟨by rfl, ?_⟩) (by assumption) ?_; (case' refine_2 => (intro w hSw; go_simp; try with_reducible rfl)); (try simp only [Act.put, List.getElem_toArray, List.getElem_cons_zero, List.getElem_cons_succ, List.setIfInBounds_toArray, List.set_cons_zero, List.set_cons_succ]))
       refine wpAnyH_ready (rs := [7]) (by kernel_rfl) (by simp) (AllReadyH.cons rfl (fun K hK => ?_) AllReadyH.nil)
       rw [if_pos (by rfl)]
       refine wp_store_row 40 (.tmp 10) (.tmp 39) rfl b10 #[.int .i64 6, .string ⟨#[]⟩, .int .i64 0, .int .i64 0, .slice (some ⟨k10, 0, none⟩) 2 2] rfl rfl 40 #[.int .i64 0, .string ⟨#[]⟩, .int .i64 0, .int .i64 0, .slice none 0 0] Fb10_4.out info_scope rfl (by simp [Value.oneCell']) ?_
       obtain ⟨w5_, hw⟩ : ∃ v, w4_.setRow b10 #[.int .i64 6, .string ⟨#[]⟩, .int .i64 0, .int .i64 0, .slice (some ⟨k10, 0, none⟩) 2 2] = v := ⟨_, rfl⟩
       have Fg0_5 := Aside0.mk (Fg0_4.out.other_ hw (fun h_ => Ng0_b10.out h_.symm))
       have Fg1_5 := Aside0.mk (Fg1_4.out.other_ hw (fun h_ => Ng1_b10.out h_.symm))
       have Fna10_5 := Aside0.mk (Fna10_4.out.other_ hw (fun h_ => Nna10_b10.out h_.symm))
       have Fnb10_5 := Aside0.mk (Fnb10_4.out.other_ hw (fun h_ => Nnb10_b10.out h_.symm))
       have Fb10_5 := Aside0.mk (Fb10_4.out.same_ hw)
       have Fk10_5 := Aside0.mk (Fk10_4.out.other_ hw Nb10_k10.out)
       have R_5 := Aside0.mk (rests_ R_4.out hw B_b10.out)
       rw [hw]
       clear hw
       refine Shut.out hK _ _ (cells10 Fg0_5.out Fg1_5.out) (fun hHeld => ?_)
       clear hK K
       (try simp only [Act.put, List.getElem_toArray, List.getElem_cons_zero, List.getElem_cons_succ, List.setIfInBounds_toArray, List.set_cons_zero, List.set_cons_succ])
       refine wpAnyH_done (by kernel_rfl) ?_ _
       go_wp2_with (fail)
       go_meet
       case rel => exact ⟨b10, k10, na10, nb10, rfl, Fb10_5.out, Fk10_5.out, Fna10_5.out, Fnb10_5.out, R_5.out⟩
     ·
      go_simp
      obtain ⟨w2_, hw⟩ : ∃ v, (w1_.alloc (.cells #[.int .i64 0, .string ⟨#[]⟩, .int .i64 0, .int .i64 0, .slice none 0 0] 40)) = v := ⟨_, rfl⟩
      obtain ⟨b10, hv⟩ : ∃ v, w1_.heap.size = v := ⟨_, rfl⟩
      have Fg0_2 := Aside0.mk (Fg0_1.out.alloc_ hw)
      have Fg1_2 := Aside0.mk (Fg1_1.out.alloc_ hw)
      have Fna10_2 := Aside0.mk (Fna10_1.out.alloc_ hw)
      have Fb10_2 := Aside0.mk (Blk.new_ hw hv)
      have R_2 := Aside0.mk (rest_ R_1.out hw R_1.out.size)
      have B_b10 := Aside0.mk (show wc.heap.size ≤ b10 from Nat.le_trans R_1.out.size (Nat.le_of_eq hv))
      have Ng0_b10 := Aside0.mk (Fg0_1.out.ne_ hv)
      have Ng1_b10 := Aside0.mk (Fg1_1.out.ne_ hv)
      have Nna10_b10 := Aside0.mk (Fna10_1.out.ne_ hv)
      rw [hw, hv]
      clear hv hw
      refine Shut.out hK _ _ (cells10 Fg0_2.out Fg1_2.out) (fun hHeld => ?_)
      clear hK K
      refine wpAnyH_ready (rs := [3]) (by kernel_rfl) (by simp) (AllReadyH.cons rfl (fun K hK => ?_) AllReadyH.nil)
      go_simp
      refine (not_c y.f0 y.f1 y.f2 y.f3 Ay y.f4.length cy _).mono ?_
      rintro e w3_ ⟨nb10, rfl, hn, hge, hb⟩
      have Fg0_3 := Aside0.mk (Fg0_2.out.below hb)
      have Fg1_3 := Aside0.mk (Fg1_2.out.below hb)
      have Fna10_3 := Aside0.mk (Fna10_2.out.below hb)
      have Fb10_3 := Aside0.mk (Fb10_2.out.below hb)
      have Fnb10_3 := Aside0.mk hn
      have B_nb10 := Aside0.mk (show wc.heap.size ≤ nb10 from Nat.le_trans R_2.out.size hge)
      have Ng0_nb10 := Aside0.mk (show g0 ≠ nb10 from Nat.ne_of_lt (Nat.lt_of_lt_of_le Fg0_2.out.lt hge))
      have Ng1_nb10 := Aside0.mk (show g1 ≠ nb10 from Nat.ne_of_lt (Nat.lt_of_lt_of_le Fg1_2.out.lt hge))
      have Nna10_nb10 := Aside0.mk (show na10 ≠ nb10 from Nat.ne_of_lt (Nat.lt_of_lt_of_le Fna10_2.out.lt hge))
      have Nb10_nb10 := Aside0.mk (show b10 ≠ nb10 from Nat.ne_of_lt (Nat.lt_of_lt_of_le Fb10_2.out.lt hge))
      have R_3 := Aside0.mk (below_step R_2.out hb)
      clear hn hge hb
      refine Shut.out hK _ _ (cells10 Fg0_3.out Fg1_3.out) (fun hHeld => ?_)
      clear hK K
      refine wpAnyH_ready (rs := [4]) (by kernel_rfl) (by simp) (AllReadyH.cons rfl (fun K hK => ?_) AllReadyH.nil)
      go_simp
      obtain ⟨w4_, hw⟩ : ∃ v, (w3_.alloc (.cells #[.int .i64 8, .string ⟨#[]⟩, .int .i64 0, .int .i64 0, .slice (some ⟨na10, 0, none⟩) 1 1, .int .i64 8, .string ⟨#[]⟩, .int .i64 0, .int .i64 0, .slice (some ⟨nb10, 0, none⟩) 1 1] 40)) = v := ⟨_, rfl⟩
      obtain ⟨k10, hv⟩ : ∃ v, w3_.heap.size = v := ⟨_, rfl⟩
      have Fg0_4 := Aside0.mk (Fg0_3.out.alloc_ hw)
      have Fg1_4 := Aside0.mk (Fg1_3.out.alloc_ hw)
      have Fna10_4 := Aside0.mk (Fna10_3.out.alloc_ hw)
      have Fb10_4 := Aside0.mk (Fb10_3.out.alloc_ hw)
      have Fnb10_4 := Aside0.mk (Fnb10_3.out.alloc_ hw)
      have Fk10_4 := Aside0.mk (Blk.new_ hw hv)
      have R_4 := Aside0.mk (rest_ R_3.out hw R_3.out.size)
      have B_k10 := Aside0.mk (show wc.heap.size ≤ k10 from Nat.le_trans R_3.out.size (Nat.le_of_eq hv))
      have Ng0_k10 := Aside0.mk (Fg0_3.out.ne_ hv)
      have Ng1_k10 := Aside0.mk (Fg1_3.out.ne_ hv)
      have Nna10_k10 := Aside0.mk (Fna10_3.out.ne_ hv)
      have Nb10_k10 := Aside0.mk (Fb10_3.out.ne_ hv)
      have Nnb10_k10 := Aside0.mk (Fnb10_3.out.ne_ hv)
      rw [hw, hv]
      clear hv hw
      refine Shut.out hK _ _ (cells10 Fg0_4.out Fg1_4.out) (fun hHeld => ?_)
      clear hK K
      (try simp only [Act.put, List.getElem_toArray, List.getElem_cons_zero, List.getElem_cons_succ, List.setIfInBounds_toArray, List.set_cons_zero, List.set_cons_succ])
      (refine wpAnyH_take (i := 5) (v := ?_) rfl (by kernel_rfl) (by kernel_rfl) (by kernel_rfl) (fun _ _ _ h => h) (Or.inl ⟨by rfl, ?_⟩) (by assumption) ?_; (case' refine_2 => (intro w hSw; go_simp; try with_reducible rfl)); (try simp only [Act.put, List.getElem_toArray, List.getElem_cons_zero, List.getElem_cons_succ, List.setIfInBounds_toArray, List.set_cons_zero, List.set_cons_succ]))
      refine wpAnyH_ready (rs := [7]) (by kernel_rfl) (by simp) (AllReadyH.cons rfl (fun K hK => ?_) AllReadyH.nil)
      rw [if_pos (by rfl)]
      refine wp_store_row 40 (.tmp 10) (.tmp 39) rfl b10 #[.int .i64 6, .string ⟨#[]⟩, .int .i64 0, .int .i64 0, .slice (some ⟨k10, 0, none⟩) 2 2] rfl rfl 40 #[.int .i64 0, .string ⟨#[]⟩, .int .i64 0, .int .i64 0, .slice none 0 0] Fb10_4.out info_scope rfl (by simp [Value.oneCell']) ?_
      obtain ⟨w5_, hw⟩ : ∃ v, w4_.setRow b10 #[.int .i64 6, .string ⟨#[]⟩, .int .i64 0, .int .i64 0, .slice (some ⟨k10, 0, none⟩) 2 2] = v := ⟨_, rfl⟩
      have Fg0_5 := Aside0.mk (Fg0_4.out.other_ hw (fun h_ => Ng0_b10.out h_.symm))
      have Fg1_5 := Aside0.mk (Fg1_4.out.other_ hw (fun h_ => Ng1_b10.out h_.symm))
      have Fna10_5 := Aside0.mk (Fna10_4.out.other_ hw (fun h_ => Nna10_b10.out h_.symm))
      have Fb10_5 := Aside0.mk (Fb10_4.out.same_ hw)
      have Fnb10_5 := Aside0.mk (Fnb10_4.out.other_ hw Nb10_nb10.out)
      have Fk10_5 := Aside0.mk (Fk10_4.out.other_ hw Nb10_k10.out)
      have R_5 := Aside0.mk (rests_ R_4.out hw B_b10.out)
      rw [hw]
      clear hw
      refine Shut.out hK _ _ (cells10 Fg0_5.out Fg1_5.out) (fun hHeld => ?_)
      clear hK K
      (try simp only [Act.put, List.getElem_toArray, List.getElem_cons_zero, List.getElem_cons_succ, List.setIfInBounds_toArray, List.set_cons_zero, List.set_cons_succ])
      refine wpAnyH_done (by kernel_rfl) ?_ _
      go_wp2_with (fail)
      go_meet
      case rel => exact ⟨b10, k10, na10, nb10, rfl, Fb10_5.out, Fk10_5.out, Fna10_5.out, Fnb10_5.out, R_5.out⟩
    ·
     go_simp
     obtain ⟨w1_, hw⟩ : ∃ v, (wc.alloc (.cells #[.int .i64 0, .string ⟨#[]⟩, .int .i64 0, .int .i64 0, .slice none 0 0] 40)).drew = v := ⟨_, rfl⟩
     obtain ⟨b10, hv⟩ : ∃ v, wc.heap.size = v := ⟨_, rfl⟩
     have Fg0_1 := Aside0.mk (Fg0_0.out.allocd_ hw)
     have Fg1_1 := Aside0.mk (Fg1_0.out.allocd_ hw)
     have Fb10_1 := Aside0.mk (Blk.newd_ hw hv)
     have R_1 := Aside0.mk (restd_ hw)
     have B_b10 := Aside0.mk (show wc.heap.size ≤ b10 from Nat.le_of_eq hv)
     have Ng0_b10 := Aside0.mk (Fg0_0.out.ne_ hv)
     have Ng1_b10 := Aside0.mk (Fg1_0.out.ne_ hv)
     rw [hw, hv]
     clear hv hw
     refine Shut.out hK _ _ (cells10 Fg0_1.out Fg1_1.out) (fun hHeld => ?_)
     clear hK K
     refine wpAnyH_ready (rs := [1]) (by kernel_rfl) (by simp) (AllReadyH.cons rfl (fun K hK => ?_) AllReadyH.nil)
     go_simp
     refine (not_c x.f0 x.f1 x.f2 x.f3 Ax x.f4.length cx _).mono ?_
     rintro e w2_ ⟨na10, rfl, hn, hge, hb⟩
     have Fg0_2 := Aside0.mk (Fg0_1.out.below hb)
     have Fg1_2 := Aside0.mk (Fg1_1.out.below hb)
     have Fb10_2 := Aside0.mk (Fb10_1.out.below hb)
     have Fna10_2 := Aside0.mk hn
     have B_na10 := Aside0.mk (show wc.heap.size ≤ na10 from Nat.le_trans R_1.out.size hge)
     have Ng0_na10 := Aside0.mk (show g0 ≠ na10 from Nat.ne_of_lt (Nat.lt_of_lt_of_le Fg0_1.out.lt hge))
     have Ng1_na10 := Aside0.mk (show g1 ≠ na10 from Nat.ne_of_lt (Nat.lt_of_lt_of_le Fg1_1.out.lt hge))
     have Nb10_na10 := Aside0.mk (show b10 ≠ na10 from Nat.ne_of_lt (Nat.lt_of_lt_of_le Fb10_1.out.lt hge))
     have R_2 := Aside0.mk (below_step R_1.out hb)
     clear hn hge hb
     refine Shut.out hK _ _ (cells10 Fg0_2.out Fg1_2.out) (fun hHeld => ?_)
     clear hK K
     refine wpAnyH_ready (rs := [3]) (by kernel_rfl) (by simp) (AllReadyH.cons rfl (fun K hK => ?_) AllReadyH.nil)
     go_simp
     refine (not_c y.f0 y.f1 y.f2 y.f3 Ay y.f4.length cy _).mono ?_
     rintro e w3_ ⟨nb10, rfl, hn, hge, hb⟩
     have Fg0_3 := Aside0.mk (Fg0_2.out.below hb)
     have Fg1_3 := Aside0.mk (Fg1_2.out.below hb)
     have Fb10_3 := Aside0.mk (Fb10_2.out.below hb)
     have Fna10_3 := Aside0.mk (Fna10_2.out.below hb)
     have Fnb10_3 := Aside0.mk hn
     have B_nb10 := Aside0.mk (show wc.heap.size ≤ nb10 from Nat.le_trans R_2.out.size hge)
     have Ng0_nb10 := Aside0.mk (show g0 ≠ nb10 from Nat.ne_of_lt (Nat.lt_of_lt_of_le Fg0_2.out.lt hge))
     have Ng1_nb10 := Aside0.mk (show g1 ≠ nb10 from Nat.ne_of_lt (Nat.lt_of_lt_of_le Fg1_2.out.lt hge))
     have Nb10_nb10 := Aside0.mk (show b10 ≠ nb10 from Nat.ne_of_lt (Nat.lt_of_lt_of_le Fb10_2.out.lt hge))
     have Nna10_nb10 := Aside0.mk (show na10 ≠ nb10 from Nat.ne_of_lt (Nat.lt_of_lt_of_le Fna10_2.out.lt hge))
     have R_3 := Aside0.mk (below_step R_2.out hb)
     clear hn hge hb
     refine Shut.out hK _ _ (cells10 Fg0_3.out Fg1_3.out) (fun hHeld => ?_)
     clear hK K
     refine wpAnyH_ready (rs := [4]) (by kernel_rfl) (by simp) (AllReadyH.cons rfl (fun K hK => ?_) AllReadyH.nil)
     go_simp
     obtain ⟨w4_, hw⟩ : ∃ v, (w3_.alloc (.cells #[.int .i64 8, .string ⟨#[]⟩, .int .i64 0, .int .i64 0, .slice (some ⟨na10, 0, none⟩) 1 1, .int .i64 8, .string ⟨#[]⟩, .int .i64 0, .int .i64 0, .slice (some ⟨nb10, 0, none⟩) 1 1] 40)) = v := ⟨_, rfl⟩
     obtain ⟨k10, hv⟩ : ∃ v, w3_.heap.size = v := ⟨_, rfl⟩
     have Fg0_4 := Aside0.mk (Fg0_3.out.alloc_ hw)
     have Fg1_4 := Aside0.mk (Fg1_3.out.alloc_ hw)
     have Fb10_4 := Aside0.mk (Fb10_3.out.alloc_ hw)
     have Fna10_4 := Aside0.mk (Fna10_3.out.alloc_ hw)
     have Fnb10_4 := Aside0.mk (Fnb10_3.out.alloc_ hw)
     have Fk10_4 := Aside0.mk (Blk.new_ hw hv)
     have R_4 := Aside0.mk (rest_ R_3.out hw R_3.out.size)
     have B_k10 := Aside0.mk (show wc.heap.size ≤ k10 from Nat.le_trans R_3.out.size (Nat.le_of_eq hv))
     have Ng0_k10 := Aside0.mk (Fg0_3.out.ne_ hv)
     have Ng1_k10 := Aside0.mk (Fg1_3.out.ne_ hv)
     have Nb10_k10 := Aside0.mk (Fb10_3.out.ne_ hv)
     have Nna10_k10 := Aside0.mk (Fna10_3.out.ne_ hv)
     have Nnb10_k10 := Aside0.mk (Fnb10_3.out.ne_ hv)
     rw [hw, hv]
     clear hv hw
     refine Shut.out hK _ _ (cells10 Fg0_4.out Fg1_4.out) (fun hHeld => ?_)
     clear hK K
     (try simp only [Act.put, List.getElem_toArray, List.getElem_cons_zero, List.getElem_cons_succ, List.setIfInBounds_toArray, List.set_cons_zero, List.set_cons_succ])
     (refine wpAnyH_take (i := 5) (v := ?_) rfl (by kernel_rfl) (by kernel_rfl) (by kernel_rfl) (fun _ _ _ h => h) (Or.inl ⟨by rfl, ?_⟩) (by assumption) ?_; (case' refine_2 => (intro w hSw; go_simp; try with_reducible rfl)); (try simp only [Act.put, List.getElem_toArray, List.getElem_cons_zero, List.getElem_cons_succ, List.setIfInBounds_toArray, List.set_cons_zero, List.set_cons_succ]))
     refine wpAnyH_ready (rs := [7]) (by kernel_rfl) (by simp) (AllReadyH.cons rfl (fun K hK => ?_) AllReadyH.nil)
     rw [if_pos (by rfl)]
     refine wp_store_row 40 (.tmp 10) (.tmp 39) rfl b10 #[.int .i64 6, .string ⟨#[]⟩, .int .i64 0, .int .i64 0, .slice (some ⟨k10, 0, none⟩) 2 2] rfl rfl 40 #[.int .i64 0, .string ⟨#[]⟩, .int .i64 0, .int .i64 0, .slice none 0 0] Fb10_4.out info_scope rfl (by simp [Value.oneCell']) ?_
     obtain ⟨w5_, hw⟩ : ∃ v, w4_.setRow b10 #[.int .i64 6, .string ⟨#[]⟩, .int .i64 0, .int .i64 0, .slice (some ⟨k10, 0, none⟩) 2 2] = v := ⟨_, rfl⟩
     have Fg0_5 := Aside0.mk (Fg0_4.out.other_ hw (fun h_ => Ng0_b10.out h_.symm))
     have Fg1_5 := Aside0.mk (Fg1_4.out.other_ hw (fun h_ => Ng1_b10.out h_.symm))
     have Fb10_5 := Aside0.mk (Fb10_4.out.same_ hw)
     have Fna10_5 := Aside0.mk (Fna10_4.out.other_ hw Nb10_na10.out)
     have Fnb10_5 := Aside0.mk (Fnb10_4.out.other_ hw Nb10_nb10.out)
     have Fk10_5 := Aside0.mk (Fk10_4.out.other_ hw Nb10_k10.out)
     have R_5 := Aside0.mk (rests_ R_4.out hw B_b10.out)
     rw [hw]
     clear hw
     refine Shut.out hK _ _ (cells10 Fg0_5.out Fg1_5.out) (fun hHeld => ?_)
     clear hK K
     (try simp only [Act.put, List.getElem_toArray, List.getElem_cons_zero, List.getElem_cons_succ, List.setIfInBounds_toArray, List.set_cons_zero, List.set_cons_succ])
     refine wpAnyH_done (by kernel_rfl) ?_ _
     go_wp2_with (fail)
     go_meet
     case rel => exact ⟨b10, k10, na10, nb10, rfl, Fb10_5.out, Fk10_5.out, Fna10_5.out, Fnb10_5.out, R_5.out⟩
  case rest =>
  obtain ⟨b10, k10, na10, nb10, rfl, h1, h2, h3, h4, h5⟩ := hcut
  have n_ := Aside0.mk (Blk.below M0.out h5)
  clear M0
  have M0 := n_
  clear n_
  have n_ := Aside0.mk (Blk.below M1.out h5)
  clear M1
  have M1 := n_
  clear n_
  have n_ := Aside0.mk (Blk.below M2.out h5)
  clear M2
  have M2 := n_
  clear n_
  have n_ := Aside0.mk (Blk.below B7.out h5)
  clear B7
  have B7 := n_
  clear n_
  have n_ := Aside0.mk (Blk.below K7.out h5)
  clear K7
  have K7 := n_
  clear n_
  have n_ := Aside0.mk (Blk.below B8.out h5)
  clear B8
  have B8 := n_
  clear n_
  have n_ := Aside0.mk (Blk.below K8.out h5)
  clear K8
  have K8 := n_
  clear n_
  have n_ := Aside0.mk (Blk.below B9.out h5)
  clear B9
  have B9 := n_
  clear n_
  have n_ := Aside0.mk (Blk.below K9.out h5)
  clear K9
  have K9 := n_
  clear n_
  have n_ := Aside0.mk (Blk.below NA9.out h5)
  clear NA9
  have NA9 := n_
  clear n_
  have n_ := Aside0.mk (Blk.below NB9.out h5)
  clear NB9
  have NB9 := n_
  clear n_
  have n_ := Aside0.mk (below_step MB.out h5)
  clear MB
  have MB := n_
  clear n_
  have B10 := Aside0.mk h1
  have K10 := Aside0.mk h2
  have NA10 := Aside0.mk h3
  have NB10 := Aside0.mk h4
  clear h1 h2 h3 h4 h5
  go_upto_region 6 with (fail)
  have hx := Kd.C_below HRX.out MB.out
  have hy := Kd.C_below HRY.out MB.out
  have C7 := Aside0.mk (row2 K7.out HCX.out hx HCY.out hy)
  have C8 := Aside0.mk (row2 K8.out HCX.out hx HCY.out hy)
  have C9 := Aside0.mk (row2 (z := notS x) (y := notS y) K9.out (Nat.le_refl _) (row1 NA9.out HCX.out hx) (Nat.le_refl _) (row1 NB9.out HCY.out hy))
  have C10 := Aside0.mk (row2 (z := notS x) (y := notS y) K10.out (Nat.le_refl _) (row1 NA10.out HCX.out hx) (Nat.le_refl _) (row1 NB10.out HCY.out hy))
  clear hx hy K7 K8 K9 K10 NA9 NA10 NB9 NB10 M1
  obtain ⟨mx, hmx⟩ : ∃ b, matchB q1 q2 q3 t x = b := ⟨_, rfl⟩
  obtain ⟨my, hmy⟩ : ∃ b, matchB q1 q2 q3 t y = b := ⟨_, rfl⟩
  obtain ⟨v1, hv1⟩ : ∃ b, (!(mx && my)) = b := ⟨_, rfl⟩
  obtain ⟨v2, hv2⟩ : ∃ b, (!(mx || my)) = b := ⟨_, rfl⟩
  have E1 := Aside0.mk (show matchB q1 q2 q3 t (notS (twoS 6 x y)) = v1 by rw [match_not, match_and, hmx, hmy, hv1])
  have E2 := Aside0.mk (show matchB q1 q2 q3 t (twoS 7 (notS x) (notS y)) = v1 by rw [match_or, match_not, match_not, hmx, hmy, ← hv1, Bool.not_and])
  have E3 := Aside0.mk (show matchB q1 q2 q3 t (notS (twoS 7 x y)) = v2 by rw [match_not, match_or, hmx, hmy, hv2])
  have E4 := Aside0.mk (show matchB q1 q2 q3 t (twoS 6 (notS x) (notS y)) = v2 by rw [match_and, match_not, match_not, hmx, hmy, ← hv2, Bool.not_or])
  have E5 := Aside0.mk (show matchB q1 q2 q3 t (notS (notS x)) = mx by rw [match_not, match_not, hmx, Bool.not_not])
  have E6 := Aside0.mk hmx
  clear hmx hmy hv1 hv2
  have Fb7_0 := Aside0.mk (show Blk wc.drew b7 40 #[.int .i64 6, .string ⟨#[]⟩, .int .i64 0, .int .i64 0, .slice (some ⟨k7, 0, none⟩) 2 2] from Blk.below B7.out (below_drew1 (Below.refl _ _)))
  have Fb8_0 := Aside0.mk (show Blk wc.drew b8 40 #[.int .i64 7, .string ⟨#[]⟩, .int .i64 0, .int .i64 0, .slice (some ⟨k8, 0, none⟩) 2 2] from Blk.below B8.out (below_drew1 (Below.refl _ _)))
  have Fb9_0 := Aside0.mk (show Blk wc.drew b9 40 #[.int .i64 7, .string ⟨#[]⟩, .int .i64 0, .int .i64 0, .slice (some ⟨k9, 0, none⟩) 2 2] from Blk.below B9.out (below_drew1 (Below.refl _ _)))
  have Fb10_0 := Aside0.mk (show Blk wc.drew b10 40 #[.int .i64 6, .string ⟨#[]⟩, .int .i64 0, .int .i64 0, .slice (some ⟨k10, 0, none⟩) 2 2] from Blk.below B10.out (below_drew1 (Below.refl _ _)))
  have Fg0_0 := Aside0.mk (show Blk wc.drew g0 40 #[.int .i64 x.f0, .string x.f1, .int .i64 x.f2, .int .i64 x.f3, .slice Ax x.f4.length cx] from Blk.below M0.out (below_drew1 (Below.refl _ _)))
  have Fg2_0 := Aside0.mk (show Blk wc.drew g2 46 #[.string q0, .string q1, .string q2, .string q3, .int .i64 t, .int .i64 u] from Blk.below M2.out (below_drew1 (Below.refl _ _)))
  have C7_0 := Aside0.mk (Kd.C_below C7.out (below_drew1 (Below.refl wc.heap.size wc)))
  have C8_0 := Aside0.mk (Kd.C_below C8.out (below_drew1 (Below.refl wc.heap.size wc)))
  have C9_0 := Aside0.mk (Kd.C_below C9.out (below_drew1 (Below.refl wc.heap.size wc)))
  have C10_0 := Aside0.mk (Kd.C_below C10.out (below_drew1 (Below.refl wc.heap.size wc)))
  have Q_0 := Aside0.mk (below_drew1 MB.out)
  refine wp_region_held_drew (S := fun w' => w'.cell? ⟨b7, 0, none⟩ = some (.int .i64 6) ∧ w'.cell? ⟨b7, 0 + 1, none⟩ = some (.string ⟨#[]⟩) ∧ w'.cell? ⟨b7, 0 + 2, none⟩ = some (.int .i64 0) ∧ w'.cell? ⟨b7, 0 + 3, none⟩ = some (.int .i64 0) ∧ w'.cell? ⟨b7, 0 + 4, none⟩ = some (.slice (some ⟨k7, 0, none⟩) 2 2) ∧ w'.cell? ⟨b8, 0, none⟩ = some (.int .i64 7) ∧ w'.cell? ⟨b8, 0 + 1, none⟩ = some (.string ⟨#[]⟩) ∧ w'.cell? ⟨b8, 0 + 2, none⟩ = some (.int .i64 0) ∧ w'.cell? ⟨b8, 0 + 3, none⟩ = some (.int .i64 0) ∧ w'.cell? ⟨b8, 0 + 4, none⟩ = some (.slice (some ⟨k8, 0, none⟩) 2 2) ∧ w'.cell? ⟨b9, 0, none⟩ = some (.int .i64 7) ∧ w'.cell? ⟨b9, 0 + 1, none⟩ = some (.string ⟨#[]⟩) ∧ w'.cell? ⟨b9, 0 + 2, none⟩ = some (.int .i64 0) ∧ w'.cell? ⟨b9, 0 + 3, none⟩ = some (.int .i64 0) ∧ w'.cell? ⟨b9, 0 + 4, none⟩ = some (.slice (some ⟨k9, 0, none⟩) 2 2) ∧ w'.cell? ⟨b10, 0, none⟩ = some (.int .i64 6) ∧ w'.cell? ⟨b10, 0 + 1, none⟩ = some (.string ⟨#[]⟩) ∧ w'.cell? ⟨b10, 0 + 2, none⟩ = some (.int .i64 0) ∧ w'.cell? ⟨b10, 0 + 3, none⟩ = some (.int .i64 0) ∧ w'.cell? ⟨b10, 0 + 4, none⟩ = some (.slice (some ⟨k10, 0, none⟩) 2 2) ∧ w'.cell? ⟨g0, 0, none⟩ = some (.int .i64 x.f0) ∧ w'.cell? ⟨g0, 0 + 1, none⟩ = some (.string x.f1) ∧ w'.cell? ⟨g0, 0 + 2, none⟩ = some (.int .i64 x.f2) ∧ w'.cell? ⟨g0, 0 + 3, none⟩ = some (.int .i64 x.f3) ∧ w'.cell? ⟨g0, 0 + 4, none⟩ = some (.slice Ax x.f4.length cx) ∧ w'.cell? ⟨g2, 0, none⟩ = some (.string q0) ∧ w'.cell? ⟨g2, 0 + 1, none⟩ = some (.string q1) ∧ w'.cell? ⟨g2, 0 + 2, none⟩ = some (.string q2) ∧ w'.cell? ⟨g2, 0 + 3, none⟩ = some (.string q3) ∧ w'.cell? ⟨g2, 0 + 4, none⟩ = some (.int .i64 t) ∧ w'.cell? ⟨g2, 0 + 5, none⟩ = some (.int .i64 u)) (by kernel_rfl) ⟨(Fb7_0.out.cell 0).trans rfl, (Fb7_0.out.cell 1).trans rfl, (Fb7_0.out.cell 2).trans rfl, (Fb7_0.out.cell 3).trans rfl, (Fb7_0.out.cell 4).trans rfl, (Fb8_0.out.cell 0).trans rfl, (Fb8_0.out.cell 1).trans rfl, (Fb8_0.out.cell 2).trans rfl, (Fb8_0.out.cell 3).trans rfl, (Fb8_0.out.cell 4).trans rfl, (Fb9_0.out.cell 0).trans rfl, (Fb9_0.out.cell 1).trans rfl, (Fb9_0.out.cell 2).trans rfl, (Fb9_0.out.cell 3).trans rfl, (Fb9_0.out.cell 4).trans rfl, (Fb10_0.out.cell 0).trans rfl, (Fb10_0.out.cell 1).trans rfl, (Fb10_0.out.cell 2).trans rfl, (Fb10_0.out.cell 3).trans rfl, (Fb10_0.out.cell 4).trans rfl, (Fg0_0.out.cell 0).trans rfl, (Fg0_0.out.cell 1).trans rfl, (Fg0_0.out.cell 2).trans rfl, (Fg0_0.out.cell 3).trans rfl, (Fg0_0.out.cell 4).trans rfl, (Fg2_0.out.cell 0).trans rfl, (Fg2_0.out.cell 1).trans rfl, (Fg2_0.out.cell 2).trans rfl, (Fg2_0.out.cell 3).trans rfl, (Fg2_0.out.cell 4).trans rfl, (Fg2_0.out.cell 5).trans rfl⟩ (fun hHeld => ?_)
  (refine wpAnyH_take (i := 0) (v := ?_) rfl (by kernel_rfl) (by kernel_rfl) (by kernel_rfl) (fun _ _ _ h => h) (Or.inl ⟨by rfl, ?_⟩) (by assumption) ?_; (case' refine_2 => (intro w hSw; go_simp; try with_reducible rfl)); (try simp only [Act.put, List.getElem_toArray, List.getElem_cons_zero, List.getElem_cons_succ, List.setIfInBounds_toArray, List.set_cons_zero, List.set_cons_succ]))
  (refine wpAnyH_take (i := 2) (v := ?_) rfl (by kernel_rfl) (by kernel_rfl) (by kernel_rfl) (fun _ _ _ h => h) (Or.inl ⟨by rfl, ?_⟩) (by assumption) ?_; (case' refine_2 => (intro w hSw; go_simp; try with_reducible rfl)); (try simp only [Act.put, List.getElem_toArray, List.getElem_cons_zero, List.getElem_cons_succ, List.setIfInBounds_toArray, List.set_cons_zero, List.set_cons_succ]))
  (refine wpAnyH_take (i := 4) (v := ?_) rfl (by kernel_rfl) (by kernel_rfl) (by kernel_rfl) (fun _ _ _ h => h) (Or.inl ⟨by rfl, ?_⟩) (by assumption) ?_; (case' refine_2 => (intro w hSw; go_simp; try with_reducible rfl)); (try simp only [Act.put, List.getElem_toArray, List.getElem_cons_zero, List.getElem_cons_succ, List.setIfInBounds_toArray, List.set_cons_zero, List.set_cons_succ]))
  (refine wpAnyH_take (i := 5) (v := ?_) rfl (by kernel_rfl) (by kernel_rfl) (by kernel_rfl) (fun _ _ _ h => h) (Or.inl ⟨by rfl, ?_⟩) (by assumption) ?_; (case' refine_2 => (intro w hSw; go_simp; try with_reducible rfl)); (try simp only [Act.put, List.getElem_toArray, List.getElem_cons_zero, List.getElem_cons_succ, List.setIfInBounds_toArray, List.set_cons_zero, List.set_cons_succ]))
  (refine wpAnyH_ready (rs := [1]) (by kernel_rfl) (by simp) (AllReadyH.cons rfl (fun K hK => ?_) AllReadyH.nil); go_simp)
  refine (not_c 6 ⟨#[]⟩ 0 0 (some ⟨k7, 0, none⟩) 2 2 _).mono ?_
  rintro e z_1 ⟨m1, rfl, hn, _, hb⟩
  have Fb7_1 := Aside0.mk (Fb7_0.out.below hb)
  have Fb8_1 := Aside0.mk (Fb8_0.out.below hb)
  have Fb9_1 := Aside0.mk (Fb9_0.out.below hb)
  have Fb10_1 := Aside0.mk (Fb10_0.out.below hb)
  have Fg0_1 := Aside0.mk (Fg0_0.out.below hb)
  have Fg2_1 := Aside0.mk (Fg2_0.out.below hb)
  have C7_1 := Aside0.mk (Kd.C_below C7_0.out hb)
  have C8_1 := Aside0.mk (Kd.C_below C8_0.out hb)
  have C9_1 := Aside0.mk (Kd.C_below C9_0.out hb)
  have C10_1 := Aside0.mk (Kd.C_below C10_0.out hb)
  have Q_1 := Aside0.mk (below_step Q_0.out hb)
  clear hb
  have X_m1_1 := Aside0.mk hn
  clear hn
  (refine Shut.out hK _ _ ⟨(Fb7_1.out.cell 0).trans rfl, (Fb7_1.out.cell 1).trans rfl, (Fb7_1.out.cell 2).trans rfl, (Fb7_1.out.cell 3).trans rfl, (Fb7_1.out.cell 4).trans rfl, (Fb8_1.out.cell 0).trans rfl, (Fb8_1.out.cell 1).trans rfl, (Fb8_1.out.cell 2).trans rfl, (Fb8_1.out.cell 3).trans rfl, (Fb8_1.out.cell 4).trans rfl, (Fb9_1.out.cell 0).trans rfl, (Fb9_1.out.cell 1).trans rfl, (Fb9_1.out.cell 2).trans rfl, (Fb9_1.out.cell 3).trans rfl, (Fb9_1.out.cell 4).trans rfl, (Fb10_1.out.cell 0).trans rfl, (Fb10_1.out.cell 1).trans rfl, (Fb10_1.out.cell 2).trans rfl, (Fb10_1.out.cell 3).trans rfl, (Fb10_1.out.cell 4).trans rfl, (Fg0_1.out.cell 0).trans rfl, (Fg0_1.out.cell 1).trans rfl, (Fg0_1.out.cell 2).trans rfl, (Fg0_1.out.cell 3).trans rfl, (Fg0_1.out.cell 4).trans rfl, (Fg2_1.out.cell 0).trans rfl, (Fg2_1.out.cell 1).trans rfl, (Fg2_1.out.cell 2).trans rfl, (Fg2_1.out.cell 3).trans rfl, (Fg2_1.out.cell 4).trans rfl, (Fg2_1.out.cell 5).trans rfl⟩ (fun hHeld => ?_); clear hK K; (try simp only [Act.put, List.getElem_toArray, List.getElem_cons_zero, List.getElem_cons_succ, List.setIfInBounds_toArray, List.set_cons_zero, List.set_cons_succ]))
  (refine wpAnyH_ready (rs := [3]) (by kernel_rfl) (by simp) (AllReadyH.cons rfl (fun K hK => ?_) AllReadyH.nil); go_simp)
  have hm_ := match_c (notS (twoS 6 x y)) q0 q1 q2 q3 t u (some ⟨m1, 0, none⟩) 1 _ (row1 (z := twoS 6 x y) X_m1_1.out (Nat.le_refl _) C7_1.out) (by first | exact HCX.out | exact Nat.le_refl _)
  rw [E1.out] at hm_
  refine hm_.mono ?_
  clear hm_
  rintro e z_2 ⟨rfl, hb⟩
  have Fb7_2 := Aside0.mk (Fb7_1.out.below hb)
  have Fb8_2 := Aside0.mk (Fb8_1.out.below hb)
  have Fb9_2 := Aside0.mk (Fb9_1.out.below hb)
  have Fb10_2 := Aside0.mk (Fb10_1.out.below hb)
  have Fg0_2 := Aside0.mk (Fg0_1.out.below hb)
  have Fg2_2 := Aside0.mk (Fg2_1.out.below hb)
  have C7_2 := Aside0.mk (Kd.C_below C7_1.out hb)
  have C8_2 := Aside0.mk (Kd.C_below C8_1.out hb)
  have C9_2 := Aside0.mk (Kd.C_below C9_1.out hb)
  have C10_2 := Aside0.mk (Kd.C_below C10_1.out hb)
  have X_m1_2 := Aside0.mk (Blk.below X_m1_1.out hb)
  have Q_2 := Aside0.mk (below_step Q_1.out hb)
  clear hb
  (refine Shut.out hK _ _ ⟨(Fb7_2.out.cell 0).trans rfl, (Fb7_2.out.cell 1).trans rfl, (Fb7_2.out.cell 2).trans rfl, (Fb7_2.out.cell 3).trans rfl, (Fb7_2.out.cell 4).trans rfl, (Fb8_2.out.cell 0).trans rfl, (Fb8_2.out.cell 1).trans rfl, (Fb8_2.out.cell 2).trans rfl, (Fb8_2.out.cell 3).trans rfl, (Fb8_2.out.cell 4).trans rfl, (Fb9_2.out.cell 0).trans rfl, (Fb9_2.out.cell 1).trans rfl, (Fb9_2.out.cell 2).trans rfl, (Fb9_2.out.cell 3).trans rfl, (Fb9_2.out.cell 4).trans rfl, (Fb10_2.out.cell 0).trans rfl, (Fb10_2.out.cell 1).trans rfl, (Fb10_2.out.cell 2).trans rfl, (Fb10_2.out.cell 3).trans rfl, (Fb10_2.out.cell 4).trans rfl, (Fg0_2.out.cell 0).trans rfl, (Fg0_2.out.cell 1).trans rfl, (Fg0_2.out.cell 2).trans rfl, (Fg0_2.out.cell 3).trans rfl, (Fg0_2.out.cell 4).trans rfl, (Fg2_2.out.cell 0).trans rfl, (Fg2_2.out.cell 1).trans rfl, (Fg2_2.out.cell 2).trans rfl, (Fg2_2.out.cell 3).trans rfl, (Fg2_2.out.cell 4).trans rfl, (Fg2_2.out.cell 5).trans rfl⟩ (fun hHeld => ?_); clear hK K; (try simp only [Act.put, List.getElem_toArray, List.getElem_cons_zero, List.getElem_cons_succ, List.setIfInBounds_toArray, List.set_cons_zero, List.set_cons_succ]))
  (refine wpAnyH_ready (rs := [6]) (by kernel_rfl) (by simp) (AllReadyH.cons rfl (fun K hK => ?_) AllReadyH.nil); go_simp)
  have hm_ := match_c (twoS 7 (notS x) (notS y)) q0 q1 q2 q3 t u (some ⟨k9, 0, none⟩) 2 _ (C9_2.out) (by first | exact HCX.out | exact Nat.le_refl _)
  rw [E2.out] at hm_
  refine hm_.mono ?_
  clear hm_
  rintro e z_3 ⟨rfl, hb⟩
  have Fb7_3 := Aside0.mk (Fb7_2.out.below hb)
  have Fb8_3 := Aside0.mk (Fb8_2.out.below hb)
  have Fb9_3 := Aside0.mk (Fb9_2.out.below hb)
  have Fb10_3 := Aside0.mk (Fb10_2.out.below hb)
  have Fg0_3 := Aside0.mk (Fg0_2.out.below hb)
  have Fg2_3 := Aside0.mk (Fg2_2.out.below hb)
  have C7_3 := Aside0.mk (Kd.C_below C7_2.out hb)
  have C8_3 := Aside0.mk (Kd.C_below C8_2.out hb)
  have C9_3 := Aside0.mk (Kd.C_below C9_2.out hb)
  have C10_3 := Aside0.mk (Kd.C_below C10_2.out hb)
  have X_m1_3 := Aside0.mk (Blk.below X_m1_2.out hb)
  have Q_3 := Aside0.mk (below_step Q_2.out hb)
  clear hb
  (refine Shut.out hK _ _ ⟨(Fb7_3.out.cell 0).trans rfl, (Fb7_3.out.cell 1).trans rfl, (Fb7_3.out.cell 2).trans rfl, (Fb7_3.out.cell 3).trans rfl, (Fb7_3.out.cell 4).trans rfl, (Fb8_3.out.cell 0).trans rfl, (Fb8_3.out.cell 1).trans rfl, (Fb8_3.out.cell 2).trans rfl, (Fb8_3.out.cell 3).trans rfl, (Fb8_3.out.cell 4).trans rfl, (Fb9_3.out.cell 0).trans rfl, (Fb9_3.out.cell 1).trans rfl, (Fb9_3.out.cell 2).trans rfl, (Fb9_3.out.cell 3).trans rfl, (Fb9_3.out.cell 4).trans rfl, (Fb10_3.out.cell 0).trans rfl, (Fb10_3.out.cell 1).trans rfl, (Fb10_3.out.cell 2).trans rfl, (Fb10_3.out.cell 3).trans rfl, (Fb10_3.out.cell 4).trans rfl, (Fg0_3.out.cell 0).trans rfl, (Fg0_3.out.cell 1).trans rfl, (Fg0_3.out.cell 2).trans rfl, (Fg0_3.out.cell 3).trans rfl, (Fg0_3.out.cell 4).trans rfl, (Fg2_3.out.cell 0).trans rfl, (Fg2_3.out.cell 1).trans rfl, (Fg2_3.out.cell 2).trans rfl, (Fg2_3.out.cell 3).trans rfl, (Fg2_3.out.cell 4).trans rfl, (Fg2_3.out.cell 5).trans rfl⟩ (fun hHeld => ?_); clear hK K; (try simp only [Act.put, List.getElem_toArray, List.getElem_cons_zero, List.getElem_cons_succ, List.setIfInBounds_toArray, List.set_cons_zero, List.set_cons_succ]))
  (refine wpAnyH_take (i := 7) (v := ?_) rfl (by kernel_rfl) (by kernel_rfl) (by kernel_rfl) (fun _ _ _ h => h) (Or.inl ⟨by rfl, ?_⟩) (by assumption) ?_; (case' refine_2 => (intro w hSw; go_simp; try with_reducible rfl)); (try simp only [Act.put, List.getElem_toArray, List.getElem_cons_zero, List.getElem_cons_succ, List.setIfInBounds_toArray, List.set_cons_zero, List.set_cons_succ]))
  (refine wpAnyH_take (i := 8) (v := ?_) rfl (by kernel_rfl) (by kernel_rfl) (by kernel_rfl) (fun _ _ _ h => h) (Or.inl ⟨by rfl, ?_⟩) (by assumption) ?_; (case' refine_2 => (intro w hSw; go_simp; try with_reducible rfl)); (try simp only [Act.put, List.getElem_toArray, List.getElem_cons_zero, List.getElem_cons_succ, List.setIfInBounds_toArray, List.set_cons_zero, List.set_cons_succ]))
  (refine wpAnyH_take (i := 9) (v := ?_) rfl (by kernel_rfl) (by kernel_rfl) (by kernel_rfl) (fun _ _ _ h => h) (Or.inl ⟨by rfl, ?_⟩) (by assumption) ?_; (case' refine_2 => (intro w hSw; go_simp; try with_reducible rfl)); (try simp only [Act.put, List.getElem_toArray, List.getElem_cons_zero, List.getElem_cons_succ, List.setIfInBounds_toArray, List.set_cons_zero, List.set_cons_succ]))
  (refine wpAnyH_take (i := 11) (v := ?_) rfl (by kernel_rfl) (by kernel_rfl) (by kernel_rfl) (fun _ _ _ h => h) (Or.inl ⟨by rfl, ?_⟩) (by assumption) ?_; (case' refine_2 => (intro w hSw; go_simp; try with_reducible rfl)); (try simp only [Act.put, List.getElem_toArray, List.getElem_cons_zero, List.getElem_cons_succ, List.setIfInBounds_toArray, List.set_cons_zero, List.set_cons_succ]))
  (refine wpAnyH_take (i := 13) (v := ?_) rfl (by kernel_rfl) (by kernel_rfl) (by kernel_rfl) (fun _ _ _ h => h) (Or.inl ⟨by rfl, ?_⟩) (by assumption) ?_; (case' refine_2 => (intro w hSw; go_simp; try with_reducible rfl)); (try simp only [Act.put, List.getElem_toArray, List.getElem_cons_zero, List.getElem_cons_succ, List.setIfInBounds_toArray, List.set_cons_zero, List.set_cons_succ]))
  (refine wpAnyH_take (i := 14) (v := ?_) rfl (by kernel_rfl) (by kernel_rfl) (by kernel_rfl) (fun _ _ _ h => h) (Or.inl ⟨by rfl, ?_⟩) (by assumption) ?_; (case' refine_2 => (intro w hSw; go_simp; try with_reducible rfl)); (try simp only [Act.put, List.getElem_toArray, List.getElem_cons_zero, List.getElem_cons_succ, List.setIfInBounds_toArray, List.set_cons_zero, List.set_cons_succ]))
  (refine wpAnyH_ready (rs := [10]) (by kernel_rfl) (by simp) (AllReadyH.cons rfl (fun K hK => ?_) AllReadyH.nil); go_simp)
  refine (not_c 7 ⟨#[]⟩ 0 0 (some ⟨k8, 0, none⟩) 2 2 _).mono ?_
  rintro e z_4 ⟨m2, rfl, hn, _, hb⟩
  have Fb7_4 := Aside0.mk (Fb7_3.out.below hb)
  have Fb8_4 := Aside0.mk (Fb8_3.out.below hb)
  have Fb9_4 := Aside0.mk (Fb9_3.out.below hb)
  have Fb10_4 := Aside0.mk (Fb10_3.out.below hb)
  have Fg0_4 := Aside0.mk (Fg0_3.out.below hb)
  have Fg2_4 := Aside0.mk (Fg2_3.out.below hb)
  have C7_4 := Aside0.mk (Kd.C_below C7_3.out hb)
  have C8_4 := Aside0.mk (Kd.C_below C8_3.out hb)
  have C9_4 := Aside0.mk (Kd.C_below C9_3.out hb)
  have C10_4 := Aside0.mk (Kd.C_below C10_3.out hb)
  have X_m1_4 := Aside0.mk (Blk.below X_m1_3.out hb)
  have Q_4 := Aside0.mk (below_step Q_3.out hb)
  clear hb
  have X_m2_4 := Aside0.mk hn
  clear hn
  (refine Shut.out hK _ _ ⟨(Fb7_4.out.cell 0).trans rfl, (Fb7_4.out.cell 1).trans rfl, (Fb7_4.out.cell 2).trans rfl, (Fb7_4.out.cell 3).trans rfl, (Fb7_4.out.cell 4).trans rfl, (Fb8_4.out.cell 0).trans rfl, (Fb8_4.out.cell 1).trans rfl, (Fb8_4.out.cell 2).trans rfl, (Fb8_4.out.cell 3).trans rfl, (Fb8_4.out.cell 4).trans rfl, (Fb9_4.out.cell 0).trans rfl, (Fb9_4.out.cell 1).trans rfl, (Fb9_4.out.cell 2).trans rfl, (Fb9_4.out.cell 3).trans rfl, (Fb9_4.out.cell 4).trans rfl, (Fb10_4.out.cell 0).trans rfl, (Fb10_4.out.cell 1).trans rfl, (Fb10_4.out.cell 2).trans rfl, (Fb10_4.out.cell 3).trans rfl, (Fb10_4.out.cell 4).trans rfl, (Fg0_4.out.cell 0).trans rfl, (Fg0_4.out.cell 1).trans rfl, (Fg0_4.out.cell 2).trans rfl, (Fg0_4.out.cell 3).trans rfl, (Fg0_4.out.cell 4).trans rfl, (Fg2_4.out.cell 0).trans rfl, (Fg2_4.out.cell 1).trans rfl, (Fg2_4.out.cell 2).trans rfl, (Fg2_4.out.cell 3).trans rfl, (Fg2_4.out.cell 4).trans rfl, (Fg2_4.out.cell 5).trans rfl⟩ (fun hHeld => ?_); clear hK K; (try simp only [Act.put, List.getElem_toArray, List.getElem_cons_zero, List.getElem_cons_succ, List.setIfInBounds_toArray, List.set_cons_zero, List.set_cons_succ]))
  (refine wpAnyH_ready (rs := [12]) (by kernel_rfl) (by simp) (AllReadyH.cons rfl (fun K hK => ?_) AllReadyH.nil); go_simp)
  have hm_ := match_c (notS (twoS 7 x y)) q0 q1 q2 q3 t u (some ⟨m2, 0, none⟩) 1 _ (row1 (z := twoS 7 x y) X_m2_4.out (Nat.le_refl _) C8_4.out) (by first | exact HCX.out | exact Nat.le_refl _)
  rw [E3.out] at hm_
  refine hm_.mono ?_
  clear hm_
  rintro e z_5 ⟨rfl, hb⟩
  have Fb7_5 := Aside0.mk (Fb7_4.out.below hb)
  have Fb8_5 := Aside0.mk (Fb8_4.out.below hb)
  have Fb9_5 := Aside0.mk (Fb9_4.out.below hb)
  have Fb10_5 := Aside0.mk (Fb10_4.out.below hb)
  have Fg0_5 := Aside0.mk (Fg0_4.out.below hb)
  have Fg2_5 := Aside0.mk (Fg2_4.out.below hb)
  have C7_5 := Aside0.mk (Kd.C_below C7_4.out hb)
  have C8_5 := Aside0.mk (Kd.C_below C8_4.out hb)
  have C9_5 := Aside0.mk (Kd.C_below C9_4.out hb)
  have C10_5 := Aside0.mk (Kd.C_below C10_4.out hb)
  have X_m1_5 := Aside0.mk (Blk.below X_m1_4.out hb)
  have X_m2_5 := Aside0.mk (Blk.below X_m2_4.out hb)
  have Q_5 := Aside0.mk (below_step Q_4.out hb)
  clear hb
  (refine Shut.out hK _ _ ⟨(Fb7_5.out.cell 0).trans rfl, (Fb7_5.out.cell 1).trans rfl, (Fb7_5.out.cell 2).trans rfl, (Fb7_5.out.cell 3).trans rfl, (Fb7_5.out.cell 4).trans rfl, (Fb8_5.out.cell 0).trans rfl, (Fb8_5.out.cell 1).trans rfl, (Fb8_5.out.cell 2).trans rfl, (Fb8_5.out.cell 3).trans rfl, (Fb8_5.out.cell 4).trans rfl, (Fb9_5.out.cell 0).trans rfl, (Fb9_5.out.cell 1).trans rfl, (Fb9_5.out.cell 2).trans rfl, (Fb9_5.out.cell 3).trans rfl, (Fb9_5.out.cell 4).trans rfl, (Fb10_5.out.cell 0).trans rfl, (Fb10_5.out.cell 1).trans rfl, (Fb10_5.out.cell 2).trans rfl, (Fb10_5.out.cell 3).trans rfl, (Fb10_5.out.cell 4).trans rfl, (Fg0_5.out.cell 0).trans rfl, (Fg0_5.out.cell 1).trans rfl, (Fg0_5.out.cell 2).trans rfl, (Fg0_5.out.cell 3).trans rfl, (Fg0_5.out.cell 4).trans rfl, (Fg2_5.out.cell 0).trans rfl, (Fg2_5.out.cell 1).trans rfl, (Fg2_5.out.cell 2).trans rfl, (Fg2_5.out.cell 3).trans rfl, (Fg2_5.out.cell 4).trans rfl, (Fg2_5.out.cell 5).trans rfl⟩ (fun hHeld => ?_); clear hK K; (try simp only [Act.put, List.getElem_toArray, List.getElem_cons_zero, List.getElem_cons_succ, List.setIfInBounds_toArray, List.set_cons_zero, List.set_cons_succ]))
  (refine wpAnyH_ready (rs := [15]) (by kernel_rfl) (by simp) (AllReadyH.cons rfl (fun K hK => ?_) AllReadyH.nil); go_simp)
  have hm_ := match_c (twoS 6 (notS x) (notS y)) q0 q1 q2 q3 t u (some ⟨k10, 0, none⟩) 2 _ (C10_5.out) (by first | exact HCX.out | exact Nat.le_refl _)
  rw [E4.out] at hm_
  refine hm_.mono ?_
  clear hm_
  rintro e z_6 ⟨rfl, hb⟩
  have Fb7_6 := Aside0.mk (Fb7_5.out.below hb)
  have Fb8_6 := Aside0.mk (Fb8_5.out.below hb)
  have Fb9_6 := Aside0.mk (Fb9_5.out.below hb)
  have Fb10_6 := Aside0.mk (Fb10_5.out.below hb)
  have Fg0_6 := Aside0.mk (Fg0_5.out.below hb)
  have Fg2_6 := Aside0.mk (Fg2_5.out.below hb)
  have C7_6 := Aside0.mk (Kd.C_below C7_5.out hb)
  have C8_6 := Aside0.mk (Kd.C_below C8_5.out hb)
  have C9_6 := Aside0.mk (Kd.C_below C9_5.out hb)
  have C10_6 := Aside0.mk (Kd.C_below C10_5.out hb)
  have X_m1_6 := Aside0.mk (Blk.below X_m1_5.out hb)
  have X_m2_6 := Aside0.mk (Blk.below X_m2_5.out hb)
  have Q_6 := Aside0.mk (below_step Q_5.out hb)
  clear hb
  (refine Shut.out hK _ _ ⟨(Fb7_6.out.cell 0).trans rfl, (Fb7_6.out.cell 1).trans rfl, (Fb7_6.out.cell 2).trans rfl, (Fb7_6.out.cell 3).trans rfl, (Fb7_6.out.cell 4).trans rfl, (Fb8_6.out.cell 0).trans rfl, (Fb8_6.out.cell 1).trans rfl, (Fb8_6.out.cell 2).trans rfl, (Fb8_6.out.cell 3).trans rfl, (Fb8_6.out.cell 4).trans rfl, (Fb9_6.out.cell 0).trans rfl, (Fb9_6.out.cell 1).trans rfl, (Fb9_6.out.cell 2).trans rfl, (Fb9_6.out.cell 3).trans rfl, (Fb9_6.out.cell 4).trans rfl, (Fb10_6.out.cell 0).trans rfl, (Fb10_6.out.cell 1).trans rfl, (Fb10_6.out.cell 2).trans rfl, (Fb10_6.out.cell 3).trans rfl, (Fb10_6.out.cell 4).trans rfl, (Fg0_6.out.cell 0).trans rfl, (Fg0_6.out.cell 1).trans rfl, (Fg0_6.out.cell 2).trans rfl, (Fg0_6.out.cell 3).trans rfl, (Fg0_6.out.cell 4).trans rfl, (Fg2_6.out.cell 0).trans rfl, (Fg2_6.out.cell 1).trans rfl, (Fg2_6.out.cell 2).trans rfl, (Fg2_6.out.cell 3).trans rfl, (Fg2_6.out.cell 4).trans rfl, (Fg2_6.out.cell 5).trans rfl⟩ (fun hHeld => ?_); clear hK K; (try simp only [Act.put, List.getElem_toArray, List.getElem_cons_zero, List.getElem_cons_succ, List.setIfInBounds_toArray, List.set_cons_zero, List.set_cons_succ]))
  (refine wpAnyH_take (i := 16) (v := ?_) rfl (by kernel_rfl) (by kernel_rfl) (by kernel_rfl) (fun _ _ _ h => h) (Or.inl ⟨by rfl, ?_⟩) (by assumption) ?_; (case' refine_2 => (intro w hSw; go_simp; try with_reducible rfl)); (try simp only [Act.put, List.getElem_toArray, List.getElem_cons_zero, List.getElem_cons_succ, List.setIfInBounds_toArray, List.set_cons_zero, List.set_cons_succ]))
  (refine wpAnyH_take (i := 17) (v := ?_) rfl (by kernel_rfl) (by kernel_rfl) (by kernel_rfl) (fun _ _ _ h => h) (Or.inl ⟨by rfl, ?_⟩) (by assumption) ?_; (case' refine_2 => (intro w hSw; go_simp; try with_reducible rfl)); (try simp only [Act.put, List.getElem_toArray, List.getElem_cons_zero, List.getElem_cons_succ, List.setIfInBounds_toArray, List.set_cons_zero, List.set_cons_succ]))
  (refine wpAnyH_take (i := 18) (v := ?_) rfl (by kernel_rfl) (by kernel_rfl) (by kernel_rfl) (fun _ _ _ h => h) (Or.inl ⟨by rfl, ?_⟩) (by assumption) ?_; (case' refine_2 => (intro w hSw; go_simp; try with_reducible rfl)); (try simp only [Act.put, List.getElem_toArray, List.getElem_cons_zero, List.getElem_cons_succ, List.setIfInBounds_toArray, List.set_cons_zero, List.set_cons_succ]))
  (refine wpAnyH_take (i := 19) (v := ?_) rfl (by kernel_rfl) (by kernel_rfl) (by kernel_rfl) (fun _ _ _ h => h) (Or.inl ⟨by rfl, ?_⟩) (by assumption) ?_; (case' refine_2 => (intro w hSw; go_simp; try with_reducible rfl)); (try simp only [Act.put, List.getElem_toArray, List.getElem_cons_zero, List.getElem_cons_succ, List.setIfInBounds_toArray, List.set_cons_zero, List.set_cons_succ]))
  (refine wpAnyH_take (i := 22) (v := ?_) rfl (by kernel_rfl) (by kernel_rfl) (by kernel_rfl) (fun _ _ _ h => h) (Or.inl ⟨by rfl, ?_⟩) (by assumption) ?_; (case' refine_2 => (intro w hSw; go_simp; try with_reducible rfl)); (try simp only [Act.put, List.getElem_toArray, List.getElem_cons_zero, List.getElem_cons_succ, List.setIfInBounds_toArray, List.set_cons_zero, List.set_cons_succ]))
  (refine wpAnyH_take (i := 24) (v := ?_) rfl (by kernel_rfl) (by kernel_rfl) (by kernel_rfl) (fun _ _ _ h => h) (Or.inl ⟨by rfl, ?_⟩) (by assumption) ?_; (case' refine_2 => (intro w hSw; go_simp; try with_reducible rfl)); (try simp only [Act.put, List.getElem_toArray, List.getElem_cons_zero, List.getElem_cons_succ, List.setIfInBounds_toArray, List.set_cons_zero, List.set_cons_succ]))
  (refine wpAnyH_take (i := 25) (v := ?_) rfl (by kernel_rfl) (by kernel_rfl) (by kernel_rfl) (fun _ _ _ h => h) (Or.inl ⟨by rfl, ?_⟩) (by assumption) ?_; (case' refine_2 => (intro w hSw; go_simp; try with_reducible rfl)); (try simp only [Act.put, List.getElem_toArray, List.getElem_cons_zero, List.getElem_cons_succ, List.setIfInBounds_toArray, List.set_cons_zero, List.set_cons_succ]))
  (refine wpAnyH_ready (rs := [20]) (by kernel_rfl) (by simp) (AllReadyH.cons rfl (fun K hK => ?_) AllReadyH.nil); go_simp)
  refine (not_c x.f0 x.f1 x.f2 x.f3 Ax x.f4.length cx _).mono ?_
  rintro e z_7 ⟨m3, rfl, hn, _, hb⟩
  have Fb7_7 := Aside0.mk (Fb7_6.out.below hb)
  have Fb8_7 := Aside0.mk (Fb8_6.out.below hb)
  have Fb9_7 := Aside0.mk (Fb9_6.out.below hb)
  have Fb10_7 := Aside0.mk (Fb10_6.out.below hb)
  have Fg0_7 := Aside0.mk (Fg0_6.out.below hb)
  have Fg2_7 := Aside0.mk (Fg2_6.out.below hb)
  have C7_7 := Aside0.mk (Kd.C_below C7_6.out hb)
  have C8_7 := Aside0.mk (Kd.C_below C8_6.out hb)
  have C9_7 := Aside0.mk (Kd.C_below C9_6.out hb)
  have C10_7 := Aside0.mk (Kd.C_below C10_6.out hb)
  have X_m1_7 := Aside0.mk (Blk.below X_m1_6.out hb)
  have X_m2_7 := Aside0.mk (Blk.below X_m2_6.out hb)
  have Q_7 := Aside0.mk (below_step Q_6.out hb)
  clear hb
  have X_m3_7 := Aside0.mk hn
  clear hn
  (refine Shut.out hK _ _ ⟨(Fb7_7.out.cell 0).trans rfl, (Fb7_7.out.cell 1).trans rfl, (Fb7_7.out.cell 2).trans rfl, (Fb7_7.out.cell 3).trans rfl, (Fb7_7.out.cell 4).trans rfl, (Fb8_7.out.cell 0).trans rfl, (Fb8_7.out.cell 1).trans rfl, (Fb8_7.out.cell 2).trans rfl, (Fb8_7.out.cell 3).trans rfl, (Fb8_7.out.cell 4).trans rfl, (Fb9_7.out.cell 0).trans rfl, (Fb9_7.out.cell 1).trans rfl, (Fb9_7.out.cell 2).trans rfl, (Fb9_7.out.cell 3).trans rfl, (Fb9_7.out.cell 4).trans rfl, (Fb10_7.out.cell 0).trans rfl, (Fb10_7.out.cell 1).trans rfl, (Fb10_7.out.cell 2).trans rfl, (Fb10_7.out.cell 3).trans rfl, (Fb10_7.out.cell 4).trans rfl, (Fg0_7.out.cell 0).trans rfl, (Fg0_7.out.cell 1).trans rfl, (Fg0_7.out.cell 2).trans rfl, (Fg0_7.out.cell 3).trans rfl, (Fg0_7.out.cell 4).trans rfl, (Fg2_7.out.cell 0).trans rfl, (Fg2_7.out.cell 1).trans rfl, (Fg2_7.out.cell 2).trans rfl, (Fg2_7.out.cell 3).trans rfl, (Fg2_7.out.cell 4).trans rfl, (Fg2_7.out.cell 5).trans rfl⟩ (fun hHeld => ?_); clear hK K; (try simp only [Act.put, List.getElem_toArray, List.getElem_cons_zero, List.getElem_cons_succ, List.setIfInBounds_toArray, List.set_cons_zero, List.set_cons_succ]))
  (refine wpAnyH_ready (rs := [21]) (by kernel_rfl) (by simp) (AllReadyH.cons rfl (fun K hK => ?_) AllReadyH.nil); go_simp)
  refine (not_c 8 ⟨#[]⟩ 0 0 (some ⟨m3, 0, none⟩) 1 1 _).mono ?_
  rintro e z_8 ⟨m4, rfl, hn, _, hb⟩
  have Fb7_8 := Aside0.mk (Fb7_7.out.below hb)
  have Fb8_8 := Aside0.mk (Fb8_7.out.below hb)
  have Fb9_8 := Aside0.mk (Fb9_7.out.below hb)
  have Fb10_8 := Aside0.mk (Fb10_7.out.below hb)
  have Fg0_8 := Aside0.mk (Fg0_7.out.below hb)
  have Fg2_8 := Aside0.mk (Fg2_7.out.below hb)
  have C7_8 := Aside0.mk (Kd.C_below C7_7.out hb)
  have C8_8 := Aside0.mk (Kd.C_below C8_7.out hb)
  have C9_8 := Aside0.mk (Kd.C_below C9_7.out hb)
  have C10_8 := Aside0.mk (Kd.C_below C10_7.out hb)
  have X_m1_8 := Aside0.mk (Blk.below X_m1_7.out hb)
  have X_m2_8 := Aside0.mk (Blk.below X_m2_7.out hb)
  have X_m3_8 := Aside0.mk (Blk.below X_m3_7.out hb)
  have Q_8 := Aside0.mk (below_step Q_7.out hb)
  clear hb
  have X_m4_8 := Aside0.mk hn
  clear hn
  (refine Shut.out hK _ _ ⟨(Fb7_8.out.cell 0).trans rfl, (Fb7_8.out.cell 1).trans rfl, (Fb7_8.out.cell 2).trans rfl, (Fb7_8.out.cell 3).trans rfl, (Fb7_8.out.cell 4).trans rfl, (Fb8_8.out.cell 0).trans rfl, (Fb8_8.out.cell 1).trans rfl, (Fb8_8.out.cell 2).trans rfl, (Fb8_8.out.cell 3).trans rfl, (Fb8_8.out.cell 4).trans rfl, (Fb9_8.out.cell 0).trans rfl, (Fb9_8.out.cell 1).trans rfl, (Fb9_8.out.cell 2).trans rfl, (Fb9_8.out.cell 3).trans rfl, (Fb9_8.out.cell 4).trans rfl, (Fb10_8.out.cell 0).trans rfl, (Fb10_8.out.cell 1).trans rfl, (Fb10_8.out.cell 2).trans rfl, (Fb10_8.out.cell 3).trans rfl, (Fb10_8.out.cell 4).trans rfl, (Fg0_8.out.cell 0).trans rfl, (Fg0_8.out.cell 1).trans rfl, (Fg0_8.out.cell 2).trans rfl, (Fg0_8.out.cell 3).trans rfl, (Fg0_8.out.cell 4).trans rfl, (Fg2_8.out.cell 0).trans rfl, (Fg2_8.out.cell 1).trans rfl, (Fg2_8.out.cell 2).trans rfl, (Fg2_8.out.cell 3).trans rfl, (Fg2_8.out.cell 4).trans rfl, (Fg2_8.out.cell 5).trans rfl⟩ (fun hHeld => ?_); clear hK K; (try simp only [Act.put, List.getElem_toArray, List.getElem_cons_zero, List.getElem_cons_succ, List.setIfInBounds_toArray, List.set_cons_zero, List.set_cons_succ]))
  (refine wpAnyH_ready (rs := [23]) (by kernel_rfl) (by simp) (AllReadyH.cons rfl (fun K hK => ?_) AllReadyH.nil); go_simp)
  have hm_ := match_c (notS (notS x)) q0 q1 q2 q3 t u (some ⟨m4, 0, none⟩) 1 _ (row1 (z := notS x) X_m4_8.out (Nat.le_refl _) (row1 X_m3_8.out HCX.out (Kd.C_below HRX.out Q_8.out))) (by first | exact HCX.out | exact Nat.le_refl _)
  rw [E5.out] at hm_
  refine hm_.mono ?_
  clear hm_
  rintro e z_9 ⟨rfl, hb⟩
  have Fb7_9 := Aside0.mk (Fb7_8.out.below hb)
  have Fb8_9 := Aside0.mk (Fb8_8.out.below hb)
  have Fb9_9 := Aside0.mk (Fb9_8.out.below hb)
  have Fb10_9 := Aside0.mk (Fb10_8.out.below hb)
  have Fg0_9 := Aside0.mk (Fg0_8.out.below hb)
  have Fg2_9 := Aside0.mk (Fg2_8.out.below hb)
  have C7_9 := Aside0.mk (Kd.C_below C7_8.out hb)
  have C8_9 := Aside0.mk (Kd.C_below C8_8.out hb)
  have C9_9 := Aside0.mk (Kd.C_below C9_8.out hb)
  have C10_9 := Aside0.mk (Kd.C_below C10_8.out hb)
  have X_m1_9 := Aside0.mk (Blk.below X_m1_8.out hb)
  have X_m2_9 := Aside0.mk (Blk.below X_m2_8.out hb)
  have X_m3_9 := Aside0.mk (Blk.below X_m3_8.out hb)
  have X_m4_9 := Aside0.mk (Blk.below X_m4_8.out hb)
  have Q_9 := Aside0.mk (below_step Q_8.out hb)
  clear hb
  (refine Shut.out hK _ _ ⟨(Fb7_9.out.cell 0).trans rfl, (Fb7_9.out.cell 1).trans rfl, (Fb7_9.out.cell 2).trans rfl, (Fb7_9.out.cell 3).trans rfl, (Fb7_9.out.cell 4).trans rfl, (Fb8_9.out.cell 0).trans rfl, (Fb8_9.out.cell 1).trans rfl, (Fb8_9.out.cell 2).trans rfl, (Fb8_9.out.cell 3).trans rfl, (Fb8_9.out.cell 4).trans rfl, (Fb9_9.out.cell 0).trans rfl, (Fb9_9.out.cell 1).trans rfl, (Fb9_9.out.cell 2).trans rfl, (Fb9_9.out.cell 3).trans rfl, (Fb9_9.out.cell 4).trans rfl, (Fb10_9.out.cell 0).trans rfl, (Fb10_9.out.cell 1).trans rfl, (Fb10_9.out.cell 2).trans rfl, (Fb10_9.out.cell 3).trans rfl, (Fb10_9.out.cell 4).trans rfl, (Fg0_9.out.cell 0).trans rfl, (Fg0_9.out.cell 1).trans rfl, (Fg0_9.out.cell 2).trans rfl, (Fg0_9.out.cell 3).trans rfl, (Fg0_9.out.cell 4).trans rfl, (Fg2_9.out.cell 0).trans rfl, (Fg2_9.out.cell 1).trans rfl, (Fg2_9.out.cell 2).trans rfl, (Fg2_9.out.cell 3).trans rfl, (Fg2_9.out.cell 4).trans rfl, (Fg2_9.out.cell 5).trans rfl⟩ (fun hHeld => ?_); clear hK K; (try simp only [Act.put, List.getElem_toArray, List.getElem_cons_zero, List.getElem_cons_succ, List.setIfInBounds_toArray, List.set_cons_zero, List.set_cons_succ]))
  (refine wpAnyH_ready (rs := [26]) (by kernel_rfl) (by simp) (AllReadyH.cons rfl (fun K hK => ?_) AllReadyH.nil); go_simp)
  have hm_ := match_c (x) q0 q1 q2 q3 t u (Ax) cx _ (Kd.C_below HRX.out Q_9.out) (by first | exact HCX.out | exact Nat.le_refl _)
  rw [E6.out] at hm_
  refine hm_.mono ?_
  clear hm_
  rintro e z_10 ⟨rfl, hb⟩
  have Fb7_10 := Aside0.mk (Fb7_9.out.below hb)
  have Fb8_10 := Aside0.mk (Fb8_9.out.below hb)
  have Fb9_10 := Aside0.mk (Fb9_9.out.below hb)
  have Fb10_10 := Aside0.mk (Fb10_9.out.below hb)
  have Fg0_10 := Aside0.mk (Fg0_9.out.below hb)
  have Fg2_10 := Aside0.mk (Fg2_9.out.below hb)
  have C7_10 := Aside0.mk (Kd.C_below C7_9.out hb)
  have C8_10 := Aside0.mk (Kd.C_below C8_9.out hb)
  have C9_10 := Aside0.mk (Kd.C_below C9_9.out hb)
  have C10_10 := Aside0.mk (Kd.C_below C10_9.out hb)
  have X_m1_10 := Aside0.mk (Blk.below X_m1_9.out hb)
  have X_m2_10 := Aside0.mk (Blk.below X_m2_9.out hb)
  have X_m3_10 := Aside0.mk (Blk.below X_m3_9.out hb)
  have X_m4_10 := Aside0.mk (Blk.below X_m4_9.out hb)
  have Q_10 := Aside0.mk (below_step Q_9.out hb)
  clear hb
  (refine Shut.out hK _ _ ⟨(Fb7_10.out.cell 0).trans rfl, (Fb7_10.out.cell 1).trans rfl, (Fb7_10.out.cell 2).trans rfl, (Fb7_10.out.cell 3).trans rfl, (Fb7_10.out.cell 4).trans rfl, (Fb8_10.out.cell 0).trans rfl, (Fb8_10.out.cell 1).trans rfl, (Fb8_10.out.cell 2).trans rfl, (Fb8_10.out.cell 3).trans rfl, (Fb8_10.out.cell 4).trans rfl, (Fb9_10.out.cell 0).trans rfl, (Fb9_10.out.cell 1).trans rfl, (Fb9_10.out.cell 2).trans rfl, (Fb9_10.out.cell 3).trans rfl, (Fb9_10.out.cell 4).trans rfl, (Fb10_10.out.cell 0).trans rfl, (Fb10_10.out.cell 1).trans rfl, (Fb10_10.out.cell 2).trans rfl, (Fb10_10.out.cell 3).trans rfl, (Fb10_10.out.cell 4).trans rfl, (Fg0_10.out.cell 0).trans rfl, (Fg0_10.out.cell 1).trans rfl, (Fg0_10.out.cell 2).trans rfl, (Fg0_10.out.cell 3).trans rfl, (Fg0_10.out.cell 4).trans rfl, (Fg2_10.out.cell 0).trans rfl, (Fg2_10.out.cell 1).trans rfl, (Fg2_10.out.cell 2).trans rfl, (Fg2_10.out.cell 3).trans rfl, (Fg2_10.out.cell 4).trans rfl, (Fg2_10.out.cell 5).trans rfl⟩ (fun hHeld => ?_); clear hK K; (try simp only [Act.put, List.getElem_toArray, List.getElem_cons_zero, List.getElem_cons_succ, List.setIfInBounds_toArray, List.set_cons_zero, List.set_cons_succ]))
  (refine wpAnyH_take (i := 27) (v := ?_) rfl (by kernel_rfl) (by kernel_rfl) (by kernel_rfl) (fun _ _ _ h => h) (Or.inl ⟨by rfl, ?_⟩) (by assumption) ?_; (case' refine_2 => (intro w hSw; go_simp; try with_reducible rfl)); (try simp only [Act.put, List.getElem_toArray, List.getElem_cons_zero, List.getElem_cons_succ, List.setIfInBounds_toArray, List.set_cons_zero, List.set_cons_succ]))
  (refine wpAnyH_take (i := 28) (v := ?_) rfl (by kernel_rfl) (by kernel_rfl) (by kernel_rfl) (fun _ _ _ h => h) (Or.inl ⟨by rfl, ?_⟩) (by assumption) ?_; (case' refine_2 => (intro w hSw; go_simp; try with_reducible rfl)); (try simp only [Act.put, List.getElem_toArray, List.getElem_cons_zero, List.getElem_cons_succ, List.setIfInBounds_toArray, List.set_cons_zero, List.set_cons_succ]))
  (refine wpAnyH_take (i := 29) (v := ?_) rfl (by kernel_rfl) (by kernel_rfl) (by kernel_rfl) (fun _ _ _ h => h) (Or.inl ⟨by rfl, ?_⟩) (by assumption) ?_; (case' refine_2 => (intro w hSw; go_simp; try with_reducible rfl)); (try simp only [Act.put, List.getElem_toArray, List.getElem_cons_zero, List.getElem_cons_succ, List.setIfInBounds_toArray, List.set_cons_zero, List.set_cons_succ]))
  (refine wpAnyH_ready (rs := [30]) (by kernel_rfl) (by simp) (AllReadyH.cons rfl (fun K hK => ?_) AllReadyH.nil); go_simp)
  refine (live_c _).mono ?_
  rintro e z_11 ⟨rfl, hb⟩
  have Fb7_11 := Aside0.mk (Fb7_10.out.below hb)
  have Fb8_11 := Aside0.mk (Fb8_10.out.below hb)
  have Fb9_11 := Aside0.mk (Fb9_10.out.below hb)
  have Fb10_11 := Aside0.mk (Fb10_10.out.below hb)
  have Fg0_11 := Aside0.mk (Fg0_10.out.below hb)
  have Fg2_11 := Aside0.mk (Fg2_10.out.below hb)
  have C7_11 := Aside0.mk (Kd.C_below C7_10.out hb)
  have C8_11 := Aside0.mk (Kd.C_below C8_10.out hb)
  have C9_11 := Aside0.mk (Kd.C_below C9_10.out hb)
  have C10_11 := Aside0.mk (Kd.C_below C10_10.out hb)
  have X_m1_11 := Aside0.mk (Blk.below X_m1_10.out hb)
  have X_m2_11 := Aside0.mk (Blk.below X_m2_10.out hb)
  have X_m3_11 := Aside0.mk (Blk.below X_m3_10.out hb)
  have X_m4_11 := Aside0.mk (Blk.below X_m4_10.out hb)
  have Q_11 := Aside0.mk (below_step Q_10.out hb)
  clear hb
  (refine Shut.out hK _ _ ⟨(Fb7_11.out.cell 0).trans rfl, (Fb7_11.out.cell 1).trans rfl, (Fb7_11.out.cell 2).trans rfl, (Fb7_11.out.cell 3).trans rfl, (Fb7_11.out.cell 4).trans rfl, (Fb8_11.out.cell 0).trans rfl, (Fb8_11.out.cell 1).trans rfl, (Fb8_11.out.cell 2).trans rfl, (Fb8_11.out.cell 3).trans rfl, (Fb8_11.out.cell 4).trans rfl, (Fb9_11.out.cell 0).trans rfl, (Fb9_11.out.cell 1).trans rfl, (Fb9_11.out.cell 2).trans rfl, (Fb9_11.out.cell 3).trans rfl, (Fb9_11.out.cell 4).trans rfl, (Fb10_11.out.cell 0).trans rfl, (Fb10_11.out.cell 1).trans rfl, (Fb10_11.out.cell 2).trans rfl, (Fb10_11.out.cell 3).trans rfl, (Fb10_11.out.cell 4).trans rfl, (Fg0_11.out.cell 0).trans rfl, (Fg0_11.out.cell 1).trans rfl, (Fg0_11.out.cell 2).trans rfl, (Fg0_11.out.cell 3).trans rfl, (Fg0_11.out.cell 4).trans rfl, (Fg2_11.out.cell 0).trans rfl, (Fg2_11.out.cell 1).trans rfl, (Fg2_11.out.cell 2).trans rfl, (Fg2_11.out.cell 3).trans rfl, (Fg2_11.out.cell 4).trans rfl, (Fg2_11.out.cell 5).trans rfl⟩ (fun hHeld => ?_); clear hK K; (try simp only [Act.put, List.getElem_toArray, List.getElem_cons_zero, List.getElem_cons_succ, List.setIfInBounds_toArray, List.set_cons_zero, List.set_cons_succ]))
  (refine wpAnyH_take (i := 31) (v := ?_) rfl (by kernel_rfl) (by kernel_rfl) (by kernel_rfl) (fun _ _ _ h => h) (Or.inl ⟨by rfl, ?_⟩) (by assumption) ?_; (case' refine_2 => (intro w hSw; go_simp; try with_reducible rfl)); (try simp only [Act.put, List.getElem_toArray, List.getElem_cons_zero, List.getElem_cons_succ, List.setIfInBounds_toArray, List.set_cons_zero, List.set_cons_succ]))
  (refine wpAnyH_take (i := 32) (v := ?_) rfl (by kernel_rfl) (by kernel_rfl) (by kernel_rfl) (fun _ _ _ h => h) (Or.inl ⟨by rfl, ?_⟩) (by assumption) ?_; (case' refine_2 => (intro w hSw; go_simp; try with_reducible rfl)); (try simp only [Act.put, List.getElem_toArray, List.getElem_cons_zero, List.getElem_cons_succ, List.setIfInBounds_toArray, List.set_cons_zero, List.set_cons_succ]))
  refine wpAnyH_done (by kernel_rfl) ?_ _
  go_wp2_with (fail)
  go_ret
  exact ⟨rfl, Q_11.out⟩
end Go.Proofs.Ytgdpabedlghiaaa.Scope
