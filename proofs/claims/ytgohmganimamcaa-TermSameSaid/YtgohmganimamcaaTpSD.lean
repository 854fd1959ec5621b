/- Own and printed texts, laid together. -/
import Derived.Test.YtgohmganimamcaaTpSC
import Derived.Laws.EntriesVeiled
-- printed for this claim by a program (pall.sh)
-- mended by fixpz.py
namespace Go.Proofs.Ytgohmganimamcaa.PZ
open Go.RowKit Go.Proofs.YtgohmganimamcaaW.PrintWords Go.Proofs.YtgohmganimamcaaW.PrintLast Go.Proofs.YtgohmganimamcaaW.PrintMore
attribute [local go_sem] max2_int min2_int max_two min_two max_three min_three max_four min_four   -- for this text's walks alone
set_option linter.unusedVariables false
set_option linter.unusedSimpArgs false

/-! ### term_may: function 47 -/
mutual
def term_may.j3 : Nat → Int → Int → Int → List Int → List (S26) → Option (Bool)
 | 0, _, _, _, _, _ => none
 | k + 1, x1, x102000, x102001, x102002, x102003 => term_may.l0 k x1 x102003 (x102003.length : Int) 0
def term_may.l0 : Nat → Int → List (S26) → Int → Int → Option (Bool)
 | 0, _, _, _, _ => none
 | k + 1, x1, x62, x63, x64 => if x64 < x63 then (if 0 ≤ x64 then (if x64 < (x62.length : Int) then ((term_may.f k ((rd_T26 x62 x64).f0) ((rd_T26 x62 x64).f1) ((rd_T26 x62 x64).f2) ((rd_T26 x62 x64).f3) (wrap64 (x1 - 1))).bind fun t110 => (if t110 = true then (term_may.l0 k x1 x62 x63 (wrap64 (x64 + 1))) else (some false))) else (none)) else (none)) else (some true)
def term_may.j0 : Nat → Int → Bool → Int → Int → List Int → List (S26) → Bool → Bool → Bool → Int → Option (Bool)
 | 0, _, _, _, _, _, _, _, _, _, _ => none
 | k + 1, x1, x11, x102000, x102001, x102002, x102003, x107000, x107001, x107002, x107003 => if x11 = true then (some false) else (if x107001 = true then (term_may.j1 k x1 false x102000 x102001 x102002 x102003 x107000 x107001 x107002 x107003) else (term_may.j1 k x1 (x102001 != 0) x102000 x102001 x102002 x102003 x107000 x107001 x107002 x107003))
def term_may.j1 : Nat → Int → Bool → Int → Int → List Int → List (S26) → Bool → Bool → Bool → Int → Option (Bool)
 | 0, _, _, _, _, _, _, _, _, _, _ => none
 | k + 1, x1, x27, x102000, x102001, x102002, x102003, x107000, x107001, x107002, x107003 => if x27 = true then (term_may.j2 k x1 x27 x102000 x102001 x102002 x102003) else (if x107002 = true then (term_may.j2 k x1 (decide ((x102002.length : Int) > 100)) x102000 x102001 x102002 x102003) else (if (x102002.length : Int) > 0 then (term_may.j2 k x1 (decide ((x102002.length : Int) > 0)) x102000 x102001 x102002 x102003) else (term_may.j2 k x1 (decide ((x102002.length : Int) > 100)) x102000 x102001 x102002 x102003)))
def term_may.j2 : Nat → Int → Bool → Int → Int → List Int → List (S26) → Option (Bool)
 | 0, _, _, _, _, _, _ => none
 | k + 1, x1, x27, x102000, x102001, x102002, x102003 => if x27 = true then (some false) else (if x102000 = 5 then (if 1 < (x102003.length : Int) then (if ((rd_T26 x102003 1).f0) = 2 then (term_may.j3 k x1 x102000 x102001 x102002 x102003) else (some false)) else (none)) else (term_may.j3 k x1 x102000 x102001 x102002 x102003))
def term_may.f : Nat → Int → Int → List Int → List (S26) → Int → Option (Bool)
 | 0, _, _, _, _, _ => none
 | k + 1, a0_0, a0_1, l0_2, l0_3, a1 => (term_shapeOf.f a0_0).bind fun bt102 => (if a1 = 0 then (term_may.j0 k a1 true a0_0 a0_1 l0_2 l0_3 bt102.1 bt102.2.1 bt102.2.2.1 bt102.2.2.2) else (if bt102.1 = true then (term_may.j0 k a1 ((l0_3.length : Int) != bt102.2.2.2) a0_0 a0_1 l0_2 l0_3 bt102.1 bt102.2.1 bt102.2.2.1 bt102.2.2.2) else (term_may.j0 k a1 true a0_0 a0_1 l0_2 l0_3 bt102.1 bt102.2.1 bt102.2.2.1 bt102.2.2.2)))
end
set_option maxHeartbeats 8000000 in
set_option maxRecDepth 100000 in
theorem term_may.calls (k : Nat) : ∀ (a0_0 : Int) (a0_1 : Int) (A0_2 : Option Addr) (c0_2 : Nat) (l0_2 : List Int) (A0_3 : Option Addr) (c0_3 : Nat) (l0_3 : List (S26)) (a1 : Int) (r : Bool) (w : World) (hr0_2 : Kd.C (Kd.int .u8) w A0_2 l0_2.length l0_2) (hc0_2 : l0_2.length ≤ c0_2) (hr0_3 : Kd.C k26 w A0_3 l0_3.length l0_3) (hc0_3 : l0_3.length ≤ c0_3) (h : term_may.f k a0_0 a0_1 l0_2 l0_3 a1 = some r),
  Calls Try.prog 47 #[.agg #[.int .i64 a0_0, .int .u64 a0_1, .slice A0_2 l0_2.length c0_2, .slice A0_3 l0_3.length c0_3], .int .i64 a1] w fun e w' => e = .returned (.bool r) ∧ Below w.heap.size w w' := by
 induction k using Nat.strongRecOn with
 | _ k ih =>
 intro a0_0 a0_1 A0_2 c0_2 l0_2 A0_3 c0_3 l0_3 a1 r w hr0_2 hc0_2 hr0_3 hc0_3 h
 cases k with
 | zero => exact absurd h (by simp [term_may.f])
 | succ k =>
 simp only [term_may.f] at h
 have hu26 := Try.underlying26
 have hu69 := Try.underlying69
 have HR0_2 := Aside0.mk hr0_2
 have HC0_2 := Aside0.mk hc0_2
 clear hr0_2 hc0_2
 have HR0_3 := Aside0.mk hr0_3
 have HC0_3 := Aside0.mk hc0_3
 clear hr0_3 hc0_3
 have HB := Aside0.mk (Below.refl w.heap.size w)
 have H : ((term_shapeOf.f a0_0).bind fun bt102 => (if a1 = 0 then (term_may.j0 k a1 true a0_0 a0_1 l0_2 l0_3 bt102.1 bt102.2.1 bt102.2.2.1 bt102.2.2.2) else (if bt102.1 = true then (term_may.j0 k a1 ((l0_3.length : Int) != bt102.2.2.2) a0_0 a0_1 l0_2 l0_3 bt102.1 bt102.2.1 bt102.2.2.1 bt102.2.2.2) else (term_may.j0 k a1 true a0_0 a0_1 l0_2 l0_3 bt102.1 bt102.2.1 bt102.2.2.1 bt102.2.2.2)))) = some r := h
 clear h
 replace H := Option.bind_eq_some_iff.mp H
 obtain ⟨⟨t102, t103, t104, t105⟩, A30, H⟩ := H
 replace H : (if a1 = 0 then (term_may.j0 k a1 true a0_0 a0_1 l0_2 l0_3 t102 t103 t104 t105) else (if t102 = true then (term_may.j0 k a1 ((l0_3.length : Int) != t105) a0_0 a0_1 l0_2 l0_3 t102 t103 t104 t105) else (term_may.j0 k a1 true a0_0 a0_1 l0_2 l0_3 t102 t103 t104 t105))) = some r := H
 have A3 := Aside0.mk A30
 clear A30
 have HC4 := Aside0.mk H
 clear H
 go_enter Try.func47, Try.ntmps47
 go_upto_block 0 with (first | ((with_reducible refine gate_dst (N := 2) rfl ?_); (try (refine gate_guard (by rfl) ?_; dsimp only)); refine box_event ?hg (N := 2) ?hd (cs := #[.int .i64 a0_0, .int .u64 a0_1, .slice A0_2 l0_2.length c0_2, .slice A0_3 l0_3.length c0_3]) (t := 26) ?hr ?_; (case hd => rfl); (case hg => rfl); (case hr => first | (go_simp; done) | (go_simp; rfl)); intro gb101 hg w5 hbox hb; have n0_ := Aside0.mk (below_step (by repeat (first | (with_reducible first | exact HB.out | apply below_alloc | apply pw_below_drewN | apply below_drew1) | exact HB.out)) hb); have n1_ := Aside0.mk (hbox); have n2_ := Aside0.mk ((by rw [hg]; exact (below_size (by repeat (first | (with_reducible first | exact HB.out | apply below_alloc | apply pw_below_drewN | apply below_drew1) | exact HB.out))) : w.heap.size ≤ gb101)); have n3_ := Aside0.mk ((by rw [hg]; exact (below_size (by repeat (first | (with_reducible first | exact HB.out | apply below_alloc | apply pw_below_drewN | apply below_drew1) | exact HB.out))) : w.heap.size ≤ gb101)); clear HB; have HB := n0_; have BK101 := n1_; have GW101 := n2_; have GE101 := n3_; clear n0_ n1_ n2_ n3_; clear hb hbox hg; have hcz6_0 : w5.cell? ⟨gb101, 0, none⟩ = some (.int .i64 a0_0) := (blk_cell BK101.out 0).trans rfl; have hcz6_1 : w5.cell? ⟨gb101, 1, none⟩ = some (.int .u64 a0_1) := (blk_cell BK101.out 1).trans rfl; have hcz6_2 : w5.cell? ⟨gb101, 2, none⟩ = some (.slice A0_2 l0_2.length c0_2) := (blk_cell BK101.out 2).trans rfl; have hcz6_3 : w5.cell? ⟨gb101, 3, none⟩ = some (.slice A0_3 l0_3.length c0_3) := (blk_cell BK101.out 3).trans rfl; have hfz6_0 := blk_frozen BK101.out 0; have hfz6_1 := blk_frozen BK101.out 1; have hfz6_2 := blk_frozen BK101.out 2; have hfz6_3 := blk_frozen BK101.out 3) | ((with_reducible refine gate_callee (f := 43) rfl ?_); refine goesL_ (some 10) rfl rfl Try.func43 (by kernel_rfl) rfl #[.int .i64 a0_0] rfl (by (try simp only [List.map_toArray, List.map_cons, List.map_nil]); first | done | rfl | (simp only [List.length_drop, List.length_take]; rfl)) ?_; (with_reducible refine (term_shapeOf.calls a0_0 t102 t103 t104 t105 _ A3.out).mono ?_); rintro e w7 ⟨rfl, hb⟩; refine ⟨_, rfl, ?_⟩; have n0_ := Aside0.mk (blk_below (g := gb101) (o := .cells #[.int .i64 a0_0, .int .u64 a0_1, .slice A0_2 l0_2.length c0_2, .slice A0_3 l0_3.length c0_3] 26 (0, 0)) (by (with_reducible repeat (first | refine blk_drewN ?_ _ | refine blk_drew ?_ | refine blk_alloc ?_ _)); exact BK101.out) hb); have n1_ := Aside0.mk (below_step (by repeat (first | (with_reducible first | exact HB.out | apply below_alloc | apply pw_below_drewN | apply below_drew1 | refine below_set ?_ GE101.out) | exact HB.out)) hb); clear BK101; clear HB; have BK101 := n0_; have HB := n1_; clear n0_ n1_; (try clear hb); (try clear hb2); (try clear hk); (try clear hi)) | ((with_reducible refine gate_dst (N := 5) rfl ?_); (try (refine gate_guard (by rfl) ?_; dsimp only)); refine box_event ?hg (N := 5) ?hd (cs := #[.bool false, .bool false, .bool false, .int .i64 0]) (t := 69) ?hr ?_; (case hd => rfl); (case hg => rfl); (case hr => first | (go_simp; done) | (go_simp; rfl)); intro gb106 hg w8 hbox hb; have n0_ := Aside0.mk (blk_below (g := gb101) (o := .cells #[.int .i64 a0_0, .int .u64 a0_1, .slice A0_2 l0_2.length c0_2, .slice A0_3 l0_3.length c0_3] 26 (0, 0)) (by (with_reducible repeat (first | refine blk_drewN ?_ _ | refine blk_drew ?_ | refine blk_alloc ?_ _)); exact BK101.out) hb); have n1_ := Aside0.mk (below_step (by repeat (first | (with_reducible first | exact HB.out | apply below_alloc | apply pw_below_drewN | apply below_drew1 | refine below_set ?_ GE101.out) | exact HB.out)) hb); have n2_ := Aside0.mk (hbox); have n3_ := Aside0.mk ((by rw [hg]; exact (below_size (by repeat (first | (with_reducible first | exact HB.out | apply below_alloc | apply pw_below_drewN | apply below_drew1 | refine below_set ?_ GE101.out) | exact HB.out))) : w.heap.size ≤ gb106)); have n4_ := Aside0.mk ((by rw [hg]; exact (below_size (by repeat (first | (with_reducible first | exact HB.out | apply below_alloc | apply pw_below_drewN | apply below_drew1 | refine below_set ?_ GE101.out) | exact HB.out))) : w.heap.size ≤ gb106)); have n5_ := Aside0.mk ((by rw [hg]; exact Nat.ne_of_lt (blk_lt (g := gb101) (o := .cells #[.int .i64 a0_0, .int .u64 a0_1, .slice A0_2 l0_2.length c0_2, .slice A0_3 l0_3.length c0_3] 26 (0, 0)) (by (with_reducible repeat (first | refine blk_drewN ?_ _ | refine blk_drew ?_ | refine blk_alloc ?_ _)); exact BK101.out)) : gb101 ≠ gb106)); have n6_ := Aside0.mk ((by rw [hg]; exact Nat.ne_of_gt (blk_lt (g := gb101) (o := .cells #[.int .i64 a0_0, .int .u64 a0_1, .slice A0_2 l0_2.length c0_2, .slice A0_3 l0_3.length c0_3] 26 (0, 0)) (by (with_reducible repeat (first | refine blk_drewN ?_ _ | refine blk_drew ?_ | refine blk_alloc ?_ _)); exact BK101.out)) : gb106 ≠ gb101)); clear BK101; clear HB; have BK101 := n0_; have HB := n1_; have BK106 := n2_; have GW106 := n3_; have GE106 := n4_; have NB101_106 := n5_; have NB106_101 := n6_; clear n0_ n1_ n2_ n3_ n4_ n5_ n6_; clear hb hbox hg; have hnb9 := NB106_101.out; have hnc9 := NB101_106.out; have hcz10_0 : w8.cell? ⟨gb106, 0, none⟩ = some (.bool false) := (blk_cell BK106.out 0).trans rfl; have hcz10_1 : w8.cell? ⟨gb106, 1, none⟩ = some (.bool false) := (blk_cell BK106.out 1).trans rfl; have hcz10_2 : w8.cell? ⟨gb106, 2, none⟩ = some (.bool false) := (blk_cell BK106.out 2).trans rfl; have hcz10_3 : w8.cell? ⟨gb106, 3, none⟩ = some (.int .i64 0) := (blk_cell BK106.out 3).trans rfl; have hfz10_0 := blk_frozen BK106.out 0; have hfz10_1 := blk_frozen BK106.out 1; have hfz10_2 := blk_frozen BK106.out 2; have hfz10_3 := blk_frozen BK106.out 3))
 (try simp only [Act.put, List.setIfInBounds_toArray, List.set_cons_zero, List.set_cons_succ])
 go_cut [] (fun wc => ∃ (kq : Nat), Aside0 (term_may.j3 kq a1 a0_0 a0_1 l0_2 l0_3 = some r) ∧ Aside0 (kq ≤ k) ∧ Aside0 (wc.heap[gb101]? = some (.cells #[.int .i64 a0_0, .int .u64 a0_1, (.slice A0_2 l0_2.length c0_2), (.slice A0_3 l0_3.length c0_3)] 26 (0, 0))) ∧ Aside0 (wc.heap[gb106]? = some (.cells #[.bool t102, .bool t103, .bool t104, .int .i64 t105] 69 (0, 0))) ∧ Aside0 (Below w.heap.size w wc))
 case first =>
  have H := HC4.out
  clear HC4
  have HC11 := Aside0.mk H
  clear H
  go_upto_region 2 with (fail)
  go_cut [11] (fun v11 wc => ∃ (kq : Nat) (x11_10 : Bool), v11 = .bool x11_10 ∧ Aside0 (term_may.j0 kq a1 x11_10 a0_0 a0_1 l0_2 l0_3 t102 t103 t104 t105 = some r) ∧ Aside0 (kq ≤ k) ∧ Aside0 (wc.heap[gb101]? = some (.cells #[.int .i64 a0_0, .int .u64 a0_1, (.slice A0_2 l0_2.length c0_2), (.slice A0_3 l0_3.length c0_3)] 26 (0, 0))) ∧ Aside0 (wc.heap[gb106]? = some (.cells #[.bool t102, .bool t103, .bool t104, .int .i64 t105] 69 (0, 0))) ∧ Aside0 (Below w.heap.size w wc))
  case first =>
   have H := HC11.out
   clear HC11
   by_cases c12 : a1 = 0
   ·rw [if_pos c12] at H
    have c12b0 : (a1 == 0) = true := beq_iff_eq.mpr c12
    have c12b1 : (a1 != 0) = false := bne_eq_false_iff_eq.mpr c12
    clear c12
    (first | rw [c12b0] | (simp only [i64_w, i32_w]; rw [c12b0]) | skip)
    have H' := Aside0.mk H
    clear H
    go_wp2
    go_meet
    case rel => exact ⟨_, (true), (by first | rfl | (simp; done) | (simp [*]; done)), H', ⟨by first | omega | exact Nat.le_refl _⟩, ⟨by (with_reducible repeat (first | refine blk_drewN ?_ _ | refine blk_drew ?_ | refine blk_alloc ?_ _)); refine blk_far ?_ NB101_106.out _; (with_reducible repeat (first | refine blk_drewN ?_ _ | refine blk_drew ?_ | refine blk_alloc ?_ _)); refine blk_far ?_ NB101_106.out _; (with_reducible repeat (first | refine blk_drewN ?_ _ | refine blk_drew ?_ | refine blk_alloc ?_ _)); refine blk_far ?_ NB101_106.out _; (with_reducible repeat (first | refine blk_drewN ?_ _ | refine blk_drew ?_ | refine blk_alloc ?_ _)); refine blk_far ?_ NB101_106.out _; (with_reducible repeat (first | refine blk_drewN ?_ _ | refine blk_drew ?_ | refine blk_alloc ?_ _)); exact BK101.out⟩, ⟨by (with_reducible repeat (first | refine blk_drewN ?_ _ | refine blk_drew ?_ | refine blk_alloc ?_ _)); refine blk_put (cs := #[.bool t102, .bool t103, .bool t104, .int .i64 0]) ?_ 3 _ rfl; (with_reducible repeat (first | refine blk_drewN ?_ _ | refine blk_drew ?_ | refine blk_alloc ?_ _)); refine blk_put (cs := #[.bool t102, .bool t103, .bool false, .int .i64 0]) ?_ 2 _ rfl; (with_reducible repeat (first | refine blk_drewN ?_ _ | refine blk_drew ?_ | refine blk_alloc ?_ _)); refine blk_put (cs := #[.bool t102, .bool false, .bool false, .int .i64 0]) ?_ 1 _ rfl; (with_reducible repeat (first | refine blk_drewN ?_ _ | refine blk_drew ?_ | refine blk_alloc ?_ _)); refine blk_put (cs := #[.bool false, .bool false, .bool false, .int .i64 0]) ?_ 0 _ rfl; (with_reducible repeat (first | refine blk_drewN ?_ _ | refine blk_drew ?_ | refine blk_alloc ?_ _)); exact BK106.out⟩, ⟨by repeat (first | (with_reducible first | exact HB.out | apply below_alloc | apply pw_below_drewN | apply below_drew1 | refine below_set ?_ GE101.out | refine below_set ?_ GE106.out) | exact HB.out)⟩⟩
   ·rw [if_neg c12] at H
    have c12b0 : (a1 == 0) = false := beq_eq_false_iff_ne.mpr c12
    have c12b1 : (a1 != 0) = true := bne_iff_ne.mpr c12
    (first | rw [c12b0] | (simp only [i64_w, i32_w]; rw [c12b0]) | skip)
    by_cases c13 : t102 = true
    ·subst c13
     have H1 : (term_may.j0 k a1 ((l0_3.length : Int) != t105) a0_0 a0_1 l0_2 l0_3 true t103 t104 t105) = some r := by rw [if_pos rfl] at H; exact H
     clear H
     have H := H1
     clear H1
     have H' := Aside0.mk H
     clear H
     have hnb14 := NB106_101.out
     have hnc14 := NB101_106.out
     have hcz15_0 : w8.cell? ⟨gb106, 0, none⟩ = some (.bool false) := (blk_cell BK106.out 0).trans rfl
     have hcz15_1 : w8.cell? ⟨gb106, 1, none⟩ = some (.bool false) := (blk_cell BK106.out 1).trans rfl
     have hcz15_2 : w8.cell? ⟨gb106, 2, none⟩ = some (.bool false) := (blk_cell BK106.out 2).trans rfl
     have hcz15_3 : w8.cell? ⟨gb106, 3, none⟩ = some (.int .i64 0) := (blk_cell BK106.out 3).trans rfl
     have hfz15_0 := blk_frozen BK106.out 0
     have hfz15_1 := blk_frozen BK106.out 1
     have hfz15_2 := blk_frozen BK106.out 2
     have hfz15_3 := blk_frozen BK106.out 3
     have hcz16_0 : w8.cell? ⟨gb101, 0, none⟩ = some (.int .i64 a0_0) := (blk_cell BK101.out 0).trans rfl
     have hcz16_1 : w8.cell? ⟨gb101, 1, none⟩ = some (.int .u64 a0_1) := (blk_cell BK101.out 1).trans rfl
     have hcz16_2 : w8.cell? ⟨gb101, 2, none⟩ = some (.slice A0_2 l0_2.length c0_2) := (blk_cell BK101.out 2).trans rfl
     have hcz16_3 : w8.cell? ⟨gb101, 3, none⟩ = some (.slice A0_3 l0_3.length c0_3) := (blk_cell BK101.out 3).trans rfl
     have hfz16_0 := blk_frozen BK101.out 0
     have hfz16_1 := blk_frozen BK101.out 1
     have hfz16_2 := blk_frozen BK101.out 2
     have hfz16_3 := blk_frozen BK101.out 3
     go_wp2
     go_meet
     case rel => exact ⟨_, (((l0_3.length : Int) != t105)), (by first | rfl | (simp; done) | (simp [*]; done)), H', ⟨by first | omega | exact Nat.le_refl _⟩, ⟨by (with_reducible repeat (first | refine blk_drewN ?_ _ | refine blk_drew ?_ | refine blk_alloc ?_ _)); refine blk_far ?_ NB101_106.out _; (with_reducible repeat (first | refine blk_drewN ?_ _ | refine blk_drew ?_ | refine blk_alloc ?_ _)); refine blk_far ?_ NB101_106.out _; (with_reducible repeat (first | refine blk_drewN ?_ _ | refine blk_drew ?_ | refine blk_alloc ?_ _)); refine blk_far ?_ NB101_106.out _; (with_reducible repeat (first | refine blk_drewN ?_ _ | refine blk_drew ?_ | refine blk_alloc ?_ _)); refine blk_far ?_ NB101_106.out _; (with_reducible repeat (first | refine blk_drewN ?_ _ | refine blk_drew ?_ | refine blk_alloc ?_ _)); exact BK101.out⟩, ⟨by (with_reducible repeat (first | refine blk_drewN ?_ _ | refine blk_drew ?_ | refine blk_alloc ?_ _)); refine blk_put (cs := #[.bool true, .bool t103, .bool t104, .int .i64 0]) ?_ 3 _ rfl; (with_reducible repeat (first | refine blk_drewN ?_ _ | refine blk_drew ?_ | refine blk_alloc ?_ _)); refine blk_put (cs := #[.bool true, .bool t103, .bool false, .int .i64 0]) ?_ 2 _ rfl; (with_reducible repeat (first | refine blk_drewN ?_ _ | refine blk_drew ?_ | refine blk_alloc ?_ _)); refine blk_put (cs := #[.bool true, .bool false, .bool false, .int .i64 0]) ?_ 1 _ rfl; (with_reducible repeat (first | refine blk_drewN ?_ _ | refine blk_drew ?_ | refine blk_alloc ?_ _)); refine blk_put (cs := #[.bool false, .bool false, .bool false, .int .i64 0]) ?_ 0 _ rfl; (with_reducible repeat (first | refine blk_drewN ?_ _ | refine blk_drew ?_ | refine blk_alloc ?_ _)); exact BK106.out⟩, ⟨by repeat (first | (with_reducible first | exact HB.out | apply below_alloc | apply pw_below_drewN | apply below_drew1 | refine below_set ?_ GE101.out | refine below_set ?_ GE106.out) | exact HB.out)⟩⟩
    ·replace c13 := Bool.eq_false_iff.mpr c13
     subst c13
     have H1 : (term_may.j0 k a1 true a0_0 a0_1 l0_2 l0_3 false t103 t104 t105) = some r := by rw [if_neg (show ¬ (false = true) by decide)] at H; exact H
     clear H
     have H := H1
     clear H1
     have H' := Aside0.mk H
     clear H
     have hnb17 := NB106_101.out
     have hnc17 := NB101_106.out
     have hcz18_0 : w8.cell? ⟨gb106, 0, none⟩ = some (.bool false) := (blk_cell BK106.out 0).trans rfl
     have hcz18_1 : w8.cell? ⟨gb106, 1, none⟩ = some (.bool false) := (blk_cell BK106.out 1).trans rfl
     have hcz18_2 : w8.cell? ⟨gb106, 2, none⟩ = some (.bool false) := (blk_cell BK106.out 2).trans rfl
     have hcz18_3 : w8.cell? ⟨gb106, 3, none⟩ = some (.int .i64 0) := (blk_cell BK106.out 3).trans rfl
     have hfz18_0 := blk_frozen BK106.out 0
     have hfz18_1 := blk_frozen BK106.out 1
     have hfz18_2 := blk_frozen BK106.out 2
     have hfz18_3 := blk_frozen BK106.out 3
     go_wp2
     go_meet
     case rel => exact ⟨_, (true), (by first | rfl | (simp; done) | (simp [*]; done)), H', ⟨by first | omega | exact Nat.le_refl _⟩, ⟨by (with_reducible repeat (first | refine blk_drewN ?_ _ | refine blk_drew ?_ | refine blk_alloc ?_ _)); refine blk_far ?_ NB101_106.out _; (with_reducible repeat (first | refine blk_drewN ?_ _ | refine blk_drew ?_ | refine blk_alloc ?_ _)); refine blk_far ?_ NB101_106.out _; (with_reducible repeat (first | refine blk_drewN ?_ _ | refine blk_drew ?_ | refine blk_alloc ?_ _)); refine blk_far ?_ NB101_106.out _; (with_reducible repeat (first | refine blk_drewN ?_ _ | refine blk_drew ?_ | refine blk_alloc ?_ _)); refine blk_far ?_ NB101_106.out _; (with_reducible repeat (first | refine blk_drewN ?_ _ | refine blk_drew ?_ | refine blk_alloc ?_ _)); exact BK101.out⟩, ⟨by (with_reducible repeat (first | refine blk_drewN ?_ _ | refine blk_drew ?_ | refine blk_alloc ?_ _)); refine blk_put (cs := #[.bool false, .bool t103, .bool t104, .int .i64 0]) ?_ 3 _ rfl; (with_reducible repeat (first | refine blk_drewN ?_ _ | refine blk_drew ?_ | refine blk_alloc ?_ _)); refine blk_put (cs := #[.bool false, .bool t103, .bool false, .int .i64 0]) ?_ 2 _ rfl; (with_reducible repeat (first | refine blk_drewN ?_ _ | refine blk_drew ?_ | refine blk_alloc ?_ _)); refine blk_put (cs := #[.bool false, .bool false, .bool false, .int .i64 0]) ?_ 1 _ rfl; (with_reducible repeat (first | refine blk_drewN ?_ _ | refine blk_drew ?_ | refine blk_alloc ?_ _)); refine blk_put (cs := #[.bool false, .bool false, .bool false, .int .i64 0]) ?_ 0 _ rfl; (with_reducible repeat (first | refine blk_drewN ?_ _ | refine blk_drew ?_ | refine blk_alloc ?_ _)); exact BK106.out⟩, ⟨by repeat (first | (with_reducible first | exact HB.out | apply below_alloc | apply pw_below_drewN | apply below_drew1 | refine below_set ?_ GE101.out | refine below_set ?_ GE106.out) | exact HB.out)⟩⟩
  case rest =>
   clear HC11
   (try clear c1);(try clear p2);(try clear c4);(try clear c9);(try clear c12);(try clear c12b0);(try clear c12b1);(try clear c13);(try clear c14);(try clear c17);(try clear hcz10_0);(try clear hcz10_1);(try clear hcz10_2);(try clear hcz10_3);(try clear hcz15_0);(try clear hcz15_1);(try clear hcz15_2);(try clear hcz15_3);(try clear hcz16_0);(try clear hcz16_1);(try clear hcz16_2);(try clear hcz16_3);(try clear hcz18_0);(try clear hcz18_1);(try clear hcz18_2);(try clear hcz18_3);(try clear hcz6_0);(try clear hcz6_1);(try clear hcz6_2);(try clear hcz6_3);(try clear hfz10_0);(try clear hfz10_1);(try clear hfz10_2);(try clear hfz10_3);(try clear hfz15_0);(try clear hfz15_1);(try clear hfz15_2);(try clear hfz15_3);(try clear hfz16_0);(try clear hfz16_1);(try clear hfz16_2);(try clear hfz16_3);(try clear hfz18_0);(try clear hfz18_1);(try clear hfz18_2);(try clear hfz18_3);(try clear hfz6_0);(try clear hfz6_1);(try clear hfz6_2);(try clear hfz6_3)
   obtain ⟨kq, x11_10, rfl, HA, HJ10, BK101, BK106, HB⟩ := hcut
   cases kq with
   | zero => exact absurd HA.out (by simp [term_may.j0])
   | succ kj10 =>
    have H := HA.out
    clear HA
    simp only [term_may.j0] at H
    by_cases c19 : x11_10 = true
    ·subst c19
     have H1 : (some false) = some r := by rw [if_pos rfl] at H; exact H
     clear H
     have H := H1
     clear H1
     obtain rfl := Option.some.inj H
     go_wp2
     go_ret
     exact ⟨by first | rfl | (simp [errW_none, errW_some] <;> rfl) | (simp [*, errW_none, errW_some] <;> rfl), by repeat (first | (with_reducible first | exact HB.out | apply below_alloc | apply pw_below_drewN | apply below_drew1 | refine below_set ?_ GE101.out | refine below_set ?_ GE106.out) | exact HB.out)⟩
    ·replace c19 := Bool.eq_false_iff.mpr c19
     subst c19
     have H1 : (if t103 = true then (term_may.j1 kj10 a1 false a0_0 a0_1 l0_2 l0_3 t102 t103 t104 t105) else (term_may.j1 kj10 a1 (a0_1 != 0) a0_0 a0_1 l0_2 l0_3 t102 t103 t104 t105)) = some r := by rw [if_neg (show ¬ (false = true) by decide)] at H; exact H
     clear H
     have H := H1
     clear H1
     have HC20 := Aside0.mk H
     clear H
     go_upto_region 4 with (fail)
     go_cut [27] (fun v27 wc => ∃ (kq : Nat) (x27_19 : Bool), v27 = .bool x27_19 ∧ Aside0 (term_may.j1 kq a1 x27_19 a0_0 a0_1 l0_2 l0_3 t102 t103 t104 t105 = some r) ∧ Aside0 (kq ≤ kj10) ∧ Aside0 (wc.heap[gb101]? = some (.cells #[.int .i64 a0_0, .int .u64 a0_1, (.slice A0_2 l0_2.length c0_2), (.slice A0_3 l0_3.length c0_3)] 26 (0, 0))) ∧ Aside0 (wc.heap[gb106]? = some (.cells #[.bool t102, .bool t103, .bool t104, .int .i64 t105] 69 (0, 0))) ∧ Aside0 (Below w.heap.size w wc))
     case first =>
      have H := HC20.out
      clear HC20
      by_cases c21 : t103 = true
      ·subst c21
       have H1 : (term_may.j1 kj10 a1 false a0_0 a0_1 l0_2 l0_3 t102 true t104 t105) = some r := by rw [if_pos rfl] at H; exact H
       clear H
       have H := H1
       clear H1
       have H' := Aside0.mk H
       clear H
       have hnb22 := NB106_101.out
       have hnc22 := NB101_106.out
       have hcz23_0 : wc.cell? ⟨gb106, 0, none⟩ = some (.bool t102) := (blk_cell BK106.out 0).trans rfl
       have hcz23_1 : wc.cell? ⟨gb106, 1, none⟩ = some (.bool true) := (blk_cell BK106.out 1).trans rfl
       have hcz23_2 : wc.cell? ⟨gb106, 2, none⟩ = some (.bool t104) := (blk_cell BK106.out 2).trans rfl
       have hcz23_3 : wc.cell? ⟨gb106, 3, none⟩ = some (.int .i64 t105) := (blk_cell BK106.out 3).trans rfl
       have hfz23_0 := blk_frozen BK106.out 0
       have hfz23_1 := blk_frozen BK106.out 1
       have hfz23_2 := blk_frozen BK106.out 2
       have hfz23_3 := blk_frozen BK106.out 3
       go_wp2
       go_meet
       case rel => exact ⟨_, (false), (by first | rfl | (simp; done) | (simp [*]; done)), H', ⟨by have := HJ10.out; first | omega | exact Nat.le_refl _⟩, ⟨by (with_reducible repeat (first | refine blk_drewN ?_ _ | refine blk_drew ?_ | refine blk_alloc ?_ _)); exact BK101.out⟩, ⟨by (with_reducible repeat (first | refine blk_drewN ?_ _ | refine blk_drew ?_ | refine blk_alloc ?_ _)); exact BK106.out⟩, ⟨by repeat (first | (with_reducible first | exact HB.out | apply below_alloc | apply pw_below_drewN | apply below_drew1 | refine below_set ?_ GE101.out | refine below_set ?_ GE106.out) | exact HB.out)⟩⟩
      ·replace c21 := Bool.eq_false_iff.mpr c21
       subst c21
       have H1 : (term_may.j1 kj10 a1 (a0_1 != 0) a0_0 a0_1 l0_2 l0_3 t102 false t104 t105) = some r := by rw [if_neg (show ¬ (false = true) by decide)] at H; exact H
       clear H
       have H := H1
       clear H1
       have H' := Aside0.mk H
       clear H
       have hnb24 := NB106_101.out
       have hnc24 := NB101_106.out
       have hcz25_0 : wc.cell? ⟨gb106, 0, none⟩ = some (.bool t102) := (blk_cell BK106.out 0).trans rfl
       have hcz25_1 : wc.cell? ⟨gb106, 1, none⟩ = some (.bool false) := (blk_cell BK106.out 1).trans rfl
       have hcz25_2 : wc.cell? ⟨gb106, 2, none⟩ = some (.bool t104) := (blk_cell BK106.out 2).trans rfl
       have hcz25_3 : wc.cell? ⟨gb106, 3, none⟩ = some (.int .i64 t105) := (blk_cell BK106.out 3).trans rfl
       have hfz25_0 := blk_frozen BK106.out 0
       have hfz25_1 := blk_frozen BK106.out 1
       have hfz25_2 := blk_frozen BK106.out 2
       have hfz25_3 := blk_frozen BK106.out 3
       have hcz26_0 : wc.cell? ⟨gb101, 0, none⟩ = some (.int .i64 a0_0) := (blk_cell BK101.out 0).trans rfl
       have hcz26_1 : wc.cell? ⟨gb101, 1, none⟩ = some (.int .u64 a0_1) := (blk_cell BK101.out 1).trans rfl
       have hcz26_2 : wc.cell? ⟨gb101, 2, none⟩ = some (.slice A0_2 l0_2.length c0_2) := (blk_cell BK101.out 2).trans rfl
       have hcz26_3 : wc.cell? ⟨gb101, 3, none⟩ = some (.slice A0_3 l0_3.length c0_3) := (blk_cell BK101.out 3).trans rfl
       have hfz26_0 := blk_frozen BK101.out 0
       have hfz26_1 := blk_frozen BK101.out 1
       have hfz26_2 := blk_frozen BK101.out 2
       have hfz26_3 := blk_frozen BK101.out 3
       go_wp2
       go_meet
       case rel => exact ⟨_, ((a0_1 != 0)), (by first | rfl | (simp; done) | (simp [*]; done)), H', ⟨by have := HJ10.out; first | omega | exact Nat.le_refl _⟩, ⟨by (with_reducible repeat (first | refine blk_drewN ?_ _ | refine blk_drew ?_ | refine blk_alloc ?_ _)); exact BK101.out⟩, ⟨by (with_reducible repeat (first | refine blk_drewN ?_ _ | refine blk_drew ?_ | refine blk_alloc ?_ _)); exact BK106.out⟩, ⟨by repeat (first | (with_reducible first | exact HB.out | apply below_alloc | apply pw_below_drewN | apply below_drew1 | refine below_set ?_ GE101.out | refine below_set ?_ GE106.out) | exact HB.out)⟩⟩
     case rest =>
      clear HC20
      (try clear c1);(try clear c2);(try clear p2);(try clear c4);(try clear c9);(try clear c12);(try clear c12b0);(try clear c12b1);(try clear c13);(try clear c14);(try clear c17);(try clear c19);(try clear c21);(try clear c22);(try clear c24);(try clear hcz10_0);(try clear hcz10_1);(try clear hcz10_2);(try clear hcz10_3);(try clear hcz15_0);(try clear hcz15_1);(try clear hcz15_2);(try clear hcz15_3);(try clear hcz16_0);(try clear hcz16_1);(try clear hcz16_2);(try clear hcz16_3);(try clear hcz18_0);(try clear hcz18_1);(try clear hcz18_2);(try clear hcz18_3);(try clear hcz23_0);(try clear hcz23_1);(try clear hcz23_2);(try clear hcz23_3);(try clear hcz25_0);(try clear hcz25_1);(try clear hcz25_2);(try clear hcz25_3);(try clear hcz26_0);(try clear hcz26_1);(try clear hcz26_2);(try clear hcz26_3);(try clear hcz6_0);(try clear hcz6_1);(try clear hcz6_2);(try clear hcz6_3);(try clear hfz10_0);(try clear hfz10_1);(try clear hfz10_2);(try clear hfz10_3);(try clear hfz15_0);(try clear hfz15_1);(try clear hfz15_2);(try clear hfz15_3);(try clear hfz16_0);(try clear hfz16_1);(try clear hfz16_2);(try clear hfz16_3);(try clear hfz18_0);(try clear hfz18_1);(try clear hfz18_2);(try clear hfz18_3);(try clear hfz23_0);(try clear hfz23_1);(try clear hfz23_2);(try clear hfz23_3);(try clear hfz25_0);(try clear hfz25_1);(try clear hfz25_2);(try clear hfz25_3);(try clear hfz26_0);(try clear hfz26_1);(try clear hfz26_2);(try clear hfz26_3);(try clear hfz6_0);(try clear hfz6_1);(try clear hfz6_2);(try clear hfz6_3);(try clear p2)
      obtain ⟨kq, x27_19, rfl, HA, HJ19, BK101, BK106, HB⟩ := hcut
      cases kq with
      | zero => exact absurd HA.out (by simp [term_may.j1])
      | succ kj19 =>
       have H := HA.out
       clear HA
       simp only [term_may.j1] at H
       have HC27 := Aside0.mk H
       clear H
       go_upto_if 27 with (fail)
       go_cut [27] (fun v27 wc => ∃ (kq : Nat) (x27_26 : Bool), v27 = .bool x27_26 ∧ Aside0 (term_may.j2 kq a1 x27_26 a0_0 a0_1 l0_2 l0_3 = some r) ∧ Aside0 (kq ≤ kj19) ∧ Aside0 (wc.heap[gb101]? = some (.cells #[.int .i64 a0_0, .int .u64 a0_1, (.slice A0_2 l0_2.length c0_2), (.slice A0_3 l0_3.length c0_3)] 26 (0, 0))) ∧ Aside0 (wc.heap[gb106]? = some (.cells #[.bool t102, .bool t103, .bool t104, .int .i64 t105] 69 (0, 0))) ∧ Aside0 (Below w.heap.size w wc))
       case first =>
        have H := HC27.out
        clear HC27
        by_cases c28 : x27_19 = true
        ·subst c28
         have H1 : (term_may.j2 kj19 a1 true a0_0 a0_1 l0_2 l0_3) = some r := by rw [if_pos rfl] at H; exact H
         clear H
         have H := H1
         clear H1
         have H' := Aside0.mk H
         clear H
         go_wp2
         go_meet
         case rel => exact ⟨_, (true), (by first | rfl | (simp; done) | (simp [*]; done)), H', ⟨by have := HJ10.out; have := HJ19.out; first | omega | exact Nat.le_refl _⟩, ⟨by (with_reducible repeat (first | refine blk_drewN ?_ _ | refine blk_drew ?_ | refine blk_alloc ?_ _)); exact BK101.out⟩, ⟨by (with_reducible repeat (first | refine blk_drewN ?_ _ | refine blk_drew ?_ | refine blk_alloc ?_ _)); exact BK106.out⟩, ⟨by repeat (first | (with_reducible first | exact HB.out | apply below_alloc | apply pw_below_drewN | apply below_drew1 | refine below_set ?_ GE101.out | refine below_set ?_ GE106.out) | exact HB.out)⟩⟩
        ·replace c28 := Bool.eq_false_iff.mpr c28
         subst c28
         have H1 : (if t104 = true then (term_may.j2 kj19 a1 (decide ((l0_2.length : Int) > 100)) a0_0 a0_1 l0_2 l0_3) else (if (l0_2.length : Int) > 0 then (term_may.j2 kj19 a1 (decide ((l0_2.length : Int) > 0)) a0_0 a0_1 l0_2 l0_3) else (term_may.j2 kj19 a1 (decide ((l0_2.length : Int) > 100)) a0_0 a0_1 l0_2 l0_3))) = some r := by rw [if_neg (show ¬ (false = true) by decide)] at H; exact H
         clear H
         have H := H1
         clear H1
         by_cases c29 : t104 = true
         ·subst c29
          have H1 : (term_may.j2 kj19 a1 (decide ((l0_2.length : Int) > 100)) a0_0 a0_1 l0_2 l0_3) = some r := by rw [if_pos rfl] at H; exact H
          clear H
          have H := H1
          clear H1
          have H' := Aside0.mk H
          clear H
          have hnb30 := NB106_101.out
          have hnc30 := NB101_106.out
          have hcz31_0 : wc.cell? ⟨gb106, 0, none⟩ = some (.bool t102) := (blk_cell BK106.out 0).trans rfl
          have hcz31_1 : wc.cell? ⟨gb106, 1, none⟩ = some (.bool t103) := (blk_cell BK106.out 1).trans rfl
          have hcz31_2 : wc.cell? ⟨gb106, 2, none⟩ = some (.bool true) := (blk_cell BK106.out 2).trans rfl
          have hcz31_3 : wc.cell? ⟨gb106, 3, none⟩ = some (.int .i64 t105) := (blk_cell BK106.out 3).trans rfl
          have hfz31_0 := blk_frozen BK106.out 0
          have hfz31_1 := blk_frozen BK106.out 1
          have hfz31_2 := blk_frozen BK106.out 2
          have hfz31_3 := blk_frozen BK106.out 3
          have hcz32_0 : wc.cell? ⟨gb101, 0, none⟩ = some (.int .i64 a0_0) := (blk_cell BK101.out 0).trans rfl
          have hcz32_1 : wc.cell? ⟨gb101, 1, none⟩ = some (.int .u64 a0_1) := (blk_cell BK101.out 1).trans rfl
          have hcz32_2 : wc.cell? ⟨gb101, 2, none⟩ = some (.slice A0_2 l0_2.length c0_2) := (blk_cell BK101.out 2).trans rfl
          have hcz32_3 : wc.cell? ⟨gb101, 3, none⟩ = some (.slice A0_3 l0_3.length c0_3) := (blk_cell BK101.out 3).trans rfl
          have hfz32_0 := blk_frozen BK101.out 0
          have hfz32_1 := blk_frozen BK101.out 1
          have hfz32_2 := blk_frozen BK101.out 2
          have hfz32_3 := blk_frozen BK101.out 3
          go_wp2
          go_meet
          case rel => exact ⟨_, (decide ((l0_2.length : Int) > 100)), (by first | rfl | (simp; done) | (simp [*]; done)), H', ⟨by have := HJ10.out; have := HJ19.out; first | omega | exact Nat.le_refl _⟩, ⟨by (with_reducible repeat (first | refine blk_drewN ?_ _ | refine blk_drew ?_ | refine blk_alloc ?_ _)); exact BK101.out⟩, ⟨by (with_reducible repeat (first | refine blk_drewN ?_ _ | refine blk_drew ?_ | refine blk_alloc ?_ _)); exact BK106.out⟩, ⟨by repeat (first | (with_reducible first | exact HB.out | apply below_alloc | apply pw_below_drewN | apply below_drew1 | refine below_set ?_ GE101.out | refine below_set ?_ GE106.out) | exact HB.out)⟩⟩
         ·replace c29 := Bool.eq_false_iff.mpr c29
          subst c29
          have H1 : (if (l0_2.length : Int) > 0 then (term_may.j2 kj19 a1 (decide ((l0_2.length : Int) > 0)) a0_0 a0_1 l0_2 l0_3) else (term_may.j2 kj19 a1 (decide ((l0_2.length : Int) > 100)) a0_0 a0_1 l0_2 l0_3)) = some r := by rw [if_neg (show ¬ (false = true) by decide)] at H; exact H
          clear H
          have H := H1
          clear H1
          by_cases c33 : (l0_2.length : Int) > 0
          ·rw [if_pos c33] at H
           have c33b0 : decide (0 < (l0_2.length : Int)) = true := decide_eq_true c33
           have c33b1 : decide (0 < l0_2.length) = true := decide_eq_true (by omega)
           clear c33
           (first | rw [c33b0] | (simp only [i64_w, i32_w]; rw [c33b0]) | skip)
           have H' := Aside0.mk H
           clear H
           have hnb34 := NB106_101.out
           have hnc34 := NB101_106.out
           have hcz35_0 : wc.cell? ⟨gb106, 0, none⟩ = some (.bool t102) := (blk_cell BK106.out 0).trans rfl
           have hcz35_1 : wc.cell? ⟨gb106, 1, none⟩ = some (.bool t103) := (blk_cell BK106.out 1).trans rfl
           have hcz35_2 : wc.cell? ⟨gb106, 2, none⟩ = some (.bool false) := (blk_cell BK106.out 2).trans rfl
           have hcz35_3 : wc.cell? ⟨gb106, 3, none⟩ = some (.int .i64 t105) := (blk_cell BK106.out 3).trans rfl
           have hfz35_0 := blk_frozen BK106.out 0
           have hfz35_1 := blk_frozen BK106.out 1
           have hfz35_2 := blk_frozen BK106.out 2
           have hfz35_3 := blk_frozen BK106.out 3
           have hcz36_0 : wc.cell? ⟨gb101, 0, none⟩ = some (.int .i64 a0_0) := (blk_cell BK101.out 0).trans rfl
           have hcz36_1 : wc.cell? ⟨gb101, 1, none⟩ = some (.int .u64 a0_1) := (blk_cell BK101.out 1).trans rfl
           have hcz36_2 : wc.cell? ⟨gb101, 2, none⟩ = some (.slice A0_2 l0_2.length c0_2) := (blk_cell BK101.out 2).trans rfl
           have hcz36_3 : wc.cell? ⟨gb101, 3, none⟩ = some (.slice A0_3 l0_3.length c0_3) := (blk_cell BK101.out 3).trans rfl
           have hfz36_0 := blk_frozen BK101.out 0
           have hfz36_1 := blk_frozen BK101.out 1
           have hfz36_2 := blk_frozen BK101.out 2
           have hfz36_3 := blk_frozen BK101.out 3
           go_wp2
           go_meet
           case rel => exact ⟨_, (decide ((l0_2.length : Int) > 0)), (by first | rfl | (simp; done) | (simp [*]; done)), H', ⟨by have := HJ10.out; have := HJ19.out; first | omega | exact Nat.le_refl _⟩, ⟨by (with_reducible repeat (first | refine blk_drewN ?_ _ | refine blk_drew ?_ | refine blk_alloc ?_ _)); exact BK101.out⟩, ⟨by (with_reducible repeat (first | refine blk_drewN ?_ _ | refine blk_drew ?_ | refine blk_alloc ?_ _)); exact BK106.out⟩, ⟨by repeat (first | (with_reducible first | exact HB.out | apply below_alloc | apply pw_below_drewN | apply below_drew1 | refine below_set ?_ GE101.out | refine below_set ?_ GE106.out) | exact HB.out)⟩⟩
          ·rw [if_neg c33] at H
           have c33b0 : decide (0 < (l0_2.length : Int)) = false := decide_eq_false c33
           have c33b1 : decide (0 < l0_2.length) = false := decide_eq_false (by omega)
           clear c33
           (first | rw [c33b0] | (simp only [i64_w, i32_w]; rw [c33b0]) | skip)
           have H' := Aside0.mk H
           clear H
           have hnb37 := NB106_101.out
           have hnc37 := NB101_106.out
           have hcz38_0 : wc.cell? ⟨gb106, 0, none⟩ = some (.bool t102) := (blk_cell BK106.out 0).trans rfl
           have hcz38_1 : wc.cell? ⟨gb106, 1, none⟩ = some (.bool t103) := (blk_cell BK106.out 1).trans rfl
           have hcz38_2 : wc.cell? ⟨gb106, 2, none⟩ = some (.bool false) := (blk_cell BK106.out 2).trans rfl
           have hcz38_3 : wc.cell? ⟨gb106, 3, none⟩ = some (.int .i64 t105) := (blk_cell BK106.out 3).trans rfl
           have hfz38_0 := blk_frozen BK106.out 0
           have hfz38_1 := blk_frozen BK106.out 1
           have hfz38_2 := blk_frozen BK106.out 2
           have hfz38_3 := blk_frozen BK106.out 3
           have hcz39_0 : wc.cell? ⟨gb101, 0, none⟩ = some (.int .i64 a0_0) := (blk_cell BK101.out 0).trans rfl
           have hcz39_1 : wc.cell? ⟨gb101, 1, none⟩ = some (.int .u64 a0_1) := (blk_cell BK101.out 1).trans rfl
           have hcz39_2 : wc.cell? ⟨gb101, 2, none⟩ = some (.slice A0_2 l0_2.length c0_2) := (blk_cell BK101.out 2).trans rfl
           have hcz39_3 : wc.cell? ⟨gb101, 3, none⟩ = some (.slice A0_3 l0_3.length c0_3) := (blk_cell BK101.out 3).trans rfl
           have hfz39_0 := blk_frozen BK101.out 0
           have hfz39_1 := blk_frozen BK101.out 1
           have hfz39_2 := blk_frozen BK101.out 2
           have hfz39_3 := blk_frozen BK101.out 3
           go_wp2
           go_meet
           case rel => exact ⟨_, (decide ((l0_2.length : Int) > 100)), (by first | rfl | (simp; done) | (simp [*]; done)), H', ⟨by have := HJ10.out; have := HJ19.out; first | omega | exact Nat.le_refl _⟩, ⟨by (with_reducible repeat (first | refine blk_drewN ?_ _ | refine blk_drew ?_ | refine blk_alloc ?_ _)); exact BK101.out⟩, ⟨by (with_reducible repeat (first | refine blk_drewN ?_ _ | refine blk_drew ?_ | refine blk_alloc ?_ _)); exact BK106.out⟩, ⟨by repeat (first | (with_reducible first | exact HB.out | apply below_alloc | apply pw_below_drewN | apply below_drew1 | refine below_set ?_ GE101.out | refine below_set ?_ GE106.out) | exact HB.out)⟩⟩
       case rest =>
        clear HC27
        (try clear c1);(try clear c2);(try clear p2);(try clear c3);(try clear c4);(try clear c9);(try clear c12);(try clear c12b0);(try clear c12b1);(try clear c13);(try clear c14);(try clear c17);(try clear c19);(try clear c21);(try clear c22);(try clear c24);(try clear c28);(try clear c29);(try clear c30);(try clear c33);(try clear c33b0);(try clear c33b1);(try clear c34);(try clear c37);(try clear hcz10_0);(try clear hcz10_1);(try clear hcz10_2);(try clear hcz10_3);(try clear hcz15_0);(try clear hcz15_1);(try clear hcz15_2);(try clear hcz15_3);(try clear hcz16_0);(try clear hcz16_1);(try clear hcz16_2);(try clear hcz16_3);(try clear hcz18_0);(try clear hcz18_1);(try clear hcz18_2);(try clear hcz18_3);(try clear hcz23_0);(try clear hcz23_1);(try clear hcz23_2);(try clear hcz23_3);(try clear hcz25_0);(try clear hcz25_1);(try clear hcz25_2);(try clear hcz25_3);(try clear hcz26_0);(try clear hcz26_1);(try clear hcz26_2);(try clear hcz26_3);(try clear hcz31_0);(try clear hcz31_1);(try clear hcz31_2);(try clear hcz31_3);(try clear hcz32_0);(try clear hcz32_1);(try clear hcz32_2);(try clear hcz32_3);(try clear hcz35_0);(try clear hcz35_1);(try clear hcz35_2);(try clear hcz35_3);(try clear hcz36_0);(try clear hcz36_1);(try clear hcz36_2);(try clear hcz36_3);(try clear hcz38_0);(try clear hcz38_1);(try clear hcz38_2);(try clear hcz38_3);(try clear hcz39_0);(try clear hcz39_1);(try clear hcz39_2);(try clear hcz39_3);(try clear hcz6_0);(try clear hcz6_1);(try clear hcz6_2);(try clear hcz6_3);(try clear hfz10_0);(try clear hfz10_1);(try clear hfz10_2);(try clear hfz10_3);(try clear hfz15_0);(try clear hfz15_1);(try clear hfz15_2);(try clear hfz15_3);(try clear hfz16_0);(try clear hfz16_1);(try clear hfz16_2);(try clear hfz16_3);(try clear hfz18_0);(try clear hfz18_1);(try clear hfz18_2);(try clear hfz18_3);(try clear hfz23_0);(try clear hfz23_1);(try clear hfz23_2);(try clear hfz23_3);(try clear hfz25_0);(try clear hfz25_1);(try clear hfz25_2);(try clear hfz25_3);(try clear hfz26_0);(try clear hfz26_1);(try clear hfz26_2);(try clear hfz26_3);(try clear hfz31_0);(try clear hfz31_1);(try clear hfz31_2);(try clear hfz31_3);(try clear hfz32_0);(try clear hfz32_1);(try clear hfz32_2);(try clear hfz32_3);(try clear hfz35_0);(try clear hfz35_1);(try clear hfz35_2);(try clear hfz35_3);(try clear hfz36_0);(try clear hfz36_1);(try clear hfz36_2);(try clear hfz36_3);(try clear hfz38_0);(try clear hfz38_1);(try clear hfz38_2);(try clear hfz38_3);(try clear hfz39_0);(try clear hfz39_1);(try clear hfz39_2);(try clear hfz39_3);(try clear hfz6_0);(try clear hfz6_1);(try clear hfz6_2);(try clear hfz6_3);(try clear p2)
        obtain ⟨kq, x27_26, rfl, HA, HJ26, BK101, BK106, HB⟩ := hcut
        cases kq with
        | zero => exact absurd HA.out (by simp [term_may.j2])
        | succ kj26 =>
         have H := HA.out
         clear HA
         simp only [term_may.j2] at H
         by_cases c40 : x27_26 = true
         ·subst c40
          have H1 : (some false) = some r := by rw [if_pos rfl] at H; exact H
          clear H
          have H := H1
          clear H1
          obtain rfl := Option.some.inj H
          go_wp2
          go_ret
          exact ⟨by first | rfl | (simp [errW_none, errW_some] <;> rfl) | (simp [*, errW_none, errW_some] <;> rfl), by repeat (first | (with_reducible first | exact HB.out | apply below_alloc | apply pw_below_drewN | apply below_drew1 | refine below_set ?_ GE101.out | refine below_set ?_ GE106.out) | exact HB.out)⟩
         ·replace c40 := Bool.eq_false_iff.mpr c40
          subst c40
          have H1 : (if a0_0 = 5 then (if 1 < (l0_3.length : Int) then (if ((rd_T26 l0_3 1).f0) = 2 then (term_may.j3 kj26 a1 a0_0 a0_1 l0_2 l0_3) else (some false)) else (none)) else (term_may.j3 kj26 a1 a0_0 a0_1 l0_2 l0_3)) = some r := by rw [if_neg (show ¬ (false = true) by decide)] at H; exact H
          clear H
          have H := H1
          clear H1
          by_cases c41 : a0_0 = 5
          ·rw [if_pos c41] at H
           have c41b0 : (a0_0 == 5) = true := beq_iff_eq.mpr c41
           have c41b1 : (a0_0 != 5) = false := bne_eq_false_iff_eq.mpr c41
           clear c41
           by_cases c42 : 1 < (l0_3.length : Int)
           ·rw [if_pos c42] at H
            have c42b0 : decide (1 < (l0_3.length : Int)) = true := decide_eq_true c42
            have c42b1 : decide (1 < l0_3.length) = true := decide_eq_true (by omega)
            clear c42
            by_cases c43 : ((rd_T26 l0_3 1).f0) = 2
            ·rw [if_pos c43] at H
             have c43b0 : (((rd_T26 l0_3 1).f0) == 2) = true := beq_iff_eq.mpr c43
             have c43b1 : (((rd_T26 l0_3 1).f0) != 2) = false := bne_eq_false_iff_eq.mpr c43
             clear c43
             have H' := Aside0.mk H
             clear H
             have hnb44 := NB101_106.out
             have hnc44 := NB106_101.out
             have hcz45_0 : wc.cell? ⟨gb101, 0, none⟩ = some (.int .i64 a0_0) := (blk_cell BK101.out 0).trans rfl
             have hcz45_1 : wc.cell? ⟨gb101, 1, none⟩ = some (.int .u64 a0_1) := (blk_cell BK101.out 1).trans rfl
             have hcz45_2 : wc.cell? ⟨gb101, 2, none⟩ = some (.slice A0_2 l0_2.length c0_2) := (blk_cell BK101.out 2).trans rfl
             have hcz45_3 : wc.cell? ⟨gb101, 3, none⟩ = some (.slice A0_3 l0_3.length c0_3) := (blk_cell BK101.out 3).trans rfl
             have hfz45_0 := blk_frozen BK101.out 0
             have hfz45_1 := blk_frozen BK101.out 1
             have hfz45_2 := blk_frozen BK101.out 2
             have hfz45_3 := blk_frozen BK101.out 3
             have p107 : 0 ≤ (1 : Int) := (by omega)
             have q107 : 1 < (l0_3.length : Int) := of_decide_eq_true (by first | (with_reducible assumption) | assumption)
             obtain ⟨ad107, A107_2, c107_2, A107_3, c107_3, e107, hx107_0, hx107_1, hx107_2, hx107_3, hl107_2, hi107_2, hl107_3, hi107_3⟩ := at_T26 HR0_3.out 1 p107 q107
             cases e107
             (try simp only [show (1 : Int).toNat = 1 from rfl, Nat.reduceMul, Nat.reduceEqDiff, Go.Addr.add, ↓reduceIte] at hx107_0)
             (try simp only [show (1 : Int).toNat = 1 from rfl, Nat.reduceMul, Nat.reduceEqDiff, Go.Addr.add, ↓reduceIte] at hx107_1)
             (try simp only [show (1 : Int).toNat = 1 from rfl, Nat.reduceMul, Nat.reduceEqDiff, Go.Addr.add, ↓reduceIte] at hx107_2)
             (try simp only [show (1 : Int).toNat = 1 from rfl, Nat.reduceMul, Nat.reduceEqDiff, Go.Addr.add, ↓reduceIte] at hx107_3)
             have qi107 : (1 < l0_3.length) = True := eq_true (by omega)
             (try rw [show ((1 : Int)).toNat = 1 from rfl] at hx107_0)
             (try rw [show 1 * 4 = 4 from rfl] at hx107_0)
             (try rw [show ((1 : Int)).toNat = 1 from rfl] at hx107_1)
             (try rw [show 1 * 4 = 4 from rfl] at hx107_1)
             (try rw [show ((1 : Int)).toNat = 1 from rfl] at hx107_2)
             (try rw [show 1 * 4 = 4 from rfl] at hx107_2)
             (try rw [show ((1 : Int)).toNat = 1 from rfl] at hx107_3)
             (try rw [show 1 * 4 = 4 from rfl] at hx107_3)
             replace hx107_0 := (HB.out.cell (World.block_lt_of_cell? w _ hx107_0)).trans hx107_0
             replace hx107_1 := (HB.out.cell (World.block_lt_of_cell? w _ hx107_1)).trans hx107_1
             replace hx107_2 := (HB.out.cell (World.block_lt_of_cell? w _ hx107_2)).trans hx107_2
             replace hx107_3 := (HB.out.cell (World.block_lt_of_cell? w _ hx107_3)).trans hx107_3
             have HR107_2 := Aside0.mk hi107_2
             have HC107_2 := Aside0.mk hl107_2
             clear hi107_2 hl107_2
             have HR107_3 := Aside0.mk hi107_3
             have HC107_3 := Aside0.mk hl107_3
             clear hi107_3 hl107_3
             replace p107 := eq_true p107
             replace q107 := eq_true q107
             go_wp2
             go_meet
             case rel => exact ⟨_, H', ⟨by have := HJ10.out; have := HJ19.out; have := HJ26.out; first | omega | exact Nat.le_refl _⟩, ⟨by (with_reducible repeat (first | refine blk_drewN ?_ _ | refine blk_drew ?_ | refine blk_alloc ?_ _)); exact BK101.out⟩, ⟨by (with_reducible repeat (first | refine blk_drewN ?_ _ | refine blk_drew ?_ | refine blk_alloc ?_ _)); exact BK106.out⟩, ⟨by repeat (first | (with_reducible first | exact HB.out | apply below_alloc | apply pw_below_drewN | apply below_drew1 | refine below_set ?_ GE101.out | refine below_set ?_ GE106.out) | exact HB.out)⟩⟩
            ·rw [if_neg c43] at H
             have c43b0 : (((rd_T26 l0_3 1).f0) == 2) = false := beq_eq_false_iff_ne.mpr c43
             have c43b1 : (((rd_T26 l0_3 1).f0) != 2) = true := bne_iff_ne.mpr c43
             obtain rfl := Option.some.inj H
             have hnb46 := NB101_106.out
             have hnc46 := NB106_101.out
             have hcz47_0 : wc.cell? ⟨gb101, 0, none⟩ = some (.int .i64 a0_0) := (blk_cell BK101.out 0).trans rfl
             have hcz47_1 : wc.cell? ⟨gb101, 1, none⟩ = some (.int .u64 a0_1) := (blk_cell BK101.out 1).trans rfl
             have hcz47_2 : wc.cell? ⟨gb101, 2, none⟩ = some (.slice A0_2 l0_2.length c0_2) := (blk_cell BK101.out 2).trans rfl
             have hcz47_3 : wc.cell? ⟨gb101, 3, none⟩ = some (.slice A0_3 l0_3.length c0_3) := (blk_cell BK101.out 3).trans rfl
             have hfz47_0 := blk_frozen BK101.out 0
             have hfz47_1 := blk_frozen BK101.out 1
             have hfz47_2 := blk_frozen BK101.out 2
             have hfz47_3 := blk_frozen BK101.out 3
             have p107 : 0 ≤ (1 : Int) := (by omega)
             have q107 : 1 < (l0_3.length : Int) := of_decide_eq_true (by first | (with_reducible assumption) | assumption)
             obtain ⟨ad107, A107_2, c107_2, A107_3, c107_3, e107, hx107_0, hx107_1, hx107_2, hx107_3, hl107_2, hi107_2, hl107_3, hi107_3⟩ := at_T26 HR0_3.out 1 p107 q107
             cases e107
             (try simp only [show (1 : Int).toNat = 1 from rfl, Nat.reduceMul, Nat.reduceEqDiff, Go.Addr.add, ↓reduceIte] at hx107_0)
             (try simp only [show (1 : Int).toNat = 1 from rfl, Nat.reduceMul, Nat.reduceEqDiff, Go.Addr.add, ↓reduceIte] at hx107_1)
             (try simp only [show (1 : Int).toNat = 1 from rfl, Nat.reduceMul, Nat.reduceEqDiff, Go.Addr.add, ↓reduceIte] at hx107_2)
             (try simp only [show (1 : Int).toNat = 1 from rfl, Nat.reduceMul, Nat.reduceEqDiff, Go.Addr.add, ↓reduceIte] at hx107_3)
             have qi107 : (1 < l0_3.length) = True := eq_true (by omega)
             (try rw [show ((1 : Int)).toNat = 1 from rfl] at hx107_0)
             (try rw [show 1 * 4 = 4 from rfl] at hx107_0)
             (try rw [show ((1 : Int)).toNat = 1 from rfl] at hx107_1)
             (try rw [show 1 * 4 = 4 from rfl] at hx107_1)
             (try rw [show ((1 : Int)).toNat = 1 from rfl] at hx107_2)
             (try rw [show 1 * 4 = 4 from rfl] at hx107_2)
             (try rw [show ((1 : Int)).toNat = 1 from rfl] at hx107_3)
             (try rw [show 1 * 4 = 4 from rfl] at hx107_3)
             replace hx107_0 := (HB.out.cell (World.block_lt_of_cell? w _ hx107_0)).trans hx107_0
             replace hx107_1 := (HB.out.cell (World.block_lt_of_cell? w _ hx107_1)).trans hx107_1
             replace hx107_2 := (HB.out.cell (World.block_lt_of_cell? w _ hx107_2)).trans hx107_2
             replace hx107_3 := (HB.out.cell (World.block_lt_of_cell? w _ hx107_3)).trans hx107_3
             have HR107_2 := Aside0.mk hi107_2
             have HC107_2 := Aside0.mk hl107_2
             clear hi107_2 hl107_2
             have HR107_3 := Aside0.mk hi107_3
             have HC107_3 := Aside0.mk hl107_3
             clear hi107_3 hl107_3
             replace p107 := eq_true p107
             replace q107 := eq_true q107
             go_wp2
             go_ret
             exact ⟨by first | rfl | (simp [errW_none, errW_some] <;> rfl) | (simp [*, errW_none, errW_some] <;> rfl), by repeat (first | (with_reducible first | exact HB.out | apply below_alloc | apply pw_below_drewN | apply below_drew1 | refine below_set ?_ GE101.out | refine below_set ?_ GE106.out) | exact HB.out)⟩
           ·rw [if_neg c42] at H
            exact absurd H (by simp)
          ·rw [if_neg c41] at H
           have c41b0 : (a0_0 == 5) = false := beq_eq_false_iff_ne.mpr c41
           have c41b1 : (a0_0 != 5) = true := bne_iff_ne.mpr c41
           have H' := Aside0.mk H
           clear H
           have hnb48 := NB101_106.out
           have hnc48 := NB106_101.out
           have hcz49_0 : wc.cell? ⟨gb101, 0, none⟩ = some (.int .i64 a0_0) := (blk_cell BK101.out 0).trans rfl
           have hcz49_1 : wc.cell? ⟨gb101, 1, none⟩ = some (.int .u64 a0_1) := (blk_cell BK101.out 1).trans rfl
           have hcz49_2 : wc.cell? ⟨gb101, 2, none⟩ = some (.slice A0_2 l0_2.length c0_2) := (blk_cell BK101.out 2).trans rfl
           have hcz49_3 : wc.cell? ⟨gb101, 3, none⟩ = some (.slice A0_3 l0_3.length c0_3) := (blk_cell BK101.out 3).trans rfl
           have hfz49_0 := blk_frozen BK101.out 0
           have hfz49_1 := blk_frozen BK101.out 1
           have hfz49_2 := blk_frozen BK101.out 2
           have hfz49_3 := blk_frozen BK101.out 3
           go_wp2
           go_meet
           case rel => exact ⟨_, H', ⟨by have := HJ10.out; have := HJ19.out; have := HJ26.out; first | omega | exact Nat.le_refl _⟩, ⟨by (with_reducible repeat (first | refine blk_drewN ?_ _ | refine blk_drew ?_ | refine blk_alloc ?_ _)); exact BK101.out⟩, ⟨by (with_reducible repeat (first | refine blk_drewN ?_ _ | refine blk_drew ?_ | refine blk_alloc ?_ _)); exact BK106.out⟩, ⟨by repeat (first | (with_reducible first | exact HB.out | apply below_alloc | apply pw_below_drewN | apply below_drew1 | refine below_set ?_ GE101.out | refine below_set ?_ GE106.out) | exact HB.out)⟩⟩
 case rest =>
  clear HC4
  (try clear c1);(try clear p1);(try clear q1);(try clear hx1);(try clear qi1);(try clear c2);(try clear p2);(try clear c3);(try clear c4);(try clear c9);(try clear c10);(try clear p10);(try clear q10);(try clear hx10);(try clear qi10);(try clear c12);(try clear c12b0);(try clear c12b1);(try clear c13);(try clear c14);(try clear c17);(try clear c19);(try clear c21);(try clear c22);(try clear c24);(try clear c28);(try clear c29);(try clear c30);(try clear c33);(try clear c33b0);(try clear c33b1);(try clear c34);(try clear c37);(try clear c40);(try clear c41);(try clear c41b0);(try clear c41b1);(try clear c42);(try clear c42b0);(try clear c42b1);(try clear c43);(try clear c43b0);(try clear c43b1);(try clear c44);(try clear c46);(try clear c48);(try clear hcz10_0);(try clear hcz10_1);(try clear hcz10_2);(try clear hcz10_3);(try clear hcz15_0);(try clear hcz15_1);(try clear hcz15_2);(try clear hcz15_3);(try clear hcz16_0);(try clear hcz16_1);(try clear hcz16_2);(try clear hcz16_3);(try clear hcz18_0);(try clear hcz18_1);(try clear hcz18_2);(try clear hcz18_3);(try clear hcz23_0);(try clear hcz23_1);(try clear hcz23_2);(try clear hcz23_3);(try clear hcz25_0);(try clear hcz25_1);(try clear hcz25_2);(try clear hcz25_3);(try clear hcz26_0);(try clear hcz26_1);(try clear hcz26_2);(try clear hcz26_3);(try clear hcz31_0);(try clear hcz31_1);(try clear hcz31_2);(try clear hcz31_3);(try clear hcz32_0);(try clear hcz32_1);(try clear hcz32_2);(try clear hcz32_3);(try clear hcz35_0);(try clear hcz35_1);(try clear hcz35_2);(try clear hcz35_3);(try clear hcz36_0);(try clear hcz36_1);(try clear hcz36_2);(try clear hcz36_3);(try clear hcz38_0);(try clear hcz38_1);(try clear hcz38_2);(try clear hcz38_3);(try clear hcz39_0);(try clear hcz39_1);(try clear hcz39_2);(try clear hcz39_3);(try clear hcz45_0);(try clear hcz45_1);(try clear hcz45_2);(try clear hcz45_3);(try clear hcz47_0);(try clear hcz47_1);(try clear hcz47_2);(try clear hcz47_3);(try clear hcz49_0);(try clear hcz49_1);(try clear hcz49_2);(try clear hcz49_3);(try clear hcz6_0);(try clear hcz6_1);(try clear hcz6_2);(try clear hcz6_3);(try clear hfz10_0);(try clear hfz10_1);(try clear hfz10_2);(try clear hfz10_3);(try clear hfz15_0);(try clear hfz15_1);(try clear hfz15_2);(try clear hfz15_3);(try clear hfz16_0);(try clear hfz16_1);(try clear hfz16_2);(try clear hfz16_3);(try clear hfz18_0);(try clear hfz18_1);(try clear hfz18_2);(try clear hfz18_3);(try clear hfz23_0);(try clear hfz23_1);(try clear hfz23_2);(try clear hfz23_3);(try clear hfz25_0);(try clear hfz25_1);(try clear hfz25_2);(try clear hfz25_3);(try clear hfz26_0);(try clear hfz26_1);(try clear hfz26_2);(try clear hfz26_3);(try clear hfz31_0);(try clear hfz31_1);(try clear hfz31_2);(try clear hfz31_3);(try clear hfz32_0);(try clear hfz32_1);(try clear hfz32_2);(try clear hfz32_3);(try clear hfz35_0);(try clear hfz35_1);(try clear hfz35_2);(try clear hfz35_3);(try clear hfz36_0);(try clear hfz36_1);(try clear hfz36_2);(try clear hfz36_3);(try clear hfz38_0)
  (try clear hfz38_1);(try clear hfz38_2);(try clear hfz38_3);(try clear hfz39_0);(try clear hfz39_1);(try clear hfz39_2);(try clear hfz39_3);(try clear hfz45_0);(try clear hfz45_1);(try clear hfz45_2);(try clear hfz45_3);(try clear hfz47_0);(try clear hfz47_1);(try clear hfz47_2);(try clear hfz47_3);(try clear hfz49_0);(try clear hfz49_1);(try clear hfz49_2);(try clear hfz49_3);(try clear hfz6_0);(try clear hfz6_1);(try clear hfz6_2);(try clear hfz6_3);(try clear hx107_0);(try clear hx107_1);(try clear hx107_2);(try clear hx107_3);(try clear p107);(try clear p2);(try clear q107)
  obtain ⟨kq, HA, HJ3, BK101, BK106, HB⟩ := hcut
  cases kq with
  | zero => exact absurd HA.out (by simp [term_may.j3])
  | succ kj3 =>
   have H := HA.out
   clear HA
   simp only [term_may.j3] at H
   have H' := Aside0.mk H
   clear H
   have hnb50 := NB101_106.out
   have hnc50 := NB106_101.out
   have hcz51_0 : wc.cell? ⟨gb101, 0, none⟩ = some (.int .i64 a0_0) := (blk_cell BK101.out 0).trans rfl
   have hcz51_1 : wc.cell? ⟨gb101, 1, none⟩ = some (.int .u64 a0_1) := (blk_cell BK101.out 1).trans rfl
   have hcz51_2 : wc.cell? ⟨gb101, 2, none⟩ = some (.slice A0_2 l0_2.length c0_2) := (blk_cell BK101.out 2).trans rfl
   have hcz51_3 : wc.cell? ⟨gb101, 3, none⟩ = some (.slice A0_3 l0_3.length c0_3) := (blk_cell BK101.out 3).trans rfl
   have hfz51_0 := blk_frozen BK101.out 0
   have hfz51_1 := blk_frozen BK101.out 1
   have hfz51_2 := blk_frozen BK101.out 2
   have hfz51_3 := blk_frozen BK101.out 3
   go_wp2
   go_loopg [64] kj3 (fun kq v64 w' => ∃ (x64_2 : Int), v64 = .int .i64 x64_2 ∧ Aside0 (term_may.l0 kq a1 l0_3 (l0_3.length : Int) x64_2 = some r) ∧ Aside0 (kq ≤ kj3) ∧ Aside0 (w'.heap[gb101]? = some (.cells #[.int .i64 a0_0, .int .u64 a0_1, (.slice A0_2 l0_2.length c0_2), (.slice A0_3 l0_3.length c0_3)] 26 (0, 0))) ∧ Aside0 (w'.heap[gb106]? = some (.cells #[.bool t102, .bool t103, .bool t104, .int .i64 t105] 69 (0, 0))) ∧ Aside0 (Below w.heap.size w w'))
   case atStart => exact ⟨(0), (by first | rfl | (simp; done) | (simp [*]; done)), H', ⟨Nat.le_refl _⟩, ⟨by (with_reducible repeat (first | refine blk_drewN ?_ _ | refine blk_drew ?_ | refine blk_alloc ?_ _)); exact BK101.out⟩, ⟨by (with_reducible repeat (first | refine blk_drewN ?_ _ | refine blk_drew ?_ | refine blk_alloc ?_ _)); exact BK106.out⟩, ⟨by repeat (first | (with_reducible first | exact HB.out | apply below_alloc | apply pw_below_drewN | apply below_drew1 | refine below_set ?_ GE101.out | refine below_set ?_ GE106.out) | exact HB.out)⟩⟩
   case round =>
    clear H'
    (try clear c1);(try clear p1);(try clear q1);(try clear hx1);(try clear qi1);(try clear c2);(try clear p2);(try clear c3);(try clear c4);(try clear c5);(try clear c9);(try clear c10);(try clear p10);(try clear q10);(try clear hx10);(try clear qi10);(try clear c12);(try clear c12b0);(try clear c12b1);(try clear c13);(try clear c14);(try clear c17);(try clear c19);(try clear c21);(try clear c22);(try clear c24);(try clear c28);(try clear c29);(try clear c30);(try clear c33);(try clear c33b0);(try clear c33b1);(try clear c34);(try clear c37);(try clear c40);(try clear c41);(try clear c41b0);(try clear c41b1);(try clear c42);(try clear c42b0);(try clear c42b1);(try clear c43);(try clear c43b0);(try clear c43b1);(try clear c44);(try clear c46);(try clear c48);(try clear c50);(try clear hcz10_0);(try clear hcz10_1);(try clear hcz10_2);(try clear hcz10_3);(try clear hcz15_0);(try clear hcz15_1);(try clear hcz15_2);(try clear hcz15_3);(try clear hcz16_0);(try clear hcz16_1);(try clear hcz16_2);(try clear hcz16_3);(try clear hcz18_0);(try clear hcz18_1);(try clear hcz18_2);(try clear hcz18_3);(try clear hcz23_0);(try clear hcz23_1);(try clear hcz23_2);(try clear hcz23_3);(try clear hcz25_0);(try clear hcz25_1);(try clear hcz25_2);(try clear hcz25_3);(try clear hcz26_0);(try clear hcz26_1);(try clear hcz26_2);(try clear hcz26_3);(try clear hcz31_0);(try clear hcz31_1);(try clear hcz31_2);(try clear hcz31_3);(try clear hcz32_0);(try clear hcz32_1);(try clear hcz32_2);(try clear hcz32_3);(try clear hcz35_0);(try clear hcz35_1);(try clear hcz35_2);(try clear hcz35_3);(try clear hcz36_0);(try clear hcz36_1);(try clear hcz36_2);(try clear hcz36_3);(try clear hcz38_0);(try clear hcz38_1);(try clear hcz38_2);(try clear hcz38_3);(try clear hcz39_0);(try clear hcz39_1);(try clear hcz39_2);(try clear hcz39_3);(try clear hcz45_0);(try clear hcz45_1);(try clear hcz45_2);(try clear hcz45_3);(try clear hcz47_0);(try clear hcz47_1);(try clear hcz47_2);(try clear hcz47_3);(try clear hcz49_0);(try clear hcz49_1);(try clear hcz49_2);(try clear hcz49_3);(try clear hcz51_0);(try clear hcz51_1);(try clear hcz51_2);(try clear hcz51_3);(try clear hcz6_0);(try clear hcz6_1);(try clear hcz6_2);(try clear hcz6_3);(try clear hfz10_0);(try clear hfz10_1);(try clear hfz10_2);(try clear hfz10_3);(try clear hfz15_0);(try clear hfz15_1);(try clear hfz15_2);(try clear hfz15_3);(try clear hfz16_0);(try clear hfz16_1);(try clear hfz16_2);(try clear hfz16_3);(try clear hfz18_0);(try clear hfz18_1);(try clear hfz18_2);(try clear hfz18_3);(try clear hfz23_0);(try clear hfz23_1);(try clear hfz23_2);(try clear hfz23_3);(try clear hfz25_0);(try clear hfz25_1);(try clear hfz25_2);(try clear hfz25_3);(try clear hfz26_0);(try clear hfz26_1);(try clear hfz26_2);(try clear hfz26_3);(try clear hfz31_0);(try clear hfz31_1);(try clear hfz31_2);(try clear hfz31_3);(try clear hfz32_0);(try clear hfz32_1);(try clear hfz32_2);(try clear hfz32_3);(try clear hfz35_0);(try clear hfz35_1);(try clear hfz35_2)
    (try clear hfz35_3);(try clear hfz36_0);(try clear hfz36_1);(try clear hfz36_2);(try clear hfz36_3);(try clear hfz38_0);(try clear hfz38_1);(try clear hfz38_2);(try clear hfz38_3);(try clear hfz39_0);(try clear hfz39_1);(try clear hfz39_2);(try clear hfz39_3);(try clear hfz45_0);(try clear hfz45_1);(try clear hfz45_2);(try clear hfz45_3);(try clear hfz47_0);(try clear hfz47_1);(try clear hfz47_2);(try clear hfz47_3);(try clear hfz49_0);(try clear hfz49_1);(try clear hfz49_2);(try clear hfz49_3);(try clear hfz51_0);(try clear hfz51_1);(try clear hfz51_2);(try clear hfz51_3);(try clear hfz6_0);(try clear hfz6_1);(try clear hfz6_2);(try clear hfz6_3);(try clear hx107_0);(try clear hx107_1);(try clear hx107_2);(try clear hx107_3);(try clear p1);(try clear p10);(try clear p107);(try clear p2);(try clear q1);(try clear q10);(try clear q107)
    obtain ⟨x64_2, rfl, HA, HK2, BK101, BK106, HB⟩ := hrel
    cases gk with
    | zero => exact absurd HA.out (by simp [term_may.l0])
    | succ k2 =>
     have H := HA.out
     clear HA
     simp only [term_may.l0] at H
     by_cases c52 : x64_2 < (l0_3.length : Int)
     ·rw [if_pos c52] at H
      have c52b0 : decide (x64_2 < (l0_3.length : Int)) = true := decide_eq_true c52
      clear c52
      by_cases c53 : 0 ≤ x64_2
      ·rw [if_pos c53] at H
       have c53b0 : decide (0 ≤ x64_2) = true := decide_eq_true c53
       clear c53
       by_cases c54 : x64_2 < (l0_3.length : Int)
       ·rw [if_pos c54] at H
        have c54b0 : decide (x64_2 < (l0_3.length : Int)) = true := decide_eq_true c54
        clear c54
        replace H := Option.bind_eq_some_iff.mp H
        obtain ⟨t110, A550, H⟩ := H
        replace H : (if t110 = true then (term_may.l0 k2 a1 l0_3 (l0_3.length : Int) (wrap64 (x64_2 + 1))) else (some false)) = some r := H
        have A55 := Aside0.mk A550
        clear A550
        by_cases c56 : t110 = true
        ·subst c56
         have H1 : (term_may.l0 k2 a1 l0_3 (l0_3.length : Int) (wrap64 (x64_2 + 1))) = some r := by rw [if_pos rfl] at H; exact H
         clear H
         have H := H1
         clear H1
         have H' := Aside0.mk H
         clear H
         have p108 : 0 ≤ (x64_2 : Int) := of_decide_eq_true (by first | (with_reducible assumption) | assumption)
         have q108 : x64_2 < (l0_3.length : Int) := of_decide_eq_true (by first | (with_reducible assumption) | assumption)
         obtain ⟨ad108, A108_2, c108_2, A108_3, c108_3, e108, hx108_0, hx108_1, hx108_2, hx108_3, hl108_2, hi108_2, hl108_3, hi108_3⟩ := at_T26 HR0_3.out x64_2 p108 q108
         cases e108
         replace hx108_0 := (HB.out.cell (World.block_lt_of_cell? w _ hx108_0)).trans hx108_0
         replace hx108_1 := (HB.out.cell (World.block_lt_of_cell? w _ hx108_1)).trans hx108_1
         replace hx108_2 := (HB.out.cell (World.block_lt_of_cell? w _ hx108_2)).trans hx108_2
         replace hx108_3 := (HB.out.cell (World.block_lt_of_cell? w _ hx108_3)).trans hx108_3
         have HR108_2 := Aside0.mk hi108_2
         have HC108_2 := Aside0.mk hl108_2
         clear hi108_2 hl108_2
         have HR108_3 := Aside0.mk hi108_3
         have HC108_3 := Aside0.mk hl108_3
         clear hi108_3 hl108_3
         replace p108 := eq_true p108
         replace q108 := eq_true q108
         go_wp2_with (first | ((with_reducible refine gate_dst (N := 7) rfl ?_); (try (refine gate_guard (by rfl) ?_; dsimp only)); refine box_event ?hg (N := 7) ?hd (cs := #[.int .i64 0, .int .u64 0, .slice none 0 0, .slice none 0 0]) (t := 26) ?hr ?_; (case hd => rfl); (case hg => rfl); (case hr => first | (go_simp; done) | (go_simp; rfl)); intro gb109 hg w57 hbox hb; have n0_ := Aside0.mk (blk_below (g := gb101) (o := .cells #[.int .i64 a0_0, .int .u64 a0_1, .slice A0_2 l0_2.length c0_2, .slice (some ad108) l0_3.length c0_3] 26 (0, 0)) (by (with_reducible repeat (first | refine blk_drewN ?_ _ | refine blk_drew ?_ | refine blk_alloc ?_ _)); exact BK101.out) hb); have n1_ := Aside0.mk (blk_below (g := gb106) (o := .cells #[.bool t102, .bool t103, .bool t104, .int .i64 t105] 69 (0, 0)) (by (with_reducible repeat (first | refine blk_drewN ?_ _ | refine blk_drew ?_ | refine blk_alloc ?_ _)); exact BK106.out) hb); have n2_ := Aside0.mk (below_step (by repeat (first | (with_reducible first | exact HB.out | apply below_alloc | apply pw_below_drewN | apply below_drew1 | refine below_set ?_ GE101.out | refine below_set ?_ GE106.out) | exact HB.out)) hb); have n3_ := Aside0.mk (hbox); have n4_ := Aside0.mk ((by rw [hg]; exact (below_size (by repeat (first | (with_reducible first | exact HB.out | apply below_alloc | apply pw_below_drewN | apply below_drew1 | refine below_set ?_ GE101.out | refine below_set ?_ GE106.out) | exact HB.out))) : w.heap.size ≤ gb109)); have n5_ := Aside0.mk ((by rw [hg]; exact (below_size (by repeat (first | (with_reducible first | exact HB.out | apply below_alloc | apply pw_below_drewN | apply below_drew1 | refine below_set ?_ GE101.out | refine below_set ?_ GE106.out) | exact HB.out))) : w.heap.size ≤ gb109)); have n6_ := Aside0.mk ((by rw [hg]; exact Nat.ne_of_lt (blk_lt (g := gb101) (o := .cells #[.int .i64 a0_0, .int .u64 a0_1, .slice A0_2 l0_2.length c0_2, .slice (some ad108) l0_3.length c0_3] 26 (0, 0)) (by (with_reducible repeat (first | refine blk_drewN ?_ _ | refine blk_drew ?_ | refine blk_alloc ?_ _)); exact BK101.out)) : gb101 ≠ gb109)); have n7_ := Aside0.mk ((by rw [hg]; exact Nat.ne_of_gt (blk_lt (g := gb101) (o := .cells #[.int .i64 a0_0, .int .u64 a0_1, .slice A0_2 l0_2.length c0_2, .slice (some ad108) l0_3.length c0_3] 26 (0, 0)) (by (with_reducible repeat (first | refine blk_drewN ?_ _ | refine blk_drew ?_ | refine blk_alloc ?_ _)); exact BK101.out)) : gb109 ≠ gb101)); have n8_ := Aside0.mk ((by rw [hg]; exact Nat.ne_of_lt (blk_lt (g := gb106) (o := .cells #[.bool t102, .bool t103, .bool t104, .int .i64 t105] 69 (0, 0)) (by (with_reducible repeat (first | refine blk_drewN ?_ _ | refine blk_drew ?_ | refine blk_alloc ?_ _)); exact BK106.out)) : gb106 ≠ gb109)); have n9_ := Aside0.mk ((by rw [hg]; exact Nat.ne_of_gt (blk_lt (g := gb106) (o := .cells #[.bool t102, .bool t103, .bool t104, .int .i64 t105] 69 (0, 0)) (by (with_reducible repeat (first | refine blk_drewN ?_ _ | refine blk_drew ?_ | refine blk_alloc ?_ _)); exact BK106.out)) : gb109 ≠ gb106)); clear BK101; clear BK106; clear HB; have BK101 := n0_; have BK106 := n1_; have HB := n2_; have BK109 := n3_; have GW109 := n4_; have GE109 := n5_; have NB101_109 := n6_; have NB109_101 := n7_; have NB106_109 := n8_; have NB109_106 := n9_; clear n0_ n1_ n2_ n3_ n4_ n5_ n6_ n7_ n8_ n9_; clear hb hbox hg; have hnb58 := NB109_101.out; have hnc58 := NB101_109.out; have hnb59 := NB109_106.out; have hnc59 := NB106_109.out; have hcz60_0 : w57.cell? ⟨gb109, 0, none⟩ = some (.int .i64 0) := (blk_cell BK109.out 0).trans rfl; have hcz60_1 : w57.cell? ⟨gb109, 1, none⟩ = some (.int .u64 0) := (blk_cell BK109.out 1).trans rfl; have hcz60_2 : w57.cell? ⟨gb109, 2, none⟩ = some (.slice none 0 0) := (blk_cell BK109.out 2).trans rfl; have hcz60_3 : w57.cell? ⟨gb109, 3, none⟩ = some (.slice none 0 0) := (blk_cell BK109.out 3).trans rfl; have hfz60_0 := blk_frozen BK109.out 0; have hfz60_1 := blk_frozen BK109.out 1; have hfz60_2 := blk_frozen BK109.out 2; have hfz60_3 := blk_frozen BK109.out 3) | ((with_reducible refine gate_callee (f := 47) rfl ?_); refine goesL_ (some 71) rfl rfl Try.func47 (by kernel_rfl) rfl #[.agg #[.int .i64 ((rd_T26 l0_3 x64_2).f0), .int .u64 ((rd_T26 l0_3 x64_2).f1), .slice A108_2 ((rd_T26 l0_3 x64_2).f2).length c108_2, .slice A108_3 ((rd_T26 l0_3 x64_2).f3).length c108_3], .int .i64 (wrap64 (a1 - 1))] rfl (by (try simp only [List.map_toArray, List.map_cons, List.map_nil]); first | done | rfl | (simp only [List.length_drop, List.length_take]; rfl)) ?_; (with_reducible refine (ih k2 (by have := HJ3.out; have := HK2.out; omega) ((rd_T26 l0_3 x64_2).f0) ((rd_T26 l0_3 x64_2).f1) _ _ ((rd_T26 l0_3 x64_2).f2) _ _ ((rd_T26 l0_3 x64_2).f3) (wrap64 (a1 - 1)) true _ ?side1 ?side2 ?side3 ?side4 A55.out).mono ?_); (case side1 => exact Kd.C_below HR108_2.out (by repeat (first | (with_reducible first | exact HB.out | apply below_alloc | apply pw_below_drewN | apply below_drew1 | refine below_set ?_ GE101.out | refine below_set ?_ GE106.out | refine below_set ?_ GE109.out) | exact HB.out))); (case side2 => exact HC108_2.out); (case side3 => exact Kd.C_below HR108_3.out (by repeat (first | (with_reducible first | exact HB.out | apply below_alloc | apply pw_below_drewN | apply below_drew1 | refine below_set ?_ GE101.out | refine below_set ?_ GE106.out | refine below_set ?_ GE109.out) | exact HB.out))); (case side4 => exact HC108_3.out); rintro e w61 ⟨rfl, hb⟩; refine ⟨_, rfl, ?_⟩; have n0_ := Aside0.mk (blk_below (g := gb101) (o := .cells #[.int .i64 a0_0, .int .u64 a0_1, .slice A0_2 l0_2.length c0_2, .slice (some ad108) l0_3.length c0_3] 26 (0, 0)) (by (with_reducible repeat (first | refine blk_drewN ?_ _ | refine blk_drew ?_ | refine blk_alloc ?_ _)); refine blk_far ?_ NB101_109.out _; (with_reducible repeat (first | refine blk_drewN ?_ _ | refine blk_drew ?_ | refine blk_alloc ?_ _)); refine blk_far ?_ NB101_109.out _; (with_reducible repeat (first | refine blk_drewN ?_ _ | refine blk_drew ?_ | refine blk_alloc ?_ _)); refine blk_far ?_ NB101_109.out _; (with_reducible repeat (first | refine blk_drewN ?_ _ | refine blk_drew ?_ | refine blk_alloc ?_ _)); refine blk_far ?_ NB101_109.out _; (with_reducible repeat (first | refine blk_drewN ?_ _ | refine blk_drew ?_ | refine blk_alloc ?_ _)); exact BK101.out) hb); have n1_ := Aside0.mk (blk_below (g := gb106) (o := .cells #[.bool t102, .bool t103, .bool t104, .int .i64 t105] 69 (0, 0)) (by (with_reducible repeat (first | refine blk_drewN ?_ _ | refine blk_drew ?_ | refine blk_alloc ?_ _)); refine blk_far ?_ NB106_109.out _; (with_reducible repeat (first | refine blk_drewN ?_ _ | refine blk_drew ?_ | refine blk_alloc ?_ _)); refine blk_far ?_ NB106_109.out _; (with_reducible repeat (first | refine blk_drewN ?_ _ | refine blk_drew ?_ | refine blk_alloc ?_ _)); refine blk_far ?_ NB106_109.out _; (with_reducible repeat (first | refine blk_drewN ?_ _ | refine blk_drew ?_ | refine blk_alloc ?_ _)); refine blk_far ?_ NB106_109.out _; (with_reducible repeat (first | refine blk_drewN ?_ _ | refine blk_drew ?_ | refine blk_alloc ?_ _)); exact BK106.out) hb); have n2_ := Aside0.mk (blk_below (g := gb109) (o := .cells #[.int .i64 ((rd_T26 l0_3 x64_2).f0), .int .u64 ((rd_T26 l0_3 x64_2).f1), .slice A108_2 ((rd_T26 l0_3 x64_2).f2).length c108_2, .slice A108_3 ((rd_T26 l0_3 x64_2).f3).length c108_3] 26 (0, 0)) (by (with_reducible repeat (first | refine blk_drewN ?_ _ | refine blk_drew ?_ | refine blk_alloc ?_ _)); refine blk_put (cs := #[.int .i64 ((rd_T26 l0_3 x64_2).f0), .int .u64 ((rd_T26 l0_3 x64_2).f1), .slice A108_2 ((rd_T26 l0_3 x64_2).f2).length c108_2, .slice none 0 0]) ?_ 3 _ rfl; (with_reducible repeat (first | refine blk_drewN ?_ _ | refine blk_drew ?_ | refine blk_alloc ?_ _)); refine blk_put (cs := #[.int .i64 ((rd_T26 l0_3 x64_2).f0), .int .u64 ((rd_T26 l0_3 x64_2).f1), .slice none 0 0, .slice none 0 0]) ?_ 2 _ rfl; (with_reducible repeat (first | refine blk_drewN ?_ _ | refine blk_drew ?_ | refine blk_alloc ?_ _)); refine blk_put (cs := #[.int .i64 ((rd_T26 l0_3 x64_2).f0), .int .u64 0, .slice none 0 0, .slice none 0 0]) ?_ 1 _ rfl; (with_reducible repeat (first | refine blk_drewN ?_ _ | refine blk_drew ?_ | refine blk_alloc ?_ _)); refine blk_put (cs := #[.int .i64 0, .int .u64 0, .slice none 0 0, .slice none 0 0]) ?_ 0 _ rfl; (with_reducible repeat (first | refine blk_drewN ?_ _ | refine blk_drew ?_ | refine blk_alloc ?_ _)); exact BK109.out) hb); have n3_ := Aside0.mk (below_step (by repeat (first | (with_reducible first | exact HB.out | apply below_alloc | apply pw_below_drewN | apply below_drew1 | refine below_set ?_ GE101.out | refine below_set ?_ GE106.out | refine below_set ?_ GE109.out) | exact HB.out)) hb); clear BK101; clear BK106; clear BK109; clear HB; have BK101 := n0_; have BK106 := n1_; have BK109 := n2_; have HB := n3_; clear n0_ n1_ n2_ n3_; (try clear hb); (try clear hb2); (try clear hk); (try clear hi)))
         go_roundg k2
         case measure => have := HJ3.out; have := HK2.out; omega
         case rel => exact ⟨(wrap64 (x64_2 + 1)), (by first | rfl | (simp; done) | (simp [*]; done)), H', ⟨by have := HJ3.out; have := HK2.out; omega⟩, ⟨by (with_reducible repeat (first | refine blk_drewN ?_ _ | refine blk_drew ?_ | refine blk_alloc ?_ _)); exact BK101.out⟩, ⟨by (with_reducible repeat (first | refine blk_drewN ?_ _ | refine blk_drew ?_ | refine blk_alloc ?_ _)); exact BK106.out⟩, ⟨by repeat (first | (with_reducible first | exact HB.out | apply below_alloc | apply pw_below_drewN | apply below_drew1 | refine below_set ?_ GE101.out | refine below_set ?_ GE106.out | refine below_set ?_ GE109.out) | exact HB.out)⟩⟩
        ·replace c56 := Bool.eq_false_iff.mpr c56
         subst c56
         have H1 : (some false) = some r := by rw [if_neg (show ¬ (false = true) by decide)] at H; exact H
         clear H
         have H := H1
         clear H1
         obtain rfl := Option.some.inj H
         have p108 : 0 ≤ (x64_2 : Int) := of_decide_eq_true (by first | (with_reducible assumption) | assumption)
         have q108 : x64_2 < (l0_3.length : Int) := of_decide_eq_true (by first | (with_reducible assumption) | assumption)
         obtain ⟨ad108, A108_2, c108_2, A108_3, c108_3, e108, hx108_0, hx108_1, hx108_2, hx108_3, hl108_2, hi108_2, hl108_3, hi108_3⟩ := at_T26 HR0_3.out x64_2 p108 q108
         cases e108
         replace hx108_0 := (HB.out.cell (World.block_lt_of_cell? w _ hx108_0)).trans hx108_0
         replace hx108_1 := (HB.out.cell (World.block_lt_of_cell? w _ hx108_1)).trans hx108_1
         replace hx108_2 := (HB.out.cell (World.block_lt_of_cell? w _ hx108_2)).trans hx108_2
         replace hx108_3 := (HB.out.cell (World.block_lt_of_cell? w _ hx108_3)).trans hx108_3
         have HR108_2 := Aside0.mk hi108_2
         have HC108_2 := Aside0.mk hl108_2
         clear hi108_2 hl108_2
         have HR108_3 := Aside0.mk hi108_3
         have HC108_3 := Aside0.mk hl108_3
         clear hi108_3 hl108_3
         replace p108 := eq_true p108
         replace q108 := eq_true q108
         go_wp2_with (first | ((with_reducible refine gate_dst (N := 7) rfl ?_); (try (refine gate_guard (by rfl) ?_; dsimp only)); refine box_event ?hg (N := 7) ?hd (cs := #[.int .i64 0, .int .u64 0, .slice none 0 0, .slice none 0 0]) (t := 26) ?hr ?_; (case hd => rfl); (case hg => rfl); (case hr => first | (go_simp; done) | (go_simp; rfl)); intro gb109 hg w62 hbox hb; have n0_ := Aside0.mk (blk_below (g := gb101) (o := .cells #[.int .i64 a0_0, .int .u64 a0_1, .slice A0_2 l0_2.length c0_2, .slice (some ad108) l0_3.length c0_3] 26 (0, 0)) (by (with_reducible repeat (first | refine blk_drewN ?_ _ | refine blk_drew ?_ | refine blk_alloc ?_ _)); exact BK101.out) hb); have n1_ := Aside0.mk (blk_below (g := gb106) (o := .cells #[.bool t102, .bool t103, .bool t104, .int .i64 t105] 69 (0, 0)) (by (with_reducible repeat (first | refine blk_drewN ?_ _ | refine blk_drew ?_ | refine blk_alloc ?_ _)); exact BK106.out) hb); have n2_ := Aside0.mk (below_step (by repeat (first | (with_reducible first | exact HB.out | apply below_alloc | apply pw_below_drewN | apply below_drew1 | refine below_set ?_ GE101.out | refine below_set ?_ GE106.out) | exact HB.out)) hb); have n3_ := Aside0.mk (hbox); have n4_ := Aside0.mk ((by rw [hg]; exact (below_size (by repeat (first | (with_reducible first | exact HB.out | apply below_alloc | apply pw_below_drewN | apply below_drew1 | refine below_set ?_ GE101.out | refine below_set ?_ GE106.out) | exact HB.out))) : w.heap.size ≤ gb109)); have n5_ := Aside0.mk ((by rw [hg]; exact (below_size (by repeat (first | (with_reducible first | exact HB.out | apply below_alloc | apply pw_below_drewN | apply below_drew1 | refine below_set ?_ GE101.out | refine below_set ?_ GE106.out) | exact HB.out))) : w.heap.size ≤ gb109)); have n6_ := Aside0.mk ((by rw [hg]; exact Nat.ne_of_lt (blk_lt (g := gb101) (o := .cells #[.int .i64 a0_0, .int .u64 a0_1, .slice A0_2 l0_2.length c0_2, .slice (some ad108) l0_3.length c0_3] 26 (0, 0)) (by (with_reducible repeat (first | refine blk_drewN ?_ _ | refine blk_drew ?_ | refine blk_alloc ?_ _)); exact BK101.out)) : gb101 ≠ gb109)); have n7_ := Aside0.mk ((by rw [hg]; exact Nat.ne_of_gt (blk_lt (g := gb101) (o := .cells #[.int .i64 a0_0, .int .u64 a0_1, .slice A0_2 l0_2.length c0_2, .slice (some ad108) l0_3.length c0_3] 26 (0, 0)) (by (with_reducible repeat (first | refine blk_drewN ?_ _ | refine blk_drew ?_ | refine blk_alloc ?_ _)); exact BK101.out)) : gb109 ≠ gb101)); have n8_ := Aside0.mk ((by rw [hg]; exact Nat.ne_of_lt (blk_lt (g := gb106) (o := .cells #[.bool t102, .bool t103, .bool t104, .int .i64 t105] 69 (0, 0)) (by (with_reducible repeat (first | refine blk_drewN ?_ _ | refine blk_drew ?_ | refine blk_alloc ?_ _)); exact BK106.out)) : gb106 ≠ gb109)); have n9_ := Aside0.mk ((by rw [hg]; exact Nat.ne_of_gt (blk_lt (g := gb106) (o := .cells #[.bool t102, .bool t103, .bool t104, .int .i64 t105] 69 (0, 0)) (by (with_reducible repeat (first | refine blk_drewN ?_ _ | refine blk_drew ?_ | refine blk_alloc ?_ _)); exact BK106.out)) : gb109 ≠ gb106)); clear BK101; clear BK106; clear HB; have BK101 := n0_; have BK106 := n1_; have HB := n2_; have BK109 := n3_; have GW109 := n4_; have GE109 := n5_; have NB101_109 := n6_; have NB109_101 := n7_; have NB106_109 := n8_; have NB109_106 := n9_; clear n0_ n1_ n2_ n3_ n4_ n5_ n6_ n7_ n8_ n9_; clear hb hbox hg; have hnb63 := NB109_101.out; have hnc63 := NB101_109.out; have hnb64 := NB109_106.out; have hnc64 := NB106_109.out; have hcz65_0 : w62.cell? ⟨gb109, 0, none⟩ = some (.int .i64 0) := (blk_cell BK109.out 0).trans rfl; have hcz65_1 : w62.cell? ⟨gb109, 1, none⟩ = some (.int .u64 0) := (blk_cell BK109.out 1).trans rfl; have hcz65_2 : w62.cell? ⟨gb109, 2, none⟩ = some (.slice none 0 0) := (blk_cell BK109.out 2).trans rfl; have hcz65_3 : w62.cell? ⟨gb109, 3, none⟩ = some (.slice none 0 0) := (blk_cell BK109.out 3).trans rfl; have hfz65_0 := blk_frozen BK109.out 0; have hfz65_1 := blk_frozen BK109.out 1; have hfz65_2 := blk_frozen BK109.out 2; have hfz65_3 := blk_frozen BK109.out 3) | ((with_reducible refine gate_callee (f := 47) rfl ?_); refine goesL_ (some 71) rfl rfl Try.func47 (by kernel_rfl) rfl #[.agg #[.int .i64 ((rd_T26 l0_3 x64_2).f0), .int .u64 ((rd_T26 l0_3 x64_2).f1), .slice A108_2 ((rd_T26 l0_3 x64_2).f2).length c108_2, .slice A108_3 ((rd_T26 l0_3 x64_2).f3).length c108_3], .int .i64 (wrap64 (a1 - 1))] rfl (by (try simp only [List.map_toArray, List.map_cons, List.map_nil]); first | done | rfl | (simp only [List.length_drop, List.length_take]; rfl)) ?_; (with_reducible refine (ih k2 (by have := HJ3.out; have := HK2.out; omega) ((rd_T26 l0_3 x64_2).f0) ((rd_T26 l0_3 x64_2).f1) _ _ ((rd_T26 l0_3 x64_2).f2) _ _ ((rd_T26 l0_3 x64_2).f3) (wrap64 (a1 - 1)) false _ ?side1 ?side2 ?side3 ?side4 A55.out).mono ?_); (case side1 => exact Kd.C_below HR108_2.out (by repeat (first | (with_reducible first | exact HB.out | apply below_alloc | apply pw_below_drewN | apply below_drew1 | refine below_set ?_ GE101.out | refine below_set ?_ GE106.out | refine below_set ?_ GE109.out) | exact HB.out))); (case side2 => exact HC108_2.out); (case side3 => exact Kd.C_below HR108_3.out (by repeat (first | (with_reducible first | exact HB.out | apply below_alloc | apply pw_below_drewN | apply below_drew1 | refine below_set ?_ GE101.out | refine below_set ?_ GE106.out | refine below_set ?_ GE109.out) | exact HB.out))); (case side4 => exact HC108_3.out); rintro e w66 ⟨rfl, hb⟩; refine ⟨_, rfl, ?_⟩; have n0_ := Aside0.mk (blk_below (g := gb101) (o := .cells #[.int .i64 a0_0, .int .u64 a0_1, .slice A0_2 l0_2.length c0_2, .slice (some ad108) l0_3.length c0_3] 26 (0, 0)) (by (with_reducible repeat (first | refine blk_drewN ?_ _ | refine blk_drew ?_ | refine blk_alloc ?_ _)); refine blk_far ?_ NB101_109.out _; (with_reducible repeat (first | refine blk_drewN ?_ _ | refine blk_drew ?_ | refine blk_alloc ?_ _)); refine blk_far ?_ NB101_109.out _; (with_reducible repeat (first | refine blk_drewN ?_ _ | refine blk_drew ?_ | refine blk_alloc ?_ _)); refine blk_far ?_ NB101_109.out _; (with_reducible repeat (first | refine blk_drewN ?_ _ | refine blk_drew ?_ | refine blk_alloc ?_ _)); refine blk_far ?_ NB101_109.out _; (with_reducible repeat (first | refine blk_drewN ?_ _ | refine blk_drew ?_ | refine blk_alloc ?_ _)); exact BK101.out) hb); have n1_ := Aside0.mk (blk_below (g := gb106) (o := .cells #[.bool t102, .bool t103, .bool t104, .int .i64 t105] 69 (0, 0)) (by (with_reducible repeat (first | refine blk_drewN ?_ _ | refine blk_drew ?_ | refine blk_alloc ?_ _)); refine blk_far ?_ NB106_109.out _; (with_reducible repeat (first | refine blk_drewN ?_ _ | refine blk_drew ?_ | refine blk_alloc ?_ _)); refine blk_far ?_ NB106_109.out _; (with_reducible repeat (first | refine blk_drewN ?_ _ | refine blk_drew ?_ | refine blk_alloc ?_ _)); refine blk_far ?_ NB106_109.out _; (with_reducible repeat (first | refine blk_drewN ?_ _ | refine blk_drew ?_ | refine blk_alloc ?_ _)); refine blk_far ?_ NB106_109.out _; (with_reducible repeat (first | refine blk_drewN ?_ _ | refine blk_drew ?_ | refine blk_alloc ?_ _)); exact BK106.out) hb); have n2_ := Aside0.mk (blk_below (g := gb109) (o := .cells #[.int .i64 ((rd_T26 l0_3 x64_2).f0), .int .u64 ((rd_T26 l0_3 x64_2).f1), .slice A108_2 ((rd_T26 l0_3 x64_2).f2).length c108_2, .slice A108_3 ((rd_T26 l0_3 x64_2).f3).length c108_3] 26 (0, 0)) (by (with_reducible repeat (first | refine blk_drewN ?_ _ | refine blk_drew ?_ | refine blk_alloc ?_ _)); refine blk_put (cs := #[.int .i64 ((rd_T26 l0_3 x64_2).f0), .int .u64 ((rd_T26 l0_3 x64_2).f1), .slice A108_2 ((rd_T26 l0_3 x64_2).f2).length c108_2, .slice none 0 0]) ?_ 3 _ rfl; (with_reducible repeat (first | refine blk_drewN ?_ _ | refine blk_drew ?_ | refine blk_alloc ?_ _)); refine blk_put (cs := #[.int .i64 ((rd_T26 l0_3 x64_2).f0), .int .u64 ((rd_T26 l0_3 x64_2).f1), .slice none 0 0, .slice none 0 0]) ?_ 2 _ rfl; (with_reducible repeat (first | refine blk_drewN ?_ _ | refine blk_drew ?_ | refine blk_alloc ?_ _)); refine blk_put (cs := #[.int .i64 ((rd_T26 l0_3 x64_2).f0), .int .u64 0, .slice none 0 0, .slice none 0 0]) ?_ 1 _ rfl; (with_reducible repeat (first | refine blk_drewN ?_ _ | refine blk_drew ?_ | refine blk_alloc ?_ _)); refine blk_put (cs := #[.int .i64 0, .int .u64 0, .slice none 0 0, .slice none 0 0]) ?_ 0 _ rfl; (with_reducible repeat (first | refine blk_drewN ?_ _ | refine blk_drew ?_ | refine blk_alloc ?_ _)); exact BK109.out) hb); have n3_ := Aside0.mk (below_step (by repeat (first | (with_reducible first | exact HB.out | apply below_alloc | apply pw_below_drewN | apply below_drew1 | refine below_set ?_ GE101.out | refine below_set ?_ GE106.out | refine below_set ?_ GE109.out) | exact HB.out)) hb); clear BK101; clear BK106; clear BK109; clear HB; have BK101 := n0_; have BK106 := n1_; have BK109 := n2_; have HB := n3_; clear n0_ n1_ n2_ n3_; (try clear hb); (try clear hb2); (try clear hk); (try clear hi)))
         go_ret
         exact ⟨by first | rfl | (simp [errW_none, errW_some] <;> rfl) | (simp [*, errW_none, errW_some] <;> rfl), by repeat (first | (with_reducible first | exact HB.out | apply below_alloc | apply pw_below_drewN | apply below_drew1 | refine below_set ?_ GE101.out | refine below_set ?_ GE106.out | refine below_set ?_ GE109.out) | exact HB.out)⟩
       ·rw [if_neg c54] at H
        exact absurd H (by simp)
      ·rw [if_neg c53] at H
       exact absurd H (by simp)
     ·rw [if_neg c52] at H
      have c52b0 : decide (x64_2 < (l0_3.length : Int)) = false := decide_eq_false c52
      clear c52
      obtain rfl := Option.some.inj H
      go_wp2
      go_ret
      exact ⟨by first | rfl | (simp [errW_none, errW_some] <;> rfl) | (simp [*, errW_none, errW_some] <;> rfl), by repeat (first | (with_reducible first | exact HB.out | apply below_alloc | apply pw_below_drewN | apply below_drew1 | refine below_set ?_ GE101.out | refine below_set ?_ GE106.out) | exact HB.out)⟩

end Go.Proofs.Ytgohmganimamcaa.PZ
-- printed for this claim by a program (pall.sh)
-- mended by fixpz.py
namespace Go.Proofs.Ytgohmganimamcaa.PZ
open Go.RowKit Go.Proofs.YtgohmganimamcaaW.PrintWords Go.Proofs.YtgohmganimamcaaW.PrintLast Go.Proofs.YtgohmganimamcaaW.PrintMore
attribute [local go_sem] max2_int min2_int max_two min_two max_three min_three max_four min_four   -- for this text's walks alone
set_option linter.unusedVariables false
set_option linter.unusedSimpArgs false

/-! ### term_Check: function 16 -/
def term_Check.f (k : Nat) (a0_0 : Int) (a0_1 : Int) (l0_2 : List Int) (l0_3 : List (S26)) : Option (Int) := (term_may.f k a0_0 a0_1 l0_2 l0_3 8).bind fun t102 => (if t102 = true then (some 0) else (some 1))
set_option maxHeartbeats 8000000 in
set_option maxRecDepth 100000 in
theorem term_Check.calls (k : Nat) (a0_0 : Int) (a0_1 : Int) (A0_2 : Option Addr) (c0_2 : Nat) (l0_2 : List Int) (A0_3 : Option Addr) (c0_3 : Nat) (l0_3 : List (S26)) (r : Int) (w : World) (hr0_2 : Kd.C (Kd.int .u8) w A0_2 l0_2.length l0_2) (hc0_2 : l0_2.length ≤ c0_2) (hr0_3 : Kd.C k26 w A0_3 l0_3.length l0_3) (hc0_3 : l0_3.length ≤ c0_3) (h : term_Check.f k a0_0 a0_1 l0_2 l0_3 = some r) :
  Calls Try.prog 16 #[.agg #[.int .i64 a0_0, .int .u64 a0_1, .slice A0_2 l0_2.length c0_2, .slice A0_3 l0_3.length c0_3]] w fun e w' => e = .returned (.int .i64 r) ∧ Below w.heap.size w w' := by
 have hu26 := Try.underlying26
 have HR0_2 := Aside0.mk hr0_2
 have HC0_2 := Aside0.mk hc0_2
 clear hr0_2 hc0_2
 have HR0_3 := Aside0.mk hr0_3
 have HC0_3 := Aside0.mk hc0_3
 clear hr0_3 hc0_3
 have HB := Aside0.mk (Below.refl w.heap.size w)
 have H : ((term_may.f k a0_0 a0_1 l0_2 l0_3 8).bind fun t102 => (if t102 = true then (some 0) else (some 1))) = some r := h
 clear h
 replace H := Option.bind_eq_some_iff.mp H
 obtain ⟨t102, A20, H⟩ := H
 replace H : (if t102 = true then (some 0) else (some 1)) = some r := H
 have A2 := Aside0.mk A20
 clear A20
 by_cases c3 : t102 = true
 ·subst c3
  have H1 : (some 0) = some r := by rw [if_pos rfl] at H; exact H
  clear H
  have H := H1
  clear H1
  obtain rfl := Option.some.inj H
  go_enter Try.func16, Try.ntmps16
  go_wp2_with (first | ((with_reducible refine gate_dst (N := 1) rfl ?_); refine box_event ?hg (N := 1) ?hd (cs := #[.int .i64 a0_0, .int .u64 a0_1, .slice A0_2 l0_2.length c0_2, .slice A0_3 l0_3.length c0_3]) (t := 26) ?hr ?_; (case hd => rfl); (case hg => rfl); (case hr => first | (go_simp; done) | (go_simp; rfl)); intro gb101 hg w4 hbox hb; have n0_ := Aside0.mk (below_step (by repeat (first | (with_reducible first | exact HB.out | apply below_alloc | apply pw_below_drewN | apply below_drew1) | exact HB.out)) hb); have n1_ := Aside0.mk (hbox); have n2_ := Aside0.mk ((by rw [hg]; exact (below_size (by repeat (first | (with_reducible first | exact HB.out | apply below_alloc | apply pw_below_drewN | apply below_drew1) | exact HB.out))) : w.heap.size ≤ gb101)); have n3_ := Aside0.mk ((by rw [hg]; exact (below_size (by repeat (first | (with_reducible first | exact HB.out | apply below_alloc | apply pw_below_drewN | apply below_drew1) | exact HB.out))) : w.heap.size ≤ gb101)); clear HB; have HB := n0_; have BK101 := n1_; have GW101 := n2_; have GE101 := n3_; clear n0_ n1_ n2_ n3_; clear hb hbox hg; have hcz5_0 : w4.cell? ⟨gb101, 0, none⟩ = some (.int .i64 a0_0) := (blk_cell BK101.out 0).trans rfl; have hcz5_1 : w4.cell? ⟨gb101, 1, none⟩ = some (.int .u64 a0_1) := (blk_cell BK101.out 1).trans rfl; have hcz5_2 : w4.cell? ⟨gb101, 2, none⟩ = some (.slice A0_2 l0_2.length c0_2) := (blk_cell BK101.out 2).trans rfl; have hcz5_3 : w4.cell? ⟨gb101, 3, none⟩ = some (.slice A0_3 l0_3.length c0_3) := (blk_cell BK101.out 3).trans rfl; have hfz5_0 := blk_frozen BK101.out 0; have hfz5_1 := blk_frozen BK101.out 1; have hfz5_2 := blk_frozen BK101.out 2; have hfz5_3 := blk_frozen BK101.out 3) | ((with_reducible refine gate_callee (f := 47) rfl ?_); refine goesL_ (some 4) rfl rfl Try.func47 (by kernel_rfl) rfl #[.agg #[.int .i64 a0_0, .int .u64 a0_1, .slice A0_2 l0_2.length c0_2, .slice A0_3 l0_3.length c0_3], .int .i64 8] rfl (by (try simp only [List.map_toArray, List.map_cons, List.map_nil]); first | done | rfl | (simp only [List.length_drop, List.length_take]; rfl)) ?_; (with_reducible refine (term_may.calls k a0_0 a0_1 _ _ l0_2 _ _ l0_3 8 true _ ?side1 ?side2 ?side3 ?side4 A2.out).mono ?_); (case side1 => repeat (first | exact (Kd.C_below HR0_2.out HB.out) | (with_reducible refine Kd.C_alloc ?_ _) | (with_reducible refine Kd.C_drewN ?_ _) | (with_reducible refine Kd.C_drew ?_))); (case side2 => exact HC0_2.out); (case side3 => repeat (first | exact (Kd.C_below HR0_3.out HB.out) | (with_reducible refine Kd.C_alloc ?_ _) | (with_reducible refine Kd.C_drewN ?_ _) | (with_reducible refine Kd.C_drew ?_))); (case side4 => exact HC0_3.out); rintro e w6 ⟨rfl, hb⟩; refine ⟨_, rfl, ?_⟩; have n0_ := Aside0.mk (blk_below (g := gb101) (o := .cells #[.int .i64 a0_0, .int .u64 a0_1, .slice A0_2 l0_2.length c0_2, .slice A0_3 l0_3.length c0_3] 26 (0, 0)) (by (with_reducible repeat (first | refine blk_drewN ?_ _ | refine blk_drew ?_ | refine blk_alloc ?_ _)); exact BK101.out) hb); have n1_ := Aside0.mk (below_step (by repeat (first | (with_reducible first | exact HB.out | apply below_alloc | apply pw_below_drewN | apply below_drew1 | refine below_set ?_ GE101.out) | exact HB.out)) hb); clear BK101; clear HB; have BK101 := n0_; have HB := n1_; clear n0_ n1_; (try clear hb); (try clear hb2); (try clear hk); (try clear hi)))
  go_ret
  exact ⟨by first | rfl | (simp [errW_none, errW_some] <;> rfl) | (simp [*, errW_none, errW_some] <;> rfl), by repeat (first | (with_reducible first | exact HB.out | apply below_alloc | apply pw_below_drewN | apply below_drew1 | refine below_set ?_ GE101.out) | exact HB.out)⟩
 ·replace c3 := Bool.eq_false_iff.mpr c3
  subst c3
  have H1 : (some 1) = some r := by rw [if_neg (show ¬ (false = true) by decide)] at H; exact H
  clear H
  have H := H1
  clear H1
  obtain rfl := Option.some.inj H
  go_enter Try.func16, Try.ntmps16
  go_wp2_with (first | ((with_reducible refine gate_dst (N := 1) rfl ?_); refine box_event ?hg (N := 1) ?hd (cs := #[.int .i64 a0_0, .int .u64 a0_1, .slice A0_2 l0_2.length c0_2, .slice A0_3 l0_3.length c0_3]) (t := 26) ?hr ?_; (case hd => rfl); (case hg => rfl); (case hr => first | (go_simp; done) | (go_simp; rfl)); intro gb101 hg w7 hbox hb; have n0_ := Aside0.mk (below_step (by repeat (first | (with_reducible first | exact HB.out | apply below_alloc | apply pw_below_drewN | apply below_drew1) | exact HB.out)) hb); have n1_ := Aside0.mk (hbox); have n2_ := Aside0.mk ((by rw [hg]; exact (below_size (by repeat (first | (with_reducible first | exact HB.out | apply below_alloc | apply pw_below_drewN | apply below_drew1) | exact HB.out))) : w.heap.size ≤ gb101)); have n3_ := Aside0.mk ((by rw [hg]; exact (below_size (by repeat (first | (with_reducible first | exact HB.out | apply below_alloc | apply pw_below_drewN | apply below_drew1) | exact HB.out))) : w.heap.size ≤ gb101)); clear HB; have HB := n0_; have BK101 := n1_; have GW101 := n2_; have GE101 := n3_; clear n0_ n1_ n2_ n3_; clear hb hbox hg; have hcz8_0 : w7.cell? ⟨gb101, 0, none⟩ = some (.int .i64 a0_0) := (blk_cell BK101.out 0).trans rfl; have hcz8_1 : w7.cell? ⟨gb101, 1, none⟩ = some (.int .u64 a0_1) := (blk_cell BK101.out 1).trans rfl; have hcz8_2 : w7.cell? ⟨gb101, 2, none⟩ = some (.slice A0_2 l0_2.length c0_2) := (blk_cell BK101.out 2).trans rfl; have hcz8_3 : w7.cell? ⟨gb101, 3, none⟩ = some (.slice A0_3 l0_3.length c0_3) := (blk_cell BK101.out 3).trans rfl; have hfz8_0 := blk_frozen BK101.out 0; have hfz8_1 := blk_frozen BK101.out 1; have hfz8_2 := blk_frozen BK101.out 2; have hfz8_3 := blk_frozen BK101.out 3) | ((with_reducible refine gate_callee (f := 47) rfl ?_); refine goesL_ (some 4) rfl rfl Try.func47 (by kernel_rfl) rfl #[.agg #[.int .i64 a0_0, .int .u64 a0_1, .slice A0_2 l0_2.length c0_2, .slice A0_3 l0_3.length c0_3], .int .i64 8] rfl (by (try simp only [List.map_toArray, List.map_cons, List.map_nil]); first | done | rfl | (simp only [List.length_drop, List.length_take]; rfl)) ?_; (with_reducible refine (term_may.calls k a0_0 a0_1 _ _ l0_2 _ _ l0_3 8 false _ ?side1 ?side2 ?side3 ?side4 A2.out).mono ?_); (case side1 => repeat (first | exact (Kd.C_below HR0_2.out HB.out) | (with_reducible refine Kd.C_alloc ?_ _) | (with_reducible refine Kd.C_drewN ?_ _) | (with_reducible refine Kd.C_drew ?_))); (case side2 => exact HC0_2.out); (case side3 => repeat (first | exact (Kd.C_below HR0_3.out HB.out) | (with_reducible refine Kd.C_alloc ?_ _) | (with_reducible refine Kd.C_drewN ?_ _) | (with_reducible refine Kd.C_drew ?_))); (case side4 => exact HC0_3.out); rintro e w9 ⟨rfl, hb⟩; refine ⟨_, rfl, ?_⟩; have n0_ := Aside0.mk (blk_below (g := gb101) (o := .cells #[.int .i64 a0_0, .int .u64 a0_1, .slice A0_2 l0_2.length c0_2, .slice A0_3 l0_3.length c0_3] 26 (0, 0)) (by (with_reducible repeat (first | refine blk_drewN ?_ _ | refine blk_drew ?_ | refine blk_alloc ?_ _)); exact BK101.out) hb); have n1_ := Aside0.mk (below_step (by repeat (first | (with_reducible first | exact HB.out | apply below_alloc | apply pw_below_drewN | apply below_drew1 | refine below_set ?_ GE101.out) | exact HB.out)) hb); clear BK101; clear HB; have BK101 := n0_; have HB := n1_; clear n0_ n1_; (try clear hb); (try clear hb2); (try clear hk); (try clear hi)))
  go_ret
  exact ⟨by first | rfl | (simp [errW_none, errW_some] <;> rfl) | (simp [*, errW_none, errW_some] <;> rfl), by repeat (first | (with_reducible first | exact HB.out | apply below_alloc | apply pw_below_drewN | apply below_drew1 | refine below_set ?_ GE101.out) | exact HB.out)⟩

end Go.Proofs.Ytgohmganimamcaa.PZ
-- printed for this claim by a program (pall.sh)
-- mended by fixpz.py
namespace Go.Proofs.Ytgohmganimamcaa.PZ
open Go.RowKit Go.Proofs.YtgohmganimamcaaW.PrintWords Go.Proofs.YtgohmganimamcaaW.PrintLast Go.Proofs.YtgohmganimamcaaW.PrintMore
attribute [local go_sem] max2_int min2_int max_two min_two max_three min_three max_four min_four   -- for this text's walks alone
set_option linter.unusedVariables false
set_option linter.unusedSimpArgs false

/-! ### hanaperref05_number: function 65 -/
def hanaperref05_number.f (a0 : Int) : Option (Bool) := if a0 = 1 then (some true) else (if a0 = 2 then (some true) else (some (a0 == 5)))
set_option maxHeartbeats 8000000 in
set_option maxRecDepth 100000 in
theorem hanaperref05_number.calls (a0 : Int) (r : Bool) (w : World) (h : hanaperref05_number.f a0 = some r) :
  Calls Try.prog 65 #[.int .i64 a0] w fun e w' => e = .returned (.bool r) ∧ Drawn0 w w' := by
 have H : (if a0 = 1 then (some true) else (if a0 = 2 then (some true) else (some (a0 == 5)))) = some r := h
 clear h
 by_cases c2 : a0 = 1
 ·rw [if_pos c2] at H
  have c2b0 : (a0 == 1) = true := beq_iff_eq.mpr c2
  have c2b1 : (a0 != 1) = false := bne_eq_false_iff_eq.mpr c2
  clear c2
  obtain rfl := Option.some.inj H
  go_enter Try.func65, Try.ntmps65
  go_wp2
  go_ret
  exact ⟨by first | rfl | (simp; done) | (simp [*]; done), by repeat (first | exact Drawn0.refl _ | apply Drawn0.step)⟩
 ·rw [if_neg c2] at H
  have c2b0 : (a0 == 1) = false := beq_eq_false_iff_ne.mpr c2
  have c2b1 : (a0 != 1) = true := bne_iff_ne.mpr c2
  by_cases c3 : a0 = 2
  ·rw [if_pos c3] at H
   have c3b0 : (a0 == 2) = true := beq_iff_eq.mpr c3
   have c3b1 : (a0 != 2) = false := bne_eq_false_iff_eq.mpr c3
   clear c3
   obtain rfl := Option.some.inj H
   go_enter Try.func65, Try.ntmps65
   go_wp2
   go_ret
   exact ⟨by first | rfl | (simp; done) | (simp [*]; done), by repeat (first | exact Drawn0.refl _ | apply Drawn0.step)⟩
  ·rw [if_neg c3] at H
   have c3b0 : (a0 == 2) = false := beq_eq_false_iff_ne.mpr c3
   have c3b1 : (a0 != 2) = true := bne_iff_ne.mpr c3
   obtain rfl := Option.some.inj H
   go_enter Try.func65, Try.ntmps65
   go_wp2
   go_ret
   exact ⟨by first | rfl | (simp; done) | (simp [*]; done), by repeat (first | exact Drawn0.refl _ | apply Drawn0.step)⟩

end Go.Proofs.Ytgohmganimamcaa.PZ
-- printed for this claim by a program (pall.sh)
-- mended by fixpz.py
namespace Go.Proofs.Ytgohmganimamcaa.PZ
open Go.RowKit Go.Proofs.YtgohmganimamcaaW.PrintWords Go.Proofs.YtgohmganimamcaaW.PrintLast Go.Proofs.YtgohmganimamcaaW.PrintMore
attribute [local go_sem] max2_int min2_int max_two min_two max_three min_three max_four min_four   -- for this text's walks alone
set_option linter.unusedVariables false
set_option linter.unusedSimpArgs false

/-! ### hanaperref05_kids: function 68 -/
def hanaperref05_kids.j0 : Nat → Int → Bool → Option (Int)
 | 0, _, _ => none
 | k + 1, x3, x4 => if x4 = true then (some 0) else (if x3 = 6 then (some 1) else (if x3 = 4 then (some 2) else (if x3 = 5 then (some 2) else (some (-1)))))
def hanaperref05_kids.f (k : Nat) (a0 : Int) : Option (Int) := if a0 = 1 then (hanaperref05_kids.j0 k a0 (a0 == 1)) else (if a0 = 2 then (hanaperref05_kids.j0 k a0 (a0 == 2)) else (hanaperref05_kids.j0 k a0 (a0 == 3)))
set_option maxHeartbeats 8000000 in
set_option maxRecDepth 100000 in
theorem hanaperref05_kids.calls (k : Nat) (a0 : Int) (r : Int) (w : World) (h : hanaperref05_kids.f k a0 = some r) :
  Calls Try.prog 68 #[.int .i64 a0] w fun e w' => e = .returned (.int .i64 r) ∧ Drawn0 w w' := by
 have H : (if a0 = 1 then (hanaperref05_kids.j0 k a0 (a0 == 1)) else (if a0 = 2 then (hanaperref05_kids.j0 k a0 (a0 == 2)) else (hanaperref05_kids.j0 k a0 (a0 == 3)))) = some r := h
 clear h
 have HC2 := Aside0.mk H
 clear H
 go_enter Try.func68, Try.ntmps68
 go_upto_if 4 with (fail)
 go_cut [4] (fun v4 wc => ∃ (kq : Nat) (x4_1 : Bool), v4 = .bool x4_1 ∧ Aside0 (hanaperref05_kids.j0 kq a0 x4_1 = some r) ∧ Aside0 (kq ≤ k) ∧ Drawn0 w wc)
 case first =>
  have H := HC2.out
  clear HC2
  by_cases c3 : a0 = 1
  ·rw [if_pos c3] at H
   have c3b0 : (a0 == 1) = true := beq_iff_eq.mpr c3
   have c3b1 : (a0 != 1) = false := bne_eq_false_iff_eq.mpr c3
   clear c3
   (first | rw [c3b0] | (simp only [i64_w, i32_w]; rw [c3b0]) | skip)
   have H' := Aside0.mk H
   clear H
   go_wp2
   go_meet
   case rel => exact ⟨_, ((a0 == 1)), (by first | rfl | (simp; done) | (simp [*]; done)), H', ⟨by first | omega | exact Nat.le_refl _⟩, by repeat (first | exact Drawn0.refl _ | apply Drawn0.step)⟩
  ·rw [if_neg c3] at H
   have c3b0 : (a0 == 1) = false := beq_eq_false_iff_ne.mpr c3
   have c3b1 : (a0 != 1) = true := bne_iff_ne.mpr c3
   (first | rw [c3b0] | (simp only [i64_w, i32_w]; rw [c3b0]) | skip)
   by_cases c4 : a0 = 2
   ·rw [if_pos c4] at H
    have c4b0 : (a0 == 2) = true := beq_iff_eq.mpr c4
    have c4b1 : (a0 != 2) = false := bne_eq_false_iff_eq.mpr c4
    clear c4
    have H' := Aside0.mk H
    clear H
    go_wp2
    go_meet
    case rel => exact ⟨_, ((a0 == 2)), (by first | rfl | (simp; done) | (simp [*]; done)), H', ⟨by first | omega | exact Nat.le_refl _⟩, by repeat (first | exact Drawn0.refl _ | apply Drawn0.step)⟩
   ·rw [if_neg c4] at H
    have c4b0 : (a0 == 2) = false := beq_eq_false_iff_ne.mpr c4
    have c4b1 : (a0 != 2) = true := bne_iff_ne.mpr c4
    have H' := Aside0.mk H
    clear H
    go_wp2
    go_meet
    case rel => exact ⟨_, ((a0 == 3)), (by first | rfl | (simp; done) | (simp [*]; done)), H', ⟨by first | omega | exact Nat.le_refl _⟩, by repeat (first | exact Drawn0.refl _ | apply Drawn0.step)⟩
 case rest =>
  clear HC2
  (try clear p2);(try clear c3);(try clear c3b0);(try clear c3b1);(try clear c4);(try clear c4b0);(try clear c4b1)
  obtain ⟨kq, x4_1, rfl, HA, HJ1, ⟨mc1, rfl⟩⟩ := hcut
  cases kq with
  | zero => exact absurd HA.out (by simp [hanaperref05_kids.j0])
  | succ kj1 =>
   have H := HA.out
   clear HA
   simp only [hanaperref05_kids.j0] at H
   by_cases c5 : x4_1 = true
   ·subst c5
    have H1 : (some 0) = some r := by rw [if_pos rfl] at H; exact H
    clear H
    have H := H1
    clear H1
    obtain rfl := Option.some.inj H
    go_wp2
    go_ret
    exact ⟨by first | rfl | (simp; done) | (simp [*]; done), by repeat (first | exact Drawn0.refl _ | apply Drawn0.step)⟩
   ·replace c5 := Bool.eq_false_iff.mpr c5
    subst c5
    have H1 : (if a0 = 6 then (some 1) else (if a0 = 4 then (some 2) else (if a0 = 5 then (some 2) else (some (-1))))) = some r := by rw [if_neg (show ¬ (false = true) by decide)] at H; exact H
    clear H
    have H := H1
    clear H1
    by_cases c6 : a0 = 6
    ·rw [if_pos c6] at H
     have c6b0 : (a0 == 6) = true := beq_iff_eq.mpr c6
     have c6b1 : (a0 != 6) = false := bne_eq_false_iff_eq.mpr c6
     clear c6
     obtain rfl := Option.some.inj H
     go_wp2
     go_ret
     exact ⟨by first | rfl | (simp; done) | (simp [*]; done), by repeat (first | exact Drawn0.refl _ | apply Drawn0.step)⟩
    ·rw [if_neg c6] at H
     have c6b0 : (a0 == 6) = false := beq_eq_false_iff_ne.mpr c6
     have c6b1 : (a0 != 6) = true := bne_iff_ne.mpr c6
     by_cases c7 : a0 = 4
     ·rw [if_pos c7] at H
      have c7b0 : (a0 == 4) = true := beq_iff_eq.mpr c7
      have c7b1 : (a0 != 4) = false := bne_eq_false_iff_eq.mpr c7
      clear c7
      obtain rfl := Option.some.inj H
      go_wp2
      go_ret
      exact ⟨by first | rfl | (simp; done) | (simp [*]; done), by repeat (first | exact Drawn0.refl _ | apply Drawn0.step)⟩
     ·rw [if_neg c7] at H
      have c7b0 : (a0 == 4) = false := beq_eq_false_iff_ne.mpr c7
      have c7b1 : (a0 != 4) = true := bne_iff_ne.mpr c7
      by_cases c8 : a0 = 5
      ·rw [if_pos c8] at H
       have c8b0 : (a0 == 5) = true := beq_iff_eq.mpr c8
       have c8b1 : (a0 != 5) = false := bne_eq_false_iff_eq.mpr c8
       clear c8
       obtain rfl := Option.some.inj H
       go_wp2
       go_ret
       exact ⟨by first | rfl | (simp; done) | (simp [*]; done), by repeat (first | exact Drawn0.refl _ | apply Drawn0.step)⟩
      ·rw [if_neg c8] at H
       have c8b0 : (a0 == 5) = false := beq_eq_false_iff_ne.mpr c8
       have c8b1 : (a0 != 5) = true := bne_iff_ne.mpr c8
       obtain rfl := Option.some.inj H
       go_wp2
       go_ret
       exact ⟨by first | rfl | (simp; done) | (simp [*]; done), by repeat (first | exact Drawn0.refl _ | apply Drawn0.step)⟩

end Go.Proofs.Ytgohmganimamcaa.PZ
-- printed for this claim by a program (pall.sh)
-- mended by fixpz.py
namespace Go.Proofs.Ytgohmganimamcaa.PZ
open Go.RowKit Go.Proofs.YtgohmganimamcaaW.PrintWords Go.Proofs.YtgohmganimamcaaW.PrintLast Go.Proofs.YtgohmganimamcaaW.PrintMore
attribute [local go_sem] max2_int min2_int max_two min_two max_three min_three max_four min_four   -- for this text's walks alone
set_option linter.unusedVariables false
set_option linter.unusedSimpArgs false

/-! ### hanaperref05_may: function 48 -/
mutual
def hanaperref05_may.j0 : Nat → Int → Bool → Int → Int → List Int → List (S26) → Option (Bool)
 | 0, _, _, _, _, _, _ => none
 | k + 1, x1, x33, x102000, x102001, x102002, x102003 => if x33 = true then (some false) else (if x102000 = 3 then (hanaperref05_may.j1 k x1 (decide ((x102002.length : Int) > 100)) x102000 x102001 x102002 x102003) else (if (x102002.length : Int) > 0 then (hanaperref05_may.j1 k x1 true x102000 x102001 x102002 x102003) else (hanaperref05_may.j1 k x1 (decide ((x102002.length : Int) > 100)) x102000 x102001 x102002 x102003)))
def hanaperref05_may.j1 : Nat → Int → Bool → Int → Int → List Int → List (S26) → Option (Bool)
 | 0, _, _, _, _, _, _ => none
 | k + 1, x1, x48, x102000, x102001, x102002, x102003 => if x48 = true then (some false) else (hanaperref05_may.l0 k x1 0 x102000 x102001 x102002 x102003)
def hanaperref05_may.l0 : Nat → Int → Int → Int → Int → List Int → List (S26) → Option (Bool)
 | 0, _, _, _, _, _, _ => none
 | k + 1, x1, x5, x102000, x102001, x102002, x102003 => if x5 < (x102003.length : Int) then (if 0 ≤ x5 then ((hanaperref05_may.f k ((rd_T26 x102003 x5).f0) ((rd_T26 x102003 x5).f1) ((rd_T26 x102003 x5).f2) ((rd_T26 x102003 x5).f3) (wrap64 (x1 - 1))).bind fun t106 => (if t106 = true then (hanaperref05_may.l0 k x1 (wrap64 (x5 + 1)) x102000 x102001 x102002 x102003) else (some false))) else (none)) else (if x102000 = 5 then (if 1 < (x102003.length : Int) then (some (((rd_T26 x102003 1).f0) == 2)) else (none)) else (some true))
def hanaperref05_may.f : Nat → Int → Int → List Int → List (S26) → Int → Option (Bool)
 | 0, _, _, _, _, _ => none
 | k + 1, a0_0, a0_1, l0_2, l0_3, a1 => if a1 < 1 then (hanaperref05_may.j0 k a1 true a0_0 a0_1 l0_2 l0_3) else ((hanaperref05_kids.f k a0_0).bind fun t102 => (if t102 < 0 then (hanaperref05_may.j0 k a1 true a0_0 a0_1 l0_2 l0_3) else ((hanaperref05_kids.f k a0_0).bind fun t103 => (if (l0_3.length : Int) = t103 then ((hanaperref05_number.f a0_0).bind fun t104 => (if t104 = true then (hanaperref05_may.j0 k a1 false a0_0 a0_1 l0_2 l0_3) else (hanaperref05_may.j0 k a1 (a0_1 != 0) a0_0 a0_1 l0_2 l0_3))) else (hanaperref05_may.j0 k a1 true a0_0 a0_1 l0_2 l0_3)))))
end
set_option maxHeartbeats 8000000 in
set_option maxRecDepth 100000 in
theorem hanaperref05_may.calls (k : Nat) : ∀ (a0_0 : Int) (a0_1 : Int) (A0_2 : Option Addr) (c0_2 : Nat) (l0_2 : List Int) (A0_3 : Option Addr) (c0_3 : Nat) (l0_3 : List (S26)) (a1 : Int) (r : Bool) (w : World) (hr0_2 : Kd.C (Kd.int .u8) w A0_2 l0_2.length l0_2) (hc0_2 : l0_2.length ≤ c0_2) (hr0_3 : Kd.C k26 w A0_3 l0_3.length l0_3) (hc0_3 : l0_3.length ≤ c0_3) (h : hanaperref05_may.f k a0_0 a0_1 l0_2 l0_3 a1 = some r),
  Calls Try.prog 48 #[.agg #[.int .i64 a0_0, .int .u64 a0_1, .slice A0_2 l0_2.length c0_2, .slice A0_3 l0_3.length c0_3], .int .i64 a1] w fun e w' => e = .returned (.bool r) ∧ Below w.heap.size w w' := by
 induction k using Nat.strongRecOn with
 | _ k ih =>
 intro a0_0 a0_1 A0_2 c0_2 l0_2 A0_3 c0_3 l0_3 a1 r w hr0_2 hc0_2 hr0_3 hc0_3 h
 cases k with
 | zero => exact absurd h (by simp [hanaperref05_may.f])
 | succ k =>
 simp only [hanaperref05_may.f] at h
 have hu26 := Try.underlying26
 have HR0_2 := Aside0.mk hr0_2
 have HC0_2 := Aside0.mk hc0_2
 clear hr0_2 hc0_2
 have HR0_3 := Aside0.mk hr0_3
 have HC0_3 := Aside0.mk hc0_3
 clear hr0_3 hc0_3
 have HB := Aside0.mk (Below.refl w.heap.size w)
 have H : (if a1 < 1 then (hanaperref05_may.j0 k a1 true a0_0 a0_1 l0_2 l0_3) else ((hanaperref05_kids.f k a0_0).bind fun t102 => (if t102 < 0 then (hanaperref05_may.j0 k a1 true a0_0 a0_1 l0_2 l0_3) else ((hanaperref05_kids.f k a0_0).bind fun t103 => (if (l0_3.length : Int) = t103 then ((hanaperref05_number.f a0_0).bind fun t104 => (if t104 = true then (hanaperref05_may.j0 k a1 false a0_0 a0_1 l0_2 l0_3) else (hanaperref05_may.j0 k a1 (a0_1 != 0) a0_0 a0_1 l0_2 l0_3))) else (hanaperref05_may.j0 k a1 true a0_0 a0_1 l0_2 l0_3)))))) = some r := h
 clear h
 have HC3 := Aside0.mk H
 clear H
 go_enter Try.func48, Try.ntmps48
 go_upto_region 1 with (first | ((with_reducible refine gate_dst (N := 2) rfl ?_); (try (refine gate_guard (by rfl) ?_; dsimp only)); refine box_event ?hg (N := 2) ?hd (cs := #[.int .i64 a0_0, .int .u64 a0_1, .slice A0_2 l0_2.length c0_2, .slice A0_3 l0_3.length c0_3]) (t := 26) ?hr ?_; (case hd => rfl); (case hg => rfl); (case hr => first | (go_simp; done) | (go_simp; rfl)); intro gb101 hg w4 hbox hb; have n0_ := Aside0.mk (below_step (by repeat (first | (with_reducible first | exact HB.out | apply below_alloc | apply pw_below_drewN | apply below_drew1) | exact HB.out)) hb); have n1_ := Aside0.mk (hbox); have n2_ := Aside0.mk ((by rw [hg]; exact (below_size (by repeat (first | (with_reducible first | exact HB.out | apply below_alloc | apply pw_below_drewN | apply below_drew1) | exact HB.out))) : w.heap.size ≤ gb101)); have n3_ := Aside0.mk ((by rw [hg]; exact (below_size (by repeat (first | (with_reducible first | exact HB.out | apply below_alloc | apply pw_below_drewN | apply below_drew1) | exact HB.out))) : w.heap.size ≤ gb101)); clear HB; have HB := n0_; have BK101 := n1_; have GW101 := n2_; have GE101 := n3_; clear n0_ n1_ n2_ n3_; clear hb hbox hg))
 repeat (go_quiet (first | ((with_reducible refine gate_dst (N := 2) rfl ?_); (try (refine gate_guard (by rfl) ?_; dsimp only)); refine box_event ?hg (N := 2) ?hd (cs := #[.int .i64 a0_0, .int .u64 a0_1, .slice A0_2 l0_2.length c0_2, .slice A0_3 l0_3.length c0_3]) (t := 26) ?hr ?_; (case hd => rfl); (case hg => rfl); (case hr => first | (go_simp; done) | (go_simp; rfl)); intro gb101 hg w4 hbox hb; have n0_ := Aside0.mk (below_step (by repeat (first | (with_reducible first | exact HB.out | apply below_alloc | apply pw_below_drewN | apply below_drew1) | exact HB.out)) hb); have n1_ := Aside0.mk (hbox); have n2_ := Aside0.mk ((by rw [hg]; exact (below_size (by repeat (first | (with_reducible first | exact HB.out | apply below_alloc | apply pw_below_drewN | apply below_drew1) | exact HB.out))) : w.heap.size ≤ gb101)); have n3_ := Aside0.mk ((by rw [hg]; exact (below_size (by repeat (first | (with_reducible first | exact HB.out | apply below_alloc | apply pw_below_drewN | apply below_drew1) | exact HB.out))) : w.heap.size ≤ gb101)); clear HB; have HB := n0_; have BK101 := n1_; have GW101 := n2_; have GE101 := n3_; clear n0_ n1_ n2_ n3_; clear hb hbox hg)); go_upto_region 1 with (first | ((with_reducible refine gate_dst (N := 2) rfl ?_); (try (refine gate_guard (by rfl) ?_; dsimp only)); refine box_event ?hg (N := 2) ?hd (cs := #[.int .i64 a0_0, .int .u64 a0_1, .slice A0_2 l0_2.length c0_2, .slice A0_3 l0_3.length c0_3]) (t := 26) ?hr ?_; (case hd => rfl); (case hg => rfl); (case hr => first | (go_simp; done) | (go_simp; rfl)); intro gb101 hg w4 hbox hb; have n0_ := Aside0.mk (below_step (by repeat (first | (with_reducible first | exact HB.out | apply below_alloc | apply pw_below_drewN | apply below_drew1) | exact HB.out)) hb); have n1_ := Aside0.mk (hbox); have n2_ := Aside0.mk ((by rw [hg]; exact (below_size (by repeat (first | (with_reducible first | exact HB.out | apply below_alloc | apply pw_below_drewN | apply below_drew1) | exact HB.out))) : w.heap.size ≤ gb101)); have n3_ := Aside0.mk ((by rw [hg]; exact (below_size (by repeat (first | (with_reducible first | exact HB.out | apply below_alloc | apply pw_below_drewN | apply below_drew1) | exact HB.out))) : w.heap.size ≤ gb101)); clear HB; have HB := n0_; have BK101 := n1_; have GW101 := n2_; have GE101 := n3_; clear n0_ n1_ n2_ n3_; clear hb hbox hg)))
 (try simp only [Act.put, List.setIfInBounds_toArray, List.set_cons_zero, List.set_cons_succ])
 go_cut [33] (fun v33 wc => ∃ (kq : Nat) (x33_2 : Bool), v33 = .bool x33_2 ∧ Aside0 (hanaperref05_may.j0 kq a1 x33_2 a0_0 a0_1 l0_2 l0_3 = some r) ∧ Aside0 (kq ≤ k) ∧ Aside0 (wc.heap[gb101]? = some (.cells #[.int .i64 a0_0, .int .u64 a0_1, (.slice A0_2 l0_2.length c0_2), (.slice A0_3 l0_3.length c0_3)] 26 (0, 0))) ∧ Aside0 (Below w.heap.size w wc))
 case first =>
  have H := HC3.out
  clear HC3
  by_cases c5 : a1 < 1
  ·rw [if_pos c5] at H
   have c5b0 : decide (a1 < 1) = true := decide_eq_true c5
   clear c5
   (first | rw [c5b0] | (simp only [i64_w, i32_w]; rw [c5b0]) | skip)
   have H' := Aside0.mk H
   clear H
   go_wp2
   repeat (go_quiet (fail); try go_wp2)
   go_meet
   case rel => exact ⟨_, (true), (by first | rfl | (simp; done) | (simp [*]; done)), H', ⟨by first | omega | exact Nat.le_refl _⟩, ⟨by (with_reducible repeat (first | refine blk_drewN ?_ _ | refine blk_drew ?_ | refine blk_alloc ?_ _)); exact BK101.out⟩, ⟨by repeat (first | (with_reducible first | exact HB.out | apply below_alloc | apply pw_below_drewN | apply below_drew1 | refine below_set ?_ GE101.out) | exact HB.out)⟩⟩
  ·rw [if_neg c5] at H
   have c5b0 : decide (a1 < 1) = false := decide_eq_false c5
   clear c5
   (first | rw [c5b0] | (simp only [i64_w, i32_w]; rw [c5b0]) | skip)
   replace H := Option.bind_eq_some_iff.mp H
   obtain ⟨t102, A60, H⟩ := H
   replace H : (if t102 < 0 then (hanaperref05_may.j0 k a1 true a0_0 a0_1 l0_2 l0_3) else ((hanaperref05_kids.f k a0_0).bind fun t103 => (if (l0_3.length : Int) = t103 then ((hanaperref05_number.f a0_0).bind fun t104 => (if t104 = true then (hanaperref05_may.j0 k a1 false a0_0 a0_1 l0_2 l0_3) else (hanaperref05_may.j0 k a1 (a0_1 != 0) a0_0 a0_1 l0_2 l0_3))) else (hanaperref05_may.j0 k a1 true a0_0 a0_1 l0_2 l0_3)))) = some r := H
   have A6 := Aside0.mk A60
   clear A60
   by_cases c7 : t102 < 0
   ·rw [if_pos c7] at H
    have c7b0 : decide (t102 < 0) = true := decide_eq_true c7
    clear c7
    have H' := Aside0.mk H
    clear H
    have hcz8_0 : w4.cell? ⟨gb101, 0, none⟩ = some (.int .i64 a0_0) := (blk_cell BK101.out 0).trans rfl
    have hcz8_1 : w4.cell? ⟨gb101, 1, none⟩ = some (.int .u64 a0_1) := (blk_cell BK101.out 1).trans rfl
    have hcz8_2 : w4.cell? ⟨gb101, 2, none⟩ = some (.slice A0_2 l0_2.length c0_2) := (blk_cell BK101.out 2).trans rfl
    have hcz8_3 : w4.cell? ⟨gb101, 3, none⟩ = some (.slice A0_3 l0_3.length c0_3) := (blk_cell BK101.out 3).trans rfl
    have hfz8_0 := blk_frozen BK101.out 0
    have hfz8_1 := blk_frozen BK101.out 1
    have hfz8_2 := blk_frozen BK101.out 2
    have hfz8_3 := blk_frozen BK101.out 3
    go_wp2_with (first | (go_at_call 68; (with_reducible refine (hanaperref05_kids.calls k a0_0 t102 _ A6.out).mono ?_); rintro e w' ⟨rfl, ⟨nd, rfl⟩⟩; (try first | exact ⟨rfl, _, World.drewN_drewN _ _ _⟩ | exact ⟨rfl, _, Eq.trans (World.drewN_drewN _ _ _) (congrArg (World.drewN _) (Nat.add_assoc _ _ _))⟩)))
    repeat (go_quiet (first | (go_at_call 68; (with_reducible refine (hanaperref05_kids.calls k a0_0 t102 _ A6.out).mono ?_); rintro e w' ⟨rfl, ⟨nd, rfl⟩⟩; (try first | exact ⟨rfl, _, World.drewN_drewN _ _ _⟩ | exact ⟨rfl, _, Eq.trans (World.drewN_drewN _ _ _) (congrArg (World.drewN _) (Nat.add_assoc _ _ _))⟩))); try go_wp2_with (first | (go_at_call 68; (with_reducible refine (hanaperref05_kids.calls k a0_0 t102 _ A6.out).mono ?_); rintro e w' ⟨rfl, ⟨nd, rfl⟩⟩; (try first | exact ⟨rfl, _, World.drewN_drewN _ _ _⟩ | exact ⟨rfl, _, Eq.trans (World.drewN_drewN _ _ _) (congrArg (World.drewN _) (Nat.add_assoc _ _ _))⟩))))
    go_meet
    case rel => exact ⟨_, (true), (by first | rfl | (simp; done) | (simp [*]; done)), H', ⟨by first | omega | exact Nat.le_refl _⟩, ⟨by (with_reducible repeat (first | refine blk_drewN ?_ _ | refine blk_drew ?_ | refine blk_alloc ?_ _)); exact BK101.out⟩, ⟨by repeat (first | (with_reducible first | exact HB.out | apply below_alloc | apply pw_below_drewN | apply below_drew1 | refine below_set ?_ GE101.out) | exact HB.out)⟩⟩
   ·rw [if_neg c7] at H
    have c7b0 : decide (t102 < 0) = false := decide_eq_false c7
    clear c7
    replace H := Option.bind_eq_some_iff.mp H
    obtain ⟨t103, A90, H⟩ := H
    replace H : (if (l0_3.length : Int) = t103 then ((hanaperref05_number.f a0_0).bind fun t104 => (if t104 = true then (hanaperref05_may.j0 k a1 false a0_0 a0_1 l0_2 l0_3) else (hanaperref05_may.j0 k a1 (a0_1 != 0) a0_0 a0_1 l0_2 l0_3))) else (hanaperref05_may.j0 k a1 true a0_0 a0_1 l0_2 l0_3)) = some r := H
    have A9 := Aside0.mk A90
    clear A90
    by_cases c10 : (l0_3.length : Int) = t103
    ·rw [if_pos c10] at H
     have c10b0 : ((l0_3.length : Int) == t103) = true := beq_iff_eq.mpr c10
     have c10b1 : ((l0_3.length : Int) != t103) = false := bne_eq_false_iff_eq.mpr c10
     clear c10
     replace H := Option.bind_eq_some_iff.mp H
     obtain ⟨t104, A110, H⟩ := H
     replace H : (if t104 = true then (hanaperref05_may.j0 k a1 false a0_0 a0_1 l0_2 l0_3) else (hanaperref05_may.j0 k a1 (a0_1 != 0) a0_0 a0_1 l0_2 l0_3)) = some r := H
     have A11 := Aside0.mk A110
     clear A110
     by_cases c12 : t104 = true
     ·subst c12
      have H1 : (hanaperref05_may.j0 k a1 false a0_0 a0_1 l0_2 l0_3) = some r := by rw [if_pos rfl] at H; exact H
      clear H
      have H := H1
      clear H1
      have H' := Aside0.mk H
      clear H
      have hcz13_0 : w4.cell? ⟨gb101, 0, none⟩ = some (.int .i64 a0_0) := (blk_cell BK101.out 0).trans rfl
      have hcz13_1 : w4.cell? ⟨gb101, 1, none⟩ = some (.int .u64 a0_1) := (blk_cell BK101.out 1).trans rfl
      have hcz13_2 : w4.cell? ⟨gb101, 2, none⟩ = some (.slice A0_2 l0_2.length c0_2) := (blk_cell BK101.out 2).trans rfl
      have hcz13_3 : w4.cell? ⟨gb101, 3, none⟩ = some (.slice A0_3 l0_3.length c0_3) := (blk_cell BK101.out 3).trans rfl
      have hfz13_0 := blk_frozen BK101.out 0
      have hfz13_1 := blk_frozen BK101.out 1
      have hfz13_2 := blk_frozen BK101.out 2
      have hfz13_3 := blk_frozen BK101.out 3
      obtain rfl : t102 = t103 := Option.some.inj (A6.out.symm.trans A9.out)
      go_wp2_with (first | (go_at_call 68; (with_reducible refine (hanaperref05_kids.calls k a0_0 t102 _ A6.out).mono ?_); rintro e w' ⟨rfl, ⟨nd, rfl⟩⟩; (try first | exact ⟨rfl, _, World.drewN_drewN _ _ _⟩ | exact ⟨rfl, _, Eq.trans (World.drewN_drewN _ _ _) (congrArg (World.drewN _) (Nat.add_assoc _ _ _))⟩)) | (go_at_call 68; (with_reducible refine (hanaperref05_kids.calls k a0_0 t103 _ A9.out).mono ?_); rintro e w' ⟨rfl, ⟨nd, rfl⟩⟩; (try first | exact ⟨rfl, _, World.drewN_drewN _ _ _⟩ | exact ⟨rfl, _, Eq.trans (World.drewN_drewN _ _ _) (congrArg (World.drewN _) (Nat.add_assoc _ _ _))⟩)) | (go_at_call 65; (with_reducible refine (hanaperref05_number.calls a0_0 true _ A11.out).mono ?_); rintro e w' ⟨rfl, ⟨nd, rfl⟩⟩; (try first | exact ⟨rfl, _, World.drewN_drewN _ _ _⟩ | exact ⟨rfl, _, Eq.trans (World.drewN_drewN _ _ _) (congrArg (World.drewN _) (Nat.add_assoc _ _ _))⟩)))
      repeat (go_quiet (first | (go_at_call 68; (with_reducible refine (hanaperref05_kids.calls k a0_0 t102 _ A6.out).mono ?_); rintro e w' ⟨rfl, ⟨nd, rfl⟩⟩; (try first | exact ⟨rfl, _, World.drewN_drewN _ _ _⟩ | exact ⟨rfl, _, Eq.trans (World.drewN_drewN _ _ _) (congrArg (World.drewN _) (Nat.add_assoc _ _ _))⟩)) | (go_at_call 68; (with_reducible refine (hanaperref05_kids.calls k a0_0 t103 _ A9.out).mono ?_); rintro e w' ⟨rfl, ⟨nd, rfl⟩⟩; (try first | exact ⟨rfl, _, World.drewN_drewN _ _ _⟩ | exact ⟨rfl, _, Eq.trans (World.drewN_drewN _ _ _) (congrArg (World.drewN _) (Nat.add_assoc _ _ _))⟩)) | (go_at_call 65; (with_reducible refine (hanaperref05_number.calls a0_0 true _ A11.out).mono ?_); rintro e w' ⟨rfl, ⟨nd, rfl⟩⟩; (try first | exact ⟨rfl, _, World.drewN_drewN _ _ _⟩ | exact ⟨rfl, _, Eq.trans (World.drewN_drewN _ _ _) (congrArg (World.drewN _) (Nat.add_assoc _ _ _))⟩))); try go_wp2_with (first | (go_at_call 68; (with_reducible refine (hanaperref05_kids.calls k a0_0 t102 _ A6.out).mono ?_); rintro e w' ⟨rfl, ⟨nd, rfl⟩⟩; (try first | exact ⟨rfl, _, World.drewN_drewN _ _ _⟩ | exact ⟨rfl, _, Eq.trans (World.drewN_drewN _ _ _) (congrArg (World.drewN _) (Nat.add_assoc _ _ _))⟩)) | (go_at_call 68; (with_reducible refine (hanaperref05_kids.calls k a0_0 t103 _ A9.out).mono ?_); rintro e w' ⟨rfl, ⟨nd, rfl⟩⟩; (try first | exact ⟨rfl, _, World.drewN_drewN _ _ _⟩ | exact ⟨rfl, _, Eq.trans (World.drewN_drewN _ _ _) (congrArg (World.drewN _) (Nat.add_assoc _ _ _))⟩)) | (go_at_call 65; (with_reducible refine (hanaperref05_number.calls a0_0 true _ A11.out).mono ?_); rintro e w' ⟨rfl, ⟨nd, rfl⟩⟩; (try first | exact ⟨rfl, _, World.drewN_drewN _ _ _⟩ | exact ⟨rfl, _, Eq.trans (World.drewN_drewN _ _ _) (congrArg (World.drewN _) (Nat.add_assoc _ _ _))⟩))))
      go_meet
      case rel => exact ⟨_, (false), (by first | rfl | (simp; done) | (simp [*]; done)), H', ⟨by first | omega | exact Nat.le_refl _⟩, ⟨by (with_reducible repeat (first | refine blk_drewN ?_ _ | refine blk_drew ?_ | refine blk_alloc ?_ _)); exact BK101.out⟩, ⟨by repeat (first | (with_reducible first | exact HB.out | apply below_alloc | apply pw_below_drewN | apply below_drew1 | refine below_set ?_ GE101.out) | exact HB.out)⟩⟩
     ·replace c12 := Bool.eq_false_iff.mpr c12
      subst c12
      have H1 : (hanaperref05_may.j0 k a1 (a0_1 != 0) a0_0 a0_1 l0_2 l0_3) = some r := by rw [if_neg (show ¬ (false = true) by decide)] at H; exact H
      clear H
      have H := H1
      clear H1
      have H' := Aside0.mk H
      clear H
      have hcz14_0 : w4.cell? ⟨gb101, 0, none⟩ = some (.int .i64 a0_0) := (blk_cell BK101.out 0).trans rfl
      have hcz14_1 : w4.cell? ⟨gb101, 1, none⟩ = some (.int .u64 a0_1) := (blk_cell BK101.out 1).trans rfl
      have hcz14_2 : w4.cell? ⟨gb101, 2, none⟩ = some (.slice A0_2 l0_2.length c0_2) := (blk_cell BK101.out 2).trans rfl
      have hcz14_3 : w4.cell? ⟨gb101, 3, none⟩ = some (.slice A0_3 l0_3.length c0_3) := (blk_cell BK101.out 3).trans rfl
      have hfz14_0 := blk_frozen BK101.out 0
      have hfz14_1 := blk_frozen BK101.out 1
      have hfz14_2 := blk_frozen BK101.out 2
      have hfz14_3 := blk_frozen BK101.out 3
      obtain rfl : t102 = t103 := Option.some.inj (A6.out.symm.trans A9.out)
      go_wp2_with (first | (go_at_call 68; (with_reducible refine (hanaperref05_kids.calls k a0_0 t102 _ A6.out).mono ?_); rintro e w' ⟨rfl, ⟨nd, rfl⟩⟩; (try first | exact ⟨rfl, _, World.drewN_drewN _ _ _⟩ | exact ⟨rfl, _, Eq.trans (World.drewN_drewN _ _ _) (congrArg (World.drewN _) (Nat.add_assoc _ _ _))⟩)) | (go_at_call 68; (with_reducible refine (hanaperref05_kids.calls k a0_0 t103 _ A9.out).mono ?_); rintro e w' ⟨rfl, ⟨nd, rfl⟩⟩; (try first | exact ⟨rfl, _, World.drewN_drewN _ _ _⟩ | exact ⟨rfl, _, Eq.trans (World.drewN_drewN _ _ _) (congrArg (World.drewN _) (Nat.add_assoc _ _ _))⟩)) | (go_at_call 65; (with_reducible refine (hanaperref05_number.calls a0_0 false _ A11.out).mono ?_); rintro e w' ⟨rfl, ⟨nd, rfl⟩⟩; (try first | exact ⟨rfl, _, World.drewN_drewN _ _ _⟩ | exact ⟨rfl, _, Eq.trans (World.drewN_drewN _ _ _) (congrArg (World.drewN _) (Nat.add_assoc _ _ _))⟩)))
      repeat (go_quiet (first | (go_at_call 68; (with_reducible refine (hanaperref05_kids.calls k a0_0 t102 _ A6.out).mono ?_); rintro e w' ⟨rfl, ⟨nd, rfl⟩⟩; (try first | exact ⟨rfl, _, World.drewN_drewN _ _ _⟩ | exact ⟨rfl, _, Eq.trans (World.drewN_drewN _ _ _) (congrArg (World.drewN _) (Nat.add_assoc _ _ _))⟩)) | (go_at_call 68; (with_reducible refine (hanaperref05_kids.calls k a0_0 t103 _ A9.out).mono ?_); rintro e w' ⟨rfl, ⟨nd, rfl⟩⟩; (try first | exact ⟨rfl, _, World.drewN_drewN _ _ _⟩ | exact ⟨rfl, _, Eq.trans (World.drewN_drewN _ _ _) (congrArg (World.drewN _) (Nat.add_assoc _ _ _))⟩)) | (go_at_call 65; (with_reducible refine (hanaperref05_number.calls a0_0 false _ A11.out).mono ?_); rintro e w' ⟨rfl, ⟨nd, rfl⟩⟩; (try first | exact ⟨rfl, _, World.drewN_drewN _ _ _⟩ | exact ⟨rfl, _, Eq.trans (World.drewN_drewN _ _ _) (congrArg (World.drewN _) (Nat.add_assoc _ _ _))⟩))); try go_wp2_with (first | (go_at_call 68; (with_reducible refine (hanaperref05_kids.calls k a0_0 t102 _ A6.out).mono ?_); rintro e w' ⟨rfl, ⟨nd, rfl⟩⟩; (try first | exact ⟨rfl, _, World.drewN_drewN _ _ _⟩ | exact ⟨rfl, _, Eq.trans (World.drewN_drewN _ _ _) (congrArg (World.drewN _) (Nat.add_assoc _ _ _))⟩)) | (go_at_call 68; (with_reducible refine (hanaperref05_kids.calls k a0_0 t103 _ A9.out).mono ?_); rintro e w' ⟨rfl, ⟨nd, rfl⟩⟩; (try first | exact ⟨rfl, _, World.drewN_drewN _ _ _⟩ | exact ⟨rfl, _, Eq.trans (World.drewN_drewN _ _ _) (congrArg (World.drewN _) (Nat.add_assoc _ _ _))⟩)) | (go_at_call 65; (with_reducible refine (hanaperref05_number.calls a0_0 false _ A11.out).mono ?_); rintro e w' ⟨rfl, ⟨nd, rfl⟩⟩; (try first | exact ⟨rfl, _, World.drewN_drewN _ _ _⟩ | exact ⟨rfl, _, Eq.trans (World.drewN_drewN _ _ _) (congrArg (World.drewN _) (Nat.add_assoc _ _ _))⟩))))
      go_meet
      case rel => exact ⟨_, ((a0_1 != 0)), (by first | rfl | (simp; done) | (simp [*]; done)), H', ⟨by first | omega | exact Nat.le_refl _⟩, ⟨by (with_reducible repeat (first | refine blk_drewN ?_ _ | refine blk_drew ?_ | refine blk_alloc ?_ _)); exact BK101.out⟩, ⟨by repeat (first | (with_reducible first | exact HB.out | apply below_alloc | apply pw_below_drewN | apply below_drew1 | refine below_set ?_ GE101.out) | exact HB.out)⟩⟩
    ·rw [if_neg c10] at H
     have c10b0 : ((l0_3.length : Int) == t103) = false := beq_eq_false_iff_ne.mpr c10
     have c10b1 : ((l0_3.length : Int) != t103) = true := bne_iff_ne.mpr c10
     have H' := Aside0.mk H
     clear H
     have hcz15_0 : w4.cell? ⟨gb101, 0, none⟩ = some (.int .i64 a0_0) := (blk_cell BK101.out 0).trans rfl
     have hcz15_1 : w4.cell? ⟨gb101, 1, none⟩ = some (.int .u64 a0_1) := (blk_cell BK101.out 1).trans rfl
     have hcz15_2 : w4.cell? ⟨gb101, 2, none⟩ = some (.slice A0_2 l0_2.length c0_2) := (blk_cell BK101.out 2).trans rfl
     have hcz15_3 : w4.cell? ⟨gb101, 3, none⟩ = some (.slice A0_3 l0_3.length c0_3) := (blk_cell BK101.out 3).trans rfl
     have hfz15_0 := blk_frozen BK101.out 0
     have hfz15_1 := blk_frozen BK101.out 1
     have hfz15_2 := blk_frozen BK101.out 2
     have hfz15_3 := blk_frozen BK101.out 3
     obtain rfl : t102 = t103 := Option.some.inj (A6.out.symm.trans A9.out)
     go_wp2_with (first | (go_at_call 68; (with_reducible refine (hanaperref05_kids.calls k a0_0 t102 _ A6.out).mono ?_); rintro e w' ⟨rfl, ⟨nd, rfl⟩⟩; (try first | exact ⟨rfl, _, World.drewN_drewN _ _ _⟩ | exact ⟨rfl, _, Eq.trans (World.drewN_drewN _ _ _) (congrArg (World.drewN _) (Nat.add_assoc _ _ _))⟩)) | (go_at_call 68; (with_reducible refine (hanaperref05_kids.calls k a0_0 t103 _ A9.out).mono ?_); rintro e w' ⟨rfl, ⟨nd, rfl⟩⟩; (try first | exact ⟨rfl, _, World.drewN_drewN _ _ _⟩ | exact ⟨rfl, _, Eq.trans (World.drewN_drewN _ _ _) (congrArg (World.drewN _) (Nat.add_assoc _ _ _))⟩)))
     repeat (go_quiet (first | (go_at_call 68; (with_reducible refine (hanaperref05_kids.calls k a0_0 t102 _ A6.out).mono ?_); rintro e w' ⟨rfl, ⟨nd, rfl⟩⟩; (try first | exact ⟨rfl, _, World.drewN_drewN _ _ _⟩ | exact ⟨rfl, _, Eq.trans (World.drewN_drewN _ _ _) (congrArg (World.drewN _) (Nat.add_assoc _ _ _))⟩)) | (go_at_call 68; (with_reducible refine (hanaperref05_kids.calls k a0_0 t103 _ A9.out).mono ?_); rintro e w' ⟨rfl, ⟨nd, rfl⟩⟩; (try first | exact ⟨rfl, _, World.drewN_drewN _ _ _⟩ | exact ⟨rfl, _, Eq.trans (World.drewN_drewN _ _ _) (congrArg (World.drewN _) (Nat.add_assoc _ _ _))⟩))); try go_wp2_with (first | (go_at_call 68; (with_reducible refine (hanaperref05_kids.calls k a0_0 t102 _ A6.out).mono ?_); rintro e w' ⟨rfl, ⟨nd, rfl⟩⟩; (try first | exact ⟨rfl, _, World.drewN_drewN _ _ _⟩ | exact ⟨rfl, _, Eq.trans (World.drewN_drewN _ _ _) (congrArg (World.drewN _) (Nat.add_assoc _ _ _))⟩)) | (go_at_call 68; (with_reducible refine (hanaperref05_kids.calls k a0_0 t103 _ A9.out).mono ?_); rintro e w' ⟨rfl, ⟨nd, rfl⟩⟩; (try first | exact ⟨rfl, _, World.drewN_drewN _ _ _⟩ | exact ⟨rfl, _, Eq.trans (World.drewN_drewN _ _ _) (congrArg (World.drewN _) (Nat.add_assoc _ _ _))⟩))))
     go_meet
     case rel => exact ⟨_, (true), (by first | rfl | (simp; done) | (simp [*]; done)), H', ⟨by first | omega | exact Nat.le_refl _⟩, ⟨by (with_reducible repeat (first | refine blk_drewN ?_ _ | refine blk_drew ?_ | refine blk_alloc ?_ _)); exact BK101.out⟩, ⟨by repeat (first | (with_reducible first | exact HB.out | apply below_alloc | apply pw_below_drewN | apply below_drew1 | refine below_set ?_ GE101.out) | exact HB.out)⟩⟩
 case rest =>
  clear HC3
  (try clear c1);(try clear p2);(try clear c4);(try clear c5);(try clear c5b0);(try clear c7);(try clear c7b0);(try clear c10);(try clear c10b0);(try clear c10b1);(try clear c12);(try clear hcz13_0);(try clear hcz13_1);(try clear hcz13_2);(try clear hcz13_3);(try clear hcz14_0);(try clear hcz14_1);(try clear hcz14_2);(try clear hcz14_3);(try clear hcz15_0);(try clear hcz15_1);(try clear hcz15_2);(try clear hcz15_3);(try clear hcz8_0);(try clear hcz8_1);(try clear hcz8_2);(try clear hcz8_3);(try clear hfz13_0);(try clear hfz13_1);(try clear hfz13_2);(try clear hfz13_3);(try clear hfz14_0);(try clear hfz14_1);(try clear hfz14_2);(try clear hfz14_3);(try clear hfz15_0);(try clear hfz15_1);(try clear hfz15_2);(try clear hfz15_3);(try clear hfz8_0);(try clear hfz8_1);(try clear hfz8_2);(try clear hfz8_3)
  obtain ⟨kq, x33_2, rfl, HA, HJ2, BK101, HB⟩ := hcut
  cases kq with
  | zero => exact absurd HA.out (by simp [hanaperref05_may.j0])
  | succ kj2 =>
   have H := HA.out
   clear HA
   simp only [hanaperref05_may.j0] at H
   by_cases c16 : x33_2 = true
   ·subst c16
    have H1 : (some false) = some r := by rw [if_pos rfl] at H; exact H
    clear H
    have H := H1
    clear H1
    obtain rfl := Option.some.inj H
    go_wp2
    repeat (go_quiet (fail); try go_wp2)
    go_ret
    exact ⟨by first | rfl | (simp [errW_none, errW_some] <;> rfl) | (simp [*, errW_none, errW_some] <;> rfl), by repeat (first | (with_reducible first | exact HB.out | apply below_alloc | apply pw_below_drewN | apply below_drew1 | refine below_set ?_ GE101.out) | exact HB.out)⟩
   ·replace c16 := Bool.eq_false_iff.mpr c16
    subst c16
    have H1 : (if a0_0 = 3 then (hanaperref05_may.j1 kj2 a1 (decide ((l0_2.length : Int) > 100)) a0_0 a0_1 l0_2 l0_3) else (if (l0_2.length : Int) > 0 then (hanaperref05_may.j1 kj2 a1 true a0_0 a0_1 l0_2 l0_3) else (hanaperref05_may.j1 kj2 a1 (decide ((l0_2.length : Int) > 100)) a0_0 a0_1 l0_2 l0_3))) = some r := by rw [if_neg (show ¬ (false = true) by decide)] at H; exact H
    clear H
    have H := H1
    clear H1
    have HC17 := Aside0.mk H
    clear H
    go_upto_region 3 with (fail)
    repeat (go_quiet (fail); go_upto_region 3 with (fail))
    go_cut [48] (fun v48 wc => ∃ (kq : Nat) (x48_16 : Bool), v48 = .bool x48_16 ∧ Aside0 (hanaperref05_may.j1 kq a1 x48_16 a0_0 a0_1 l0_2 l0_3 = some r) ∧ Aside0 (kq ≤ kj2) ∧ Aside0 (wc.heap[gb101]? = some (.cells #[.int .i64 a0_0, .int .u64 a0_1, (.slice A0_2 l0_2.length c0_2), (.slice A0_3 l0_3.length c0_3)] 26 (0, 0))) ∧ Aside0 (Below w.heap.size w wc))
    case first =>
     have H := HC17.out
     clear HC17
     by_cases c18 : a0_0 = 3
     ·rw [if_pos c18] at H
      have c18b0 : (a0_0 == 3) = true := beq_iff_eq.mpr c18
      have c18b1 : (a0_0 != 3) = false := bne_eq_false_iff_eq.mpr c18
      clear c18
      (first | rw [c18b0] | (simp only [i64_w, i32_w]; rw [c18b0]) | skip)
      have H' := Aside0.mk H
      clear H
      have hcz19_0 : wc.cell? ⟨gb101, 0, none⟩ = some (.int .i64 a0_0) := (blk_cell BK101.out 0).trans rfl
      have hcz19_1 : wc.cell? ⟨gb101, 1, none⟩ = some (.int .u64 a0_1) := (blk_cell BK101.out 1).trans rfl
      have hcz19_2 : wc.cell? ⟨gb101, 2, none⟩ = some (.slice A0_2 l0_2.length c0_2) := (blk_cell BK101.out 2).trans rfl
      have hcz19_3 : wc.cell? ⟨gb101, 3, none⟩ = some (.slice A0_3 l0_3.length c0_3) := (blk_cell BK101.out 3).trans rfl
      have hfz19_0 := blk_frozen BK101.out 0
      have hfz19_1 := blk_frozen BK101.out 1
      have hfz19_2 := blk_frozen BK101.out 2
      have hfz19_3 := blk_frozen BK101.out 3
      go_wp2
      repeat (go_quiet (fail); try go_wp2)
      go_meet
      case rel => exact ⟨_, (decide ((l0_2.length : Int) > 100)), (by first | rfl | (simp; done) | (simp [*]; done)), H', ⟨by have := HJ2.out; first | omega | exact Nat.le_refl _⟩, ⟨by (with_reducible repeat (first | refine blk_drewN ?_ _ | refine blk_drew ?_ | refine blk_alloc ?_ _)); exact BK101.out⟩, ⟨by repeat (first | (with_reducible first | exact HB.out | apply below_alloc | apply pw_below_drewN | apply below_drew1 | refine below_set ?_ GE101.out) | exact HB.out)⟩⟩
     ·rw [if_neg c18] at H
      have c18b0 : (a0_0 == 3) = false := beq_eq_false_iff_ne.mpr c18
      have c18b1 : (a0_0 != 3) = true := bne_iff_ne.mpr c18
      (first | rw [c18b0] | (simp only [i64_w, i32_w]; rw [c18b0]) | skip)
      by_cases c20 : (l0_2.length : Int) > 0
      ·rw [if_pos c20] at H
       have c20b0 : decide (0 < (l0_2.length : Int)) = true := decide_eq_true c20
       have c20b1 : decide (0 < l0_2.length) = true := decide_eq_true (by omega)
       clear c20
       have H' := Aside0.mk H
       clear H
       have hcz21_0 : wc.cell? ⟨gb101, 0, none⟩ = some (.int .i64 a0_0) := (blk_cell BK101.out 0).trans rfl
       have hcz21_1 : wc.cell? ⟨gb101, 1, none⟩ = some (.int .u64 a0_1) := (blk_cell BK101.out 1).trans rfl
       have hcz21_2 : wc.cell? ⟨gb101, 2, none⟩ = some (.slice A0_2 l0_2.length c0_2) := (blk_cell BK101.out 2).trans rfl
       have hcz21_3 : wc.cell? ⟨gb101, 3, none⟩ = some (.slice A0_3 l0_3.length c0_3) := (blk_cell BK101.out 3).trans rfl
       have hfz21_0 := blk_frozen BK101.out 0
       have hfz21_1 := blk_frozen BK101.out 1
       have hfz21_2 := blk_frozen BK101.out 2
       have hfz21_3 := blk_frozen BK101.out 3
       go_wp2
       repeat (go_quiet (fail); try go_wp2)
       go_meet
       case rel => exact ⟨_, (true), (by first | rfl | (simp; done) | (simp [*]; done)), H', ⟨by have := HJ2.out; first | omega | exact Nat.le_refl _⟩, ⟨by (with_reducible repeat (first | refine blk_drewN ?_ _ | refine blk_drew ?_ | refine blk_alloc ?_ _)); exact BK101.out⟩, ⟨by repeat (first | (with_reducible first | exact HB.out | apply below_alloc | apply pw_below_drewN | apply below_drew1 | refine below_set ?_ GE101.out) | exact HB.out)⟩⟩
      ·rw [if_neg c20] at H
       have c20b0 : decide (0 < (l0_2.length : Int)) = false := decide_eq_false c20
       have c20b1 : decide (0 < l0_2.length) = false := decide_eq_false (by omega)
       clear c20
       have H' := Aside0.mk H
       clear H
       have hcz22_0 : wc.cell? ⟨gb101, 0, none⟩ = some (.int .i64 a0_0) := (blk_cell BK101.out 0).trans rfl
       have hcz22_1 : wc.cell? ⟨gb101, 1, none⟩ = some (.int .u64 a0_1) := (blk_cell BK101.out 1).trans rfl
       have hcz22_2 : wc.cell? ⟨gb101, 2, none⟩ = some (.slice A0_2 l0_2.length c0_2) := (blk_cell BK101.out 2).trans rfl
       have hcz22_3 : wc.cell? ⟨gb101, 3, none⟩ = some (.slice A0_3 l0_3.length c0_3) := (blk_cell BK101.out 3).trans rfl
       have hfz22_0 := blk_frozen BK101.out 0
       have hfz22_1 := blk_frozen BK101.out 1
       have hfz22_2 := blk_frozen BK101.out 2
       have hfz22_3 := blk_frozen BK101.out 3
       go_wp2
       repeat (go_quiet (fail); try go_wp2)
       go_meet
       case rel => exact ⟨_, (decide ((l0_2.length : Int) > 100)), (by first | rfl | (simp; done) | (simp [*]; done)), H', ⟨by have := HJ2.out; first | omega | exact Nat.le_refl _⟩, ⟨by (with_reducible repeat (first | refine blk_drewN ?_ _ | refine blk_drew ?_ | refine blk_alloc ?_ _)); exact BK101.out⟩, ⟨by repeat (first | (with_reducible first | exact HB.out | apply below_alloc | apply pw_below_drewN | apply below_drew1 | refine below_set ?_ GE101.out) | exact HB.out)⟩⟩
    case rest =>
     clear HC17
     (try clear c1);(try clear c2);(try clear p2);(try clear c4);(try clear c5);(try clear c5b0);(try clear c7);(try clear c7b0);(try clear c10);(try clear c10b0);(try clear c10b1);(try clear c12);(try clear c16);(try clear c18);(try clear c18b0);(try clear c18b1);(try clear c20);(try clear c20b0);(try clear c20b1);(try clear hcz13_0);(try clear hcz13_1);(try clear hcz13_2);(try clear hcz13_3);(try clear hcz14_0);(try clear hcz14_1);(try clear hcz14_2);(try clear hcz14_3);(try clear hcz15_0);(try clear hcz15_1);(try clear hcz15_2);(try clear hcz15_3);(try clear hcz19_0);(try clear hcz19_1);(try clear hcz19_2);(try clear hcz19_3);(try clear hcz21_0);(try clear hcz21_1);(try clear hcz21_2);(try clear hcz21_3);(try clear hcz22_0);(try clear hcz22_1);(try clear hcz22_2);(try clear hcz22_3);(try clear hcz8_0);(try clear hcz8_1);(try clear hcz8_2);(try clear hcz8_3);(try clear hfz13_0);(try clear hfz13_1);(try clear hfz13_2);(try clear hfz13_3);(try clear hfz14_0);(try clear hfz14_1);(try clear hfz14_2);(try clear hfz14_3);(try clear hfz15_0);(try clear hfz15_1);(try clear hfz15_2);(try clear hfz15_3);(try clear hfz19_0);(try clear hfz19_1);(try clear hfz19_2);(try clear hfz19_3);(try clear hfz21_0);(try clear hfz21_1);(try clear hfz21_2);(try clear hfz21_3);(try clear hfz22_0);(try clear hfz22_1);(try clear hfz22_2);(try clear hfz22_3);(try clear hfz8_0);(try clear hfz8_1);(try clear hfz8_2);(try clear hfz8_3);(try clear p2)
     obtain ⟨kq, x48_16, rfl, HA, HJ16, BK101, HB⟩ := hcut
     cases kq with
     | zero => exact absurd HA.out (by simp [hanaperref05_may.j1])
     | succ kj16 =>
      have H := HA.out
      clear HA
      simp only [hanaperref05_may.j1] at H
      by_cases c23 : x48_16 = true
      ·subst c23
       have H1 : (some false) = some r := by rw [if_pos rfl] at H; exact H
       clear H
       have H := H1
       clear H1
       obtain rfl := Option.some.inj H
       go_wp2
       repeat (go_quiet (fail); try go_wp2)
       go_ret
       exact ⟨by first | rfl | (simp [errW_none, errW_some] <;> rfl) | (simp [*, errW_none, errW_some] <;> rfl), by repeat (first | (with_reducible first | exact HB.out | apply below_alloc | apply pw_below_drewN | apply below_drew1 | refine below_set ?_ GE101.out) | exact HB.out)⟩
      ·replace c23 := Bool.eq_false_iff.mpr c23
       subst c23
       have H1 : (hanaperref05_may.l0 kj16 a1 0 a0_0 a0_1 l0_2 l0_3) = some r := by rw [if_neg (show ¬ (false = true) by decide)] at H; exact H
       clear H
       have H := H1
       clear H1
       have H' := Aside0.mk H
       clear H
       go_wp2
       repeat (go_quiet (fail); try go_wp2)
       go_loopg [5] kj16 (fun kq v5 w' => ∃ (x5_3 : Int), v5 = .int .i64 x5_3 ∧ Aside0 (hanaperref05_may.l0 kq a1 x5_3 a0_0 a0_1 l0_2 l0_3 = some r) ∧ Aside0 (kq ≤ kj16) ∧ Aside0 (w'.heap[gb101]? = some (.cells #[.int .i64 a0_0, .int .u64 a0_1, (.slice A0_2 l0_2.length c0_2), (.slice A0_3 l0_3.length c0_3)] 26 (0, 0))) ∧ Aside0 (Below w.heap.size w w'))
       case atStart => exact ⟨(0), (by first | rfl | (simp; done) | (simp [*]; done)), H', ⟨Nat.le_refl _⟩, ⟨by (with_reducible repeat (first | refine blk_drewN ?_ _ | refine blk_drew ?_ | refine blk_alloc ?_ _)); exact BK101.out⟩, ⟨by repeat (first | (with_reducible first | exact HB.out | apply below_alloc | apply pw_below_drewN | apply below_drew1 | refine below_set ?_ GE101.out) | exact HB.out)⟩⟩
       case round =>
        clear H'
        (try clear c1);(try clear c2);(try clear p2);(try clear c4);(try clear c5);(try clear c5b0);(try clear c7);(try clear c7b0);(try clear c10);(try clear c10b0);(try clear c10b1);(try clear c12);(try clear c16);(try clear c18);(try clear c18b0);(try clear c18b1);(try clear c20);(try clear c20b0);(try clear c20b1);(try clear c23);(try clear hcz13_0);(try clear hcz13_1);(try clear hcz13_2);(try clear hcz13_3);(try clear hcz14_0);(try clear hcz14_1);(try clear hcz14_2);(try clear hcz14_3);(try clear hcz15_0);(try clear hcz15_1);(try clear hcz15_2);(try clear hcz15_3);(try clear hcz19_0);(try clear hcz19_1);(try clear hcz19_2);(try clear hcz19_3);(try clear hcz21_0);(try clear hcz21_1);(try clear hcz21_2);(try clear hcz21_3);(try clear hcz22_0);(try clear hcz22_1);(try clear hcz22_2);(try clear hcz22_3);(try clear hcz8_0);(try clear hcz8_1);(try clear hcz8_2);(try clear hcz8_3);(try clear hfz13_0);(try clear hfz13_1);(try clear hfz13_2);(try clear hfz13_3);(try clear hfz14_0);(try clear hfz14_1);(try clear hfz14_2);(try clear hfz14_3);(try clear hfz15_0);(try clear hfz15_1);(try clear hfz15_2);(try clear hfz15_3);(try clear hfz19_0);(try clear hfz19_1);(try clear hfz19_2);(try clear hfz19_3);(try clear hfz21_0);(try clear hfz21_1);(try clear hfz21_2);(try clear hfz21_3);(try clear hfz22_0);(try clear hfz22_1);(try clear hfz22_2);(try clear hfz22_3);(try clear hfz8_0);(try clear hfz8_1);(try clear hfz8_2);(try clear hfz8_3);(try clear p2)
        obtain ⟨x5_3, rfl, HA, HK3, BK101, HB⟩ := hrel
        cases gk with
        | zero => exact absurd HA.out (by simp [hanaperref05_may.l0])
        | succ k3 =>
         have H := HA.out
         clear HA
         simp only [hanaperref05_may.l0] at H
         by_cases c24 : x5_3 < (l0_3.length : Int)
         ·rw [if_pos c24] at H
          have c24b0 : decide (x5_3 < (l0_3.length : Int)) = true := decide_eq_true c24
          clear c24
          by_cases c25 : 0 ≤ x5_3
          ·rw [if_pos c25] at H
           have c25b0 : decide (0 ≤ x5_3) = true := decide_eq_true c25
           clear c25
           replace H := Option.bind_eq_some_iff.mp H
           obtain ⟨t106, A260, H⟩ := H
           replace H : (if t106 = true then (hanaperref05_may.l0 k3 a1 (wrap64 (x5_3 + 1)) a0_0 a0_1 l0_2 l0_3) else (some false)) = some r := H
           have A26 := Aside0.mk A260
           clear A260
           by_cases c27 : t106 = true
           ·subst c27
            have H1 : (hanaperref05_may.l0 k3 a1 (wrap64 (x5_3 + 1)) a0_0 a0_1 l0_2 l0_3) = some r := by rw [if_pos rfl] at H; exact H
            clear H
            have H := H1
            clear H1
            have H' := Aside0.mk H
            clear H
            have hcz28_0 : wr.cell? ⟨gb101, 0, none⟩ = some (.int .i64 a0_0) := (blk_cell BK101.out 0).trans rfl
            have hcz28_1 : wr.cell? ⟨gb101, 1, none⟩ = some (.int .u64 a0_1) := (blk_cell BK101.out 1).trans rfl
            have hcz28_2 : wr.cell? ⟨gb101, 2, none⟩ = some (.slice A0_2 l0_2.length c0_2) := (blk_cell BK101.out 2).trans rfl
            have hcz28_3 : wr.cell? ⟨gb101, 3, none⟩ = some (.slice A0_3 l0_3.length c0_3) := (blk_cell BK101.out 3).trans rfl
            have hfz28_0 := blk_frozen BK101.out 0
            have hfz28_1 := blk_frozen BK101.out 1
            have hfz28_2 := blk_frozen BK101.out 2
            have hfz28_3 := blk_frozen BK101.out 3
            have p105 : 0 ≤ (x5_3 : Int) := of_decide_eq_true (by first | (with_reducible assumption) | assumption)
            have q105 : x5_3 < (l0_3.length : Int) := of_decide_eq_true (by first | (with_reducible assumption) | assumption)
            obtain ⟨ad105, A105_2, c105_2, A105_3, c105_3, e105, hx105_0, hx105_1, hx105_2, hx105_3, hl105_2, hi105_2, hl105_3, hi105_3⟩ := at_T26 HR0_3.out x5_3 p105 q105
            cases e105
            replace hx105_0 := (HB.out.cell (World.block_lt_of_cell? w _ hx105_0)).trans hx105_0
            replace hx105_1 := (HB.out.cell (World.block_lt_of_cell? w _ hx105_1)).trans hx105_1
            replace hx105_2 := (HB.out.cell (World.block_lt_of_cell? w _ hx105_2)).trans hx105_2
            replace hx105_3 := (HB.out.cell (World.block_lt_of_cell? w _ hx105_3)).trans hx105_3
            have HR105_2 := Aside0.mk hi105_2
            have HC105_2 := Aside0.mk hl105_2
            clear hi105_2 hl105_2
            have HR105_3 := Aside0.mk hi105_3
            have HC105_3 := Aside0.mk hl105_3
            clear hi105_3 hl105_3
            replace p105 := eq_true p105
            replace q105 := eq_true q105
            go_wp2_with (first | (go_at_call 48; (with_reducible refine (ih k3 (by have := HJ2.out; have := HJ16.out; have := HK3.out; omega) ((rd_T26 l0_3 x5_3).f0) ((rd_T26 l0_3 x5_3).f1) _ _ ((rd_T26 l0_3 x5_3).f2) _ _ ((rd_T26 l0_3 x5_3).f3) (wrap64 (a1 - 1)) true _ ?side1 ?side2 ?side3 ?side4 A26.out).mono ?_); (case side1 => repeat (first | exact (Kd.C_below HR105_2.out HB.out) | (with_reducible refine Kd.C_alloc ?_ _) | (with_reducible refine Kd.C_drewN ?_ _) | (with_reducible refine Kd.C_drew ?_))); (case side2 => exact HC105_2.out); (case side3 => repeat (first | exact (Kd.C_below HR105_3.out HB.out) | (with_reducible refine Kd.C_alloc ?_ _) | (with_reducible refine Kd.C_drewN ?_ _) | (with_reducible refine Kd.C_drew ?_))); (case side4 => exact HC105_3.out); rintro e w29 ⟨rfl, hb⟩; have n0_ := Aside0.mk (blk_below (g := gb101) (o := .cells #[.int .i64 a0_0, .int .u64 a0_1, .slice A0_2 l0_2.length c0_2, .slice (some ad105) l0_3.length c0_3] 26 (0, 0)) (by (with_reducible repeat (first | refine blk_drewN ?_ _ | refine blk_drew ?_ | refine blk_alloc ?_ _)); exact BK101.out) hb); have n1_ := Aside0.mk (below_step (by repeat (first | (with_reducible first | exact HB.out | apply below_alloc | apply pw_below_drewN | apply below_drew1 | refine below_set ?_ GE101.out) | exact HB.out)) hb); clear BK101; clear HB; have BK101 := n0_; have HB := n1_; clear n0_ n1_; (try clear hb); (try clear hb2); (try clear hk); (try clear hi)))
            repeat (go_quiet (first | (go_at_call 48; (with_reducible refine (ih k3 (by have := HJ2.out; have := HJ16.out; have := HK3.out; omega) ((rd_T26 l0_3 x5_3).f0) ((rd_T26 l0_3 x5_3).f1) _ _ ((rd_T26 l0_3 x5_3).f2) _ _ ((rd_T26 l0_3 x5_3).f3) (wrap64 (a1 - 1)) true _ ?side1 ?side2 ?side3 ?side4 A26.out).mono ?_); (case side1 => repeat (first | exact (Kd.C_below HR105_2.out HB.out) | (with_reducible refine Kd.C_alloc ?_ _) | (with_reducible refine Kd.C_drewN ?_ _) | (with_reducible refine Kd.C_drew ?_))); (case side2 => exact HC105_2.out); (case side3 => repeat (first | exact (Kd.C_below HR105_3.out HB.out) | (with_reducible refine Kd.C_alloc ?_ _) | (with_reducible refine Kd.C_drewN ?_ _) | (with_reducible refine Kd.C_drew ?_))); (case side4 => exact HC105_3.out); rintro e w29 ⟨rfl, hb⟩; have n0_ := Aside0.mk (blk_below (g := gb101) (o := .cells #[.int .i64 a0_0, .int .u64 a0_1, .slice A0_2 l0_2.length c0_2, .slice (some ad105) l0_3.length c0_3] 26 (0, 0)) (by (with_reducible repeat (first | refine blk_drewN ?_ _ | refine blk_drew ?_ | refine blk_alloc ?_ _)); exact BK101.out) hb); have n1_ := Aside0.mk (below_step (by repeat (first | (with_reducible first | exact HB.out | apply below_alloc | apply pw_below_drewN | apply below_drew1 | refine below_set ?_ GE101.out) | exact HB.out)) hb); clear BK101; clear HB; have BK101 := n0_; have HB := n1_; clear n0_ n1_; (try clear hb); (try clear hb2); (try clear hk); (try clear hi))); try go_wp2_with (first | (go_at_call 48; (with_reducible refine (ih k3 (by have := HJ2.out; have := HJ16.out; have := HK3.out; omega) ((rd_T26 l0_3 x5_3).f0) ((rd_T26 l0_3 x5_3).f1) _ _ ((rd_T26 l0_3 x5_3).f2) _ _ ((rd_T26 l0_3 x5_3).f3) (wrap64 (a1 - 1)) true _ ?side1 ?side2 ?side3 ?side4 A26.out).mono ?_); (case side1 => repeat (first | exact (Kd.C_below HR105_2.out HB.out) | (with_reducible refine Kd.C_alloc ?_ _) | (with_reducible refine Kd.C_drewN ?_ _) | (with_reducible refine Kd.C_drew ?_))); (case side2 => exact HC105_2.out); (case side3 => repeat (first | exact (Kd.C_below HR105_3.out HB.out) | (with_reducible refine Kd.C_alloc ?_ _) | (with_reducible refine Kd.C_drewN ?_ _) | (with_reducible refine Kd.C_drew ?_))); (case side4 => exact HC105_3.out); rintro e w29 ⟨rfl, hb⟩; have n0_ := Aside0.mk (blk_below (g := gb101) (o := .cells #[.int .i64 a0_0, .int .u64 a0_1, .slice A0_2 l0_2.length c0_2, .slice (some ad105) l0_3.length c0_3] 26 (0, 0)) (by (with_reducible repeat (first | refine blk_drewN ?_ _ | refine blk_drew ?_ | refine blk_alloc ?_ _)); exact BK101.out) hb); have n1_ := Aside0.mk (below_step (by repeat (first | (with_reducible first | exact HB.out | apply below_alloc | apply pw_below_drewN | apply below_drew1 | refine below_set ?_ GE101.out) | exact HB.out)) hb); clear BK101; clear HB; have BK101 := n0_; have HB := n1_; clear n0_ n1_; (try clear hb); (try clear hb2); (try clear hk); (try clear hi))))
            go_roundg k3
            case measure => have := HJ2.out; have := HJ16.out; have := HK3.out; omega
            case rel => exact ⟨(wrap64 (x5_3 + 1)), (by first | rfl | (simp; done) | (simp [*]; done)), H', ⟨by have := HJ2.out; have := HJ16.out; have := HK3.out; omega⟩, ⟨by (with_reducible repeat (first | refine blk_drewN ?_ _ | refine blk_drew ?_ | refine blk_alloc ?_ _)); exact BK101.out⟩, ⟨by repeat (first | (with_reducible first | exact HB.out | apply below_alloc | apply pw_below_drewN | apply below_drew1 | refine below_set ?_ GE101.out) | exact HB.out)⟩⟩
           ·replace c27 := Bool.eq_false_iff.mpr c27
            subst c27
            have H1 : (some false) = some r := by rw [if_neg (show ¬ (false = true) by decide)] at H; exact H
            clear H
            have H := H1
            clear H1
            obtain rfl := Option.some.inj H
            have hcz30_0 : wr.cell? ⟨gb101, 0, none⟩ = some (.int .i64 a0_0) := (blk_cell BK101.out 0).trans rfl
            have hcz30_1 : wr.cell? ⟨gb101, 1, none⟩ = some (.int .u64 a0_1) := (blk_cell BK101.out 1).trans rfl
            have hcz30_2 : wr.cell? ⟨gb101, 2, none⟩ = some (.slice A0_2 l0_2.length c0_2) := (blk_cell BK101.out 2).trans rfl
            have hcz30_3 : wr.cell? ⟨gb101, 3, none⟩ = some (.slice A0_3 l0_3.length c0_3) := (blk_cell BK101.out 3).trans rfl
            have hfz30_0 := blk_frozen BK101.out 0
            have hfz30_1 := blk_frozen BK101.out 1
            have hfz30_2 := blk_frozen BK101.out 2
            have hfz30_3 := blk_frozen BK101.out 3
            have p105 : 0 ≤ (x5_3 : Int) := of_decide_eq_true (by first | (with_reducible assumption) | assumption)
            have q105 : x5_3 < (l0_3.length : Int) := of_decide_eq_true (by first | (with_reducible assumption) | assumption)
            obtain ⟨ad105, A105_2, c105_2, A105_3, c105_3, e105, hx105_0, hx105_1, hx105_2, hx105_3, hl105_2, hi105_2, hl105_3, hi105_3⟩ := at_T26 HR0_3.out x5_3 p105 q105
            cases e105
            replace hx105_0 := (HB.out.cell (World.block_lt_of_cell? w _ hx105_0)).trans hx105_0
            replace hx105_1 := (HB.out.cell (World.block_lt_of_cell? w _ hx105_1)).trans hx105_1
            replace hx105_2 := (HB.out.cell (World.block_lt_of_cell? w _ hx105_2)).trans hx105_2
            replace hx105_3 := (HB.out.cell (World.block_lt_of_cell? w _ hx105_3)).trans hx105_3
            have HR105_2 := Aside0.mk hi105_2
            have HC105_2 := Aside0.mk hl105_2
            clear hi105_2 hl105_2
            have HR105_3 := Aside0.mk hi105_3
            have HC105_3 := Aside0.mk hl105_3
            clear hi105_3 hl105_3
            replace p105 := eq_true p105
            replace q105 := eq_true q105
            go_wp2_with (first | (go_at_call 48; (with_reducible refine (ih k3 (by have := HJ2.out; have := HJ16.out; have := HK3.out; omega) ((rd_T26 l0_3 x5_3).f0) ((rd_T26 l0_3 x5_3).f1) _ _ ((rd_T26 l0_3 x5_3).f2) _ _ ((rd_T26 l0_3 x5_3).f3) (wrap64 (a1 - 1)) false _ ?side1 ?side2 ?side3 ?side4 A26.out).mono ?_); (case side1 => repeat (first | exact (Kd.C_below HR105_2.out HB.out) | (with_reducible refine Kd.C_alloc ?_ _) | (with_reducible refine Kd.C_drewN ?_ _) | (with_reducible refine Kd.C_drew ?_))); (case side2 => exact HC105_2.out); (case side3 => repeat (first | exact (Kd.C_below HR105_3.out HB.out) | (with_reducible refine Kd.C_alloc ?_ _) | (with_reducible refine Kd.C_drewN ?_ _) | (with_reducible refine Kd.C_drew ?_))); (case side4 => exact HC105_3.out); rintro e w31 ⟨rfl, hb⟩; have n0_ := Aside0.mk (blk_below (g := gb101) (o := .cells #[.int .i64 a0_0, .int .u64 a0_1, .slice A0_2 l0_2.length c0_2, .slice (some ad105) l0_3.length c0_3] 26 (0, 0)) (by (with_reducible repeat (first | refine blk_drewN ?_ _ | refine blk_drew ?_ | refine blk_alloc ?_ _)); exact BK101.out) hb); have n1_ := Aside0.mk (below_step (by repeat (first | (with_reducible first | exact HB.out | apply below_alloc | apply pw_below_drewN | apply below_drew1 | refine below_set ?_ GE101.out) | exact HB.out)) hb); clear BK101; clear HB; have BK101 := n0_; have HB := n1_; clear n0_ n1_; (try clear hb); (try clear hb2); (try clear hk); (try clear hi)))
            repeat (go_quiet (first | (go_at_call 48; (with_reducible refine (ih k3 (by have := HJ2.out; have := HJ16.out; have := HK3.out; omega) ((rd_T26 l0_3 x5_3).f0) ((rd_T26 l0_3 x5_3).f1) _ _ ((rd_T26 l0_3 x5_3).f2) _ _ ((rd_T26 l0_3 x5_3).f3) (wrap64 (a1 - 1)) false _ ?side1 ?side2 ?side3 ?side4 A26.out).mono ?_); (case side1 => repeat (first | exact (Kd.C_below HR105_2.out HB.out) | (with_reducible refine Kd.C_alloc ?_ _) | (with_reducible refine Kd.C_drewN ?_ _) | (with_reducible refine Kd.C_drew ?_))); (case side2 => exact HC105_2.out); (case side3 => repeat (first | exact (Kd.C_below HR105_3.out HB.out) | (with_reducible refine Kd.C_alloc ?_ _) | (with_reducible refine Kd.C_drewN ?_ _) | (with_reducible refine Kd.C_drew ?_))); (case side4 => exact HC105_3.out); rintro e w31 ⟨rfl, hb⟩; have n0_ := Aside0.mk (blk_below (g := gb101) (o := .cells #[.int .i64 a0_0, .int .u64 a0_1, .slice A0_2 l0_2.length c0_2, .slice (some ad105) l0_3.length c0_3] 26 (0, 0)) (by (with_reducible repeat (first | refine blk_drewN ?_ _ | refine blk_drew ?_ | refine blk_alloc ?_ _)); exact BK101.out) hb); have n1_ := Aside0.mk (below_step (by repeat (first | (with_reducible first | exact HB.out | apply below_alloc | apply pw_below_drewN | apply below_drew1 | refine below_set ?_ GE101.out) | exact HB.out)) hb); clear BK101; clear HB; have BK101 := n0_; have HB := n1_; clear n0_ n1_; (try clear hb); (try clear hb2); (try clear hk); (try clear hi))); try go_wp2_with (first | (go_at_call 48; (with_reducible refine (ih k3 (by have := HJ2.out; have := HJ16.out; have := HK3.out; omega) ((rd_T26 l0_3 x5_3).f0) ((rd_T26 l0_3 x5_3).f1) _ _ ((rd_T26 l0_3 x5_3).f2) _ _ ((rd_T26 l0_3 x5_3).f3) (wrap64 (a1 - 1)) false _ ?side1 ?side2 ?side3 ?side4 A26.out).mono ?_); (case side1 => repeat (first | exact (Kd.C_below HR105_2.out HB.out) | (with_reducible refine Kd.C_alloc ?_ _) | (with_reducible refine Kd.C_drewN ?_ _) | (with_reducible refine Kd.C_drew ?_))); (case side2 => exact HC105_2.out); (case side3 => repeat (first | exact (Kd.C_below HR105_3.out HB.out) | (with_reducible refine Kd.C_alloc ?_ _) | (with_reducible refine Kd.C_drewN ?_ _) | (with_reducible refine Kd.C_drew ?_))); (case side4 => exact HC105_3.out); rintro e w31 ⟨rfl, hb⟩; have n0_ := Aside0.mk (blk_below (g := gb101) (o := .cells #[.int .i64 a0_0, .int .u64 a0_1, .slice A0_2 l0_2.length c0_2, .slice (some ad105) l0_3.length c0_3] 26 (0, 0)) (by (with_reducible repeat (first | refine blk_drewN ?_ _ | refine blk_drew ?_ | refine blk_alloc ?_ _)); exact BK101.out) hb); have n1_ := Aside0.mk (below_step (by repeat (first | (with_reducible first | exact HB.out | apply below_alloc | apply pw_below_drewN | apply below_drew1 | refine below_set ?_ GE101.out) | exact HB.out)) hb); clear BK101; clear HB; have BK101 := n0_; have HB := n1_; clear n0_ n1_; (try clear hb); (try clear hb2); (try clear hk); (try clear hi))))
            go_ret
            exact ⟨by first | rfl | (simp [errW_none, errW_some] <;> rfl) | (simp [*, errW_none, errW_some] <;> rfl), by repeat (first | (with_reducible first | exact HB.out | apply below_alloc | apply pw_below_drewN | apply below_drew1 | refine below_set ?_ GE101.out) | exact HB.out)⟩
          ·rw [if_neg c25] at H
           exact absurd H (by simp)
         ·rw [if_neg c24] at H
          have c24b0 : decide (x5_3 < (l0_3.length : Int)) = false := decide_eq_false c24
          clear c24
          by_cases c32 : a0_0 = 5
          ·rw [if_pos c32] at H
           have c32b0 : (a0_0 == 5) = true := beq_iff_eq.mpr c32
           have c32b1 : (a0_0 != 5) = false := bne_eq_false_iff_eq.mpr c32
           clear c32
           by_cases c33 : 1 < (l0_3.length : Int)
           ·rw [if_pos c33] at H
            have c33b0 : decide (1 < (l0_3.length : Int)) = true := decide_eq_true c33
            have c33b1 : decide (1 < l0_3.length) = true := decide_eq_true (by omega)
            clear c33
            obtain rfl := Option.some.inj H
            have hcz34_0 : wr.cell? ⟨gb101, 0, none⟩ = some (.int .i64 a0_0) := (blk_cell BK101.out 0).trans rfl
            have hcz34_1 : wr.cell? ⟨gb101, 1, none⟩ = some (.int .u64 a0_1) := (blk_cell BK101.out 1).trans rfl
            have hcz34_2 : wr.cell? ⟨gb101, 2, none⟩ = some (.slice A0_2 l0_2.length c0_2) := (blk_cell BK101.out 2).trans rfl
            have hcz34_3 : wr.cell? ⟨gb101, 3, none⟩ = some (.slice A0_3 l0_3.length c0_3) := (blk_cell BK101.out 3).trans rfl
            have hfz34_0 := blk_frozen BK101.out 0
            have hfz34_1 := blk_frozen BK101.out 1
            have hfz34_2 := blk_frozen BK101.out 2
            have hfz34_3 := blk_frozen BK101.out 3
            have p107 : 0 ≤ (1 : Int) := (by omega)
            have q107 : 1 < (l0_3.length : Int) := of_decide_eq_true (by first | (with_reducible assumption) | assumption)
            obtain ⟨ad107, A107_2, c107_2, A107_3, c107_3, e107, hx107_0, hx107_1, hx107_2, hx107_3, hl107_2, hi107_2, hl107_3, hi107_3⟩ := at_T26 HR0_3.out 1 p107 q107
            cases e107
            (try simp only [show (1 : Int).toNat = 1 from rfl, Nat.reduceMul, Nat.reduceEqDiff, Go.Addr.add, ↓reduceIte] at hx107_0)
            (try simp only [show (1 : Int).toNat = 1 from rfl, Nat.reduceMul, Nat.reduceEqDiff, Go.Addr.add, ↓reduceIte] at hx107_1)
            (try simp only [show (1 : Int).toNat = 1 from rfl, Nat.reduceMul, Nat.reduceEqDiff, Go.Addr.add, ↓reduceIte] at hx107_2)
            (try simp only [show (1 : Int).toNat = 1 from rfl, Nat.reduceMul, Nat.reduceEqDiff, Go.Addr.add, ↓reduceIte] at hx107_3)
            have qi107 : (1 < l0_3.length) = True := eq_true (by omega)
            (try rw [show ((1 : Int)).toNat = 1 from rfl] at hx107_0)
            (try rw [show 1 * 4 = 4 from rfl] at hx107_0)
            (try rw [show ((1 : Int)).toNat = 1 from rfl] at hx107_1)
            (try rw [show 1 * 4 = 4 from rfl] at hx107_1)
            (try rw [show ((1 : Int)).toNat = 1 from rfl] at hx107_2)
            (try rw [show 1 * 4 = 4 from rfl] at hx107_2)
            (try rw [show ((1 : Int)).toNat = 1 from rfl] at hx107_3)
            (try rw [show 1 * 4 = 4 from rfl] at hx107_3)
            replace hx107_0 := (HB.out.cell (World.block_lt_of_cell? w _ hx107_0)).trans hx107_0
            replace hx107_1 := (HB.out.cell (World.block_lt_of_cell? w _ hx107_1)).trans hx107_1
            replace hx107_2 := (HB.out.cell (World.block_lt_of_cell? w _ hx107_2)).trans hx107_2
            replace hx107_3 := (HB.out.cell (World.block_lt_of_cell? w _ hx107_3)).trans hx107_3
            have HR107_2 := Aside0.mk hi107_2
            have HC107_2 := Aside0.mk hl107_2
            clear hi107_2 hl107_2
            have HR107_3 := Aside0.mk hi107_3
            have HC107_3 := Aside0.mk hl107_3
            clear hi107_3 hl107_3
            replace p107 := eq_true p107
            replace q107 := eq_true q107
            go_wp2
            repeat (go_quiet (fail); try go_wp2)
            go_ret
            exact ⟨by first | rfl | (simp [errW_none, errW_some] <;> rfl) | (simp [*, errW_none, errW_some] <;> rfl), by repeat (first | (with_reducible first | exact HB.out | apply below_alloc | apply pw_below_drewN | apply below_drew1 | refine below_set ?_ GE101.out) | exact HB.out)⟩
           ·rw [if_neg c33] at H
            exact absurd H (by simp)
          ·rw [if_neg c32] at H
           have c32b0 : (a0_0 == 5) = false := beq_eq_false_iff_ne.mpr c32
           have c32b1 : (a0_0 != 5) = true := bne_iff_ne.mpr c32
           obtain rfl := Option.some.inj H
           have hcz35_0 : wr.cell? ⟨gb101, 0, none⟩ = some (.int .i64 a0_0) := (blk_cell BK101.out 0).trans rfl
           have hcz35_1 : wr.cell? ⟨gb101, 1, none⟩ = some (.int .u64 a0_1) := (blk_cell BK101.out 1).trans rfl
           have hcz35_2 : wr.cell? ⟨gb101, 2, none⟩ = some (.slice A0_2 l0_2.length c0_2) := (blk_cell BK101.out 2).trans rfl
           have hcz35_3 : wr.cell? ⟨gb101, 3, none⟩ = some (.slice A0_3 l0_3.length c0_3) := (blk_cell BK101.out 3).trans rfl
           have hfz35_0 := blk_frozen BK101.out 0
           have hfz35_1 := blk_frozen BK101.out 1
           have hfz35_2 := blk_frozen BK101.out 2
           have hfz35_3 := blk_frozen BK101.out 3
           go_wp2
           repeat (go_quiet (fail); try go_wp2)
           go_ret
           exact ⟨by first | rfl | (simp [errW_none, errW_some] <;> rfl) | (simp [*, errW_none, errW_some] <;> rfl), by repeat (first | (with_reducible first | exact HB.out | apply below_alloc | apply pw_below_drewN | apply below_drew1 | refine below_set ?_ GE101.out) | exact HB.out)⟩

end Go.Proofs.Ytgohmganimamcaa.PZ
-- printed for this claim by a program (pall.sh)
-- mended by fixpz.py
namespace Go.Proofs.Ytgohmganimamcaa.PZ
open Go.RowKit Go.Proofs.YtgohmganimamcaaW.PrintWords Go.Proofs.YtgohmganimamcaaW.PrintLast Go.Proofs.YtgohmganimamcaaW.PrintMore
attribute [local go_sem] max2_int min2_int max_two min_two max_three min_three max_four min_four   -- for this text's walks alone
set_option linter.unusedVariables false
set_option linter.unusedSimpArgs false

/-! ### hanaperref05_May: function 17 -/
def hanaperref05_May.f (k : Nat) (a0_0 : Int) (a0_1 : Int) (l0_2 : List Int) (l0_3 : List (S26)) : Option (Bool) := (hanaperref05_may.f k a0_0 a0_1 l0_2 l0_3 8).bind fun t102 => (some t102)
set_option maxHeartbeats 8000000 in
set_option maxRecDepth 100000 in
theorem hanaperref05_May.calls (k : Nat) (a0_0 : Int) (a0_1 : Int) (A0_2 : Option Addr) (c0_2 : Nat) (l0_2 : List Int) (A0_3 : Option Addr) (c0_3 : Nat) (l0_3 : List (S26)) (r : Bool) (w : World) (hr0_2 : Kd.C (Kd.int .u8) w A0_2 l0_2.length l0_2) (hc0_2 : l0_2.length ≤ c0_2) (hr0_3 : Kd.C k26 w A0_3 l0_3.length l0_3) (hc0_3 : l0_3.length ≤ c0_3) (h : hanaperref05_May.f k a0_0 a0_1 l0_2 l0_3 = some r) :
  Calls Try.prog 17 #[.agg #[.int .i64 a0_0, .int .u64 a0_1, .slice A0_2 l0_2.length c0_2, .slice A0_3 l0_3.length c0_3]] w fun e w' => e = .returned (.bool r) ∧ Below w.heap.size w w' := by
 have hu26 := Try.underlying26
 have HR0_2 := Aside0.mk hr0_2
 have HC0_2 := Aside0.mk hc0_2
 clear hr0_2 hc0_2
 have HR0_3 := Aside0.mk hr0_3
 have HC0_3 := Aside0.mk hc0_3
 clear hr0_3 hc0_3
 have HB := Aside0.mk (Below.refl w.heap.size w)
 have H : ((hanaperref05_may.f k a0_0 a0_1 l0_2 l0_3 8).bind fun t102 => (some t102)) = some r := h
 clear h
 replace H := Option.bind_eq_some_iff.mp H
 obtain ⟨t102, A20, H⟩ := H
 replace H : (some t102) = some r := H
 have A2 := Aside0.mk A20
 clear A20
 obtain rfl := Option.some.inj H
 go_enter Try.func17, Try.ntmps17
 go_wp2_with (first | ((with_reducible refine gate_dst (N := 1) rfl ?_); refine box_event ?hg (N := 1) ?hd (cs := #[.int .i64 a0_0, .int .u64 a0_1, .slice A0_2 l0_2.length c0_2, .slice A0_3 l0_3.length c0_3]) (t := 26) ?hr ?_; (case hd => rfl); (case hg => rfl); (case hr => first | (go_simp; done) | (go_simp; rfl)); intro gb101 hg w3 hbox hb; have n0_ := Aside0.mk (below_step (by repeat (first | (with_reducible first | exact HB.out | apply below_alloc | apply pw_below_drewN | apply below_drew1) | exact HB.out)) hb); have n1_ := Aside0.mk (hbox); have n2_ := Aside0.mk ((by rw [hg]; exact (below_size (by repeat (first | (with_reducible first | exact HB.out | apply below_alloc | apply pw_below_drewN | apply below_drew1) | exact HB.out))) : w.heap.size ≤ gb101)); have n3_ := Aside0.mk ((by rw [hg]; exact (below_size (by repeat (first | (with_reducible first | exact HB.out | apply below_alloc | apply pw_below_drewN | apply below_drew1) | exact HB.out))) : w.heap.size ≤ gb101)); clear HB; have HB := n0_; have BK101 := n1_; have GW101 := n2_; have GE101 := n3_; clear n0_ n1_ n2_ n3_; clear hb hbox hg; have hcz4_0 : w3.cell? ⟨gb101, 0, none⟩ = some (.int .i64 a0_0) := (blk_cell BK101.out 0).trans rfl; have hcz4_1 : w3.cell? ⟨gb101, 1, none⟩ = some (.int .u64 a0_1) := (blk_cell BK101.out 1).trans rfl; have hcz4_2 : w3.cell? ⟨gb101, 2, none⟩ = some (.slice A0_2 l0_2.length c0_2) := (blk_cell BK101.out 2).trans rfl; have hcz4_3 : w3.cell? ⟨gb101, 3, none⟩ = some (.slice A0_3 l0_3.length c0_3) := (blk_cell BK101.out 3).trans rfl; have hfz4_0 := blk_frozen BK101.out 0; have hfz4_1 := blk_frozen BK101.out 1; have hfz4_2 := blk_frozen BK101.out 2; have hfz4_3 := blk_frozen BK101.out 3) | ((with_reducible refine gate_callee (f := 48) rfl ?_); refine goesL_ (some 4) rfl rfl Try.func48 (by kernel_rfl) rfl #[.agg #[.int .i64 a0_0, .int .u64 a0_1, .slice A0_2 l0_2.length c0_2, .slice A0_3 l0_3.length c0_3], .int .i64 8] rfl (by (try simp only [List.map_toArray, List.map_cons, List.map_nil]); first | done | rfl | (simp only [List.length_drop, List.length_take]; rfl)) ?_; (with_reducible refine (hanaperref05_may.calls k a0_0 a0_1 _ _ l0_2 _ _ l0_3 8 t102 _ ?side1 ?side2 ?side3 ?side4 A2.out).mono ?_); (case side1 => repeat (first | exact (Kd.C_below HR0_2.out HB.out) | (with_reducible refine Kd.C_alloc ?_ _) | (with_reducible refine Kd.C_drewN ?_ _) | (with_reducible refine Kd.C_drew ?_))); (case side2 => exact HC0_2.out); (case side3 => repeat (first | exact (Kd.C_below HR0_3.out HB.out) | (with_reducible refine Kd.C_alloc ?_ _) | (with_reducible refine Kd.C_drewN ?_ _) | (with_reducible refine Kd.C_drew ?_))); (case side4 => exact HC0_3.out); rintro e w5 ⟨rfl, hb⟩; refine ⟨_, rfl, ?_⟩; have n0_ := Aside0.mk (blk_below (g := gb101) (o := .cells #[.int .i64 a0_0, .int .u64 a0_1, .slice A0_2 l0_2.length c0_2, .slice A0_3 l0_3.length c0_3] 26 (0, 0)) (by (with_reducible repeat (first | refine blk_drewN ?_ _ | refine blk_drew ?_ | refine blk_alloc ?_ _)); exact BK101.out) hb); have n1_ := Aside0.mk (below_step (by repeat (first | (with_reducible first | exact HB.out | apply below_alloc | apply pw_below_drewN | apply below_drew1 | refine below_set ?_ GE101.out) | exact HB.out)) hb); clear BK101; clear HB; have BK101 := n0_; have HB := n1_; clear n0_ n1_; (try clear hb); (try clear hb2); (try clear hk); (try clear hi)))
 go_ret
 exact ⟨by first | rfl | (simp [errW_none, errW_some] <;> rfl) | (simp [*, errW_none, errW_some] <;> rfl), by repeat (first | (with_reducible first | exact HB.out | apply below_alloc | apply pw_below_drewN | apply below_drew1 | refine below_set ?_ GE101.out) | exact HB.out)⟩

end Go.Proofs.Ytgohmganimamcaa.PZ
/- Which terms may be: both answer alike. -/
namespace Go.Proofs.Ytgohmganimamcaa.Term
set_option linter.unusedVariables false
set_option linter.unusedSimpArgs false
open Go.RowKit Go.Proofs.Ytgohmganimamcaa.Base Go.Proofs.Ytgohmganimamcaa.TlvPlain Go.Proofs.Ytgohmganimamcaa.Lo Go.Proofs.Ytgohmganimamcaa.RdPlain Go.Proofs.Ytgohmganimamcaa.Aid Go.Proofs.Ytgohmganimamcaa.PZ Go.Proofs.YtgohmganimamcaaW.PrintWords Go.Proofs.YtgohmganimamcaaW.PrintLast Go.Proofs.YtgohmganimamcaaW.PrintMore
theorem rd_at (xs : List ST) (i : Nat) (h : i < xs.length) : rd_T26 xs (i : Int) = xs[i] := by simp [rd_T26, List.getD_eq_getElem?_getD, List.getElem?_eq_getElem h]
theorem shape_v (k : Int) : term_shapeOf.f k = some (thereB k, numT k, datT k, (kidT k : Int)) := rfl
theorem kid_len (k : Int) : kidT k ≤ 2 := by unfold kidT; split <;> (try split) <;> omega
theorem dec_i {d : Nat} (h : d ≤ 8) : wrap64 (((d + 1 : Nat) : Int) - 1) = (d : Int) := by rw [w64 (by omega) (by omega)]; omega
theorem may_no1 {d : Nat} {x : ST} (h : ¬ thereB x.f0 = true) : mayT (d + 1) x = false := by rw [mayT]; simp [h]
theorem may_no2 {d : Nat} {x : ST} (h : ¬ x.f3.length = kidT x.f0) : mayT (d + 1) x = false := by rw [mayT]; simp [h]
theorem may_no3 {d : Nat} {x : ST} (h : ¬ numT x.f0 = true) (h2 : ¬ x.f1 = 0) : mayT (d + 1) x = false := by rw [mayT]; simp [h, h2]
theorem may_no4 {d : Nat} {x : ST} (h : ¬ datT x.f0 = true) (h2 : ¬ x.f2.length = 0) : mayT (d + 1) x = false := by
  rw [mayT]
  have : ¬ x.f2 = [] := fun e => h2 (by rw [e]; rfl)
  simp [h, this]
theorem may_no5 {d : Nat} {x : ST} (h : ¬ x.f2.length ≤ 100) : mayT (d + 1) x = false := by rw [mayT]; simp [h]
theorem may_no6 {d : Nat} {x : ST} (h : x.f0 = 5) (h2 : ¬ kid1 x = 2) : mayT (d + 1) x = false := by rw [mayT]; simp [h, h2]
theorem may_yes {d : Nat} {x : ST} (h1 : thereB x.f0 = true) (h2 : x.f3.length = kidT x.f0) (h3 : numT x.f0 = true ∨ x.f1 = 0) (h4 : datT x.f0 = true ∨ x.f2.length = 0) (h5 : x.f2.length ≤ 100) (h6 : ¬ (x.f0 = 5 ∧ ¬ kid1 x = 2)) : mayT (d + 1) x = x.f3.all (mayT d) := by
  rw [mayT]
  have e3 : (numT x.f0 || decide (x.f1 = 0)) = true := by rcases h3 with h | h <;> simp [h]
  have e4 : (datT x.f0 || decide (x.f2.length = 0)) = true := by rcases h4 with h | h <;> simp [h]
  have e6 : (!(decide (x.f0 = 5) && !decide (kid1 x = 2))) = true := by
    by_cases a : x.f0 = 5
    · by_cases b : kid1 x = 2
      · simp [b]
      · exact absurd ⟨a, b⟩ h6
    · simp [a]
  rw [h1, decide_eq_true h2, e3, e4, decide_eq_true h5, e6]
  simp
theorem all_drop (p : ST → Bool) (l : List ST) (i : Nat) (h : i < l.length) : (l.drop i).all p = (p l[i] && (l.drop (i + 1)).all p) := by rw [List.drop_eq_getElem_cons h, List.all_cons]
theorem may_ev : ∀ (d : Nat) (x : ST), d ≤ 8 → Ev (fun k => term_may.f k x.f0 x.f1 x.f2 x.f3 (d : Int)) (mayT d x) := by
  intro d
  induction d with
  | zero =>
    intro x _
    rw [mayT]
    refine Ev.step (fun k => by simp only [term_may.f]; rfl) (bindSome (shape_v x.f0) ?_)
    refine pos rfl ?_
    exact Ev.step (fun k => by simp only [term_may.j0]; rfl) (pos (show true = true from rfl) (now rfl))
  | succ d ih =>
    intro x hd
    have loop : ∀ (m i : Nat), i + m = x.f3.length → x.f3.length ≤ 2 → Ev (fun k => term_may.l0 k ((d + 1 : Nat) : Int) x.f3 (x.f3.length : Int) (i : Int)) ((x.f3.drop i).all (mayT d)) := by
      intro m
      induction m with
      | zero =>
        intro i hi hl
        rw [List.drop_of_length_le (by omega)]
        exact Ev.step (fun k => by simp only [term_may.l0]; rfl) (neg (by omega) (now rfl))
      | succ m ihm =>
        intro i hi hl
        have hlt : i < x.f3.length := by omega
        refine Ev.step (fun k => by simp only [term_may.l0]; rfl) (pos (by omega) (pos (by omega) (pos (by omega) ?_)))
        rw [rd_at x.f3 i hlt, dec_i (by omega), all_drop _ _ i hlt]
        refine evBind (ih x.f3[i] (by omega)) ?_
        cases mayT d x.f3[i] with
        | false => exact neg (by decide) (now (by simp))
        | true =>
          rw [Bool.true_and, inc hlt (by omega)]
          exact pos rfl (ihm (i + 1) (by omega) hl)
    have j3 : x.f3.length ≤ 2 → Ev (fun k => term_may.j3 k ((d + 1 : Nat) : Int) x.f0 x.f1 x.f2 x.f3) (x.f3.all (mayT d)) := fun hl => Ev.step (fun k => by simp only [term_may.j3]; rfl) (loop x.f3.length 0 (by omega) hl)
    have j2t : Ev (fun k => term_may.j2 k ((d + 1 : Nat) : Int) true x.f0 x.f1 x.f2 x.f3) false := Ev.step (fun k => by simp only [term_may.j2]; rfl) (pos (show true = true from rfl) (now rfl))
    have j0t : ∀ b1 b2 b3 k4, Ev (fun k => term_may.j0 k ((d + 1 : Nat) : Int) true x.f0 x.f1 x.f2 x.f3 b1 b2 b3 k4) false := fun b1 b2 b3 k4 => Ev.step (fun k => by simp only [term_may.j0]; rfl) (pos (show true = true from rfl) (now rfl))
    refine Ev.step (fun k => by simp only [term_may.f]; rfl) (bindSome (shape_v x.f0) ?_)
    refine neg (by omega) ?_
    dsimp only
    by_cases h1 : thereB x.f0 = true
    · refine pos h1 ?_
      by_cases h2 : x.f3.length = kidT x.f0
      · have hl : x.f3.length ≤ 2 := by have := kid_len x.f0; omega
        rw [show ((x.f3.length : Int) != (kidT x.f0 : Int)) = false by rw [h2]; simp]
        have j2 : (numT x.f0 = true ∨ x.f1 = 0) → (datT x.f0 = true ∨ x.f2.length = 0) → Ev (fun k => term_may.j2 k ((d + 1 : Nat) : Int) (decide ((x.f2.length : Int) > 100)) x.f0 x.f1 x.f2 x.f3) (mayT (d + 1) x) := by
          intro h3 h4
          by_cases h5 : x.f2.length ≤ 100
          · rw [decide_eq_false (show ¬ (x.f2.length : Int) > 100 by omega)]
            refine Ev.step (fun k => by simp only [term_may.j2]; rfl) (neg (by decide) ?_)
            by_cases h6 : x.f0 = 5
            · have hk : x.f3.length = 2 := by rw [h2]; unfold kidT; rw [if_pos (by omega)]
              have e1 : rd_T26 x.f3 1 = x.f3.getD 1 z26 := rfl
              refine pos h6 (pos (by omega) ?_)
              rw [e1]
              by_cases h7 : kid1 x = 2
              · rw [may_yes h1 h2 h3 h4 h5 (fun h => h.2 h7)]
                exact pos h7 (j3 hl)
              · rw [may_no6 h6 h7]
                exact neg h7 (now rfl)
            · rw [may_yes h1 h2 h3 h4 h5 (fun h => h6 h.1)]
              exact neg h6 (j3 hl)
          · rw [decide_eq_true (show (x.f2.length : Int) > 100 by omega), may_no5 h5]
            exact j2t
        have j1 : (numT x.f0 = true ∨ x.f1 = 0) → Ev (fun k => term_may.j1 k ((d + 1 : Nat) : Int) false x.f0 x.f1 x.f2 x.f3 (thereB x.f0) (numT x.f0) (datT x.f0) (kidT x.f0 : Int)) (mayT (d + 1) x) := by
          intro h3
          refine Ev.step (fun k => by simp only [term_may.j1]; rfl) (neg (by decide) ?_)
          by_cases h4 : datT x.f0 = true
          · exact pos h4 (j2 h3 (.inl h4))
          · refine neg h4 ?_
            by_cases h5 : x.f2.length = 0
            · exact neg (by omega) (j2 h3 (.inr h5))
            · refine pos (by omega) ?_
              rw [decide_eq_true (show (x.f2.length : Int) > 0 by omega), may_no4 h4 h5]
              exact j2t
        refine Ev.step (fun k => by simp only [term_may.j0]; rfl) (neg (by decide) ?_)
        by_cases h3 : numT x.f0 = true
        · exact pos h3 (j1 (.inl h3))
        · refine neg h3 ?_
          by_cases h4 : x.f1 = 0
          · rw [show (x.f1 != 0) = false by simp [h4]]
            exact j1 (.inr h4)
          · rw [show (x.f1 != 0) = true by simp [h4], may_no3 h3 h4]
            exact Ev.step (fun k => by simp only [term_may.j1]; rfl) (pos (show true = true from rfl) j2t)
      · rw [show ((x.f3.length : Int) != (kidT x.f0 : Int)) = true by simp; omega, may_no2 h2]
        exact j0t _ _ _ _
    · rw [may_no1 h1]
      exact neg h1 (j0t _ _ _ _)
theorem check_ev (x : ST) : Ev (fun k => term_Check.f k x.f0 x.f1 x.f2 x.f3) (if mayT 8 x = true then 0 else 1) := by
  unfold term_Check.f
  refine evBind (may_ev 8 x (by omega)) ?_
  cases mayT 8 x with
  | false => exact neg (by decide) (now rfl)
  | true => exact pos rfl (now rfl)
theorem check_c (x : ST) (A2 : Option Addr) (c2 : Nat) (A3 : Option Addr) (c3 : Nat) (w : World) (h : RowsT w x A2 c2 A3 c3) :
    Calls Try.prog 16 #[.agg #[.int .i64 x.f0, .int .u64 x.f1, .slice A2 x.f2.length c2, .slice A3 x.f3.length c3]] w fun e w' => e = .returned (.int .i64 (if mayT 8 x = true then 0 else 1)) ∧ Below w.heap.size w w' := by
  obtain ⟨k, hk⟩ := (check_ev x).rounds
  exact term_Check.calls k x.f0 x.f1 A2 c2 x.f2 A3 c3 x.f3 _ w h.1.2 h.1.1 h.2.2 h.2.1 hk
theorem kids_v (k : Int) : Ev (fun n => hanaperref05_kids.f n k) (if thereB k = true then (kidT k : Int) else -1) := by
  have ht : ∀ k : Int, thereB k = decide (1 ≤ k ∧ k ≤ 6) := fun _ => rfl
  have yes : ∀ k : Int, Ev (fun n => hanaperref05_kids.j0 n k true) 0 := fun k => Ev.step (fun k => by simp only [hanaperref05_kids.j0]; rfl) (pos (show true = true from rfl) (now rfl))
  unfold hanaperref05_kids.f
  by_cases h1 : k = 1
  · subst h1; exact pos rfl (yes 1)
  · refine neg h1 ?_
    by_cases h2 : k = 2
    · subst h2; exact pos rfl (yes 2)
    · refine neg h2 ?_
      by_cases h3 : k = 3
      · subst h3; exact yes 3
      · rw [show (k == 3) = false by simpa using h3]
        refine Ev.step (fun k => by simp only [hanaperref05_kids.j0]; rfl) (neg (by decide) ?_)
        by_cases h6 : k = 6
        · subst h6; exact pos rfl (now rfl)
        · refine neg h6 ?_
          by_cases h4 : k = 4
          · subst h4; exact pos rfl (now rfl)
          · refine neg h4 ?_
            by_cases h5 : k = 5
            · subst h5; exact pos rfl (now rfl)
            · refine neg h5 (now ?_)
              rw [ht, decide_eq_false (by omega)]
              rfl
theorem number_v (k : Int) : hanaperref05_number.f k = some (numT k) := by
  unfold hanaperref05_number.f numT
  by_cases h1 : k = 1
  · rw [if_pos h1]; simp [h1]
  · rw [if_neg h1]
    by_cases h2 : k = 2
    · rw [if_pos h2]; simp [h2]
    · rw [if_neg h2]
      congr 1
      by_cases h5 : k = 5
      · simp [h5]
      · simp [h1, h2, h5]
/-- The document's answer. -/
theorem rmay_ev : ∀ (d : Nat) (x : ST), d ≤ 8 → Ev (fun k => hanaperref05_may.f k x.f0 x.f1 x.f2 x.f3 (d : Int)) (mayT d x) := by
  intro d
  induction d with
  | zero =>
    intro x _
    rw [mayT]
    refine Ev.step (fun k => by simp only [hanaperref05_may.f]; rfl) (pos (by omega) ?_)
    exact Ev.step (fun k => by simp only [hanaperref05_may.j0]; rfl) (pos (show true = true from rfl) (now rfl))
  | succ d ih =>
    intro x hd
    have j0t : Ev (fun k => hanaperref05_may.j0 k ((d + 1 : Nat) : Int) true x.f0 x.f1 x.f2 x.f3) false := Ev.step (fun k => by simp only [hanaperref05_may.j0]; rfl) (pos (show true = true from rfl) (now rfl))
    have j1t : Ev (fun k => hanaperref05_may.j1 k ((d + 1 : Nat) : Int) true x.f0 x.f1 x.f2 x.f3) false := Ev.step (fun k => by simp only [hanaperref05_may.j1]; rfl) (pos (show true = true from rfl) (now rfl))
    have loop : ∀ (m i : Nat), i + m = x.f3.length → x.f3.length = kidT x.f0 → Ev (fun k => hanaperref05_may.l0 k ((d + 1 : Nat) : Int) (i : Int) x.f0 x.f1 x.f2 x.f3) ((x.f3.drop i).all (mayT d) && !(decide (x.f0 = 5) && !decide (kid1 x = 2))) := by
      intro m
      induction m with
      | zero =>
        intro i hi hl
        rw [List.drop_of_length_le (by omega)]
        refine Ev.step (fun k => by simp only [hanaperref05_may.l0]; rfl) (neg (by omega) ?_)
        by_cases h5 : x.f0 = 5
        · have hk : x.f3.length = 2 := by rw [hl]; unfold kidT; rw [if_pos (by omega)]
          refine pos h5 (pos (by omega) (now ?_))
          have e1 : rd_T26 x.f3 1 = x.f3.getD 1 z26 := rfl
          rw [e1]
          show ((kid1 x) == 2) = _
          by_cases h7 : kid1 x = 2
          · simp [h7]
          · simp [h7, h5]
        · exact neg h5 (now (by simp [h5]))
      | succ m ihm =>
        intro i hi hl
        have hlt : i < x.f3.length := by omega
        have hk2 := kid_len x.f0
        refine Ev.step (fun k => by simp only [hanaperref05_may.l0]; rfl) (pos (by omega) (pos (by omega) ?_))
        rw [rd_at x.f3 i hlt, dec_i (by omega), all_drop _ _ i hlt]
        refine evBind (ih x.f3[i] (by omega)) ?_
        cases mayT d x.f3[i] with
        | false => exact neg (by decide) (now (by simp))
        | true =>
          rw [Bool.true_and, inc hlt (by omega)]
          exact pos rfl (ihm (i + 1) (by omega) hl)
    have full : thereB x.f0 = true → x.f3.length = kidT x.f0 → (numT x.f0 = true ∨ x.f1 = 0) → (datT x.f0 = true ∨ x.f2.length = 0) → x.f2.length ≤ 100 → Ev (fun k => hanaperref05_may.j1 k ((d + 1 : Nat) : Int) false x.f0 x.f1 x.f2 x.f3) (mayT (d + 1) x) := by
      intro h1 h2 h3 h4 h5
      refine Ev.step (fun k => by simp only [hanaperref05_may.j1]; rfl) (neg (by decide) ?_)
      have h := loop x.f3.length 0 (by omega) h2
      by_cases h6 : x.f0 = 5 ∧ ¬ kid1 x = 2
      · rw [may_no6 h6.1 h6.2]
        rw [show ((x.f3.drop 0).all (mayT d) && !(decide (x.f0 = 5) && !decide (kid1 x = 2))) = false by simp [h6.1, h6.2]] at h
        exact h
      · rw [may_yes h1 h2 h3 h4 h5 h6]
        have e : (!(decide (x.f0 = 5) && !decide (kid1 x = 2))) = true := by
          by_cases a : x.f0 = 5
          · by_cases b : kid1 x = 2
            · simp [b]
            · exact absurd ⟨a, b⟩ h6
          · simp [a]
        rw [e, Bool.and_true] at h
        exact h
    have j0 : thereB x.f0 = true → x.f3.length = kidT x.f0 → (numT x.f0 = true ∨ x.f1 = 0) → Ev (fun k => hanaperref05_may.j0 k ((d + 1 : Nat) : Int) false x.f0 x.f1 x.f2 x.f3) (mayT (d + 1) x) := by
      intro h1 h2 h3
      refine Ev.step (fun k => by simp only [hanaperref05_may.j0]; rfl) (neg (by decide) ?_)
      have lng : (datT x.f0 = true ∨ x.f2.length = 0) → Ev (fun k => hanaperref05_may.j1 k ((d + 1 : Nat) : Int) (decide ((x.f2.length : Int) > 100)) x.f0 x.f1 x.f2 x.f3) (mayT (d + 1) x) := by
        intro h4
        by_cases h5 : x.f2.length ≤ 100
        · rw [decide_eq_false (show ¬ (x.f2.length : Int) > 100 by omega)]
          exact full h1 h2 h3 h4 h5
        · rw [decide_eq_true (show (x.f2.length : Int) > 100 by omega), may_no5 h5]
          exact j1t
      by_cases h4 : x.f0 = 3
      · exact pos h4 (lng (.inl (decide_eq_true h4)))
      · refine neg h4 ?_
        by_cases h5 : x.f2.length = 0
        · exact neg (by omega) (lng (.inr h5))
        · refine pos (by omega) ?_
          rw [may_no4 (fun h => h4 (of_decide_eq_true h)) h5]
          exact j1t
    refine Ev.step (fun k => by simp only [hanaperref05_may.f]; rfl) (neg (by omega) (evBind (kids_v x.f0) ?_))
    by_cases h1 : thereB x.f0 = true
    · rw [if_pos h1]
      have hk := kids_v x.f0
      rw [if_pos h1] at hk
      refine neg (by omega) (evBind hk ?_)
      by_cases h2 : x.f3.length = kidT x.f0
      · refine pos (by omega) (bindSome (number_v x.f0) ?_)
        by_cases h3 : numT x.f0 = true
        · exact pos h3 (j0 h1 h2 (.inl h3))
        · refine neg h3 ?_
          by_cases h4 : x.f1 = 0
          · rw [show (x.f1 != 0) = false by simp [h4]]
            exact j0 h1 h2 (.inr h4)
          · rw [show (x.f1 != 0) = true by simp [h4], may_no3 h3 h4]
            exact j0t
      · rw [may_no2 h2]
        exact neg (by omega) j0t
    · rw [if_neg h1, may_no1 h1]
      exact pos (by decide) j0t
theorem rMay_ev (x : ST) : Ev (fun k => hanaperref05_May.f k x.f0 x.f1 x.f2 x.f3) (mayT 8 x) := by
  unfold hanaperref05_May.f
  have h := rmay_ev 8 x (by omega)
  first | exact h | exact evBind h (now rfl)
end Go.Proofs.Ytgohmganimamcaa.Term
/- term.Put walked. -/
namespace Go.Proofs.Ytgohmganimamcaa.Term
set_option linter.unusedVariables false
set_option linter.unusedSimpArgs false
open Go.RowKit Go.Proofs.Ytgohmganimamcaa.Base Go.Proofs.Ytgohmganimamcaa.TlvPlain Go.Proofs.Ytgohmganimamcaa.Lo Go.Proofs.Ytgohmganimamcaa.RdPlain Go.Proofs.Ytgohmganimamcaa.Aid Go.Proofs.Ytgohmganimamcaa.PZ Go.Proofs.YtgohmganimamcaaW.PrintWords Go.Proofs.YtgohmganimamcaaW.PrintLast Go.Proofs.YtgohmganimamcaaW.PrintMore
theorem head_len (x : ST) (hn : x.f1 ≤ 18446744073709551615) (hd : x.f2.length ≤ 100) : (headT x).length ≤ 118 := by
  unfold headT
  have h1 : (if numT x.f0 = true then numB x.f1 else []).length ≤ 9 := by
    split
    · exact numB_len hn
    · simp
  have h2 : (if datT x.f0 = true then textB x.f2 else []).length ≤ 109 := by
    split
    · unfold textB
      have := numB_len (n := (x.f2.length : Int)) (by omega)
      rw [List.length_append]; omega
    · simp
  rw [List.length_append]; omega
theorem two_len (f : ST → List Int) (b : Nat) : ∀ (l : List ST), l.length ≤ 2 → (∀ k ∈ l, (f k).length ≤ b) → ((l.map f).flatten).length ≤ 2 * b
  | [], _, _ => by simp
  | [a], _, h => by have := h a (by simp); simp; omega
  | [a, c], _, h => by have h1 := h a (by simp); have h2 := h c (by simp); simp; omega
  | _ :: _ :: _ :: _, hl, _ => by simp at hl
theorem put_len : ∀ (d : Nat) (x : ST), mayT d x = true → wfT x → (putT x).length ≤ 119 * (2 ^ d - 1) := by
  intro d
  induction d with
  | zero => intro x h; rw [mayT] at h; cases h
  | succ d ih =>
    intro x h hw
    obtain ⟨_, h2, _, _, h5, _, h7⟩ := may_parts h
    obtain ⟨w1, _, w3⟩ := (wfT_eq x).1 hw
    have hk := two_len putT (119 * (2 ^ d - 1)) x.f3 (by have := kid_len x.f0; omega) (fun k hk => ih k (h7 k hk) (w3 k hk))
    have hh := head_len x w1.2 h5
    rw [putT_eq, List.length_cons, List.length_append]
    have e : 2 ^ (d + 1) = 2 * 2 ^ d := by rw [Nat.pow_succ]; omega
    have : 0 < 2 ^ d := Nat.two_pow_pos d
    rw [e]
    omega
set_option maxHeartbeats 4000000 in
set_option maxRecDepth 100000 in
theorem put_c (x : ST) (hw : wfT x) (A2 : Option Addr) (c2 : Nat) (A3 : Option Addr) (c3 : Nat) (w : World) (hx : RowsT w x A2 c2 A3 c3) :
    Calls Try.prog 12 #[.agg #[.int .i64 x.f0, .int .u64 x.f1, .slice A2 x.f2.length c2, .slice A3 x.f3.length c3]] w fun e w' => ∃ v, e = .returned (.tuple #[v, .int .i64 (putV x).2]) ∧ Ob w' w.heap.size v (putV x).1 ∧ Below w.heap.size w w' := by
  have hb0 := below_alloc (Below.refl w.heap.size w) (.cells #[.int .i64 x.f0, .int .u64 x.f1, .slice A2 x.f2.length c2, .slice A3 x.f3.length c3] 26)
  have H0 := Aside0.mk (show Blk (w.alloc (.cells #[.int .i64 x.f0, .int .u64 x.f1, .slice A2 x.f2.length c2, .slice A3 x.f3.length c3] 26)) w.heap.size 26 #[.int .i64 x.f0, .int .u64 x.f1, .slice A2 x.f2.length c2, .slice A3 x.f3.length c3] from blk_new _ _)
  have HB := Aside0.mk hb0
  have HX := Aside0.mk hx
  have HC := Aside0.mk (check_c x A2 c2 A3 c3 _ (hx.below hb0))
  have hu26 := Try.underlying26
  have hu23 := Try.underlying23
  unfold putV
  cases hm : mayT 8 x with
  | false =>
    rw [hm, if_neg (by decide)] at HC
    rw [if_neg (by decide)]
    clear hm hx hb0 hw
    go_enter Try.func12, Try.ntmps12
    go_wp2_with (go_at_call 16; refine HC.out.mono ?_; rintro e w1 ⟨rfl, hb⟩; have HB1 := Aside0.mk (below_step HB.out hb); clear hb)
    go_ret2
    exact ⟨_, rfl, Kd.R_nil _ _ _ _ _, HB1.out⟩
  | true =>
    rw [hm, if_pos rfl] at HC
    rw [if_pos rfl]
    have hpl := put_len 8 x hm hw
    have HW := Aside0.mk (walk_put 8 x hm hw)
    obtain ⟨L, hL⟩ : ∃ L, putT x = L := ⟨_, rfl⟩
    have HW2 := Aside0.mk (fun (g5 : Nat) (W : World) (h : InvP w g5 W []) => HW.out w g5 A2 c2 A3 c3 W [] h HX.out (by simp; omega))
    simp only [List.nil_append] at HW2
    rw [hL] at HW2 ⊢
    have HLL := Aside0.mk (show L.length ≤ 1000000 by rw [← hL]; omega)
    clear hm hx hb0 hw hpl hL HW
    by_cases c : (L.length : Int) > 400
    · have z1 : decide (400 < (L.length : Int)) = true := decide_eq_true c
      have z2 : decide (400 < L.length) = true := decide_eq_true (by omega)
      rw [if_pos c]
      clear c
      go_enter Try.func12, Try.ntmps12
      go_wp2_with (first
        | (go_at_call 16; refine HC.out.mono ?_; rintro e w1 ⟨rfl, hb⟩; have HB1 := Aside0.mk (below_step HB.out hb); have h0 := fun o => ((H0.out.below hb).alloc o).cell 0; have h1 := fun o => ((H0.out.below hb).alloc o).cell 1; have h2 := fun o => ((H0.out.below hb).alloc o).cell 2; have h3 := fun o => ((H0.out.below hb).alloc o).cell 3; simp only [List.getElem?_toArray, List.getElem?_cons_zero, List.getElem?_cons_succ] at h0 h1 h2 h3; clear hb)
        | (go_at_call 41; refine (HW2.out w1.heap.size _ ⟨HB1.out.size, below_alloc HB1.out _, .slice none 0 0, blk_new _ _, Kd.R_nil _ _ _ _ _⟩).mono ?_; rintro e w2 ⟨rfl, hi⟩; obtain ⟨_, hB, v, h5, hO⟩ := hi; obtain ⟨A9, c9, rfl⟩ := Kd.R_slice hO; have HB2 := Aside0.mk hB; have HO2 := Aside0.mk hO; have p5 := h5.cell 0; simp only [List.getElem?_toArray, List.getElem?_cons_zero, List.getElem?_cons_succ] at p5; clear hB h5 hO h0 h1 h2 h3))
      go_ret2
      exact ⟨_, rfl, Kd.R_nil _ _ _ _ _, HB2.out⟩
    · have z1 : decide (400 < (L.length : Int)) = false := decide_eq_false c
      have z2 : decide (400 < L.length) = false := decide_eq_false (by omega)
      rw [if_neg c]
      clear c
      go_enter Try.func12, Try.ntmps12
      go_wp2_with (first
        | (go_at_call 16; refine HC.out.mono ?_; rintro e w1 ⟨rfl, hb⟩; have HB1 := Aside0.mk (below_step HB.out hb); have h0 := fun o => ((H0.out.below hb).alloc o).cell 0; have h1 := fun o => ((H0.out.below hb).alloc o).cell 1; have h2 := fun o => ((H0.out.below hb).alloc o).cell 2; have h3 := fun o => ((H0.out.below hb).alloc o).cell 3; simp only [List.getElem?_toArray, List.getElem?_cons_zero, List.getElem?_cons_succ] at h0 h1 h2 h3; clear hb)
        | (go_at_call 41; refine (HW2.out w1.heap.size _ ⟨HB1.out.size, below_alloc HB1.out _, .slice none 0 0, blk_new _ _, Kd.R_nil _ _ _ _ _⟩).mono ?_; rintro e w2 ⟨rfl, hi⟩; obtain ⟨_, hB, v, h5, hO⟩ := hi; obtain ⟨A9, c9, rfl⟩ := Kd.R_slice hO; have HB2 := Aside0.mk hB; have HO2 := Aside0.mk hO; have p5 := h5.cell 0; simp only [List.getElem?_toArray, List.getElem?_cons_zero, List.getElem?_cons_succ] at p5; clear hB h5 hO h0 h1 h2 h3))
      go_ret2
      exact ⟨_, rfl, HO2.out, HB2.out⟩
end Go.Proofs.Ytgohmganimamcaa.Term
