/- Own and printed texts, laid together. -/
import Derived.Test.YtobljmgoengofaaPlNE
import Derived.Test.YtobljmgoengofaaPlNK
import Derived.Test.YtobljmgoengofaaPlNF
import Derived.Test.YtobljmgoengofaaPlNI
import Derived.Test.YtobljmgoengofaaPlNJ
import Derived.Test.YtobljmgoengofaaPlNB
import Derived.ProofKit
import Derived.Deep.Slices
-- printed for this claim by a program (pall.sh)
-- mended by fixpz.py
namespace Go.Proofs.Ytobljmgoengofaa.PZ
open Go.RowKit Go.Proofs.YtobljmgoengofaaW.PrintWords Go.Proofs.YtobljmgoengofaaW.PrintLast Go.Proofs.YtobljmgoengofaaW.PrintMore
attribute [local go_sem] max2_int min2_int max_two min_two max_three min_three max_four min_four   -- for this text's walks alone
set_option linter.unusedVariables false
set_option linter.unusedSimpArgs false

/-! ### hanaperref34_Fits: function 61 -/
def hanaperref34_Fits.f (k : Nat) (a0_0 : Int) (a0_1 : Int) (a0_2 : Int) (a0_3 : Int) (l1 : List (S77)) : Option (Bool) := (hanaperref34_Need.f k l1).bind fun bt102 => ((hanaperref13_May.f a0_0 a0_1 a0_2 a0_3).bind fun t107 => (if t107 = true then (if a0_1 ≥ bt102.2.1 then (if a0_2 ≥ bt102.2.2.1 then (if a0_3 ≥ bt102.2.2.2 then (some (decide (a0_0 ≥ bt102.1))) else (some false)) else (some false)) else (some false)) else (some false)))
theorem hanaperref34_Fits.mono : ∀ a0 a1 a2 a3 a4 k, LeO (hanaperref34_Fits.f k a0 a1 a2 a3 a4) (hanaperref34_Fits.f (k + 1) a0 a1 a2 a3 a4) := by
 intro a0 a1 a2 a3 a4 k
 unfold hanaperref34_Fits.f
 repeat' first
   | (with_reducible exact hanaperref34_Need.mono _ _)
   | (with_reducible exact LeO.refl _)
   | (with_reducible exact LeO.none _)
   | (with_reducible refine LeO.ite ?_ ?_)
   | (with_reducible refine LeO.bind ?_ (fun _ => ?_))
   | exact hanaperref34_Need.mono _ _
   | exact LeO.none _
   | refine LeO.ite ?_ ?_
   | refine LeO.bind ?_ (fun _ => ?_)
set_option maxHeartbeats 8000000 in
set_option maxRecDepth 100000 in
theorem hanaperref34_Fits.calls (k : Nat) (a0_0 : Int) (a0_1 : Int) (a0_2 : Int) (a0_3 : Int) (A1 : Option Addr) (c1 : Nat) (l1 : List (S77)) (r : Bool) (w : World) (hr1 : Kd.C k77 w A1 l1.length l1) (hc1 : l1.length ≤ c1) (h : hanaperref34_Fits.f k a0_0 a0_1 a0_2 a0_3 l1 = some r) :
  Calls Try.prog 61 #[.agg #[.int .i64 a0_0, .int .i64 a0_1, .int .i64 a0_2, .int .i64 a0_3], .slice A1 l1.length c1] w fun e w' => e = .returned (.bool r) ∧ Below w.heap.size w w' := by
 have hu68 := Try.underlying68
 have HR1 := Aside0.mk hr1
 have HC1 := Aside0.mk hc1
 clear hr1 hc1
 have HB := Aside0.mk (Below.refl w.heap.size w)
 have H : ((hanaperref34_Need.f k l1).bind fun bt102 => ((hanaperref13_May.f a0_0 a0_1 a0_2 a0_3).bind fun t107 => (if t107 = true then (if a0_1 ≥ bt102.2.1 then (if a0_2 ≥ bt102.2.2.1 then (if a0_3 ≥ bt102.2.2.2 then (some (decide (a0_0 ≥ bt102.1))) else (some false)) else (some false)) else (some false)) else (some false)))) = some r := h
 clear h
 replace H := Option.bind_eq_some_iff.mp H
 obtain ⟨⟨t102, t103, t104, t105⟩, A30, H⟩ := H
 replace H : ((hanaperref13_May.f a0_0 a0_1 a0_2 a0_3).bind fun t107 => (if t107 = true then (if a0_1 ≥ t103 then (if a0_2 ≥ t104 then (if a0_3 ≥ t105 then (some (decide (a0_0 ≥ t102))) else (some false)) else (some false)) else (some false)) else (some false))) = some r := H
 have A3 := Aside0.mk A30
 clear A30
 replace H := Option.bind_eq_some_iff.mp H
 obtain ⟨t107, A40, H⟩ := H
 replace H : (if t107 = true then (if a0_1 ≥ t103 then (if a0_2 ≥ t104 then (if a0_3 ≥ t105 then (some (decide (a0_0 ≥ t102))) else (some false)) else (some false)) else (some false)) else (some false)) = some r := H
 have A4 := Aside0.mk A40
 clear A40
 by_cases c5 : t107 = true
 ·subst c5
  have H1 : (if a0_1 ≥ t103 then (if a0_2 ≥ t104 then (if a0_3 ≥ t105 then (some (decide (a0_0 ≥ t102))) else (some false)) else (some false)) else (some false)) = some r := by rw [if_pos rfl] at H; exact H
  clear H
  have H := H1
  clear H1
  by_cases c6 : a0_1 ≥ t103
  ·rw [if_pos c6] at H
   have c6b0 : decide (t103 ≤ a0_1) = true := decide_eq_true c6
   clear c6
   by_cases c7 : a0_2 ≥ t104
   ·rw [if_pos c7] at H
    have c7b0 : decide (t104 ≤ a0_2) = true := decide_eq_true c7
    clear c7
    by_cases c8 : a0_3 ≥ t105
    ·rw [if_pos c8] at H
     have c8b0 : decide (t105 ≤ a0_3) = true := decide_eq_true c8
     clear c8
     obtain rfl := Option.some.inj H
     go_enter Try.func61, Try.ntmps61
     go_wp2_with (first | ((with_reducible refine gate_dst (N := 2) rfl ?_); refine box_event ?hg (N := 2) ?hd (cs := #[.int .i64 a0_0, .int .i64 a0_1, .int .i64 a0_2, .int .i64 a0_3]) (t := 68) ?hr ?_; (case hd => rfl); (case hg => rfl); (case hr => first | (go_simp; done) | (go_simp; rfl)); intro gb101 hg w9 hbox hb; have n0_ := Aside0.mk (below_step (by repeat (first | (with_reducible first | exact HB.out | apply below_alloc | apply pw_below_drewN | apply below_drew1) | exact HB.out)) hb); have n1_ := Aside0.mk (hbox); have n2_ := Aside0.mk ((by rw [hg]; exact (below_size (by repeat (first | (with_reducible first | exact HB.out | apply below_alloc | apply pw_below_drewN | apply below_drew1) | exact HB.out))) : w.heap.size ≤ gb101)); have n3_ := Aside0.mk ((by rw [hg]; exact (below_size (by repeat (first | (with_reducible first | exact HB.out | apply below_alloc | apply pw_below_drewN | apply below_drew1) | exact HB.out))) : w.heap.size ≤ gb101)); clear HB; have HB := n0_; have BK101 := n1_; have GW101 := n2_; have GE101 := n3_; clear n0_ n1_ n2_ n3_; clear hb hbox hg) | ((with_reducible refine gate_callee (f := 59) rfl ?_); refine goesL_ (some 7) rfl rfl Try.func59 (by kernel_rfl) rfl #[.slice A1 l1.length c1] rfl (by (try simp only [List.map_toArray, List.map_cons, List.map_nil]); first | done | rfl | (simp only [List.length_drop, List.length_take]; rfl)) ?_; (with_reducible refine (hanaperref34_Need.calls k _ _ l1 t102 t103 t104 t105 _ ?side1 ?side2 A3.out).mono ?_); (case side1 => repeat (first | exact (Kd.C_below HR1.out HB.out) | (with_reducible refine Kd.C_alloc ?_ _) | (with_reducible refine Kd.C_drewN ?_ _) | (with_reducible refine Kd.C_drew ?_))); (case side2 => exact HC1.out); rintro e w10 ⟨rfl, hb⟩; refine ⟨_, rfl, ?_⟩; have n0_ := Aside0.mk (blk_below (g := gb101) (o := .cells #[.int .i64 a0_0, .int .i64 a0_1, .int .i64 a0_2, .int .i64 a0_3] 68 (0, 0)) (by (with_reducible repeat (first | refine blk_drewN ?_ _ | refine blk_drew ?_ | refine blk_alloc ?_ _)); exact BK101.out) hb); have n1_ := Aside0.mk (below_step (by repeat (first | (with_reducible first | exact HB.out | apply below_alloc | apply pw_below_drewN | apply below_drew1 | refine below_set ?_ GE101.out) | exact HB.out)) hb); clear BK101; clear HB; have BK101 := n0_; have HB := n1_; clear n0_ n1_; (try clear hb); (try clear hb2); (try clear hk); (try clear hi)) | ((with_reducible refine gate_dst (N := 5) rfl ?_); refine box_event ?hg (N := 5) ?hd (cs := #[.int .i64 0, .int .i64 0, .int .i64 0, .int .i64 0]) (t := 68) ?hr ?_; (case hd => rfl); (case hg => rfl); (case hr => first | (go_simp; done) | (go_simp; rfl)); intro gb106 hg w11 hbox hb; have n0_ := Aside0.mk (blk_below (g := gb101) (o := .cells #[.int .i64 a0_0, .int .i64 a0_1, .int .i64 a0_2, .int .i64 a0_3] 68 (0, 0)) (by (with_reducible repeat (first | refine blk_drewN ?_ _ | refine blk_drew ?_ | refine blk_alloc ?_ _)); exact BK101.out) hb); have n1_ := Aside0.mk (below_step (by repeat (first | (with_reducible first | exact HB.out | apply below_alloc | apply pw_below_drewN | apply below_drew1 | refine below_set ?_ GE101.out) | exact HB.out)) hb); have n2_ := Aside0.mk (hbox); have n3_ := Aside0.mk ((by rw [hg]; exact (below_size (by repeat (first | (with_reducible first | exact HB.out | apply below_alloc | apply pw_below_drewN | apply below_drew1 | refine below_set ?_ GE101.out) | exact HB.out))) : w.heap.size ≤ gb106)); have n4_ := Aside0.mk ((by rw [hg]; exact (below_size (by repeat (first | (with_reducible first | exact HB.out | apply below_alloc | apply pw_below_drewN | apply below_drew1 | refine below_set ?_ GE101.out) | exact HB.out))) : w.heap.size ≤ gb106)); have n5_ := Aside0.mk ((by rw [hg]; exact Nat.ne_of_lt (blk_lt (g := gb101) (o := .cells #[.int .i64 a0_0, .int .i64 a0_1, .int .i64 a0_2, .int .i64 a0_3] 68 (0, 0)) (by (with_reducible repeat (first | refine blk_drewN ?_ _ | refine blk_drew ?_ | refine blk_alloc ?_ _)); exact BK101.out)) : gb101 ≠ gb106)); have n6_ := Aside0.mk ((by rw [hg]; exact Nat.ne_of_gt (blk_lt (g := gb101) (o := .cells #[.int .i64 a0_0, .int .i64 a0_1, .int .i64 a0_2, .int .i64 a0_3] 68 (0, 0)) (by (with_reducible repeat (first | refine blk_drewN ?_ _ | refine blk_drew ?_ | refine blk_alloc ?_ _)); exact BK101.out)) : gb106 ≠ gb101)); clear BK101; clear HB; have BK101 := n0_; have HB := n1_; have BK106 := n2_; have GW106 := n3_; have GE106 := n4_; have NB101_106 := n5_; have NB106_101 := n6_; clear n0_ n1_ n2_ n3_ n4_ n5_ n6_; clear hb hbox hg; have hnb12 := NB106_101.out; have hnc12 := NB101_106.out; have hcz13_0 : w11.cell? ⟨gb106, 0, none⟩ = some (.int .i64 0) := (blk_cell BK106.out 0).trans rfl; have hcz13_1 : w11.cell? ⟨gb106, 1, none⟩ = some (.int .i64 0) := (blk_cell BK106.out 1).trans rfl; have hcz13_2 : w11.cell? ⟨gb106, 2, none⟩ = some (.int .i64 0) := (blk_cell BK106.out 2).trans rfl; have hcz13_3 : w11.cell? ⟨gb106, 3, none⟩ = some (.int .i64 0) := (blk_cell BK106.out 3).trans rfl; have hfz13_0 := blk_frozen BK106.out 0; have hfz13_1 := blk_frozen BK106.out 1; have hfz13_2 := blk_frozen BK106.out 2; have hfz13_3 := blk_frozen BK106.out 3; have hcz14_0 : w11.cell? ⟨gb101, 0, none⟩ = some (.int .i64 a0_0) := (blk_cell BK101.out 0).trans rfl; have hcz14_1 : w11.cell? ⟨gb101, 1, none⟩ = some (.int .i64 a0_1) := (blk_cell BK101.out 1).trans rfl; have hcz14_2 : w11.cell? ⟨gb101, 2, none⟩ = some (.int .i64 a0_2) := (blk_cell BK101.out 2).trans rfl; have hcz14_3 : w11.cell? ⟨gb101, 3, none⟩ = some (.int .i64 a0_3) := (blk_cell BK101.out 3).trans rfl; have hfz14_0 := blk_frozen BK101.out 0; have hfz14_1 := blk_frozen BK101.out 1; have hfz14_2 := blk_frozen BK101.out 2; have hfz14_3 := blk_frozen BK101.out 3) | ((with_reducible refine gate_callee (f := 76) rfl ?_); refine goesL_ (some 9) rfl rfl Try.func76 (by kernel_rfl) rfl #[.agg #[.int .i64 a0_0, .int .i64 a0_1, .int .i64 a0_2, .int .i64 a0_3]] rfl (by (try simp only [List.map_toArray, List.map_cons, List.map_nil]); first | done | rfl | (simp only [List.length_drop, List.length_take]; rfl)) ?_; (with_reducible refine (hanaperref13_May.calls a0_0 a0_1 a0_2 a0_3 true _ A4.out).mono ?_); rintro e w15 ⟨rfl, hb⟩; refine ⟨_, rfl, ?_⟩; have n0_ := Aside0.mk (blk_below (g := gb101) (o := .cells #[.int .i64 a0_0, .int .i64 a0_1, .int .i64 a0_2, .int .i64 a0_3] 68 (0, 0)) (by (with_reducible repeat (first | refine blk_drewN ?_ _ | refine blk_drew ?_ | refine blk_alloc ?_ _)); refine blk_far ?_ NB101_106.out _; (with_reducible repeat (first | refine blk_drewN ?_ _ | refine blk_drew ?_ | refine blk_alloc ?_ _)); refine blk_far ?_ NB101_106.out _; (with_reducible repeat (first | refine blk_drewN ?_ _ | refine blk_drew ?_ | refine blk_alloc ?_ _)); refine blk_far ?_ NB101_106.out _; (with_reducible repeat (first | refine blk_drewN ?_ _ | refine blk_drew ?_ | refine blk_alloc ?_ _)); refine blk_far ?_ NB101_106.out _; (with_reducible repeat (first | refine blk_drewN ?_ _ | refine blk_drew ?_ | refine blk_alloc ?_ _)); exact BK101.out) hb); have n1_ := Aside0.mk (blk_below (g := gb106) (o := .cells #[.int .i64 t102, .int .i64 t103, .int .i64 t104, .int .i64 t105] 68 (0, 0)) (by (with_reducible repeat (first | refine blk_drewN ?_ _ | refine blk_drew ?_ | refine blk_alloc ?_ _)); refine blk_put (cs := #[.int .i64 t102, .int .i64 t103, .int .i64 t104, .int .i64 0]) ?_ 3 _ rfl; (with_reducible repeat (first | refine blk_drewN ?_ _ | refine blk_drew ?_ | refine blk_alloc ?_ _)); refine blk_put (cs := #[.int .i64 t102, .int .i64 t103, .int .i64 0, .int .i64 0]) ?_ 2 _ rfl; (with_reducible repeat (first | refine blk_drewN ?_ _ | refine blk_drew ?_ | refine blk_alloc ?_ _)); refine blk_put (cs := #[.int .i64 t102, .int .i64 0, .int .i64 0, .int .i64 0]) ?_ 1 _ rfl; (with_reducible repeat (first | refine blk_drewN ?_ _ | refine blk_drew ?_ | refine blk_alloc ?_ _)); refine blk_put (cs := #[.int .i64 0, .int .i64 0, .int .i64 0, .int .i64 0]) ?_ 0 _ rfl; (with_reducible repeat (first | refine blk_drewN ?_ _ | refine blk_drew ?_ | refine blk_alloc ?_ _)); exact BK106.out) hb); have n2_ := Aside0.mk (below_step (by repeat (first | (with_reducible first | exact HB.out | apply below_alloc | apply pw_below_drewN | apply below_drew1 | refine below_set ?_ GE101.out | refine below_set ?_ GE106.out) | exact HB.out)) hb); clear BK101; clear BK106; clear HB; have BK101 := n0_; have BK106 := n1_; have HB := n2_; clear n0_ n1_ n2_; (try clear hb); (try clear hb2); (try clear hk); (try clear hi); have hcz16_0 : w15.cell? ⟨gb101, 0, none⟩ = some (.int .i64 a0_0) := (blk_cell BK101.out 0).trans rfl; have hcz16_1 : w15.cell? ⟨gb101, 1, none⟩ = some (.int .i64 a0_1) := (blk_cell BK101.out 1).trans rfl; have hcz16_2 : w15.cell? ⟨gb101, 2, none⟩ = some (.int .i64 a0_2) := (blk_cell BK101.out 2).trans rfl; have hcz16_3 : w15.cell? ⟨gb101, 3, none⟩ = some (.int .i64 a0_3) := (blk_cell BK101.out 3).trans rfl; have hfz16_0 := blk_frozen BK101.out 0; have hfz16_1 := blk_frozen BK101.out 1; have hfz16_2 := blk_frozen BK101.out 2; have hfz16_3 := blk_frozen BK101.out 3; have hcz17_0 : w15.cell? ⟨gb106, 0, none⟩ = some (.int .i64 t102) := (blk_cell BK106.out 0).trans rfl; have hcz17_1 : w15.cell? ⟨gb106, 1, none⟩ = some (.int .i64 t103) := (blk_cell BK106.out 1).trans rfl; have hcz17_2 : w15.cell? ⟨gb106, 2, none⟩ = some (.int .i64 t104) := (blk_cell BK106.out 2).trans rfl; have hcz17_3 : w15.cell? ⟨gb106, 3, none⟩ = some (.int .i64 t105) := (blk_cell BK106.out 3).trans rfl; have hfz17_0 := blk_frozen BK106.out 0; have hfz17_1 := blk_frozen BK106.out 1; have hfz17_2 := blk_frozen BK106.out 2; have hfz17_3 := blk_frozen BK106.out 3))
     go_ret
     exact ⟨by first | rfl | (simp [errW_none, errW_some] <;> rfl) | (simp [*, errW_none, errW_some] <;> rfl), by repeat (first | (with_reducible first | exact HB.out | apply below_alloc | apply pw_below_drewN | apply below_drew1 | refine below_set ?_ GE101.out | refine below_set ?_ GE106.out) | exact HB.out)⟩
    ·rw [if_neg c8] at H
     have c8b0 : decide (t105 ≤ a0_3) = false := decide_eq_false c8
     clear c8
     obtain rfl := Option.some.inj H
     go_enter Try.func61, Try.ntmps61
     go_wp2_with (first | ((with_reducible refine gate_dst (N := 2) rfl ?_); refine box_event ?hg (N := 2) ?hd (cs := #[.int .i64 a0_0, .int .i64 a0_1, .int .i64 a0_2, .int .i64 a0_3]) (t := 68) ?hr ?_; (case hd => rfl); (case hg => rfl); (case hr => first | (go_simp; done) | (go_simp; rfl)); intro gb101 hg w18 hbox hb; have n0_ := Aside0.mk (below_step (by repeat (first | (with_reducible first | exact HB.out | apply below_alloc | apply pw_below_drewN | apply below_drew1) | exact HB.out)) hb); have n1_ := Aside0.mk (hbox); have n2_ := Aside0.mk ((by rw [hg]; exact (below_size (by repeat (first | (with_reducible first | exact HB.out | apply below_alloc | apply pw_below_drewN | apply below_drew1) | exact HB.out))) : w.heap.size ≤ gb101)); have n3_ := Aside0.mk ((by rw [hg]; exact (below_size (by repeat (first | (with_reducible first | exact HB.out | apply below_alloc | apply pw_below_drewN | apply below_drew1) | exact HB.out))) : w.heap.size ≤ gb101)); clear HB; have HB := n0_; have BK101 := n1_; have GW101 := n2_; have GE101 := n3_; clear n0_ n1_ n2_ n3_; clear hb hbox hg) | ((with_reducible refine gate_callee (f := 59) rfl ?_); refine goesL_ (some 7) rfl rfl Try.func59 (by kernel_rfl) rfl #[.slice A1 l1.length c1] rfl (by (try simp only [List.map_toArray, List.map_cons, List.map_nil]); first | done | rfl | (simp only [List.length_drop, List.length_take]; rfl)) ?_; (with_reducible refine (hanaperref34_Need.calls k _ _ l1 t102 t103 t104 t105 _ ?side1 ?side2 A3.out).mono ?_); (case side1 => repeat (first | exact (Kd.C_below HR1.out HB.out) | (with_reducible refine Kd.C_alloc ?_ _) | (with_reducible refine Kd.C_drewN ?_ _) | (with_reducible refine Kd.C_drew ?_))); (case side2 => exact HC1.out); rintro e w19 ⟨rfl, hb⟩; refine ⟨_, rfl, ?_⟩; have n0_ := Aside0.mk (blk_below (g := gb101) (o := .cells #[.int .i64 a0_0, .int .i64 a0_1, .int .i64 a0_2, .int .i64 a0_3] 68 (0, 0)) (by (with_reducible repeat (first | refine blk_drewN ?_ _ | refine blk_drew ?_ | refine blk_alloc ?_ _)); exact BK101.out) hb); have n1_ := Aside0.mk (below_step (by repeat (first | (with_reducible first | exact HB.out | apply below_alloc | apply pw_below_drewN | apply below_drew1 | refine below_set ?_ GE101.out) | exact HB.out)) hb); clear BK101; clear HB; have BK101 := n0_; have HB := n1_; clear n0_ n1_; (try clear hb); (try clear hb2); (try clear hk); (try clear hi)) | ((with_reducible refine gate_dst (N := 5) rfl ?_); refine box_event ?hg (N := 5) ?hd (cs := #[.int .i64 0, .int .i64 0, .int .i64 0, .int .i64 0]) (t := 68) ?hr ?_; (case hd => rfl); (case hg => rfl); (case hr => first | (go_simp; done) | (go_simp; rfl)); intro gb106 hg w20 hbox hb; have n0_ := Aside0.mk (blk_below (g := gb101) (o := .cells #[.int .i64 a0_0, .int .i64 a0_1, .int .i64 a0_2, .int .i64 a0_3] 68 (0, 0)) (by (with_reducible repeat (first | refine blk_drewN ?_ _ | refine blk_drew ?_ | refine blk_alloc ?_ _)); exact BK101.out) hb); have n1_ := Aside0.mk (below_step (by repeat (first | (with_reducible first | exact HB.out | apply below_alloc | apply pw_below_drewN | apply below_drew1 | refine below_set ?_ GE101.out) | exact HB.out)) hb); have n2_ := Aside0.mk (hbox); have n3_ := Aside0.mk ((by rw [hg]; exact (below_size (by repeat (first | (with_reducible first | exact HB.out | apply below_alloc | apply pw_below_drewN | apply below_drew1 | refine below_set ?_ GE101.out) | exact HB.out))) : w.heap.size ≤ gb106)); have n4_ := Aside0.mk ((by rw [hg]; exact (below_size (by repeat (first | (with_reducible first | exact HB.out | apply below_alloc | apply pw_below_drewN | apply below_drew1 | refine below_set ?_ GE101.out) | exact HB.out))) : w.heap.size ≤ gb106)); have n5_ := Aside0.mk ((by rw [hg]; exact Nat.ne_of_lt (blk_lt (g := gb101) (o := .cells #[.int .i64 a0_0, .int .i64 a0_1, .int .i64 a0_2, .int .i64 a0_3] 68 (0, 0)) (by (with_reducible repeat (first | refine blk_drewN ?_ _ | refine blk_drew ?_ | refine blk_alloc ?_ _)); exact BK101.out)) : gb101 ≠ gb106)); have n6_ := Aside0.mk ((by rw [hg]; exact Nat.ne_of_gt (blk_lt (g := gb101) (o := .cells #[.int .i64 a0_0, .int .i64 a0_1, .int .i64 a0_2, .int .i64 a0_3] 68 (0, 0)) (by (with_reducible repeat (first | refine blk_drewN ?_ _ | refine blk_drew ?_ | refine blk_alloc ?_ _)); exact BK101.out)) : gb106 ≠ gb101)); clear BK101; clear HB; have BK101 := n0_; have HB := n1_; have BK106 := n2_; have GW106 := n3_; have GE106 := n4_; have NB101_106 := n5_; have NB106_101 := n6_; clear n0_ n1_ n2_ n3_ n4_ n5_ n6_; clear hb hbox hg; have hnb21 := NB106_101.out; have hnc21 := NB101_106.out; have hcz22_0 : w20.cell? ⟨gb106, 0, none⟩ = some (.int .i64 0) := (blk_cell BK106.out 0).trans rfl; have hcz22_1 : w20.cell? ⟨gb106, 1, none⟩ = some (.int .i64 0) := (blk_cell BK106.out 1).trans rfl; have hcz22_2 : w20.cell? ⟨gb106, 2, none⟩ = some (.int .i64 0) := (blk_cell BK106.out 2).trans rfl; have hcz22_3 : w20.cell? ⟨gb106, 3, none⟩ = some (.int .i64 0) := (blk_cell BK106.out 3).trans rfl; have hfz22_0 := blk_frozen BK106.out 0; have hfz22_1 := blk_frozen BK106.out 1; have hfz22_2 := blk_frozen BK106.out 2; have hfz22_3 := blk_frozen BK106.out 3; have hcz23_0 : w20.cell? ⟨gb101, 0, none⟩ = some (.int .i64 a0_0) := (blk_cell BK101.out 0).trans rfl; have hcz23_1 : w20.cell? ⟨gb101, 1, none⟩ = some (.int .i64 a0_1) := (blk_cell BK101.out 1).trans rfl; have hcz23_2 : w20.cell? ⟨gb101, 2, none⟩ = some (.int .i64 a0_2) := (blk_cell BK101.out 2).trans rfl; have hcz23_3 : w20.cell? ⟨gb101, 3, none⟩ = some (.int .i64 a0_3) := (blk_cell BK101.out 3).trans rfl; have hfz23_0 := blk_frozen BK101.out 0; have hfz23_1 := blk_frozen BK101.out 1; have hfz23_2 := blk_frozen BK101.out 2; have hfz23_3 := blk_frozen BK101.out 3) | ((with_reducible refine gate_callee (f := 76) rfl ?_); refine goesL_ (some 9) rfl rfl Try.func76 (by kernel_rfl) rfl #[.agg #[.int .i64 a0_0, .int .i64 a0_1, .int .i64 a0_2, .int .i64 a0_3]] rfl (by (try simp only [List.map_toArray, List.map_cons, List.map_nil]); first | done | rfl | (simp only [List.length_drop, List.length_take]; rfl)) ?_; (with_reducible refine (hanaperref13_May.calls a0_0 a0_1 a0_2 a0_3 true _ A4.out).mono ?_); rintro e w24 ⟨rfl, hb⟩; refine ⟨_, rfl, ?_⟩; have n0_ := Aside0.mk (blk_below (g := gb101) (o := .cells #[.int .i64 a0_0, .int .i64 a0_1, .int .i64 a0_2, .int .i64 a0_3] 68 (0, 0)) (by (with_reducible repeat (first | refine blk_drewN ?_ _ | refine blk_drew ?_ | refine blk_alloc ?_ _)); refine blk_far ?_ NB101_106.out _; (with_reducible repeat (first | refine blk_drewN ?_ _ | refine blk_drew ?_ | refine blk_alloc ?_ _)); refine blk_far ?_ NB101_106.out _; (with_reducible repeat (first | refine blk_drewN ?_ _ | refine blk_drew ?_ | refine blk_alloc ?_ _)); refine blk_far ?_ NB101_106.out _; (with_reducible repeat (first | refine blk_drewN ?_ _ | refine blk_drew ?_ | refine blk_alloc ?_ _)); refine blk_far ?_ NB101_106.out _; (with_reducible repeat (first | refine blk_drewN ?_ _ | refine blk_drew ?_ | refine blk_alloc ?_ _)); exact BK101.out) hb); have n1_ := Aside0.mk (blk_below (g := gb106) (o := .cells #[.int .i64 t102, .int .i64 t103, .int .i64 t104, .int .i64 t105] 68 (0, 0)) (by (with_reducible repeat (first | refine blk_drewN ?_ _ | refine blk_drew ?_ | refine blk_alloc ?_ _)); refine blk_put (cs := #[.int .i64 t102, .int .i64 t103, .int .i64 t104, .int .i64 0]) ?_ 3 _ rfl; (with_reducible repeat (first | refine blk_drewN ?_ _ | refine blk_drew ?_ | refine blk_alloc ?_ _)); refine blk_put (cs := #[.int .i64 t102, .int .i64 t103, .int .i64 0, .int .i64 0]) ?_ 2 _ rfl; (with_reducible repeat (first | refine blk_drewN ?_ _ | refine blk_drew ?_ | refine blk_alloc ?_ _)); refine blk_put (cs := #[.int .i64 t102, .int .i64 0, .int .i64 0, .int .i64 0]) ?_ 1 _ rfl; (with_reducible repeat (first | refine blk_drewN ?_ _ | refine blk_drew ?_ | refine blk_alloc ?_ _)); refine blk_put (cs := #[.int .i64 0, .int .i64 0, .int .i64 0, .int .i64 0]) ?_ 0 _ rfl; (with_reducible repeat (first | refine blk_drewN ?_ _ | refine blk_drew ?_ | refine blk_alloc ?_ _)); exact BK106.out) hb); have n2_ := Aside0.mk (below_step (by repeat (first | (with_reducible first | exact HB.out | apply below_alloc | apply pw_below_drewN | apply below_drew1 | refine below_set ?_ GE101.out | refine below_set ?_ GE106.out) | exact HB.out)) hb); clear BK101; clear BK106; clear HB; have BK101 := n0_; have BK106 := n1_; have HB := n2_; clear n0_ n1_ n2_; (try clear hb); (try clear hb2); (try clear hk); (try clear hi); have hcz25_0 : w24.cell? ⟨gb101, 0, none⟩ = some (.int .i64 a0_0) := (blk_cell BK101.out 0).trans rfl; have hcz25_1 : w24.cell? ⟨gb101, 1, none⟩ = some (.int .i64 a0_1) := (blk_cell BK101.out 1).trans rfl; have hcz25_2 : w24.cell? ⟨gb101, 2, none⟩ = some (.int .i64 a0_2) := (blk_cell BK101.out 2).trans rfl; have hcz25_3 : w24.cell? ⟨gb101, 3, none⟩ = some (.int .i64 a0_3) := (blk_cell BK101.out 3).trans rfl; have hfz25_0 := blk_frozen BK101.out 0; have hfz25_1 := blk_frozen BK101.out 1; have hfz25_2 := blk_frozen BK101.out 2; have hfz25_3 := blk_frozen BK101.out 3; have hcz26_0 : w24.cell? ⟨gb106, 0, none⟩ = some (.int .i64 t102) := (blk_cell BK106.out 0).trans rfl; have hcz26_1 : w24.cell? ⟨gb106, 1, none⟩ = some (.int .i64 t103) := (blk_cell BK106.out 1).trans rfl; have hcz26_2 : w24.cell? ⟨gb106, 2, none⟩ = some (.int .i64 t104) := (blk_cell BK106.out 2).trans rfl; have hcz26_3 : w24.cell? ⟨gb106, 3, none⟩ = some (.int .i64 t105) := (blk_cell BK106.out 3).trans rfl; have hfz26_0 := blk_frozen BK106.out 0; have hfz26_1 := blk_frozen BK106.out 1; have hfz26_2 := blk_frozen BK106.out 2; have hfz26_3 := blk_frozen BK106.out 3))
     go_ret
     exact ⟨by first | rfl | (simp [errW_none, errW_some] <;> rfl) | (simp [*, errW_none, errW_some] <;> rfl), by repeat (first | (with_reducible first | exact HB.out | apply below_alloc | apply pw_below_drewN | apply below_drew1 | refine below_set ?_ GE101.out | refine below_set ?_ GE106.out) | exact HB.out)⟩
   ·rw [if_neg c7] at H
    have c7b0 : decide (t104 ≤ a0_2) = false := decide_eq_false c7
    clear c7
    obtain rfl := Option.some.inj H
    go_enter Try.func61, Try.ntmps61
    go_wp2_with (first | ((with_reducible refine gate_dst (N := 2) rfl ?_); refine box_event ?hg (N := 2) ?hd (cs := #[.int .i64 a0_0, .int .i64 a0_1, .int .i64 a0_2, .int .i64 a0_3]) (t := 68) ?hr ?_; (case hd => rfl); (case hg => rfl); (case hr => first | (go_simp; done) | (go_simp; rfl)); intro gb101 hg w27 hbox hb; have n0_ := Aside0.mk (below_step (by repeat (first | (with_reducible first | exact HB.out | apply below_alloc | apply pw_below_drewN | apply below_drew1) | exact HB.out)) hb); have n1_ := Aside0.mk (hbox); have n2_ := Aside0.mk ((by rw [hg]; exact (below_size (by repeat (first | (with_reducible first | exact HB.out | apply below_alloc | apply pw_below_drewN | apply below_drew1) | exact HB.out))) : w.heap.size ≤ gb101)); have n3_ := Aside0.mk ((by rw [hg]; exact (below_size (by repeat (first | (with_reducible first | exact HB.out | apply below_alloc | apply pw_below_drewN | apply below_drew1) | exact HB.out))) : w.heap.size ≤ gb101)); clear HB; have HB := n0_; have BK101 := n1_; have GW101 := n2_; have GE101 := n3_; clear n0_ n1_ n2_ n3_; clear hb hbox hg) | ((with_reducible refine gate_callee (f := 59) rfl ?_); refine goesL_ (some 7) rfl rfl Try.func59 (by kernel_rfl) rfl #[.slice A1 l1.length c1] rfl (by (try simp only [List.map_toArray, List.map_cons, List.map_nil]); first | done | rfl | (simp only [List.length_drop, List.length_take]; rfl)) ?_; (with_reducible refine (hanaperref34_Need.calls k _ _ l1 t102 t103 t104 t105 _ ?side1 ?side2 A3.out).mono ?_); (case side1 => repeat (first | exact (Kd.C_below HR1.out HB.out) | (with_reducible refine Kd.C_alloc ?_ _) | (with_reducible refine Kd.C_drewN ?_ _) | (with_reducible refine Kd.C_drew ?_))); (case side2 => exact HC1.out); rintro e w28 ⟨rfl, hb⟩; refine ⟨_, rfl, ?_⟩; have n0_ := Aside0.mk (blk_below (g := gb101) (o := .cells #[.int .i64 a0_0, .int .i64 a0_1, .int .i64 a0_2, .int .i64 a0_3] 68 (0, 0)) (by (with_reducible repeat (first | refine blk_drewN ?_ _ | refine blk_drew ?_ | refine blk_alloc ?_ _)); exact BK101.out) hb); have n1_ := Aside0.mk (below_step (by repeat (first | (with_reducible first | exact HB.out | apply below_alloc | apply pw_below_drewN | apply below_drew1 | refine below_set ?_ GE101.out) | exact HB.out)) hb); clear BK101; clear HB; have BK101 := n0_; have HB := n1_; clear n0_ n1_; (try clear hb); (try clear hb2); (try clear hk); (try clear hi)) | ((with_reducible refine gate_dst (N := 5) rfl ?_); refine box_event ?hg (N := 5) ?hd (cs := #[.int .i64 0, .int .i64 0, .int .i64 0, .int .i64 0]) (t := 68) ?hr ?_; (case hd => rfl); (case hg => rfl); (case hr => first | (go_simp; done) | (go_simp; rfl)); intro gb106 hg w29 hbox hb; have n0_ := Aside0.mk (blk_below (g := gb101) (o := .cells #[.int .i64 a0_0, .int .i64 a0_1, .int .i64 a0_2, .int .i64 a0_3] 68 (0, 0)) (by (with_reducible repeat (first | refine blk_drewN ?_ _ | refine blk_drew ?_ | refine blk_alloc ?_ _)); exact BK101.out) hb); have n1_ := Aside0.mk (below_step (by repeat (first | (with_reducible first | exact HB.out | apply below_alloc | apply pw_below_drewN | apply below_drew1 | refine below_set ?_ GE101.out) | exact HB.out)) hb); have n2_ := Aside0.mk (hbox); have n3_ := Aside0.mk ((by rw [hg]; exact (below_size (by repeat (first | (with_reducible first | exact HB.out | apply below_alloc | apply pw_below_drewN | apply below_drew1 | refine below_set ?_ GE101.out) | exact HB.out))) : w.heap.size ≤ gb106)); have n4_ := Aside0.mk ((by rw [hg]; exact (below_size (by repeat (first | (with_reducible first | exact HB.out | apply below_alloc | apply pw_below_drewN | apply below_drew1 | refine below_set ?_ GE101.out) | exact HB.out))) : w.heap.size ≤ gb106)); have n5_ := Aside0.mk ((by rw [hg]; exact Nat.ne_of_lt (blk_lt (g := gb101) (o := .cells #[.int .i64 a0_0, .int .i64 a0_1, .int .i64 a0_2, .int .i64 a0_3] 68 (0, 0)) (by (with_reducible repeat (first | refine blk_drewN ?_ _ | refine blk_drew ?_ | refine blk_alloc ?_ _)); exact BK101.out)) : gb101 ≠ gb106)); have n6_ := Aside0.mk ((by rw [hg]; exact Nat.ne_of_gt (blk_lt (g := gb101) (o := .cells #[.int .i64 a0_0, .int .i64 a0_1, .int .i64 a0_2, .int .i64 a0_3] 68 (0, 0)) (by (with_reducible repeat (first | refine blk_drewN ?_ _ | refine blk_drew ?_ | refine blk_alloc ?_ _)); exact BK101.out)) : gb106 ≠ gb101)); clear BK101; clear HB; have BK101 := n0_; have HB := n1_; have BK106 := n2_; have GW106 := n3_; have GE106 := n4_; have NB101_106 := n5_; have NB106_101 := n6_; clear n0_ n1_ n2_ n3_ n4_ n5_ n6_; clear hb hbox hg; have hnb30 := NB106_101.out; have hnc30 := NB101_106.out; have hcz31_0 : w29.cell? ⟨gb106, 0, none⟩ = some (.int .i64 0) := (blk_cell BK106.out 0).trans rfl; have hcz31_1 : w29.cell? ⟨gb106, 1, none⟩ = some (.int .i64 0) := (blk_cell BK106.out 1).trans rfl; have hcz31_2 : w29.cell? ⟨gb106, 2, none⟩ = some (.int .i64 0) := (blk_cell BK106.out 2).trans rfl; have hcz31_3 : w29.cell? ⟨gb106, 3, none⟩ = some (.int .i64 0) := (blk_cell BK106.out 3).trans rfl; have hfz31_0 := blk_frozen BK106.out 0; have hfz31_1 := blk_frozen BK106.out 1; have hfz31_2 := blk_frozen BK106.out 2; have hfz31_3 := blk_frozen BK106.out 3; have hcz32_0 : w29.cell? ⟨gb101, 0, none⟩ = some (.int .i64 a0_0) := (blk_cell BK101.out 0).trans rfl; have hcz32_1 : w29.cell? ⟨gb101, 1, none⟩ = some (.int .i64 a0_1) := (blk_cell BK101.out 1).trans rfl; have hcz32_2 : w29.cell? ⟨gb101, 2, none⟩ = some (.int .i64 a0_2) := (blk_cell BK101.out 2).trans rfl; have hcz32_3 : w29.cell? ⟨gb101, 3, none⟩ = some (.int .i64 a0_3) := (blk_cell BK101.out 3).trans rfl; have hfz32_0 := blk_frozen BK101.out 0; have hfz32_1 := blk_frozen BK101.out 1; have hfz32_2 := blk_frozen BK101.out 2; have hfz32_3 := blk_frozen BK101.out 3) | ((with_reducible refine gate_callee (f := 76) rfl ?_); refine goesL_ (some 9) rfl rfl Try.func76 (by kernel_rfl) rfl #[.agg #[.int .i64 a0_0, .int .i64 a0_1, .int .i64 a0_2, .int .i64 a0_3]] rfl (by (try simp only [List.map_toArray, List.map_cons, List.map_nil]); first | done | rfl | (simp only [List.length_drop, List.length_take]; rfl)) ?_; (with_reducible refine (hanaperref13_May.calls a0_0 a0_1 a0_2 a0_3 true _ A4.out).mono ?_); rintro e w33 ⟨rfl, hb⟩; refine ⟨_, rfl, ?_⟩; have n0_ := Aside0.mk (blk_below (g := gb101) (o := .cells #[.int .i64 a0_0, .int .i64 a0_1, .int .i64 a0_2, .int .i64 a0_3] 68 (0, 0)) (by (with_reducible repeat (first | refine blk_drewN ?_ _ | refine blk_drew ?_ | refine blk_alloc ?_ _)); refine blk_far ?_ NB101_106.out _; (with_reducible repeat (first | refine blk_drewN ?_ _ | refine blk_drew ?_ | refine blk_alloc ?_ _)); refine blk_far ?_ NB101_106.out _; (with_reducible repeat (first | refine blk_drewN ?_ _ | refine blk_drew ?_ | refine blk_alloc ?_ _)); refine blk_far ?_ NB101_106.out _; (with_reducible repeat (first | refine blk_drewN ?_ _ | refine blk_drew ?_ | refine blk_alloc ?_ _)); refine blk_far ?_ NB101_106.out _; (with_reducible repeat (first | refine blk_drewN ?_ _ | refine blk_drew ?_ | refine blk_alloc ?_ _)); exact BK101.out) hb); have n1_ := Aside0.mk (blk_below (g := gb106) (o := .cells #[.int .i64 t102, .int .i64 t103, .int .i64 t104, .int .i64 t105] 68 (0, 0)) (by (with_reducible repeat (first | refine blk_drewN ?_ _ | refine blk_drew ?_ | refine blk_alloc ?_ _)); refine blk_put (cs := #[.int .i64 t102, .int .i64 t103, .int .i64 t104, .int .i64 0]) ?_ 3 _ rfl; (with_reducible repeat (first | refine blk_drewN ?_ _ | refine blk_drew ?_ | refine blk_alloc ?_ _)); refine blk_put (cs := #[.int .i64 t102, .int .i64 t103, .int .i64 0, .int .i64 0]) ?_ 2 _ rfl; (with_reducible repeat (first | refine blk_drewN ?_ _ | refine blk_drew ?_ | refine blk_alloc ?_ _)); refine blk_put (cs := #[.int .i64 t102, .int .i64 0, .int .i64 0, .int .i64 0]) ?_ 1 _ rfl; (with_reducible repeat (first | refine blk_drewN ?_ _ | refine blk_drew ?_ | refine blk_alloc ?_ _)); refine blk_put (cs := #[.int .i64 0, .int .i64 0, .int .i64 0, .int .i64 0]) ?_ 0 _ rfl; (with_reducible repeat (first | refine blk_drewN ?_ _ | refine blk_drew ?_ | refine blk_alloc ?_ _)); exact BK106.out) hb); have n2_ := Aside0.mk (below_step (by repeat (first | (with_reducible first | exact HB.out | apply below_alloc | apply pw_below_drewN | apply below_drew1 | refine below_set ?_ GE101.out | refine below_set ?_ GE106.out) | exact HB.out)) hb); clear BK101; clear BK106; clear HB; have BK101 := n0_; have BK106 := n1_; have HB := n2_; clear n0_ n1_ n2_; (try clear hb); (try clear hb2); (try clear hk); (try clear hi); have hcz34_0 : w33.cell? ⟨gb101, 0, none⟩ = some (.int .i64 a0_0) := (blk_cell BK101.out 0).trans rfl; have hcz34_1 : w33.cell? ⟨gb101, 1, none⟩ = some (.int .i64 a0_1) := (blk_cell BK101.out 1).trans rfl; have hcz34_2 : w33.cell? ⟨gb101, 2, none⟩ = some (.int .i64 a0_2) := (blk_cell BK101.out 2).trans rfl; have hcz34_3 : w33.cell? ⟨gb101, 3, none⟩ = some (.int .i64 a0_3) := (blk_cell BK101.out 3).trans rfl; have hfz34_0 := blk_frozen BK101.out 0; have hfz34_1 := blk_frozen BK101.out 1; have hfz34_2 := blk_frozen BK101.out 2; have hfz34_3 := blk_frozen BK101.out 3; have hcz35_0 : w33.cell? ⟨gb106, 0, none⟩ = some (.int .i64 t102) := (blk_cell BK106.out 0).trans rfl; have hcz35_1 : w33.cell? ⟨gb106, 1, none⟩ = some (.int .i64 t103) := (blk_cell BK106.out 1).trans rfl; have hcz35_2 : w33.cell? ⟨gb106, 2, none⟩ = some (.int .i64 t104) := (blk_cell BK106.out 2).trans rfl; have hcz35_3 : w33.cell? ⟨gb106, 3, none⟩ = some (.int .i64 t105) := (blk_cell BK106.out 3).trans rfl; have hfz35_0 := blk_frozen BK106.out 0; have hfz35_1 := blk_frozen BK106.out 1; have hfz35_2 := blk_frozen BK106.out 2; have hfz35_3 := blk_frozen BK106.out 3))
    go_ret
    exact ⟨by first | rfl | (simp [errW_none, errW_some] <;> rfl) | (simp [*, errW_none, errW_some] <;> rfl), by repeat (first | (with_reducible first | exact HB.out | apply below_alloc | apply pw_below_drewN | apply below_drew1 | refine below_set ?_ GE101.out | refine below_set ?_ GE106.out) | exact HB.out)⟩
  ·rw [if_neg c6] at H
   have c6b0 : decide (t103 ≤ a0_1) = false := decide_eq_false c6
   clear c6
   obtain rfl := Option.some.inj H
   go_enter Try.func61, Try.ntmps61
   go_wp2_with (first | ((with_reducible refine gate_dst (N := 2) rfl ?_); refine box_event ?hg (N := 2) ?hd (cs := #[.int .i64 a0_0, .int .i64 a0_1, .int .i64 a0_2, .int .i64 a0_3]) (t := 68) ?hr ?_; (case hd => rfl); (case hg => rfl); (case hr => first | (go_simp; done) | (go_simp; rfl)); intro gb101 hg w36 hbox hb; have n0_ := Aside0.mk (below_step (by repeat (first | (with_reducible first | exact HB.out | apply below_alloc | apply pw_below_drewN | apply below_drew1) | exact HB.out)) hb); have n1_ := Aside0.mk (hbox); have n2_ := Aside0.mk ((by rw [hg]; exact (below_size (by repeat (first | (with_reducible first | exact HB.out | apply below_alloc | apply pw_below_drewN | apply below_drew1) | exact HB.out))) : w.heap.size ≤ gb101)); have n3_ := Aside0.mk ((by rw [hg]; exact (below_size (by repeat (first | (with_reducible first | exact HB.out | apply below_alloc | apply pw_below_drewN | apply below_drew1) | exact HB.out))) : w.heap.size ≤ gb101)); clear HB; have HB := n0_; have BK101 := n1_; have GW101 := n2_; have GE101 := n3_; clear n0_ n1_ n2_ n3_; clear hb hbox hg) | ((with_reducible refine gate_callee (f := 59) rfl ?_); refine goesL_ (some 7) rfl rfl Try.func59 (by kernel_rfl) rfl #[.slice A1 l1.length c1] rfl (by (try simp only [List.map_toArray, List.map_cons, List.map_nil]); first | done | rfl | (simp only [List.length_drop, List.length_take]; rfl)) ?_; (with_reducible refine (hanaperref34_Need.calls k _ _ l1 t102 t103 t104 t105 _ ?side1 ?side2 A3.out).mono ?_); (case side1 => repeat (first | exact (Kd.C_below HR1.out HB.out) | (with_reducible refine Kd.C_alloc ?_ _) | (with_reducible refine Kd.C_drewN ?_ _) | (with_reducible refine Kd.C_drew ?_))); (case side2 => exact HC1.out); rintro e w37 ⟨rfl, hb⟩; refine ⟨_, rfl, ?_⟩; have n0_ := Aside0.mk (blk_below (g := gb101) (o := .cells #[.int .i64 a0_0, .int .i64 a0_1, .int .i64 a0_2, .int .i64 a0_3] 68 (0, 0)) (by (with_reducible repeat (first | refine blk_drewN ?_ _ | refine blk_drew ?_ | refine blk_alloc ?_ _)); exact BK101.out) hb); have n1_ := Aside0.mk (below_step (by repeat (first | (with_reducible first | exact HB.out | apply below_alloc | apply pw_below_drewN | apply below_drew1 | refine below_set ?_ GE101.out) | exact HB.out)) hb); clear BK101; clear HB; have BK101 := n0_; have HB := n1_; clear n0_ n1_; (try clear hb); (try clear hb2); (try clear hk); (try clear hi)) | ((with_reducible refine gate_dst (N := 5) rfl ?_); refine box_event ?hg (N := 5) ?hd (cs := #[.int .i64 0, .int .i64 0, .int .i64 0, .int .i64 0]) (t := 68) ?hr ?_; (case hd => rfl); (case hg => rfl); (case hr => first | (go_simp; done) | (go_simp; rfl)); intro gb106 hg w38 hbox hb; have n0_ := Aside0.mk (blk_below (g := gb101) (o := .cells #[.int .i64 a0_0, .int .i64 a0_1, .int .i64 a0_2, .int .i64 a0_3] 68 (0, 0)) (by (with_reducible repeat (first | refine blk_drewN ?_ _ | refine blk_drew ?_ | refine blk_alloc ?_ _)); exact BK101.out) hb); have n1_ := Aside0.mk (below_step (by repeat (first | (with_reducible first | exact HB.out | apply below_alloc | apply pw_below_drewN | apply below_drew1 | refine below_set ?_ GE101.out) | exact HB.out)) hb); have n2_ := Aside0.mk (hbox); have n3_ := Aside0.mk ((by rw [hg]; exact (below_size (by repeat (first | (with_reducible first | exact HB.out | apply below_alloc | apply pw_below_drewN | apply below_drew1 | refine below_set ?_ GE101.out) | exact HB.out))) : w.heap.size ≤ gb106)); have n4_ := Aside0.mk ((by rw [hg]; exact (below_size (by repeat (first | (with_reducible first | exact HB.out | apply below_alloc | apply pw_below_drewN | apply below_drew1 | refine below_set ?_ GE101.out) | exact HB.out))) : w.heap.size ≤ gb106)); have n5_ := Aside0.mk ((by rw [hg]; exact Nat.ne_of_lt (blk_lt (g := gb101) (o := .cells #[.int .i64 a0_0, .int .i64 a0_1, .int .i64 a0_2, .int .i64 a0_3] 68 (0, 0)) (by (with_reducible repeat (first | refine blk_drewN ?_ _ | refine blk_drew ?_ | refine blk_alloc ?_ _)); exact BK101.out)) : gb101 ≠ gb106)); have n6_ := Aside0.mk ((by rw [hg]; exact Nat.ne_of_gt (blk_lt (g := gb101) (o := .cells #[.int .i64 a0_0, .int .i64 a0_1, .int .i64 a0_2, .int .i64 a0_3] 68 (0, 0)) (by (with_reducible repeat (first | refine blk_drewN ?_ _ | refine blk_drew ?_ | refine blk_alloc ?_ _)); exact BK101.out)) : gb106 ≠ gb101)); clear BK101; clear HB; have BK101 := n0_; have HB := n1_; have BK106 := n2_; have GW106 := n3_; have GE106 := n4_; have NB101_106 := n5_; have NB106_101 := n6_; clear n0_ n1_ n2_ n3_ n4_ n5_ n6_; clear hb hbox hg; have hnb39 := NB106_101.out; have hnc39 := NB101_106.out; have hcz40_0 : w38.cell? ⟨gb106, 0, none⟩ = some (.int .i64 0) := (blk_cell BK106.out 0).trans rfl; have hcz40_1 : w38.cell? ⟨gb106, 1, none⟩ = some (.int .i64 0) := (blk_cell BK106.out 1).trans rfl; have hcz40_2 : w38.cell? ⟨gb106, 2, none⟩ = some (.int .i64 0) := (blk_cell BK106.out 2).trans rfl; have hcz40_3 : w38.cell? ⟨gb106, 3, none⟩ = some (.int .i64 0) := (blk_cell BK106.out 3).trans rfl; have hfz40_0 := blk_frozen BK106.out 0; have hfz40_1 := blk_frozen BK106.out 1; have hfz40_2 := blk_frozen BK106.out 2; have hfz40_3 := blk_frozen BK106.out 3; have hcz41_0 : w38.cell? ⟨gb101, 0, none⟩ = some (.int .i64 a0_0) := (blk_cell BK101.out 0).trans rfl; have hcz41_1 : w38.cell? ⟨gb101, 1, none⟩ = some (.int .i64 a0_1) := (blk_cell BK101.out 1).trans rfl; have hcz41_2 : w38.cell? ⟨gb101, 2, none⟩ = some (.int .i64 a0_2) := (blk_cell BK101.out 2).trans rfl; have hcz41_3 : w38.cell? ⟨gb101, 3, none⟩ = some (.int .i64 a0_3) := (blk_cell BK101.out 3).trans rfl; have hfz41_0 := blk_frozen BK101.out 0; have hfz41_1 := blk_frozen BK101.out 1; have hfz41_2 := blk_frozen BK101.out 2; have hfz41_3 := blk_frozen BK101.out 3) | ((with_reducible refine gate_callee (f := 76) rfl ?_); refine goesL_ (some 9) rfl rfl Try.func76 (by kernel_rfl) rfl #[.agg #[.int .i64 a0_0, .int .i64 a0_1, .int .i64 a0_2, .int .i64 a0_3]] rfl (by (try simp only [List.map_toArray, List.map_cons, List.map_nil]); first | done | rfl | (simp only [List.length_drop, List.length_take]; rfl)) ?_; (with_reducible refine (hanaperref13_May.calls a0_0 a0_1 a0_2 a0_3 true _ A4.out).mono ?_); rintro e w42 ⟨rfl, hb⟩; refine ⟨_, rfl, ?_⟩; have n0_ := Aside0.mk (blk_below (g := gb101) (o := .cells #[.int .i64 a0_0, .int .i64 a0_1, .int .i64 a0_2, .int .i64 a0_3] 68 (0, 0)) (by (with_reducible repeat (first | refine blk_drewN ?_ _ | refine blk_drew ?_ | refine blk_alloc ?_ _)); refine blk_far ?_ NB101_106.out _; (with_reducible repeat (first | refine blk_drewN ?_ _ | refine blk_drew ?_ | refine blk_alloc ?_ _)); refine blk_far ?_ NB101_106.out _; (with_reducible repeat (first | refine blk_drewN ?_ _ | refine blk_drew ?_ | refine blk_alloc ?_ _)); refine blk_far ?_ NB101_106.out _; (with_reducible repeat (first | refine blk_drewN ?_ _ | refine blk_drew ?_ | refine blk_alloc ?_ _)); refine blk_far ?_ NB101_106.out _; (with_reducible repeat (first | refine blk_drewN ?_ _ | refine blk_drew ?_ | refine blk_alloc ?_ _)); exact BK101.out) hb); have n1_ := Aside0.mk (blk_below (g := gb106) (o := .cells #[.int .i64 t102, .int .i64 t103, .int .i64 t104, .int .i64 t105] 68 (0, 0)) (by (with_reducible repeat (first | refine blk_drewN ?_ _ | refine blk_drew ?_ | refine blk_alloc ?_ _)); refine blk_put (cs := #[.int .i64 t102, .int .i64 t103, .int .i64 t104, .int .i64 0]) ?_ 3 _ rfl; (with_reducible repeat (first | refine blk_drewN ?_ _ | refine blk_drew ?_ | refine blk_alloc ?_ _)); refine blk_put (cs := #[.int .i64 t102, .int .i64 t103, .int .i64 0, .int .i64 0]) ?_ 2 _ rfl; (with_reducible repeat (first | refine blk_drewN ?_ _ | refine blk_drew ?_ | refine blk_alloc ?_ _)); refine blk_put (cs := #[.int .i64 t102, .int .i64 0, .int .i64 0, .int .i64 0]) ?_ 1 _ rfl; (with_reducible repeat (first | refine blk_drewN ?_ _ | refine blk_drew ?_ | refine blk_alloc ?_ _)); refine blk_put (cs := #[.int .i64 0, .int .i64 0, .int .i64 0, .int .i64 0]) ?_ 0 _ rfl; (with_reducible repeat (first | refine blk_drewN ?_ _ | refine blk_drew ?_ | refine blk_alloc ?_ _)); exact BK106.out) hb); have n2_ := Aside0.mk (below_step (by repeat (first | (with_reducible first | exact HB.out | apply below_alloc | apply pw_below_drewN | apply below_drew1 | refine below_set ?_ GE101.out | refine below_set ?_ GE106.out) | exact HB.out)) hb); clear BK101; clear BK106; clear HB; have BK101 := n0_; have BK106 := n1_; have HB := n2_; clear n0_ n1_ n2_; (try clear hb); (try clear hb2); (try clear hk); (try clear hi); have hcz43_0 : w42.cell? ⟨gb101, 0, none⟩ = some (.int .i64 a0_0) := (blk_cell BK101.out 0).trans rfl; have hcz43_1 : w42.cell? ⟨gb101, 1, none⟩ = some (.int .i64 a0_1) := (blk_cell BK101.out 1).trans rfl; have hcz43_2 : w42.cell? ⟨gb101, 2, none⟩ = some (.int .i64 a0_2) := (blk_cell BK101.out 2).trans rfl; have hcz43_3 : w42.cell? ⟨gb101, 3, none⟩ = some (.int .i64 a0_3) := (blk_cell BK101.out 3).trans rfl; have hfz43_0 := blk_frozen BK101.out 0; have hfz43_1 := blk_frozen BK101.out 1; have hfz43_2 := blk_frozen BK101.out 2; have hfz43_3 := blk_frozen BK101.out 3; have hcz44_0 : w42.cell? ⟨gb106, 0, none⟩ = some (.int .i64 t102) := (blk_cell BK106.out 0).trans rfl; have hcz44_1 : w42.cell? ⟨gb106, 1, none⟩ = some (.int .i64 t103) := (blk_cell BK106.out 1).trans rfl; have hcz44_2 : w42.cell? ⟨gb106, 2, none⟩ = some (.int .i64 t104) := (blk_cell BK106.out 2).trans rfl; have hcz44_3 : w42.cell? ⟨gb106, 3, none⟩ = some (.int .i64 t105) := (blk_cell BK106.out 3).trans rfl; have hfz44_0 := blk_frozen BK106.out 0; have hfz44_1 := blk_frozen BK106.out 1; have hfz44_2 := blk_frozen BK106.out 2; have hfz44_3 := blk_frozen BK106.out 3))
   go_ret
   exact ⟨by first | rfl | (simp [errW_none, errW_some] <;> rfl) | (simp [*, errW_none, errW_some] <;> rfl), by repeat (first | (with_reducible first | exact HB.out | apply below_alloc | apply pw_below_drewN | apply below_drew1 | refine below_set ?_ GE101.out | refine below_set ?_ GE106.out) | exact HB.out)⟩
 ·replace c5 := Bool.eq_false_iff.mpr c5
  subst c5
  have H1 : (some false) = some r := by rw [if_neg (show ¬ (false = true) by decide)] at H; exact H
  clear H
  have H := H1
  clear H1
  obtain rfl := Option.some.inj H
  go_enter Try.func61, Try.ntmps61
  go_wp2_with (first | ((with_reducible refine gate_dst (N := 2) rfl ?_); refine box_event ?hg (N := 2) ?hd (cs := #[.int .i64 a0_0, .int .i64 a0_1, .int .i64 a0_2, .int .i64 a0_3]) (t := 68) ?hr ?_; (case hd => rfl); (case hg => rfl); (case hr => first | (go_simp; done) | (go_simp; rfl)); intro gb101 hg w45 hbox hb; have n0_ := Aside0.mk (below_step (by repeat (first | (with_reducible first | exact HB.out | apply below_alloc | apply pw_below_drewN | apply below_drew1) | exact HB.out)) hb); have n1_ := Aside0.mk (hbox); have n2_ := Aside0.mk ((by rw [hg]; exact (below_size (by repeat (first | (with_reducible first | exact HB.out | apply below_alloc | apply pw_below_drewN | apply below_drew1) | exact HB.out))) : w.heap.size ≤ gb101)); have n3_ := Aside0.mk ((by rw [hg]; exact (below_size (by repeat (first | (with_reducible first | exact HB.out | apply below_alloc | apply pw_below_drewN | apply below_drew1) | exact HB.out))) : w.heap.size ≤ gb101)); clear HB; have HB := n0_; have BK101 := n1_; have GW101 := n2_; have GE101 := n3_; clear n0_ n1_ n2_ n3_; clear hb hbox hg) | ((with_reducible refine gate_callee (f := 59) rfl ?_); refine goesL_ (some 7) rfl rfl Try.func59 (by kernel_rfl) rfl #[.slice A1 l1.length c1] rfl (by (try simp only [List.map_toArray, List.map_cons, List.map_nil]); first | done | rfl | (simp only [List.length_drop, List.length_take]; rfl)) ?_; (with_reducible refine (hanaperref34_Need.calls k _ _ l1 t102 t103 t104 t105 _ ?side1 ?side2 A3.out).mono ?_); (case side1 => repeat (first | exact (Kd.C_below HR1.out HB.out) | (with_reducible refine Kd.C_alloc ?_ _) | (with_reducible refine Kd.C_drewN ?_ _) | (with_reducible refine Kd.C_drew ?_))); (case side2 => exact HC1.out); rintro e w46 ⟨rfl, hb⟩; refine ⟨_, rfl, ?_⟩; have n0_ := Aside0.mk (blk_below (g := gb101) (o := .cells #[.int .i64 a0_0, .int .i64 a0_1, .int .i64 a0_2, .int .i64 a0_3] 68 (0, 0)) (by (with_reducible repeat (first | refine blk_drewN ?_ _ | refine blk_drew ?_ | refine blk_alloc ?_ _)); exact BK101.out) hb); have n1_ := Aside0.mk (below_step (by repeat (first | (with_reducible first | exact HB.out | apply below_alloc | apply pw_below_drewN | apply below_drew1 | refine below_set ?_ GE101.out) | exact HB.out)) hb); clear BK101; clear HB; have BK101 := n0_; have HB := n1_; clear n0_ n1_; (try clear hb); (try clear hb2); (try clear hk); (try clear hi)) | ((with_reducible refine gate_dst (N := 5) rfl ?_); refine box_event ?hg (N := 5) ?hd (cs := #[.int .i64 0, .int .i64 0, .int .i64 0, .int .i64 0]) (t := 68) ?hr ?_; (case hd => rfl); (case hg => rfl); (case hr => first | (go_simp; done) | (go_simp; rfl)); intro gb106 hg w47 hbox hb; have n0_ := Aside0.mk (blk_below (g := gb101) (o := .cells #[.int .i64 a0_0, .int .i64 a0_1, .int .i64 a0_2, .int .i64 a0_3] 68 (0, 0)) (by (with_reducible repeat (first | refine blk_drewN ?_ _ | refine blk_drew ?_ | refine blk_alloc ?_ _)); exact BK101.out) hb); have n1_ := Aside0.mk (below_step (by repeat (first | (with_reducible first | exact HB.out | apply below_alloc | apply pw_below_drewN | apply below_drew1 | refine below_set ?_ GE101.out) | exact HB.out)) hb); have n2_ := Aside0.mk (hbox); have n3_ := Aside0.mk ((by rw [hg]; exact (below_size (by repeat (first | (with_reducible first | exact HB.out | apply below_alloc | apply pw_below_drewN | apply below_drew1 | refine below_set ?_ GE101.out) | exact HB.out))) : w.heap.size ≤ gb106)); have n4_ := Aside0.mk ((by rw [hg]; exact (below_size (by repeat (first | (with_reducible first | exact HB.out | apply below_alloc | apply pw_below_drewN | apply below_drew1 | refine below_set ?_ GE101.out) | exact HB.out))) : w.heap.size ≤ gb106)); have n5_ := Aside0.mk ((by rw [hg]; exact Nat.ne_of_lt (blk_lt (g := gb101) (o := .cells #[.int .i64 a0_0, .int .i64 a0_1, .int .i64 a0_2, .int .i64 a0_3] 68 (0, 0)) (by (with_reducible repeat (first | refine blk_drewN ?_ _ | refine blk_drew ?_ | refine blk_alloc ?_ _)); exact BK101.out)) : gb101 ≠ gb106)); have n6_ := Aside0.mk ((by rw [hg]; exact Nat.ne_of_gt (blk_lt (g := gb101) (o := .cells #[.int .i64 a0_0, .int .i64 a0_1, .int .i64 a0_2, .int .i64 a0_3] 68 (0, 0)) (by (with_reducible repeat (first | refine blk_drewN ?_ _ | refine blk_drew ?_ | refine blk_alloc ?_ _)); exact BK101.out)) : gb106 ≠ gb101)); clear BK101; clear HB; have BK101 := n0_; have HB := n1_; have BK106 := n2_; have GW106 := n3_; have GE106 := n4_; have NB101_106 := n5_; have NB106_101 := n6_; clear n0_ n1_ n2_ n3_ n4_ n5_ n6_; clear hb hbox hg; have hnb48 := NB106_101.out; have hnc48 := NB101_106.out; have hcz49_0 : w47.cell? ⟨gb106, 0, none⟩ = some (.int .i64 0) := (blk_cell BK106.out 0).trans rfl; have hcz49_1 : w47.cell? ⟨gb106, 1, none⟩ = some (.int .i64 0) := (blk_cell BK106.out 1).trans rfl; have hcz49_2 : w47.cell? ⟨gb106, 2, none⟩ = some (.int .i64 0) := (blk_cell BK106.out 2).trans rfl; have hcz49_3 : w47.cell? ⟨gb106, 3, none⟩ = some (.int .i64 0) := (blk_cell BK106.out 3).trans rfl; have hfz49_0 := blk_frozen BK106.out 0; have hfz49_1 := blk_frozen BK106.out 1; have hfz49_2 := blk_frozen BK106.out 2; have hfz49_3 := blk_frozen BK106.out 3; have hcz50_0 : w47.cell? ⟨gb101, 0, none⟩ = some (.int .i64 a0_0) := (blk_cell BK101.out 0).trans rfl; have hcz50_1 : w47.cell? ⟨gb101, 1, none⟩ = some (.int .i64 a0_1) := (blk_cell BK101.out 1).trans rfl; have hcz50_2 : w47.cell? ⟨gb101, 2, none⟩ = some (.int .i64 a0_2) := (blk_cell BK101.out 2).trans rfl; have hcz50_3 : w47.cell? ⟨gb101, 3, none⟩ = some (.int .i64 a0_3) := (blk_cell BK101.out 3).trans rfl; have hfz50_0 := blk_frozen BK101.out 0; have hfz50_1 := blk_frozen BK101.out 1; have hfz50_2 := blk_frozen BK101.out 2; have hfz50_3 := blk_frozen BK101.out 3) | ((with_reducible refine gate_callee (f := 76) rfl ?_); refine goesL_ (some 9) rfl rfl Try.func76 (by kernel_rfl) rfl #[.agg #[.int .i64 a0_0, .int .i64 a0_1, .int .i64 a0_2, .int .i64 a0_3]] rfl (by (try simp only [List.map_toArray, List.map_cons, List.map_nil]); first | done | rfl | (simp only [List.length_drop, List.length_take]; rfl)) ?_; (with_reducible refine (hanaperref13_May.calls a0_0 a0_1 a0_2 a0_3 false _ A4.out).mono ?_); rintro e w51 ⟨rfl, hb⟩; refine ⟨_, rfl, ?_⟩; have n0_ := Aside0.mk (blk_below (g := gb101) (o := .cells #[.int .i64 a0_0, .int .i64 a0_1, .int .i64 a0_2, .int .i64 a0_3] 68 (0, 0)) (by (with_reducible repeat (first | refine blk_drewN ?_ _ | refine blk_drew ?_ | refine blk_alloc ?_ _)); refine blk_far ?_ NB101_106.out _; (with_reducible repeat (first | refine blk_drewN ?_ _ | refine blk_drew ?_ | refine blk_alloc ?_ _)); refine blk_far ?_ NB101_106.out _; (with_reducible repeat (first | refine blk_drewN ?_ _ | refine blk_drew ?_ | refine blk_alloc ?_ _)); refine blk_far ?_ NB101_106.out _; (with_reducible repeat (first | refine blk_drewN ?_ _ | refine blk_drew ?_ | refine blk_alloc ?_ _)); refine blk_far ?_ NB101_106.out _; (with_reducible repeat (first | refine blk_drewN ?_ _ | refine blk_drew ?_ | refine blk_alloc ?_ _)); exact BK101.out) hb); have n1_ := Aside0.mk (blk_below (g := gb106) (o := .cells #[.int .i64 t102, .int .i64 t103, .int .i64 t104, .int .i64 t105] 68 (0, 0)) (by (with_reducible repeat (first | refine blk_drewN ?_ _ | refine blk_drew ?_ | refine blk_alloc ?_ _)); refine blk_put (cs := #[.int .i64 t102, .int .i64 t103, .int .i64 t104, .int .i64 0]) ?_ 3 _ rfl; (with_reducible repeat (first | refine blk_drewN ?_ _ | refine blk_drew ?_ | refine blk_alloc ?_ _)); refine blk_put (cs := #[.int .i64 t102, .int .i64 t103, .int .i64 0, .int .i64 0]) ?_ 2 _ rfl; (with_reducible repeat (first | refine blk_drewN ?_ _ | refine blk_drew ?_ | refine blk_alloc ?_ _)); refine blk_put (cs := #[.int .i64 t102, .int .i64 0, .int .i64 0, .int .i64 0]) ?_ 1 _ rfl; (with_reducible repeat (first | refine blk_drewN ?_ _ | refine blk_drew ?_ | refine blk_alloc ?_ _)); refine blk_put (cs := #[.int .i64 0, .int .i64 0, .int .i64 0, .int .i64 0]) ?_ 0 _ rfl; (with_reducible repeat (first | refine blk_drewN ?_ _ | refine blk_drew ?_ | refine blk_alloc ?_ _)); exact BK106.out) hb); have n2_ := Aside0.mk (below_step (by repeat (first | (with_reducible first | exact HB.out | apply below_alloc | apply pw_below_drewN | apply below_drew1 | refine below_set ?_ GE101.out | refine below_set ?_ GE106.out) | exact HB.out)) hb); clear BK101; clear BK106; clear HB; have BK101 := n0_; have BK106 := n1_; have HB := n2_; clear n0_ n1_ n2_; (try clear hb); (try clear hb2); (try clear hk); (try clear hi)))
  go_ret
  exact ⟨by first | rfl | (simp [errW_none, errW_some] <;> rfl) | (simp [*, errW_none, errW_some] <;> rfl), by repeat (first | (with_reducible first | exact HB.out | apply below_alloc | apply pw_below_drewN | apply below_drew1 | refine below_set ?_ GE101.out | refine below_set ?_ GE106.out) | exact HB.out)⟩

end Go.Proofs.Ytobljmgoengofaa.PZ
-- printed for this claim by a program (pall.sh)
-- mended by fixpz.py
namespace Go.Proofs.Ytobljmgoengofaa.PZ
open Go.RowKit Go.Proofs.YtobljmgoengofaaW.PrintWords Go.Proofs.YtobljmgoengofaaW.PrintLast Go.Proofs.YtobljmgoengofaaW.PrintMore
attribute [local go_sem] max2_int min2_int max_two min_two max_three min_three max_four min_four   -- for this text's walks alone
set_option linter.unusedVariables false
set_option linter.unusedSimpArgs false

/-! ### hanaperlaw29_Light: function 62 -/
def hanaperlaw29_Light.f (k : Nat) (a0_0 : Int) (a0_1 : ByteArray) (a0_2 : ByteArray) (a0_3 : ByteArray) (a0_4 : ByteArray) (a0_5 : Int) (l0_6 : List Int) (a0_7 : Int) (a0_8 : Int) (a0_9 : Int) (a0_10 : ByteArray) (a0_11 : Int) (a0_12 : Int) (l0_13 : List (S75)) : Option (Bool) := if (a0_1.size : Int) ≤ 100 then (if (a0_2.size : Int) ≤ 100 then (if (a0_3.size : Int) ≤ 100 then (if (a0_4.size : Int) ≤ 100 then (if (l0_6.length : Int) ≤ 1000 then ((hanaperref20_Small.f k a0_9 a0_10 a0_11 a0_12 l0_13).bind fun t102 => (some t102)) else (some false)) else (some false)) else (some false)) else (some false)) else (some false)
theorem hanaperlaw29_Light.mono : ∀ a0 a1 a2 a3 a4 a5 a6 a7 a8 a9 a10 a11 a12 a13 k, LeO (hanaperlaw29_Light.f k a0 a1 a2 a3 a4 a5 a6 a7 a8 a9 a10 a11 a12 a13) (hanaperlaw29_Light.f (k + 1) a0 a1 a2 a3 a4 a5 a6 a7 a8 a9 a10 a11 a12 a13) := by
 intro a0 a1 a2 a3 a4 a5 a6 a7 a8 a9 a10 a11 a12 a13 k
 unfold hanaperlaw29_Light.f
 repeat' first
   | (with_reducible exact hanaperref20_Small.mono _ _ _ _ _ _)
   | (with_reducible exact LeO.refl _)
   | (with_reducible exact LeO.none _)
   | (with_reducible refine LeO.ite ?_ ?_)
   | (with_reducible refine LeO.bind ?_ (fun _ => ?_))
   | exact hanaperref20_Small.mono _ _ _ _ _ _
   | exact LeO.none _
   | refine LeO.ite ?_ ?_
   | refine LeO.bind ?_ (fun _ => ?_)
set_option maxHeartbeats 8000000 in
set_option maxRecDepth 100000 in
theorem hanaperlaw29_Light.calls (k : Nat) (a0_0 : Int) (a0_1 : ByteArray) (a0_2 : ByteArray) (a0_3 : ByteArray) (a0_4 : ByteArray) (a0_5 : Int) (A0_6 : Option Addr) (c0_6 : Nat) (l0_6 : List Int) (a0_7 : Int) (a0_8 : Int) (a0_9 : Int) (a0_10 : ByteArray) (a0_11 : Int) (a0_12 : Int) (A0_13 : Option Addr) (c0_13 : Nat) (l0_13 : List (S75)) (r : Bool) (w : World) (hr0_6 : Kd.C (Kd.int .u8) w A0_6 l0_6.length l0_6) (hc0_6 : l0_6.length ≤ c0_6) (hr0_13 : Kd.C k75 w A0_13 l0_13.length l0_13) (hc0_13 : l0_13.length ≤ c0_13) (h : hanaperlaw29_Light.f k a0_0 a0_1 a0_2 a0_3 a0_4 a0_5 l0_6 a0_7 a0_8 a0_9 a0_10 a0_11 a0_12 l0_13 = some r) :
  Calls Try.prog 62 #[.agg #[.int .i64 a0_0, .string a0_1, .string a0_2, .string a0_3, .string a0_4, .int .i64 a0_5, .slice A0_6 l0_6.length c0_6, .int .u64 a0_7, .int .u64 a0_8, .int .i64 a0_9, .string a0_10, .int .i64 a0_11, .int .i64 a0_12, .slice A0_13 l0_13.length c0_13]] w fun e w' => e = .returned (.bool r) ∧ Below w.heap.size w w' := by
 have hu77 := Try.underlying77
 have hu75 := Try.underlying75
 have HR0_6 := Aside0.mk hr0_6
 have HC0_6 := Aside0.mk hc0_6
 clear hr0_6 hc0_6
 have HR0_13 := Aside0.mk hr0_13
 have HC0_13 := Aside0.mk hc0_13
 clear hr0_13 hc0_13
 have HB := Aside0.mk (Below.refl w.heap.size w)
 have H : (if (a0_1.size : Int) ≤ 100 then (if (a0_2.size : Int) ≤ 100 then (if (a0_3.size : Int) ≤ 100 then (if (a0_4.size : Int) ≤ 100 then (if (l0_6.length : Int) ≤ 1000 then ((hanaperref20_Small.f k a0_9 a0_10 a0_11 a0_12 l0_13).bind fun t102 => (some t102)) else (some false)) else (some false)) else (some false)) else (some false)) else (some false)) = some r := h
 clear h
 by_cases c2 : (a0_1.size : Int) ≤ 100
 ·rw [if_pos c2] at H
  have c2b0 : decide ((a0_1.size : Int) ≤ 100) = true := decide_eq_true c2
  have c2b1 : decide (a0_1.size ≤ 100) = true := decide_eq_true (by omega)
  clear c2
  by_cases c3 : (a0_2.size : Int) ≤ 100
  ·rw [if_pos c3] at H
   have c3b0 : decide ((a0_2.size : Int) ≤ 100) = true := decide_eq_true c3
   have c3b1 : decide (a0_2.size ≤ 100) = true := decide_eq_true (by omega)
   clear c3
   by_cases c4 : (a0_3.size : Int) ≤ 100
   ·rw [if_pos c4] at H
    have c4b0 : decide ((a0_3.size : Int) ≤ 100) = true := decide_eq_true c4
    have c4b1 : decide (a0_3.size ≤ 100) = true := decide_eq_true (by omega)
    clear c4
    by_cases c5 : (a0_4.size : Int) ≤ 100
    ·rw [if_pos c5] at H
     have c5b0 : decide ((a0_4.size : Int) ≤ 100) = true := decide_eq_true c5
     have c5b1 : decide (a0_4.size ≤ 100) = true := decide_eq_true (by omega)
     clear c5
     by_cases c6 : (l0_6.length : Int) ≤ 1000
     ·rw [if_pos c6] at H
      have c6b0 : decide ((l0_6.length : Int) ≤ 1000) = true := decide_eq_true c6
      have c6b1 : decide (l0_6.length ≤ 1000) = true := decide_eq_true (by omega)
      clear c6
      replace H := Option.bind_eq_some_iff.mp H
      obtain ⟨t102, A70, H⟩ := H
      replace H : (some t102) = some r := H
      have A7 := Aside0.mk A70
      clear A70
      obtain rfl := Option.some.inj H
      go_enter Try.func62, Try.ntmps62
      go_wp2_with (first | ((with_reducible refine gate_dst (N := 1) rfl ?_); (try (refine gate_guard (by rfl) ?_; dsimp only)); refine box_event ?hg (N := 1) ?hd (cs := #[.int .i64 a0_0, .string a0_1, .string a0_2, .string a0_3, .string a0_4, .int .i64 a0_5, .slice A0_6 l0_6.length c0_6, .int .u64 a0_7, .int .u64 a0_8, .int .i64 a0_9, .string a0_10, .int .i64 a0_11, .int .i64 a0_12, .slice A0_13 l0_13.length c0_13]) (t := 77) ?hr ?_; (case hd => rfl); (case hg => rfl); (case hr => first | (go_simp; done) | (go_simp; rfl)); intro gb101 hg w8 hbox hb; have n0_ := Aside0.mk (below_step (by repeat (first | (with_reducible first | exact HB.out | apply below_alloc | apply pw_below_drewN | apply below_drew1) | exact HB.out)) hb); have n1_ := Aside0.mk (hbox); have n2_ := Aside0.mk ((by rw [hg]; exact (below_size (by repeat (first | (with_reducible first | exact HB.out | apply below_alloc | apply pw_below_drewN | apply below_drew1) | exact HB.out))) : w.heap.size ≤ gb101)); have n3_ := Aside0.mk ((by rw [hg]; exact (below_size (by repeat (first | (with_reducible first | exact HB.out | apply below_alloc | apply pw_below_drewN | apply below_drew1) | exact HB.out))) : w.heap.size ≤ gb101)); clear HB; have HB := n0_; have BK101 := n1_; have GW101 := n2_; have GE101 := n3_; clear n0_ n1_ n2_ n3_; clear hb hbox hg; have hcz9_0 : w8.cell? ⟨gb101, 0, none⟩ = some (.int .i64 a0_0) := (blk_cell BK101.out 0).trans rfl; have hcz9_1 : w8.cell? ⟨gb101, 1, none⟩ = some (.string a0_1) := (blk_cell BK101.out 1).trans rfl; have hcz9_2 : w8.cell? ⟨gb101, 2, none⟩ = some (.string a0_2) := (blk_cell BK101.out 2).trans rfl; have hcz9_3 : w8.cell? ⟨gb101, 3, none⟩ = some (.string a0_3) := (blk_cell BK101.out 3).trans rfl; have hcz9_4 : w8.cell? ⟨gb101, 4, none⟩ = some (.string a0_4) := (blk_cell BK101.out 4).trans rfl; have hcz9_5 : w8.cell? ⟨gb101, 5, none⟩ = some (.int .i64 a0_5) := (blk_cell BK101.out 5).trans rfl; have hcz9_6 : w8.cell? ⟨gb101, 6, none⟩ = some (.slice A0_6 l0_6.length c0_6) := (blk_cell BK101.out 6).trans rfl; have hcz9_7 : w8.cell? ⟨gb101, 7, none⟩ = some (.int .u64 a0_7) := (blk_cell BK101.out 7).trans rfl; have hcz9_8 : w8.cell? ⟨gb101, 8, none⟩ = some (.int .u64 a0_8) := (blk_cell BK101.out 8).trans rfl; have hcz9_9 : w8.cell? ⟨gb101, 9, none⟩ = some (.int .i64 a0_9) := (blk_cell BK101.out 9).trans rfl; have hcz9_10 : w8.cell? ⟨gb101, 10, none⟩ = some (.string a0_10) := (blk_cell BK101.out 10).trans rfl; have hcz9_11 : w8.cell? ⟨gb101, 11, none⟩ = some (.int .i64 a0_11) := (blk_cell BK101.out 11).trans rfl; have hcz9_12 : w8.cell? ⟨gb101, 12, none⟩ = some (.int .i64 a0_12) := (blk_cell BK101.out 12).trans rfl; have hcz9_13 : w8.cell? ⟨gb101, 13, none⟩ = some (.slice A0_13 l0_13.length c0_13) := (blk_cell BK101.out 13).trans rfl; have hfz9_0 := blk_frozen BK101.out 0; have hfz9_1 := blk_frozen BK101.out 1; have hfz9_2 := blk_frozen BK101.out 2; have hfz9_3 := blk_frozen BK101.out 3; have hfz9_4 := blk_frozen BK101.out 4; have hfz9_5 := blk_frozen BK101.out 5; have hfz9_6 := blk_frozen BK101.out 6; have hfz9_7 := blk_frozen BK101.out 7; have hfz9_8 := blk_frozen BK101.out 8; have hfz9_9 := blk_frozen BK101.out 9; have hfz9_10 := blk_frozen BK101.out 10; have hfz9_11 := blk_frozen BK101.out 11; have hfz9_12 := blk_frozen BK101.out 12; have hfz9_13 := blk_frozen BK101.out 13) | (go_at_call 77; (with_reducible refine (hanaperref20_Small.calls k a0_9 a0_10 a0_11 a0_12 _ _ l0_13 t102 _ ?side1 ?side2 A7.out).mono ?_); (case side1 => repeat (first | exact (Kd.C_below HR0_13.out HB.out) | (with_reducible refine Kd.C_alloc ?_ _) | (with_reducible refine Kd.C_drewN ?_ _) | (with_reducible refine Kd.C_drew ?_))); (case side2 => exact HC0_13.out); rintro e w10 ⟨rfl, hb⟩; have n0_ := Aside0.mk (blk_below (g := gb101) (o := .cells #[.int .i64 a0_0, .string a0_1, .string a0_2, .string a0_3, .string a0_4, .int .i64 a0_5, .slice A0_6 l0_6.length c0_6, .int .u64 a0_7, .int .u64 a0_8, .int .i64 a0_9, .string a0_10, .int .i64 a0_11, .int .i64 a0_12, .slice A0_13 l0_13.length c0_13] 77 (0, 0)) (by (with_reducible repeat (first | refine blk_drewN ?_ _ | refine blk_drew ?_ | refine blk_alloc ?_ _)); exact BK101.out) hb); have n1_ := Aside0.mk (below_step (by repeat (first | (with_reducible first | exact HB.out | apply below_alloc | apply pw_below_drewN | apply below_drew1 | refine below_set ?_ GE101.out) | exact HB.out)) hb); clear BK101; clear HB; have BK101 := n0_; have HB := n1_; clear n0_ n1_; (try clear hb); (try clear hb2); (try clear hk); (try clear hi)))
      go_ret
      exact ⟨by first | rfl | (simp [errW_none, errW_some] <;> rfl) | (simp [*, errW_none, errW_some] <;> rfl), by repeat (first | (with_reducible first | exact HB.out | apply below_alloc | apply pw_below_drewN | apply below_drew1 | refine below_set ?_ GE101.out) | exact HB.out)⟩
     ·rw [if_neg c6] at H
      have c6b0 : decide ((l0_6.length : Int) ≤ 1000) = false := decide_eq_false c6
      have c6b1 : decide (l0_6.length ≤ 1000) = false := decide_eq_false (by omega)
      clear c6
      obtain rfl := Option.some.inj H
      go_enter Try.func62, Try.ntmps62
      go_wp2_with (first | ((with_reducible refine gate_dst (N := 1) rfl ?_); (try (refine gate_guard (by rfl) ?_; dsimp only)); refine box_event ?hg (N := 1) ?hd (cs := #[.int .i64 a0_0, .string a0_1, .string a0_2, .string a0_3, .string a0_4, .int .i64 a0_5, .slice A0_6 l0_6.length c0_6, .int .u64 a0_7, .int .u64 a0_8, .int .i64 a0_9, .string a0_10, .int .i64 a0_11, .int .i64 a0_12, .slice A0_13 l0_13.length c0_13]) (t := 77) ?hr ?_; (case hd => rfl); (case hg => rfl); (case hr => first | (go_simp; done) | (go_simp; rfl)); intro gb101 hg w11 hbox hb; have n0_ := Aside0.mk (below_step (by repeat (first | (with_reducible first | exact HB.out | apply below_alloc | apply pw_below_drewN | apply below_drew1) | exact HB.out)) hb); have n1_ := Aside0.mk (hbox); have n2_ := Aside0.mk ((by rw [hg]; exact (below_size (by repeat (first | (with_reducible first | exact HB.out | apply below_alloc | apply pw_below_drewN | apply below_drew1) | exact HB.out))) : w.heap.size ≤ gb101)); have n3_ := Aside0.mk ((by rw [hg]; exact (below_size (by repeat (first | (with_reducible first | exact HB.out | apply below_alloc | apply pw_below_drewN | apply below_drew1) | exact HB.out))) : w.heap.size ≤ gb101)); clear HB; have HB := n0_; have BK101 := n1_; have GW101 := n2_; have GE101 := n3_; clear n0_ n1_ n2_ n3_; clear hb hbox hg; have hcz12_0 : w11.cell? ⟨gb101, 0, none⟩ = some (.int .i64 a0_0) := (blk_cell BK101.out 0).trans rfl; have hcz12_1 : w11.cell? ⟨gb101, 1, none⟩ = some (.string a0_1) := (blk_cell BK101.out 1).trans rfl; have hcz12_2 : w11.cell? ⟨gb101, 2, none⟩ = some (.string a0_2) := (blk_cell BK101.out 2).trans rfl; have hcz12_3 : w11.cell? ⟨gb101, 3, none⟩ = some (.string a0_3) := (blk_cell BK101.out 3).trans rfl; have hcz12_4 : w11.cell? ⟨gb101, 4, none⟩ = some (.string a0_4) := (blk_cell BK101.out 4).trans rfl; have hcz12_5 : w11.cell? ⟨gb101, 5, none⟩ = some (.int .i64 a0_5) := (blk_cell BK101.out 5).trans rfl; have hcz12_6 : w11.cell? ⟨gb101, 6, none⟩ = some (.slice A0_6 l0_6.length c0_6) := (blk_cell BK101.out 6).trans rfl; have hcz12_7 : w11.cell? ⟨gb101, 7, none⟩ = some (.int .u64 a0_7) := (blk_cell BK101.out 7).trans rfl; have hcz12_8 : w11.cell? ⟨gb101, 8, none⟩ = some (.int .u64 a0_8) := (blk_cell BK101.out 8).trans rfl; have hcz12_9 : w11.cell? ⟨gb101, 9, none⟩ = some (.int .i64 a0_9) := (blk_cell BK101.out 9).trans rfl; have hcz12_10 : w11.cell? ⟨gb101, 10, none⟩ = some (.string a0_10) := (blk_cell BK101.out 10).trans rfl; have hcz12_11 : w11.cell? ⟨gb101, 11, none⟩ = some (.int .i64 a0_11) := (blk_cell BK101.out 11).trans rfl; have hcz12_12 : w11.cell? ⟨gb101, 12, none⟩ = some (.int .i64 a0_12) := (blk_cell BK101.out 12).trans rfl; have hcz12_13 : w11.cell? ⟨gb101, 13, none⟩ = some (.slice A0_13 l0_13.length c0_13) := (blk_cell BK101.out 13).trans rfl; have hfz12_0 := blk_frozen BK101.out 0; have hfz12_1 := blk_frozen BK101.out 1; have hfz12_2 := blk_frozen BK101.out 2; have hfz12_3 := blk_frozen BK101.out 3; have hfz12_4 := blk_frozen BK101.out 4; have hfz12_5 := blk_frozen BK101.out 5; have hfz12_6 := blk_frozen BK101.out 6; have hfz12_7 := blk_frozen BK101.out 7; have hfz12_8 := blk_frozen BK101.out 8; have hfz12_9 := blk_frozen BK101.out 9; have hfz12_10 := blk_frozen BK101.out 10; have hfz12_11 := blk_frozen BK101.out 11; have hfz12_12 := blk_frozen BK101.out 12; have hfz12_13 := blk_frozen BK101.out 13))
      go_ret
      exact ⟨by first | rfl | (simp [errW_none, errW_some] <;> rfl) | (simp [*, errW_none, errW_some] <;> rfl), by repeat (first | (with_reducible first | exact HB.out | apply below_alloc | apply pw_below_drewN | apply below_drew1 | refine below_set ?_ GE101.out) | exact HB.out)⟩
    ·rw [if_neg c5] at H
     have c5b0 : decide ((a0_4.size : Int) ≤ 100) = false := decide_eq_false c5
     have c5b1 : decide (a0_4.size ≤ 100) = false := decide_eq_false (by omega)
     clear c5
     obtain rfl := Option.some.inj H
     go_enter Try.func62, Try.ntmps62
     go_wp2_with (first | ((with_reducible refine gate_dst (N := 1) rfl ?_); (try (refine gate_guard (by rfl) ?_; dsimp only)); refine box_event ?hg (N := 1) ?hd (cs := #[.int .i64 a0_0, .string a0_1, .string a0_2, .string a0_3, .string a0_4, .int .i64 a0_5, .slice A0_6 l0_6.length c0_6, .int .u64 a0_7, .int .u64 a0_8, .int .i64 a0_9, .string a0_10, .int .i64 a0_11, .int .i64 a0_12, .slice A0_13 l0_13.length c0_13]) (t := 77) ?hr ?_; (case hd => rfl); (case hg => rfl); (case hr => first | (go_simp; done) | (go_simp; rfl)); intro gb101 hg w13 hbox hb; have n0_ := Aside0.mk (below_step (by repeat (first | (with_reducible first | exact HB.out | apply below_alloc | apply pw_below_drewN | apply below_drew1) | exact HB.out)) hb); have n1_ := Aside0.mk (hbox); have n2_ := Aside0.mk ((by rw [hg]; exact (below_size (by repeat (first | (with_reducible first | exact HB.out | apply below_alloc | apply pw_below_drewN | apply below_drew1) | exact HB.out))) : w.heap.size ≤ gb101)); have n3_ := Aside0.mk ((by rw [hg]; exact (below_size (by repeat (first | (with_reducible first | exact HB.out | apply below_alloc | apply pw_below_drewN | apply below_drew1) | exact HB.out))) : w.heap.size ≤ gb101)); clear HB; have HB := n0_; have BK101 := n1_; have GW101 := n2_; have GE101 := n3_; clear n0_ n1_ n2_ n3_; clear hb hbox hg; have hcz14_0 : w13.cell? ⟨gb101, 0, none⟩ = some (.int .i64 a0_0) := (blk_cell BK101.out 0).trans rfl; have hcz14_1 : w13.cell? ⟨gb101, 1, none⟩ = some (.string a0_1) := (blk_cell BK101.out 1).trans rfl; have hcz14_2 : w13.cell? ⟨gb101, 2, none⟩ = some (.string a0_2) := (blk_cell BK101.out 2).trans rfl; have hcz14_3 : w13.cell? ⟨gb101, 3, none⟩ = some (.string a0_3) := (blk_cell BK101.out 3).trans rfl; have hcz14_4 : w13.cell? ⟨gb101, 4, none⟩ = some (.string a0_4) := (blk_cell BK101.out 4).trans rfl; have hcz14_5 : w13.cell? ⟨gb101, 5, none⟩ = some (.int .i64 a0_5) := (blk_cell BK101.out 5).trans rfl; have hcz14_6 : w13.cell? ⟨gb101, 6, none⟩ = some (.slice A0_6 l0_6.length c0_6) := (blk_cell BK101.out 6).trans rfl; have hcz14_7 : w13.cell? ⟨gb101, 7, none⟩ = some (.int .u64 a0_7) := (blk_cell BK101.out 7).trans rfl; have hcz14_8 : w13.cell? ⟨gb101, 8, none⟩ = some (.int .u64 a0_8) := (blk_cell BK101.out 8).trans rfl; have hcz14_9 : w13.cell? ⟨gb101, 9, none⟩ = some (.int .i64 a0_9) := (blk_cell BK101.out 9).trans rfl; have hcz14_10 : w13.cell? ⟨gb101, 10, none⟩ = some (.string a0_10) := (blk_cell BK101.out 10).trans rfl; have hcz14_11 : w13.cell? ⟨gb101, 11, none⟩ = some (.int .i64 a0_11) := (blk_cell BK101.out 11).trans rfl; have hcz14_12 : w13.cell? ⟨gb101, 12, none⟩ = some (.int .i64 a0_12) := (blk_cell BK101.out 12).trans rfl; have hcz14_13 : w13.cell? ⟨gb101, 13, none⟩ = some (.slice A0_13 l0_13.length c0_13) := (blk_cell BK101.out 13).trans rfl; have hfz14_0 := blk_frozen BK101.out 0; have hfz14_1 := blk_frozen BK101.out 1; have hfz14_2 := blk_frozen BK101.out 2; have hfz14_3 := blk_frozen BK101.out 3; have hfz14_4 := blk_frozen BK101.out 4; have hfz14_5 := blk_frozen BK101.out 5; have hfz14_6 := blk_frozen BK101.out 6; have hfz14_7 := blk_frozen BK101.out 7; have hfz14_8 := blk_frozen BK101.out 8; have hfz14_9 := blk_frozen BK101.out 9; have hfz14_10 := blk_frozen BK101.out 10; have hfz14_11 := blk_frozen BK101.out 11; have hfz14_12 := blk_frozen BK101.out 12; have hfz14_13 := blk_frozen BK101.out 13))
     go_ret
     exact ⟨by first | rfl | (simp [errW_none, errW_some] <;> rfl) | (simp [*, errW_none, errW_some] <;> rfl), by repeat (first | (with_reducible first | exact HB.out | apply below_alloc | apply pw_below_drewN | apply below_drew1 | refine below_set ?_ GE101.out) | exact HB.out)⟩
   ·rw [if_neg c4] at H
    have c4b0 : decide ((a0_3.size : Int) ≤ 100) = false := decide_eq_false c4
    have c4b1 : decide (a0_3.size ≤ 100) = false := decide_eq_false (by omega)
    clear c4
    obtain rfl := Option.some.inj H
    go_enter Try.func62, Try.ntmps62
    go_wp2_with (first | ((with_reducible refine gate_dst (N := 1) rfl ?_); (try (refine gate_guard (by rfl) ?_; dsimp only)); refine box_event ?hg (N := 1) ?hd (cs := #[.int .i64 a0_0, .string a0_1, .string a0_2, .string a0_3, .string a0_4, .int .i64 a0_5, .slice A0_6 l0_6.length c0_6, .int .u64 a0_7, .int .u64 a0_8, .int .i64 a0_9, .string a0_10, .int .i64 a0_11, .int .i64 a0_12, .slice A0_13 l0_13.length c0_13]) (t := 77) ?hr ?_; (case hd => rfl); (case hg => rfl); (case hr => first | (go_simp; done) | (go_simp; rfl)); intro gb101 hg w15 hbox hb; have n0_ := Aside0.mk (below_step (by repeat (first | (with_reducible first | exact HB.out | apply below_alloc | apply pw_below_drewN | apply below_drew1) | exact HB.out)) hb); have n1_ := Aside0.mk (hbox); have n2_ := Aside0.mk ((by rw [hg]; exact (below_size (by repeat (first | (with_reducible first | exact HB.out | apply below_alloc | apply pw_below_drewN | apply below_drew1) | exact HB.out))) : w.heap.size ≤ gb101)); have n3_ := Aside0.mk ((by rw [hg]; exact (below_size (by repeat (first | (with_reducible first | exact HB.out | apply below_alloc | apply pw_below_drewN | apply below_drew1) | exact HB.out))) : w.heap.size ≤ gb101)); clear HB; have HB := n0_; have BK101 := n1_; have GW101 := n2_; have GE101 := n3_; clear n0_ n1_ n2_ n3_; clear hb hbox hg; have hcz16_0 : w15.cell? ⟨gb101, 0, none⟩ = some (.int .i64 a0_0) := (blk_cell BK101.out 0).trans rfl; have hcz16_1 : w15.cell? ⟨gb101, 1, none⟩ = some (.string a0_1) := (blk_cell BK101.out 1).trans rfl; have hcz16_2 : w15.cell? ⟨gb101, 2, none⟩ = some (.string a0_2) := (blk_cell BK101.out 2).trans rfl; have hcz16_3 : w15.cell? ⟨gb101, 3, none⟩ = some (.string a0_3) := (blk_cell BK101.out 3).trans rfl; have hcz16_4 : w15.cell? ⟨gb101, 4, none⟩ = some (.string a0_4) := (blk_cell BK101.out 4).trans rfl; have hcz16_5 : w15.cell? ⟨gb101, 5, none⟩ = some (.int .i64 a0_5) := (blk_cell BK101.out 5).trans rfl; have hcz16_6 : w15.cell? ⟨gb101, 6, none⟩ = some (.slice A0_6 l0_6.length c0_6) := (blk_cell BK101.out 6).trans rfl; have hcz16_7 : w15.cell? ⟨gb101, 7, none⟩ = some (.int .u64 a0_7) := (blk_cell BK101.out 7).trans rfl; have hcz16_8 : w15.cell? ⟨gb101, 8, none⟩ = some (.int .u64 a0_8) := (blk_cell BK101.out 8).trans rfl; have hcz16_9 : w15.cell? ⟨gb101, 9, none⟩ = some (.int .i64 a0_9) := (blk_cell BK101.out 9).trans rfl; have hcz16_10 : w15.cell? ⟨gb101, 10, none⟩ = some (.string a0_10) := (blk_cell BK101.out 10).trans rfl; have hcz16_11 : w15.cell? ⟨gb101, 11, none⟩ = some (.int .i64 a0_11) := (blk_cell BK101.out 11).trans rfl; have hcz16_12 : w15.cell? ⟨gb101, 12, none⟩ = some (.int .i64 a0_12) := (blk_cell BK101.out 12).trans rfl; have hcz16_13 : w15.cell? ⟨gb101, 13, none⟩ = some (.slice A0_13 l0_13.length c0_13) := (blk_cell BK101.out 13).trans rfl; have hfz16_0 := blk_frozen BK101.out 0; have hfz16_1 := blk_frozen BK101.out 1; have hfz16_2 := blk_frozen BK101.out 2; have hfz16_3 := blk_frozen BK101.out 3; have hfz16_4 := blk_frozen BK101.out 4; have hfz16_5 := blk_frozen BK101.out 5; have hfz16_6 := blk_frozen BK101.out 6; have hfz16_7 := blk_frozen BK101.out 7; have hfz16_8 := blk_frozen BK101.out 8; have hfz16_9 := blk_frozen BK101.out 9; have hfz16_10 := blk_frozen BK101.out 10; have hfz16_11 := blk_frozen BK101.out 11; have hfz16_12 := blk_frozen BK101.out 12; have hfz16_13 := blk_frozen BK101.out 13))
    go_ret
    exact ⟨by first | rfl | (simp [errW_none, errW_some] <;> rfl) | (simp [*, errW_none, errW_some] <;> rfl), by repeat (first | (with_reducible first | exact HB.out | apply below_alloc | apply pw_below_drewN | apply below_drew1 | refine below_set ?_ GE101.out) | exact HB.out)⟩
  ·rw [if_neg c3] at H
   have c3b0 : decide ((a0_2.size : Int) ≤ 100) = false := decide_eq_false c3
   have c3b1 : decide (a0_2.size ≤ 100) = false := decide_eq_false (by omega)
   clear c3
   obtain rfl := Option.some.inj H
   go_enter Try.func62, Try.ntmps62
   go_wp2_with (first | ((with_reducible refine gate_dst (N := 1) rfl ?_); (try (refine gate_guard (by rfl) ?_; dsimp only)); refine box_event ?hg (N := 1) ?hd (cs := #[.int .i64 a0_0, .string a0_1, .string a0_2, .string a0_3, .string a0_4, .int .i64 a0_5, .slice A0_6 l0_6.length c0_6, .int .u64 a0_7, .int .u64 a0_8, .int .i64 a0_9, .string a0_10, .int .i64 a0_11, .int .i64 a0_12, .slice A0_13 l0_13.length c0_13]) (t := 77) ?hr ?_; (case hd => rfl); (case hg => rfl); (case hr => first | (go_simp; done) | (go_simp; rfl)); intro gb101 hg w17 hbox hb; have n0_ := Aside0.mk (below_step (by repeat (first | (with_reducible first | exact HB.out | apply below_alloc | apply pw_below_drewN | apply below_drew1) | exact HB.out)) hb); have n1_ := Aside0.mk (hbox); have n2_ := Aside0.mk ((by rw [hg]; exact (below_size (by repeat (first | (with_reducible first | exact HB.out | apply below_alloc | apply pw_below_drewN | apply below_drew1) | exact HB.out))) : w.heap.size ≤ gb101)); have n3_ := Aside0.mk ((by rw [hg]; exact (below_size (by repeat (first | (with_reducible first | exact HB.out | apply below_alloc | apply pw_below_drewN | apply below_drew1) | exact HB.out))) : w.heap.size ≤ gb101)); clear HB; have HB := n0_; have BK101 := n1_; have GW101 := n2_; have GE101 := n3_; clear n0_ n1_ n2_ n3_; clear hb hbox hg; have hcz18_0 : w17.cell? ⟨gb101, 0, none⟩ = some (.int .i64 a0_0) := (blk_cell BK101.out 0).trans rfl; have hcz18_1 : w17.cell? ⟨gb101, 1, none⟩ = some (.string a0_1) := (blk_cell BK101.out 1).trans rfl; have hcz18_2 : w17.cell? ⟨gb101, 2, none⟩ = some (.string a0_2) := (blk_cell BK101.out 2).trans rfl; have hcz18_3 : w17.cell? ⟨gb101, 3, none⟩ = some (.string a0_3) := (blk_cell BK101.out 3).trans rfl; have hcz18_4 : w17.cell? ⟨gb101, 4, none⟩ = some (.string a0_4) := (blk_cell BK101.out 4).trans rfl; have hcz18_5 : w17.cell? ⟨gb101, 5, none⟩ = some (.int .i64 a0_5) := (blk_cell BK101.out 5).trans rfl; have hcz18_6 : w17.cell? ⟨gb101, 6, none⟩ = some (.slice A0_6 l0_6.length c0_6) := (blk_cell BK101.out 6).trans rfl; have hcz18_7 : w17.cell? ⟨gb101, 7, none⟩ = some (.int .u64 a0_7) := (blk_cell BK101.out 7).trans rfl; have hcz18_8 : w17.cell? ⟨gb101, 8, none⟩ = some (.int .u64 a0_8) := (blk_cell BK101.out 8).trans rfl; have hcz18_9 : w17.cell? ⟨gb101, 9, none⟩ = some (.int .i64 a0_9) := (blk_cell BK101.out 9).trans rfl; have hcz18_10 : w17.cell? ⟨gb101, 10, none⟩ = some (.string a0_10) := (blk_cell BK101.out 10).trans rfl; have hcz18_11 : w17.cell? ⟨gb101, 11, none⟩ = some (.int .i64 a0_11) := (blk_cell BK101.out 11).trans rfl; have hcz18_12 : w17.cell? ⟨gb101, 12, none⟩ = some (.int .i64 a0_12) := (blk_cell BK101.out 12).trans rfl; have hcz18_13 : w17.cell? ⟨gb101, 13, none⟩ = some (.slice A0_13 l0_13.length c0_13) := (blk_cell BK101.out 13).trans rfl; have hfz18_0 := blk_frozen BK101.out 0; have hfz18_1 := blk_frozen BK101.out 1; have hfz18_2 := blk_frozen BK101.out 2; have hfz18_3 := blk_frozen BK101.out 3; have hfz18_4 := blk_frozen BK101.out 4; have hfz18_5 := blk_frozen BK101.out 5; have hfz18_6 := blk_frozen BK101.out 6; have hfz18_7 := blk_frozen BK101.out 7; have hfz18_8 := blk_frozen BK101.out 8; have hfz18_9 := blk_frozen BK101.out 9; have hfz18_10 := blk_frozen BK101.out 10; have hfz18_11 := blk_frozen BK101.out 11; have hfz18_12 := blk_frozen BK101.out 12; have hfz18_13 := blk_frozen BK101.out 13))
   go_ret
   exact ⟨by first | rfl | (simp [errW_none, errW_some] <;> rfl) | (simp [*, errW_none, errW_some] <;> rfl), by repeat (first | (with_reducible first | exact HB.out | apply below_alloc | apply pw_below_drewN | apply below_drew1 | refine below_set ?_ GE101.out) | exact HB.out)⟩
 ·rw [if_neg c2] at H
  have c2b0 : decide ((a0_1.size : Int) ≤ 100) = false := decide_eq_false c2
  have c2b1 : decide (a0_1.size ≤ 100) = false := decide_eq_false (by omega)
  clear c2
  obtain rfl := Option.some.inj H
  go_enter Try.func62, Try.ntmps62
  go_wp2_with (first | ((with_reducible refine gate_dst (N := 1) rfl ?_); (try (refine gate_guard (by rfl) ?_; dsimp only)); refine box_event ?hg (N := 1) ?hd (cs := #[.int .i64 a0_0, .string a0_1, .string a0_2, .string a0_3, .string a0_4, .int .i64 a0_5, .slice A0_6 l0_6.length c0_6, .int .u64 a0_7, .int .u64 a0_8, .int .i64 a0_9, .string a0_10, .int .i64 a0_11, .int .i64 a0_12, .slice A0_13 l0_13.length c0_13]) (t := 77) ?hr ?_; (case hd => rfl); (case hg => rfl); (case hr => first | (go_simp; done) | (go_simp; rfl)); intro gb101 hg w19 hbox hb; have n0_ := Aside0.mk (below_step (by repeat (first | (with_reducible first | exact HB.out | apply below_alloc | apply pw_below_drewN | apply below_drew1) | exact HB.out)) hb); have n1_ := Aside0.mk (hbox); have n2_ := Aside0.mk ((by rw [hg]; exact (below_size (by repeat (first | (with_reducible first | exact HB.out | apply below_alloc | apply pw_below_drewN | apply below_drew1) | exact HB.out))) : w.heap.size ≤ gb101)); have n3_ := Aside0.mk ((by rw [hg]; exact (below_size (by repeat (first | (with_reducible first | exact HB.out | apply below_alloc | apply pw_below_drewN | apply below_drew1) | exact HB.out))) : w.heap.size ≤ gb101)); clear HB; have HB := n0_; have BK101 := n1_; have GW101 := n2_; have GE101 := n3_; clear n0_ n1_ n2_ n3_; clear hb hbox hg; have hcz20_0 : w19.cell? ⟨gb101, 0, none⟩ = some (.int .i64 a0_0) := (blk_cell BK101.out 0).trans rfl; have hcz20_1 : w19.cell? ⟨gb101, 1, none⟩ = some (.string a0_1) := (blk_cell BK101.out 1).trans rfl; have hcz20_2 : w19.cell? ⟨gb101, 2, none⟩ = some (.string a0_2) := (blk_cell BK101.out 2).trans rfl; have hcz20_3 : w19.cell? ⟨gb101, 3, none⟩ = some (.string a0_3) := (blk_cell BK101.out 3).trans rfl; have hcz20_4 : w19.cell? ⟨gb101, 4, none⟩ = some (.string a0_4) := (blk_cell BK101.out 4).trans rfl; have hcz20_5 : w19.cell? ⟨gb101, 5, none⟩ = some (.int .i64 a0_5) := (blk_cell BK101.out 5).trans rfl; have hcz20_6 : w19.cell? ⟨gb101, 6, none⟩ = some (.slice A0_6 l0_6.length c0_6) := (blk_cell BK101.out 6).trans rfl; have hcz20_7 : w19.cell? ⟨gb101, 7, none⟩ = some (.int .u64 a0_7) := (blk_cell BK101.out 7).trans rfl; have hcz20_8 : w19.cell? ⟨gb101, 8, none⟩ = some (.int .u64 a0_8) := (blk_cell BK101.out 8).trans rfl; have hcz20_9 : w19.cell? ⟨gb101, 9, none⟩ = some (.int .i64 a0_9) := (blk_cell BK101.out 9).trans rfl; have hcz20_10 : w19.cell? ⟨gb101, 10, none⟩ = some (.string a0_10) := (blk_cell BK101.out 10).trans rfl; have hcz20_11 : w19.cell? ⟨gb101, 11, none⟩ = some (.int .i64 a0_11) := (blk_cell BK101.out 11).trans rfl; have hcz20_12 : w19.cell? ⟨gb101, 12, none⟩ = some (.int .i64 a0_12) := (blk_cell BK101.out 12).trans rfl; have hcz20_13 : w19.cell? ⟨gb101, 13, none⟩ = some (.slice A0_13 l0_13.length c0_13) := (blk_cell BK101.out 13).trans rfl; have hfz20_0 := blk_frozen BK101.out 0; have hfz20_1 := blk_frozen BK101.out 1; have hfz20_2 := blk_frozen BK101.out 2; have hfz20_3 := blk_frozen BK101.out 3; have hfz20_4 := blk_frozen BK101.out 4; have hfz20_5 := blk_frozen BK101.out 5; have hfz20_6 := blk_frozen BK101.out 6; have hfz20_7 := blk_frozen BK101.out 7; have hfz20_8 := blk_frozen BK101.out 8; have hfz20_9 := blk_frozen BK101.out 9; have hfz20_10 := blk_frozen BK101.out 10; have hfz20_11 := blk_frozen BK101.out 11; have hfz20_12 := blk_frozen BK101.out 12; have hfz20_13 := blk_frozen BK101.out 13))
  go_ret
  exact ⟨by first | rfl | (simp [errW_none, errW_some] <;> rfl) | (simp [*, errW_none, errW_some] <;> rfl), by repeat (first | (with_reducible first | exact HB.out | apply below_alloc | apply pw_below_drewN | apply below_drew1 | refine below_set ?_ GE101.out) | exact HB.out)⟩

end Go.Proofs.Ytobljmgoengofaa.PZ
-- printed for this claim by a program (pall.sh)
-- mended by fixpz.py
namespace Go.Proofs.Ytobljmgoengofaa.PZ
open Go.RowKit Go.Proofs.YtobljmgoengofaaW.PrintWords Go.Proofs.YtobljmgoengofaaW.PrintLast Go.Proofs.YtobljmgoengofaaW.PrintMore
attribute [local go_sem] max2_int min2_int max_two min_two max_three min_three max_four min_four   -- for this text's walks alone
set_option linter.unusedVariables false
set_option linter.unusedSimpArgs false

/-! ### hanaperlaw34_Light: function 57 -/
mutual
def hanaperlaw34_Light.l0 : Nat → List (S77) → Int → Option (Bool)
 | 0, _, _ => none
 | k + 1, x0, x3 => if x3 < (x0.length : Int) then (hanaperlaw34_Light.j1 k x0 x3 (decide (x3 < 120))) else (hanaperlaw34_Light.j1 k x0 x3 false)
def hanaperlaw34_Light.j1 : Nat → List (S77) → Int → Bool → Option (Bool)
 | 0, _, _, _ => none
 | k + 1, x0, x3, x11 => if x11 = true then (if 0 ≤ x3 then (if x3 < (x0.length : Int) then ((hanaperlaw29_Light.f k ((rd_T77 x0 x3).f0) ((rd_T77 x0 x3).f1) ((rd_T77 x0 x3).f2) ((rd_T77 x0 x3).f3) ((rd_T77 x0 x3).f4) ((rd_T77 x0 x3).f5) ((rd_T77 x0 x3).f6) ((rd_T77 x0 x3).f7) ((rd_T77 x0 x3).f8) ((rd_T77 x0 x3).f9.f0) ((rd_T77 x0 x3).f9.f1) ((rd_T77 x0 x3).f9.f2) ((rd_T77 x0 x3).f9.f3) ((rd_T77 x0 x3).f9.f4)).bind fun t102 => (if t102 = true then (hanaperlaw34_Light.l0 k x0 (wrap64 (x3 + 1))) else (some false))) else (none)) else (none)) else (some (decide ((x0.length : Int) ≤ 100)))
end
def hanaperlaw34_Light.f (k : Nat) (l0 : List (S77)) : Option (Bool) := hanaperlaw34_Light.l0 k l0 0
theorem hanaperlaw34_Light.mono_l : ∀ k, (∀ y0 y1, LeO (hanaperlaw34_Light.l0 k y0 y1) (hanaperlaw34_Light.l0 (k + 1) y0 y1)) ∧ (∀ y0 y1 y2, LeO (hanaperlaw34_Light.j1 k y0 y1 y2) (hanaperlaw34_Light.j1 (k + 1) y0 y1 y2))
 | 0 => ⟨fun _ _ r h => by simp [hanaperlaw34_Light.l0] at h, fun _ _ _ r h => by simp [hanaperlaw34_Light.j1] at h⟩
 | k + 1 => by
  obtain ⟨ih0, ih1⟩ := hanaperlaw34_Light.mono_l k
  refine ⟨?_, ?_⟩
  ·intro y0 y1
   unfold hanaperlaw34_Light.l0
   repeat' first
   | (with_reducible exact ih0 _ _)
   | (with_reducible exact ih1 _ _ _)
   | (with_reducible exact hanaperlaw29_Light.mono _ _ _ _ _ _ _ _ _ _ _ _ _ _ _)
   | (with_reducible exact LeO.refl _)
   | (with_reducible exact LeO.none _)
   | (with_reducible refine LeO.ite ?_ ?_)
   | (with_reducible refine LeO.bind ?_ (fun _ => ?_))
   | exact ih0 _ _
   | exact ih1 _ _ _
   | exact hanaperlaw29_Light.mono _ _ _ _ _ _ _ _ _ _ _ _ _ _ _
   | exact LeO.none _
   | refine LeO.ite ?_ ?_
   | refine LeO.bind ?_ (fun _ => ?_)
  ·intro y0 y1 y2
   unfold hanaperlaw34_Light.j1
   repeat' first
   | (with_reducible exact ih0 _ _)
   | (with_reducible exact ih1 _ _ _)
   | (with_reducible exact hanaperlaw29_Light.mono _ _ _ _ _ _ _ _ _ _ _ _ _ _ _)
   | (with_reducible exact LeO.refl _)
   | (with_reducible exact LeO.none _)
   | (with_reducible refine LeO.ite ?_ ?_)
   | (with_reducible refine LeO.bind ?_ (fun _ => ?_))
   | exact ih0 _ _
   | exact ih1 _ _ _
   | exact hanaperlaw29_Light.mono _ _ _ _ _ _ _ _ _ _ _ _ _ _ _
   | exact LeO.none _
   | refine LeO.ite ?_ ?_
   | refine LeO.bind ?_ (fun _ => ?_)
theorem hanaperlaw34_Light.mono : ∀ a0 k, LeO (hanaperlaw34_Light.f k a0) (hanaperlaw34_Light.f (k + 1) a0) := by
 intro a0 k
 obtain ⟨ih0, ih1⟩ := hanaperlaw34_Light.mono_l k
 unfold hanaperlaw34_Light.f
 repeat' first
   | (with_reducible exact ih0 _ _)
   | (with_reducible exact ih1 _ _ _)
   | (with_reducible exact hanaperlaw29_Light.mono _ _ _ _ _ _ _ _ _ _ _ _ _ _ _)
   | (with_reducible exact LeO.refl _)
   | (with_reducible exact LeO.none _)
   | (with_reducible refine LeO.ite ?_ ?_)
   | (with_reducible refine LeO.bind ?_ (fun _ => ?_))
   | exact ih0 _ _
   | exact ih1 _ _ _
   | exact hanaperlaw29_Light.mono _ _ _ _ _ _ _ _ _ _ _ _ _ _ _
   | exact LeO.none _
   | refine LeO.ite ?_ ?_
   | refine LeO.bind ?_ (fun _ => ?_)
set_option maxHeartbeats 8000000 in
set_option maxRecDepth 100000 in
theorem hanaperlaw34_Light.calls (k : Nat) (A0 : Option Addr) (c0 : Nat) (l0 : List (S77)) (r : Bool) (w : World) (hr0 : Kd.C k77 w A0 l0.length l0) (hc0 : l0.length ≤ c0) (h : hanaperlaw34_Light.f k l0 = some r) :
  Calls Try.prog 57 #[.slice A0 l0.length c0] w fun e w' => e = .returned (.bool r) ∧ Below w.heap.size w w' := by
 have hu77 := Try.underlying77
 have HR0 := Aside0.mk hr0
 have HC0 := Aside0.mk hc0
 clear hr0 hc0
 have HB := Aside0.mk (Below.refl w.heap.size w)
 have H : (hanaperlaw34_Light.l0 k l0 0) = some r := h
 clear h
 have H' := Aside0.mk H
 clear H
 go_enter Try.func57, Try.ntmps57
 go_wp2
 go_loopg [3] k (fun kq v3 w' => ∃ (x3_1 : Int), v3 = .int .i64 x3_1 ∧ Aside0 (hanaperlaw34_Light.l0 kq l0 x3_1 = some r) ∧ Aside0 (kq ≤ k) ∧ Aside0 (Below w.heap.size w w'))
 case atStart => exact ⟨(0), (by first | rfl | (simp; done) | (simp [*]; done)), H', ⟨Nat.le_refl _⟩, ⟨by repeat (first | (with_reducible first | exact HB.out | apply below_alloc | apply pw_below_drewN | apply below_drew1) | exact HB.out)⟩⟩
 case round =>
  clear H'
  obtain ⟨x3_1, rfl, HA, HK1, HB⟩ := hrel
  cases gk with
  | zero => exact absurd HA.out (by simp [hanaperlaw34_Light.l0])
  | succ k1 =>
   have H := HA.out
   clear HA
   simp only [hanaperlaw34_Light.l0] at H
   have HC2 := Aside0.mk H
   clear H
   go_upto_region 2 with (fail)
   go_cut [11] (fun v11 wc => ∃ (kq : Nat) (x11_1 : Bool), v11 = .bool x11_1 ∧ Aside0 (hanaperlaw34_Light.j1 kq l0 x3_1 x11_1 = some r) ∧ Aside0 (kq ≤ k1) ∧ Aside0 (Below w.heap.size w wc))
   case first =>
    have H := HC2.out
    clear HC2
    by_cases c3 : x3_1 < (l0.length : Int)
    ·rw [if_pos c3] at H
     have c3b0 : decide (x3_1 < (l0.length : Int)) = true := decide_eq_true c3
     clear c3
     (first | rw [c3b0] | (simp only [i64_w, i32_w]; rw [c3b0]) | skip)
     have H' := Aside0.mk H
     clear H
     go_wp2
     go_meet
     case rel => exact ⟨_, (decide (x3_1 < 120)), (by first | rfl | (simp; done) | (simp [*]; done)), H', ⟨by have := HK1.out; first | omega | exact Nat.le_refl _⟩, ⟨by repeat (first | (with_reducible first | exact HB.out | apply below_alloc | apply pw_below_drewN | apply below_drew1) | exact HB.out)⟩⟩
    ·rw [if_neg c3] at H
     have c3b0 : decide (x3_1 < (l0.length : Int)) = false := decide_eq_false c3
     clear c3
     (first | rw [c3b0] | (simp only [i64_w, i32_w]; rw [c3b0]) | skip)
     have H' := Aside0.mk H
     clear H
     go_wp2
     go_meet
     case rel => exact ⟨_, (false), (by first | rfl | (simp; done) | (simp [*]; done)), H', ⟨by have := HK1.out; first | omega | exact Nat.le_refl _⟩, ⟨by repeat (first | (with_reducible first | exact HB.out | apply below_alloc | apply pw_below_drewN | apply below_drew1) | exact HB.out)⟩⟩
   case rest =>
    clear HC2
    (try clear p2);(try clear c3);(try clear c3b0)
    obtain ⟨kq, x11_1, rfl, HA, HJ1, HB⟩ := hcut
    cases kq with
    | zero => exact absurd HA.out (by simp [hanaperlaw34_Light.j1])
    | succ kj1 =>
     have H := HA.out
     clear HA
     simp only [hanaperlaw34_Light.j1] at H
     by_cases c4 : x11_1 = true
     ·subst c4
      have H1 : (if 0 ≤ x3_1 then (if x3_1 < (l0.length : Int) then ((hanaperlaw29_Light.f kj1 ((rd_T77 l0 x3_1).f0) ((rd_T77 l0 x3_1).f1) ((rd_T77 l0 x3_1).f2) ((rd_T77 l0 x3_1).f3) ((rd_T77 l0 x3_1).f4) ((rd_T77 l0 x3_1).f5) ((rd_T77 l0 x3_1).f6) ((rd_T77 l0 x3_1).f7) ((rd_T77 l0 x3_1).f8) ((rd_T77 l0 x3_1).f9.f0) ((rd_T77 l0 x3_1).f9.f1) ((rd_T77 l0 x3_1).f9.f2) ((rd_T77 l0 x3_1).f9.f3) ((rd_T77 l0 x3_1).f9.f4)).bind fun t102 => (if t102 = true then (hanaperlaw34_Light.l0 kj1 l0 (wrap64 (x3_1 + 1))) else (some false))) else (none)) else (none)) = some r := by rw [if_pos rfl] at H; exact H
      clear H
      have H := H1
      clear H1
      by_cases c5 : 0 ≤ x3_1
      ·rw [if_pos c5] at H
       have c5b0 : decide (0 ≤ x3_1) = true := decide_eq_true c5
       clear c5
       by_cases c6 : x3_1 < (l0.length : Int)
       ·rw [if_pos c6] at H
        have c6b0 : decide (x3_1 < (l0.length : Int)) = true := decide_eq_true c6
        clear c6
        replace H := Option.bind_eq_some_iff.mp H
        obtain ⟨t102, A70, H⟩ := H
        replace H : (if t102 = true then (hanaperlaw34_Light.l0 kj1 l0 (wrap64 (x3_1 + 1))) else (some false)) = some r := H
        have A7 := Aside0.mk A70
        clear A70
        by_cases c8 : t102 = true
        ·subst c8
         have H1 : (hanaperlaw34_Light.l0 kj1 l0 (wrap64 (x3_1 + 1))) = some r := by rw [if_pos rfl] at H; exact H
         clear H
         have H := H1
         clear H1
         have H' := Aside0.mk H
         clear H
         have p101 : 0 ≤ (x3_1 : Int) := of_decide_eq_true (by first | (with_reducible assumption) | assumption)
         have q101 : x3_1 < (l0.length : Int) := of_decide_eq_true (by first | (with_reducible assumption) | assumption)
         obtain ⟨ad101, A101_6, c101_6, A101_13, c101_13, e101, hx101_0, hx101_1, hx101_2, hx101_3, hx101_4, hx101_5, hx101_6, hx101_7, hx101_8, hx101_9, hx101_10, hx101_11, hx101_12, hx101_13, hl101_6, hi101_6, hl101_13, hi101_13⟩ := at_T77 HR0.out x3_1 p101 q101
         cases e101
         replace hx101_0 := (HB.out.cell (World.block_lt_of_cell? w _ hx101_0)).trans hx101_0
         replace hx101_1 := (HB.out.cell (World.block_lt_of_cell? w _ hx101_1)).trans hx101_1
         replace hx101_2 := (HB.out.cell (World.block_lt_of_cell? w _ hx101_2)).trans hx101_2
         replace hx101_3 := (HB.out.cell (World.block_lt_of_cell? w _ hx101_3)).trans hx101_3
         replace hx101_4 := (HB.out.cell (World.block_lt_of_cell? w _ hx101_4)).trans hx101_4
         replace hx101_5 := (HB.out.cell (World.block_lt_of_cell? w _ hx101_5)).trans hx101_5
         replace hx101_6 := (HB.out.cell (World.block_lt_of_cell? w _ hx101_6)).trans hx101_6
         replace hx101_7 := (HB.out.cell (World.block_lt_of_cell? w _ hx101_7)).trans hx101_7
         replace hx101_8 := (HB.out.cell (World.block_lt_of_cell? w _ hx101_8)).trans hx101_8
         replace hx101_9 := (HB.out.cell (World.block_lt_of_cell? w _ hx101_9)).trans hx101_9
         replace hx101_10 := (HB.out.cell (World.block_lt_of_cell? w _ hx101_10)).trans hx101_10
         replace hx101_11 := (HB.out.cell (World.block_lt_of_cell? w _ hx101_11)).trans hx101_11
         replace hx101_12 := (HB.out.cell (World.block_lt_of_cell? w _ hx101_12)).trans hx101_12
         replace hx101_13 := (HB.out.cell (World.block_lt_of_cell? w _ hx101_13)).trans hx101_13
         have HR101_6 := Aside0.mk hi101_6
         have HC101_6 := Aside0.mk hl101_6
         clear hi101_6 hl101_6
         have HR101_13 := Aside0.mk hi101_13
         have HC101_13 := Aside0.mk hl101_13
         clear hi101_13 hl101_13
         replace p101 := eq_true p101
         replace q101 := eq_true q101
         go_wp2_with (first | ((with_reducible refine gate_callee (f := 62) rfl ?_); refine goesL_ (some 18) rfl rfl Try.func62 (by kernel_rfl) rfl #[.agg #[.int .i64 ((rd_T77 l0 x3_1).f0), .string ((rd_T77 l0 x3_1).f1), .string ((rd_T77 l0 x3_1).f2), .string ((rd_T77 l0 x3_1).f3), .string ((rd_T77 l0 x3_1).f4), .int .i64 ((rd_T77 l0 x3_1).f5), .slice A101_6 ((rd_T77 l0 x3_1).f6).length c101_6, .int .u64 ((rd_T77 l0 x3_1).f7), .int .u64 ((rd_T77 l0 x3_1).f8), .int .i64 ((rd_T77 l0 x3_1).f9.f0), .string ((rd_T77 l0 x3_1).f9.f1), .int .i64 ((rd_T77 l0 x3_1).f9.f2), .int .i64 ((rd_T77 l0 x3_1).f9.f3), .slice A101_13 ((rd_T77 l0 x3_1).f9.f4).length c101_13]] rfl (by (try simp only [List.map_toArray, List.map_cons, List.map_nil]); first | done | rfl | (simp only [List.length_drop, List.length_take]; rfl)) ?_; (with_reducible refine (hanaperlaw29_Light.calls kj1 ((rd_T77 l0 x3_1).f0) ((rd_T77 l0 x3_1).f1) ((rd_T77 l0 x3_1).f2) ((rd_T77 l0 x3_1).f3) ((rd_T77 l0 x3_1).f4) ((rd_T77 l0 x3_1).f5) _ _ ((rd_T77 l0 x3_1).f6) ((rd_T77 l0 x3_1).f7) ((rd_T77 l0 x3_1).f8) ((rd_T77 l0 x3_1).f9.f0) ((rd_T77 l0 x3_1).f9.f1) ((rd_T77 l0 x3_1).f9.f2) ((rd_T77 l0 x3_1).f9.f3) _ _ ((rd_T77 l0 x3_1).f9.f4) true _ ?side1 ?side2 ?side3 ?side4 A7.out).mono ?_); (case side1 => repeat (first | exact (Kd.C_below HR101_6.out HB.out) | (with_reducible refine Kd.C_alloc ?_ _) | (with_reducible refine Kd.C_drewN ?_ _) | (with_reducible refine Kd.C_drew ?_))); (case side2 => exact HC101_6.out); (case side3 => repeat (first | exact (Kd.C_below HR101_13.out HB.out) | (with_reducible refine Kd.C_alloc ?_ _) | (with_reducible refine Kd.C_drewN ?_ _) | (with_reducible refine Kd.C_drew ?_))); (case side4 => exact HC101_13.out); rintro e w9 ⟨rfl, hb⟩; refine ⟨_, rfl, ?_⟩; have n0_ := Aside0.mk (below_step (by repeat (first | (with_reducible first | exact HB.out | apply below_alloc | apply pw_below_drewN | apply below_drew1) | exact HB.out)) hb); clear HB; have HB := n0_; clear n0_; (try clear hb); (try clear hb2); (try clear hk); (try clear hi)))
         go_roundg kj1
         case measure => have := HK1.out; have := HJ1.out; omega
         case rel => exact ⟨(wrap64 (x3_1 + 1)), (by first | rfl | (simp; done) | (simp [*]; done)), H', ⟨by have := HK1.out; have := HJ1.out; omega⟩, ⟨by repeat (first | (with_reducible first | exact HB.out | apply below_alloc | apply pw_below_drewN | apply below_drew1) | exact HB.out)⟩⟩
        ·replace c8 := Bool.eq_false_iff.mpr c8
         subst c8
         have H1 : (some false) = some r := by rw [if_neg (show ¬ (false = true) by decide)] at H; exact H
         clear H
         have H := H1
         clear H1
         obtain rfl := Option.some.inj H
         have p101 : 0 ≤ (x3_1 : Int) := of_decide_eq_true (by first | (with_reducible assumption) | assumption)
         have q101 : x3_1 < (l0.length : Int) := of_decide_eq_true (by first | (with_reducible assumption) | assumption)
         obtain ⟨ad101, A101_6, c101_6, A101_13, c101_13, e101, hx101_0, hx101_1, hx101_2, hx101_3, hx101_4, hx101_5, hx101_6, hx101_7, hx101_8, hx101_9, hx101_10, hx101_11, hx101_12, hx101_13, hl101_6, hi101_6, hl101_13, hi101_13⟩ := at_T77 HR0.out x3_1 p101 q101
         cases e101
         replace hx101_0 := (HB.out.cell (World.block_lt_of_cell? w _ hx101_0)).trans hx101_0
         replace hx101_1 := (HB.out.cell (World.block_lt_of_cell? w _ hx101_1)).trans hx101_1
         replace hx101_2 := (HB.out.cell (World.block_lt_of_cell? w _ hx101_2)).trans hx101_2
         replace hx101_3 := (HB.out.cell (World.block_lt_of_cell? w _ hx101_3)).trans hx101_3
         replace hx101_4 := (HB.out.cell (World.block_lt_of_cell? w _ hx101_4)).trans hx101_4
         replace hx101_5 := (HB.out.cell (World.block_lt_of_cell? w _ hx101_5)).trans hx101_5
         replace hx101_6 := (HB.out.cell (World.block_lt_of_cell? w _ hx101_6)).trans hx101_6
         replace hx101_7 := (HB.out.cell (World.block_lt_of_cell? w _ hx101_7)).trans hx101_7
         replace hx101_8 := (HB.out.cell (World.block_lt_of_cell? w _ hx101_8)).trans hx101_8
         replace hx101_9 := (HB.out.cell (World.block_lt_of_cell? w _ hx101_9)).trans hx101_9
         replace hx101_10 := (HB.out.cell (World.block_lt_of_cell? w _ hx101_10)).trans hx101_10
         replace hx101_11 := (HB.out.cell (World.block_lt_of_cell? w _ hx101_11)).trans hx101_11
         replace hx101_12 := (HB.out.cell (World.block_lt_of_cell? w _ hx101_12)).trans hx101_12
         replace hx101_13 := (HB.out.cell (World.block_lt_of_cell? w _ hx101_13)).trans hx101_13
         have HR101_6 := Aside0.mk hi101_6
         have HC101_6 := Aside0.mk hl101_6
         clear hi101_6 hl101_6
         have HR101_13 := Aside0.mk hi101_13
         have HC101_13 := Aside0.mk hl101_13
         clear hi101_13 hl101_13
         replace p101 := eq_true p101
         replace q101 := eq_true q101
         go_wp2_with (first | ((with_reducible refine gate_callee (f := 62) rfl ?_); refine goesL_ (some 18) rfl rfl Try.func62 (by kernel_rfl) rfl #[.agg #[.int .i64 ((rd_T77 l0 x3_1).f0), .string ((rd_T77 l0 x3_1).f1), .string ((rd_T77 l0 x3_1).f2), .string ((rd_T77 l0 x3_1).f3), .string ((rd_T77 l0 x3_1).f4), .int .i64 ((rd_T77 l0 x3_1).f5), .slice A101_6 ((rd_T77 l0 x3_1).f6).length c101_6, .int .u64 ((rd_T77 l0 x3_1).f7), .int .u64 ((rd_T77 l0 x3_1).f8), .int .i64 ((rd_T77 l0 x3_1).f9.f0), .string ((rd_T77 l0 x3_1).f9.f1), .int .i64 ((rd_T77 l0 x3_1).f9.f2), .int .i64 ((rd_T77 l0 x3_1).f9.f3), .slice A101_13 ((rd_T77 l0 x3_1).f9.f4).length c101_13]] rfl (by (try simp only [List.map_toArray, List.map_cons, List.map_nil]); first | done | rfl | (simp only [List.length_drop, List.length_take]; rfl)) ?_; (with_reducible refine (hanaperlaw29_Light.calls kj1 ((rd_T77 l0 x3_1).f0) ((rd_T77 l0 x3_1).f1) ((rd_T77 l0 x3_1).f2) ((rd_T77 l0 x3_1).f3) ((rd_T77 l0 x3_1).f4) ((rd_T77 l0 x3_1).f5) _ _ ((rd_T77 l0 x3_1).f6) ((rd_T77 l0 x3_1).f7) ((rd_T77 l0 x3_1).f8) ((rd_T77 l0 x3_1).f9.f0) ((rd_T77 l0 x3_1).f9.f1) ((rd_T77 l0 x3_1).f9.f2) ((rd_T77 l0 x3_1).f9.f3) _ _ ((rd_T77 l0 x3_1).f9.f4) false _ ?side1 ?side2 ?side3 ?side4 A7.out).mono ?_); (case side1 => repeat (first | exact (Kd.C_below HR101_6.out HB.out) | (with_reducible refine Kd.C_alloc ?_ _) | (with_reducible refine Kd.C_drewN ?_ _) | (with_reducible refine Kd.C_drew ?_))); (case side2 => exact HC101_6.out); (case side3 => repeat (first | exact (Kd.C_below HR101_13.out HB.out) | (with_reducible refine Kd.C_alloc ?_ _) | (with_reducible refine Kd.C_drewN ?_ _) | (with_reducible refine Kd.C_drew ?_))); (case side4 => exact HC101_13.out); rintro e w10 ⟨rfl, hb⟩; refine ⟨_, rfl, ?_⟩; have n0_ := Aside0.mk (below_step (by repeat (first | (with_reducible first | exact HB.out | apply below_alloc | apply pw_below_drewN | apply below_drew1) | exact HB.out)) hb); clear HB; have HB := n0_; clear n0_; (try clear hb); (try clear hb2); (try clear hk); (try clear hi)))
         go_ret
         exact ⟨by first | rfl | (simp [errW_none, errW_some] <;> rfl) | (simp [*, errW_none, errW_some] <;> rfl), by repeat (first | (with_reducible first | exact HB.out | apply below_alloc | apply pw_below_drewN | apply below_drew1) | exact HB.out)⟩
       ·rw [if_neg c6] at H
        exact absurd H (by simp)
      ·rw [if_neg c5] at H
       exact absurd H (by simp)
     ·replace c4 := Bool.eq_false_iff.mpr c4
      subst c4
      have H1 : (some (decide ((l0.length : Int) ≤ 100))) = some r := by rw [if_neg (show ¬ (false = true) by decide)] at H; exact H
      clear H
      have H := H1
      clear H1
      obtain rfl := Option.some.inj H
      go_wp2
      go_ret
      exact ⟨by first | rfl | (simp [errW_none, errW_some] <;> rfl) | (simp [*, errW_none, errW_some] <;> rfl), by repeat (first | (with_reducible first | exact HB.out | apply below_alloc | apply pw_below_drewN | apply below_drew1) | exact HB.out)⟩

end Go.Proofs.Ytobljmgoengofaa.PZ
/- plan: what a command weighs, how much room commands need, and whether they fit: the printed functions' values. -/
namespace Go.Proofs.Ytobljmgoengofaa.Plan
set_option linter.unusedVariables false
set_option linter.unusedSimpArgs false
open Go.RowKit Go.Proofs.YtobljmgoengofaaW.PrintWords Go.Proofs.YtobljmgoengofaaW.PrintMore Go.Proofs.Ytobljmgoengofaa.PZ Go.Proofs.Ytobljmgoengofaa.Aid Go.Proofs.Ytobljmgoengofaa.Lo Go.Proofs.Ytobljmgoengofaa.Scope
abbrev SC := S77
def putB (x : S75) : List Int := if mayB x = true then putS x else []
/-- What a command weighs, and how many events it has. -/
def wgt (x : SC) : Int × Int :=
  if x.f0 = 3 then (20, 1) else if x.f0 = 4 then (21, 1) else if x.f0 = 7 then (26, 1) else if x.f0 = 5 then (150, 2) else if x.f0 = 18 then (4, 1)
  else if x.f0 = 9 ∨ x.f0 = 11 then (26 + ((putB x.f9).length : Int), 1)
  else if x.f0 = 2 ∨ x.f0 = 8 ∨ x.f0 = 10 ∨ x.f0 = 12 ∨ x.f0 = 14 ∨ x.f0 = 15 ∨ x.f0 = 16 ∨ x.f0 = 17 then (0, 1) else (0, 0)
def lightC (x : SC) : Prop := short x.f9 ∧ nodes x.f9 ≤ 60
theorem putB_len {x : SC} (h : lightC x) : (putB x.f9).length ≤ 6600 := by
  have := put_len _ x.f9 (Nat.lt_succ_self _) h.1
  have := h.2
  unfold putB
  split
  · omega
  · simp
theorem wgt_rng {x : SC} (h : lightC x) : (0 ≤ (wgt x).1 ∧ (wgt x).1 ≤ 7000) ∧ 0 ≤ (wgt x).2 ∧ (wgt x).2 ≤ 2 := by
  have := putB_len h
  unfold wgt
  repeat' split
  all_goals (dsimp only; omega)
theorem put_v {x : S75} (hs : short x) (hN : nodes x ≤ 60) : Ev (fun k => scope_Put.f k x.f0 x.f1 x.f2 x.f3 x.f4) (putB x, if mayB x = true then 0 else 1) := by
  have h := Put_ev x hs hN
  unfold putB
  by_cases c : mayB x = true
  · rw [if_pos c] at h; rw [if_pos c, if_pos c]; exact h
  · rw [if_neg c] at h; rw [if_neg c, if_neg c]; exact h
theorem rput_v {x : S75} (hs : short x) (hN : nodes x ≤ 60) : Ev (fun k => hanaperref20_Put.f k x.f0 x.f1 x.f2 x.f3 x.f4) (putB x, if mayB x = true then 0 else 1) := by
  have h := rPut_ev x hs hN
  unfold putB
  by_cases c : mayB x = true
  · rw [if_pos c] at h; rw [if_pos c, if_pos c]; exact h
  · rw [if_neg c] at h; rw [if_neg c, if_neg c]; exact h
theorem val {α : Type} {g : Nat → Option α} {r s : α} (h : s = r) (e : Ev g r) : Ev g s := h ▸ e
theorem j1_ev (x : SC) (b : Bool) : Ev (fun k => plan_weight.j1 k b x.f0 x.f1 x.f2 x.f3 x.f4 x.f5 x.f6 x.f7 x.f8 x.f9.f0 x.f9.f1 x.f9.f2 x.f9.f3 x.f9.f4) (if b = true then (0, 0) else if x.f0 < 1 then (0, 0) else if x.f0 > 22 then (0, 0) else (0, 1)) := by
  refine Ev.step (fun k => by simp only [plan_weight.j1]; rfl) ?_
  by_cases c : b = true
  · exact val (if_pos c) (pos c (now rfl))
  refine val (if_neg c) (neg c ?_)
  by_cases c : x.f0 < 1
  · exact val (if_pos c) (pos c (now rfl))
  refine val (if_neg c) (neg c ?_)
  by_cases c : x.f0 > 22
  · exact val (if_pos c) (pos c (now rfl))
  exact val (if_neg c) (neg c (now rfl))
theorem j1_one (x : SC) {n : Int} (h : x.f0 = n) : Ev (fun k => plan_weight.j1 k (x.f0 == n) x.f0 x.f1 x.f2 x.f3 x.f4 x.f5 x.f6 x.f7 x.f8 x.f9.f0 x.f9.f1 x.f9.f2 x.f9.f3 x.f9.f4) (0, 0) := by
  have e := j1_ev x (x.f0 == n)
  rw [if_pos (by simp [h])] at e
  exact e
theorem j0_put {x : SC} (h : lightC x) (y : Int) (b : Bool) (hb : b = true) : Ev (fun k => plan_weight.j0 k y b x.f0 x.f1 x.f2 x.f3 x.f4 x.f5 x.f6 x.f7 x.f8 x.f9.f0 x.f9.f1 x.f9.f2 x.f9.f3 x.f9.f4) (26 + ((putB x.f9).length : Int), 1) := by
  have := putB_len h
  have e : wrap64 (26 + ((putB x.f9).length : Int)) = 26 + ((putB x.f9).length : Int) := w64 (by omega) (by omega)
  refine Ev.step (fun k => by simp only [plan_weight.j0]; rfl) (pos hb (evBind (put_v h.1 h.2) ?_))
  show Ev (fun _ => some (wrap64 (26 + ((putB x.f9).length : Int)), (1 : Int))) (26 + ((putB x.f9).length : Int), 1)
  rw [e]
  exact now rfl
theorem rj0_put {x : SC} (h : lightC x) (y : Int) (b : Bool) (hb : b = true) : Ev (fun k => hanaperref34_weight.j0 k y b x.f0 x.f1 x.f2 x.f3 x.f4 x.f5 x.f6 x.f7 x.f8 x.f9.f0 x.f9.f1 x.f9.f2 x.f9.f3 x.f9.f4) (26 + ((putB x.f9).length : Int), 1) := by
  have := putB_len h
  have e : wrap64 (26 + ((putB x.f9).length : Int)) = 26 + ((putB x.f9).length : Int) := w64 (by omega) (by omega)
  refine Ev.step (fun k => by simp only [hanaperref34_weight.j0]; rfl) (pos hb (evBind (rput_v h.1 h.2) ?_))
  show Ev (fun _ => some (wrap64 (26 + ((putB x.f9).length : Int)), (1 : Int))) (26 + ((putB x.f9).length : Int), 1)
  rw [e]
  exact now rfl
theorem w_ev (x : SC) (h : lightC x) : Ev (fun k => plan_weight.f k x.f0 x.f1 x.f2 x.f3 x.f4 x.f5 x.f6 x.f7 x.f8 x.f9.f0 x.f9.f1 x.f9.f2 x.f9.f3 x.f9.f4) (wgt x) := by
  unfold plan_weight.f wgt
  by_cases c3 : x.f0 = 3
  · exact val (if_pos c3) (pos c3 (now rfl))
  refine val (if_neg c3) (neg c3 ?_)
  by_cases c4 : x.f0 = 4
  · exact val (if_pos c4) (pos c4 (now rfl))
  refine val (if_neg c4) (neg c4 ?_)
  by_cases c7 : x.f0 = 7
  · exact val (if_pos c7) (pos c7 (now rfl))
  refine val (if_neg c7) (neg c7 ?_)
  by_cases c5 : x.f0 = 5
  · exact val (if_pos c5) (pos c5 (now rfl))
  refine val (if_neg c5) (neg c5 ?_)
  by_cases c18 : x.f0 = 18
  · exact val (if_pos c18) (pos c18 (now rfl))
  refine val (if_neg c18) (neg c18 ?_)
  by_cases c9 : x.f0 = 9
  · exact val (if_pos (.inl c9)) (pos c9 (j0_put h _ _ (by simp [c9])))
  refine neg c9 ?_
  by_cases c11 : x.f0 = 11
  · exact val (if_pos (.inr c11)) (j0_put h _ _ (by simp [c11]))
  refine val (if_neg (show ¬ (x.f0 = 9 ∨ x.f0 = 11) by omega)) ?_
  refine Ev.step (fun k => by simp only [plan_weight.j0]; rfl) (neg (by simp [c11]) ?_)
  by_cases c1 : x.f0 = 1
  · exact val (if_neg (by omega)) (pos c1 (j1_one x c1))
  refine neg c1 ?_
  by_cases c1 : x.f0 = 6
  · exact val (if_neg (by omega)) (pos c1 (j1_one x c1))
  refine neg c1 ?_
  by_cases c1 : x.f0 = 13
  · exact val (if_neg (by omega)) (pos c1 (j1_one x c1))
  refine neg c1 ?_
  by_cases c1 : x.f0 = 19
  · exact val (if_neg (by omega)) (pos c1 (j1_one x c1))
  refine neg c1 ?_
  by_cases c1 : x.f0 = 20
  · exact val (if_neg (by omega)) (pos c1 (j1_one x c1))
  refine neg c1 ?_
  by_cases c1 : x.f0 = 21
  · exact val (if_neg (by omega)) (pos c1 (j1_one x c1))
  refine neg c1 ?_
  by_cases c22 : x.f0 = 22
  · exact val (if_neg (by omega)) (j1_one x c22)
  have e := j1_ev x (x.f0 == 22)
  rw [if_neg (by simp [c22])] at e
  by_cases cl : x.f0 < 1
  · rw [if_pos cl] at e; exact val (if_neg (by omega)) (e)
  rw [if_neg cl] at e
  by_cases cg : x.f0 > 22
  · rw [if_pos cg] at e; exact val (if_neg (by omega)) (e)
  rw [if_neg cg] at e; exact val (if_pos (by omega)) (e)
theorem rw_ev (x : SC) (h : lightC x) : Ev (fun k => hanaperref34_weight.f k x.f0 x.f1 x.f2 x.f3 x.f4 x.f5 x.f6 x.f7 x.f8 x.f9.f0 x.f9.f1 x.f9.f2 x.f9.f3 x.f9.f4) (wgt x) := by
  unfold hanaperref34_weight.f wgt
  by_cases c3 : x.f0 = 3
  · exact val (if_pos c3) (pos c3 (now rfl))
  refine val (if_neg c3) (neg c3 ?_)
  by_cases c4 : x.f0 = 4
  · exact val (if_pos c4) (pos c4 (now rfl))
  refine val (if_neg c4) (neg c4 ?_)
  by_cases c5 : x.f0 = 5
  · exact val ((if_neg (show ¬ x.f0 = 7 by omega)).trans (if_pos c5)) (pos c5 (now rfl))
  refine neg c5 ?_
  by_cases c7 : x.f0 = 7
  · exact val (if_pos c7) (pos c7 (now rfl))
  refine val ((if_neg c7).trans (if_neg c5)) (neg c7 ?_)
  by_cases c9 : x.f0 = 9
  · exact val ((if_neg (show ¬ x.f0 = 18 by omega)).trans (if_pos (.inl c9))) (pos c9 (rj0_put h _ _ (by simp [c9])))
  refine neg c9 ?_
  by_cases c11 : x.f0 = 11
  · exact val ((if_neg (show ¬ x.f0 = 18 by omega)).trans (if_pos (.inr c11))) (rj0_put h _ _ (by simp [c11]))
  refine Ev.step (fun k => by simp only [hanaperref34_weight.j0]; rfl) (neg (by simp [c11]) ?_)
  by_cases c18 : x.f0 = 18
  · exact val (if_pos c18) (pos c18 (now rfl))
  refine val ((if_neg c18).trans (if_neg (show ¬ (x.f0 = 9 ∨ x.f0 = 11) by omega))) (neg c18 ?_)
  by_cases c1 : x.f0 = 2
  · exact val (if_pos (by omega)) (pos c1 (now rfl))
  refine neg c1 ?_
  by_cases c1 : x.f0 = 8
  · exact val (if_pos (by omega)) (pos c1 (now rfl))
  refine neg c1 ?_
  by_cases c1 : x.f0 = 10
  · exact val (if_pos (by omega)) (pos c1 (now rfl))
  refine neg c1 ?_
  by_cases c1 : x.f0 = 12
  · exact val (if_pos (by omega)) (pos c1 (now rfl))
  refine neg c1 ?_
  by_cases c1 : x.f0 = 14
  · exact val (if_pos (by omega)) (pos c1 (now rfl))
  refine neg c1 ?_
  by_cases c1 : x.f0 = 15
  · exact val (if_pos (by omega)) (pos c1 (now rfl))
  refine neg c1 ?_
  by_cases c1 : x.f0 = 16
  · exact val (if_pos (by omega)) (pos c1 (now rfl))
  refine neg c1 ?_
  by_cases c1 : x.f0 = 17
  · exact val (if_pos (by omega)) (pos c1 (now rfl))
  exact val (if_neg (by omega)) (neg c1 (now rfl))
/-- The sums over commands: weights, events, records, subjects. -/
structure Sums where
  w : Int
  e : Int
  r : Int
  s : Int
def stepN (t : Sums) (x : SC) : Sums := ⟨mn (t.w + (wgt x).1) 1000000, mn (t.e + (wgt x).2) 1000000, if x.f0 = 5 then mn (t.r + 1) 1000000 else t.r, if x.f0 = 4 then mn (t.s + 1) 16 else t.s⟩
def Sums.ok (t : Sums) : Prop := (0 ≤ t.w ∧ t.w ≤ 1000000) ∧ (0 ≤ t.e ∧ t.e ≤ 1000000) ∧ (0 ≤ t.r ∧ t.r ≤ 1000000) ∧ (0 ≤ t.s ∧ t.s ≤ 16)
theorem mn_rng {a b : Int} (h0 : 0 ≤ a) (hb : 0 ≤ b) : 0 ≤ mn a b ∧ mn a b ≤ b := by unfold mn; split <;> omega
theorem step_ok {t : Sums} {x : SC} (h : t.ok) (hx : lightC x) : (stepN t x).ok := by
  obtain ⟨⟨w0, w1⟩, ⟨e0, e1⟩, ⟨r0, r1⟩, s0, s1⟩ := h
  obtain ⟨⟨a0, a1⟩, b0, b1⟩ := wgt_rng hx
  unfold stepN Sums.ok
  dsimp only
  refine ⟨mn_rng (by omega) (by omega), mn_rng (by omega) (by omega), ?_, ?_⟩
  · split
    · exact mn_rng (by omega) (by omega)
    · omega
  · split
    · exact mn_rng (by omega) (by omega)
    · omega
/-- The config that sums tell. -/
def finN (t : Sums) : Int × Int × Int × Int :=
  let c := (954 + t.w) / 255
  let a := (286 + 90 * t.e) / 255
  let r := c + a + 2 * t.r + 10
  (r + 2 + r / 120, 3 + t.r, t.s, c + a + t.r + 5)
theorem pages_v {n : Int} (h0 : 0 ≤ n) (h1 : n ≤ 1000000000) : plan_pages.f n = some ((n + 254) / 255) ∧ hanaperref34_Pages.f n = some ((n + 254) / 255) := by
  unfold plan_pages.f hanaperref34_Pages.f
  rw [w64 (x := n + 255) (by omega) (by omega), w64 (x := n + 255 - 1) (by omega) (by omega), w64 (x := n + 254) (by omega) (by omega), show n + 255 - 1 = n + 254 by omega, Int.tdiv_eq_ediv_of_nonneg (by omega), w64 (by omega) (by omega)]
  exact ⟨rfl, rfl⟩
theorem fin_v {t : Sums} (h : t.ok) {c a : Int} (hc : c = (954 + t.w) / 255) (ha : a = (286 + 90 * t.e) / 255) :
    (wrap64 ((wrap64 ((wrap64 ((wrap64 ((wrap64 (c + a)) + (wrap64 (2 * t.r)))) + 10)) + 2)) + (wrap64 (Int.tdiv (wrap64 ((wrap64 ((wrap64 (c + a)) + (wrap64 (2 * t.r)))) + 10)) 120))), wrap64 (3 + t.r), t.s, wrap64 ((wrap64 ((wrap64 (c + a)) + t.r)) + 5)) = finN t := by
  obtain ⟨⟨w0, w1⟩, ⟨e0, e1⟩, ⟨r0, r1⟩, s0, s1⟩ := h
  rw [w64 (x := c + a) (by omega) (by omega), w64 (x := 2 * t.r) (by omega) (by omega), w64 (x := c + a + 2 * t.r) (by omega) (by omega), w64 (x := c + a + 2 * t.r + 10) (by omega) (by omega), Int.tdiv_eq_ediv_of_nonneg (by omega), w64 (x := (c + a + 2 * t.r + 10) / 120) (by omega) (by omega), w64 (x := c + a + 2 * t.r + 10 + 2) (by omega) (by omega), w64 (x := c + a + 2 * t.r + 10 + 2 + (c + a + 2 * t.r + 10) / 120) (by omega) (by omega), w64 (x := 3 + t.r) (by omega) (by omega), w64 (x := c + a + t.r) (by omega) (by omega), w64 (x := c + a + t.r + 5) (by omega) (by omega), hc, ha]
  rfl
theorem rd_c (xs : List SC) (i : Nat) (h : i < xs.length) : rd_T77 xs (i : Int) = xs[i] := by simp [rd_T77, List.getD_eq_getElem?_getD, List.getElem?_eq_getElem h]
theorem need_loop (l : List SC) (hl : l.length ≤ 1000) (hL : ∀ x ∈ l, lightC x) : ∀ (n i : Nat) (t : Sums), i ≤ l.length → l.length - i = n → t.ok → Ev (fun k => plan_Need.l0 k t.w t.e t.r t.s l (l.length : Int) (i : Int)) (finN ((l.drop i).foldl stepN t)) := by
  intro n
  induction n with
  | zero =>
    intro i t hi hn ht
    rw [List.drop_eq_nil_of_le (by omega)]
    obtain ⟨⟨w0, w1⟩, ⟨e0, e1⟩, ⟨r0, r1⟩, s0, s1⟩ := id ht
    refine Ev.step (fun k => by simp only [plan_Need.l0]; rfl) (neg (by omega) ?_)
    refine bindSome (a := (954 + t.w) / 255) (by rw [w64 (by omega) (by omega), (pages_v (by omega) (by omega)).1, show 700 + t.w + 254 = 954 + t.w by omega]) ?_
    refine bindSome (a := (286 + 90 * t.e) / 255) (by rw [w64 (x := 90 * t.e) (by omega) (by omega), w64 (by omega) (by omega), (pages_v (by omega) (by omega)).1, show 32 + 90 * t.e + 254 = 286 + 90 * t.e by omega]) ?_
    exact now (fin_v ht rfl rfl)
  | succ n ih =>
    intro i t hi hn ht
    have hlt : i < l.length := by omega
    rw [drop_cons _ _ hlt, List.foldl_cons]
    have hx := hL l[i] (List.getElem_mem hlt)
    have hs := step_ok ht hx
    have hr := ih (i + 1) (stepN t l[i]) (by omega) (by omega) hs
    obtain ⟨⟨w0, w1⟩, ⟨e0, e1⟩, ⟨r0, r1⟩, s0, s1⟩ := ht
    obtain ⟨⟨a0, a1⟩, b0, b1⟩ := wgt_rng hx
    refine Ev.step (fun k => by simp only [plan_Need.l0]; rfl) (pos (by omega) (pos (by omega) (pos (by omega) ?_)))
    rw [rd_c _ _ hlt]
    refine evBind (w_ev _ hx) ?_
    rw [inc hlt (by omega), w64 (x := t.w + (wgt l[i]).1) (by omega) (by omega), w64 (x := t.e + (wgt l[i]).2) (by omega) (by omega), w64 (x := t.r + 1) (by omega) (by omega), w64 (x := t.s + 1) (by omega) (by omega)]
    unfold stepN at hr ⊢
    dsimp only at hr ⊢
    by_cases c5 : l[i].f0 = 5
    · rw [if_pos c5, if_neg (by omega)] at hr ⊢
      exact pos c5 hr
    · rw [if_neg c5] at hr ⊢
      refine neg c5 ?_
      by_cases c4 : l[i].f0 = 4
      · rw [if_pos c4] at hr ⊢
        exact pos c4 hr
      · rw [if_neg c4] at hr ⊢
        exact neg c4 hr
theorem stop_v (n : Int) : hanaperref34_stop.f n = some (mn n 1000000) := by
  unfold hanaperref34_stop.f mn
  by_cases c : n > 1000000
  · rw [if_pos c, if_pos (by omega)]
  · rw [if_neg c, if_neg (by omega)]
theorem rneed_loop (l : List SC) (hl : l.length ≤ 1000) (hL : ∀ x ∈ l, lightC x) : ∀ (n i : Nat) (t : Sums), i ≤ l.length → l.length - i = n → t.ok → Ev (fun k => hanaperref34_Need.l0 k l t.w t.e t.r t.s (i : Int)) (finN ((l.drop i).foldl stepN t)) := by
  intro n
  induction n with
  | zero =>
    intro i t hi hn ht
    rw [List.drop_eq_nil_of_le (by omega)]
    obtain ⟨⟨w0, w1⟩, ⟨e0, e1⟩, ⟨r0, r1⟩, s0, s1⟩ := id ht
    refine Ev.step (fun k => by simp only [hanaperref34_Need.l0]; rfl) (neg (by omega) ?_)
    refine bindSome (a := (954 + t.w) / 255) (by rw [w64 (by omega) (by omega), (pages_v (by omega) (by omega)).2, show 700 + t.w + 254 = 954 + t.w by omega]) ?_
    refine bindSome (a := (286 + 90 * t.e) / 255) (by rw [w64 (x := 90 * t.e) (by omega) (by omega), w64 (by omega) (by omega), (pages_v (by omega) (by omega)).2, show 32 + 90 * t.e + 254 = 286 + 90 * t.e by omega]) ?_
    exact now (fin_v ht rfl rfl)
  | succ n ih =>
    intro i t hi hn ht
    have hlt : i < l.length := by omega
    rw [drop_cons _ _ hlt, List.foldl_cons]
    have hx := hL l[i] (List.getElem_mem hlt)
    have hs := step_ok ht hx
    have hr := ih (i + 1) (stepN t l[i]) (by omega) (by omega) hs
    obtain ⟨⟨w0, w1⟩, ⟨e0, e1⟩, ⟨r0, r1⟩, s0, s1⟩ := ht
    obtain ⟨⟨a0, a1⟩, b0, b1⟩ := wgt_rng hx
    refine Ev.step (fun k => by simp only [hanaperref34_Need.l0]; rfl) (pos (by omega) (pos (by omega) ?_))
    rw [rd_c _ _ hlt]
    refine evBind (rw_ev _ hx) ?_
    rw [inc hlt (by omega), w64 (x := t.w + (wgt l[i]).1) (by omega) (by omega), w64 (x := t.e + (wgt l[i]).2) (by omega) (by omega), w64 (x := t.r + 1) (by omega) (by omega), w64 (x := t.s + 1) (by omega) (by omega)]
    refine bindSome (stop_v _) (bindSome (stop_v _) ?_)
    unfold stepN at hr ⊢
    dsimp only at hr ⊢
    by_cases c5 : l[i].f0 = 5
    · rw [if_pos c5, if_neg (by omega)] at hr ⊢
      exact pos c5 (bindSome (stop_v _) (neg (by omega) hr))
    · rw [if_neg c5] at hr ⊢
      refine neg c5 ?_
      by_cases c4 : l[i].f0 = 4
      · rw [if_pos c4] at hr ⊢
        refine pos c4 ?_
        by_cases cs : t.s < 16
        · rw [show mn (t.s + 1) 16 = t.s + 1 by unfold mn; rw [if_neg (by omega)]] at hr
          rw [show mn (t.s + 1) 16 = t.s + 1 by unfold mn; rw [if_neg (by omega)]]
          exact pos cs hr
        · rw [show mn (t.s + 1) 16 = t.s by unfold mn; rw [if_pos (by omega)]; omega] at hr
          rw [show mn (t.s + 1) 16 = t.s by unfold mn; rw [if_pos (by omega)]; omega]
          exact neg cs hr
      · rw [if_neg c4] at hr ⊢
        exact neg c4 hr
def sumN (l : List SC) : Sums := l.foldl stepN ⟨0, 0, 0, 0⟩
theorem zero_ok : (⟨0, 0, 0, 0⟩ : Sums).ok := by unfold Sums.ok; decide
theorem need_ev (l : List SC) (hl : l.length ≤ 1000) (hL : ∀ x ∈ l, lightC x) : Ev (fun k => plan_Need.f k l) (finN (sumN l)) := by
  have h := need_loop l hl hL _ 0 ⟨0, 0, 0, 0⟩ (Nat.zero_le _) rfl zero_ok
  rw [List.drop_zero] at h
  exact h
theorem rneed_ev (l : List SC) (hl : l.length ≤ 1000) (hL : ∀ x ∈ l, lightC x) : Ev (fun k => hanaperref34_Need.f k l) (finN (sumN l)) := by
  have h := rneed_loop l hl hL _ 0 ⟨0, 0, 0, 0⟩ (Nat.zero_le _) rfl zero_ok
  rw [List.drop_zero] at h
  exact h
/-- May a config be? -/
def mayC (a b c d : Int) : Bool := decide ((((2 ≤ a ∧ a ≤ 400) ∧ (1 ≤ b ∧ b ≤ 64)) ∧ ((0 ≤ c ∧ c ≤ 16) ∧ (1 ≤ d ∧ d ≤ 800))) ∧ 1 + a + b + c + d ≤ 1024)
theorem within_v (a lo hi : Int) : store_within.f a lo hi = some (decide (lo ≤ a ∧ a ≤ hi)) := by
  unfold store_within.f
  by_cases c : a ≥ lo
  · rw [if_pos c]; simp [c]
  · rw [if_neg c]; simp [c]
theorem whole_v {a b c d : Int} (ha : 2 ≤ a ∧ a ≤ 400) (hb : 1 ≤ b ∧ b ≤ 64) (hc : 0 ≤ c ∧ c ≤ 16) (hd : 1 ≤ d ∧ d ≤ 800) : wrap64 ((wrap64 ((wrap64 ((wrap64 (1 + a)) + b)) + c)) + d) = 1 + a + b + c + d := by
  rw [w64 (x := 1 + a) (by omega) (by omega), w64 (x := 1 + a + b) (by omega) (by omega), w64 (x := 1 + a + b + c) (by omega) (by omega), w64 (by omega) (by omega)]
theorem check_ev (a b c d : Int) : Ev (fun k => store_Check.f k a b c d) (if mayC a b c d = true then 0 else 1) := by
  have bad : Ev (fun k => store_Check.j0 k true a b c d) 1 := Ev.step (fun k => by simp only [store_Check.j0]; rfl) (pos (show true = true from rfl) (now rfl))
  unfold store_Check.f
  refine bindSome (within_v _ _ _) ?_
  by_cases h1 : 2 ≤ a ∧ a ≤ 400
  · refine pos (decide_eq_true h1) (bindSome (within_v _ _ _) ?_)
    by_cases h2 : 1 ≤ b ∧ b ≤ 64
    · refine pos (decide_eq_true h2) (bindSome (within_v _ _ _) ?_)
      by_cases h3 : 0 ≤ c ∧ c ≤ 16
      · refine pos (decide_eq_true h3) (bindSome (within_v _ _ _) ?_)
        by_cases h4 : 1 ≤ d ∧ d ≤ 800
        · rw [decide_eq_true h4]
          refine Ev.step (fun k => by simp only [store_Check.j0]; rfl) (neg (by decide) (bindSome (show store_whole.f a b c d = some (1 + a + b + c + d) by unfold store_whole.f; rw [whole_v h1 h2 h3 h4]) ?_))
          by_cases h5 : 1 + a + b + c + d > 1024
          · exact val (if_neg (by unfold mayC; simp; omega)) (pos h5 (now rfl))
          · exact val (if_pos (by unfold mayC; simp; omega)) (neg h5 (now rfl))
        · rw [decide_eq_false h4]; exact val (if_neg (by unfold mayC; simp; omega)) bad
      · exact val (if_neg (by unfold mayC; simp; omega)) (neg (by simp; omega) bad)
    · exact val (if_neg (by unfold mayC; simp; omega)) (neg (by simp; omega) bad)
  · exact val (if_neg (by unfold mayC; simp; omega)) (neg (by simp; omega) bad)
theorem rmay_v (a b c d : Int) : hanaperref13_May.f a b c d = some (mayC a b c d) := by
  unfold hanaperref13_May.f
  by_cases h1 : a < 2
  · rw [if_pos h1, show mayC a b c d = false by unfold mayC; simp; omega]
  rw [if_neg h1]
  by_cases h2 : a > 400
  · rw [if_pos h2, show mayC a b c d = false by unfold mayC; simp; omega]
  rw [if_neg h2]
  by_cases h3 : b < 1
  · rw [if_pos h3, show mayC a b c d = false by unfold mayC; simp; omega]
  rw [if_neg h3]
  by_cases h4 : b > 64
  · rw [if_pos h4, show mayC a b c d = false by unfold mayC; simp; omega]
  rw [if_neg h4]
  by_cases h5 : c < 0
  · rw [if_pos h5, show mayC a b c d = false by unfold mayC; simp; omega]
  rw [if_neg h5]
  by_cases h6 : c > 16
  · rw [if_pos h6, show mayC a b c d = false by unfold mayC; simp; omega]
  rw [if_neg h6]
  by_cases h7 : d < 1
  · rw [if_pos h7, show mayC a b c d = false by unfold mayC; simp; omega]
  rw [if_neg h7]
  by_cases h8 : d > 800
  · rw [if_pos h8, show mayC a b c d = false by unfold mayC; simp; omega]
  rw [if_neg h8, whole_v ⟨by omega, by omega⟩ ⟨by omega, by omega⟩ ⟨by omega, by omega⟩ ⟨by omega, by omega⟩]
  congr 1
  unfold mayC
  rw [decide_eq_decide]
  omega
/-- Do commands with these sums fit? -/
def fitsV (a b c d : Int) (n : Int × Int × Int × Int) : Bool := mayC a b c d && (decide (a ≥ n.1) && (decide (b ≥ n.2.1) && (decide (c ≥ n.2.2.1) && decide (d ≥ n.2.2.2))))
theorem fits_ev (a b c d : Int) (l : List SC) (hl : l.length ≤ 1000) (hL : ∀ x ∈ l, lightC x) : Ev (fun k => plan_Fits.f k a b c d l) (fitsV a b c d (finN (sumN l))) := by
  unfold plan_Fits.f fitsV
  refine evBind (need_ev l hl hL) (evBind (check_ev a b c d) ?_)
  cases hm : mayC a b c d with
  | false => exact neg (by decide) (now rfl)
  | true =>
    refine pos (by rfl) ?_
    by_cases h1 : a ≥ (finN (sumN l)).1
    · rw [decide_eq_true h1]; refine pos h1 ?_
      by_cases h2 : b ≥ (finN (sumN l)).2.1
      · rw [decide_eq_true h2]; refine pos h2 ?_
        by_cases h3 : c ≥ (finN (sumN l)).2.2.1
        · rw [decide_eq_true h3]; exact pos h3 (now rfl)
        · rw [decide_eq_false h3]; exact neg h3 (now rfl)
      · rw [decide_eq_false h2]; exact neg h2 (now rfl)
    · rw [decide_eq_false h1]; exact neg h1 (now rfl)
theorem rfits_ev (a b c d : Int) (l : List SC) (hl : l.length ≤ 1000) (hL : ∀ x ∈ l, lightC x) : Ev (fun k => hanaperref34_Fits.f k a b c d l) (fitsV a b c d (finN (sumN l))) := by
  unfold hanaperref34_Fits.f fitsV
  refine evBind (rneed_ev l hl hL) (bindSome (rmay_v a b c d) ?_)
  cases hm : mayC a b c d with
  | false => exact neg (by decide) (now rfl)
  | true =>
    refine pos (by rfl) ?_
    by_cases h2 : b ≥ (finN (sumN l)).2.1
    · rw [decide_eq_true h2]; refine pos h2 ?_
      by_cases h3 : c ≥ (finN (sumN l)).2.2.1
      · rw [decide_eq_true h3]; refine pos h3 ?_
        by_cases h4 : d ≥ (finN (sumN l)).2.2.2
        · rw [decide_eq_true h4]; exact pos h4 (now (by simp))
        · rw [decide_eq_false h4]; exact neg h4 (now (by simp))
      · rw [decide_eq_false h3]; exact neg h3 (now (by simp))
    · rw [decide_eq_false h2]; exact neg h2 (now (by simp))
/-- Light, whatever the commands: yes or no; if yes, they are few, and light. -/
theorem light1_ev (x : SC) : ∃ b, Ev (fun k => hanaperlaw29_Light.f k x.f0 x.f1 x.f2 x.f3 x.f4 x.f5 x.f6 x.f7 x.f8 x.f9.f0 x.f9.f1 x.f9.f2 x.f9.f3 x.f9.f4) b ∧ (b = true → lightC x) := by
  unfold hanaperlaw29_Light.f
  obtain ⟨b, hb, hs⟩ := Small_ev x.f9
  by_cases h1 : (x.f1.size : Int) ≤ 100
  · by_cases h2 : (x.f2.size : Int) ≤ 100
    · by_cases h3 : (x.f3.size : Int) ≤ 100
      · by_cases h4 : (x.f4.size : Int) ≤ 100
        · by_cases h5 : (x.f6.length : Int) ≤ 1000
          · exact ⟨b, pos h1 (pos h2 (pos h3 (pos h4 (pos h5 (evBind hb (now rfl)))))), hs⟩
          · exact ⟨false, pos h1 (pos h2 (pos h3 (pos h4 (neg h5 (now rfl))))), fun h => by cases h⟩
        · exact ⟨false, pos h1 (pos h2 (pos h3 (neg h4 (now rfl)))), fun h => by cases h⟩
      · exact ⟨false, pos h1 (pos h2 (neg h3 (now rfl))), fun h => by cases h⟩
    · exact ⟨false, pos h1 (neg h2 (now rfl)), fun h => by cases h⟩
  · exact ⟨false, neg h1 (now rfl), fun h => by cases h⟩
theorem light_loop (l : List SC) : ∀ (n i : Nat), i ≤ 120 → i ≤ l.length → 120 - i = n → ∃ b, Ev (fun k => hanaperlaw34_Light.l0 k l (i : Int)) b ∧ (b = true → l.length ≤ 100 ∧ ∀ x ∈ l.drop i, lightC x) := by
  have fin : ∀ (i : Nat), (i = l.length ∨ i = 120) → i ≤ l.length → ∃ b, Ev (fun k => hanaperlaw34_Light.j1 k l (i : Int) false) b ∧ (b = true → l.length ≤ 100 ∧ ∀ x ∈ l.drop i, lightC x) := by
    intro i hi hle
    refine ⟨decide ((l.length : Int) ≤ 100), Ev.step (fun k => by simp only [hanaperlaw34_Light.j1]; rfl) (neg (by decide) (now rfl)), fun h => ?_⟩
    have h1 := of_decide_eq_true h
    refine ⟨by omega, ?_⟩
    rw [List.drop_eq_nil_of_le (by omega)]
    simp
  intro n
  induction n with
  | zero =>
    intro i h1 h2 h3
    obtain ⟨b, hb, hx⟩ := fin i (.inr (by omega)) h2
    by_cases c : (i : Int) < (l.length : Int)
    · exact ⟨b, Ev.step (fun k => by simp only [hanaperlaw34_Light.l0]; rfl) (pos c (by rw [decide_eq_false (show ¬ ((i : Int) < 120) by omega)]; exact hb)), hx⟩
    · exact ⟨b, Ev.step (fun k => by simp only [hanaperlaw34_Light.l0]; rfl) (neg c hb), hx⟩
  | succ n ih =>
    intro i h1 h2 h3
    by_cases c : (i : Int) < (l.length : Int)
    · have hlt : i < l.length := by omega
      obtain ⟨b1, hb1, hs1⟩ := light1_ev l[i]
      cases b1 with
      | false =>
        refine ⟨false, Ev.step (fun k => by simp only [hanaperlaw34_Light.l0]; rfl) (pos c ?_), fun h => by cases h⟩
        rw [decide_eq_true (show (i : Int) < 120 by omega)]
        refine Ev.step (fun k => by simp only [hanaperlaw34_Light.j1]; rfl) (pos (show true = true from rfl) (pos (by omega) (pos c ?_)))
        rw [rd_c _ _ hlt]
        exact evBind hb1 (neg (by decide) (now rfl))
      | true =>
        obtain ⟨b, hb, hx⟩ := ih (i + 1) (by omega) (by omega) (by omega)
        refine ⟨b, Ev.step (fun k => by simp only [hanaperlaw34_Light.l0]; rfl) (pos c ?_), fun h => ?_⟩
        · rw [decide_eq_true (show (i : Int) < 120 by omega)]
          refine Ev.step (fun k => by simp only [hanaperlaw34_Light.j1]; rfl) (pos (show true = true from rfl) (pos (by omega) (pos c ?_)))
          rw [rd_c _ _ hlt, show wrap64 ((i : Int) + 1) = ((i + 1 : Nat) : Int) from by rw [w64 (by omega) (by omega)]; rfl]
          exact evBind hb1 (pos rfl hb)
        · obtain ⟨q1, q2⟩ := hx h
          refine ⟨q1, fun x hxm => ?_⟩
          rw [drop_cons _ _ hlt] at hxm
          rcases List.mem_cons.1 hxm with rfl | hxm
          · exact hs1 rfl
          · exact q2 x hxm
    · obtain ⟨b, hb, hx⟩ := fin i (.inl (by omega)) h2
      exact ⟨b, Ev.step (fun k => by simp only [hanaperlaw34_Light.l0]; rfl) (neg c hb), hx⟩
theorem light_ev (l : List SC) : ∃ b, Ev (fun k => hanaperlaw34_Light.f k l) b ∧ (b = true → l.length ≤ 100 ∧ ∀ x ∈ l, lightC x) := by
  have h := light_loop l 120 0 (by decide) (Nat.zero_le _) rfl
  rw [List.drop_zero] at h
  exact h
end Go.Proofs.Ytobljmgoengofaa.Plan
/- What an argument reads as, opened kind by kind: out of the form's reading a value of the kind, whose cells it has. -/
namespace Go.Proofs.Ytobljmgoengofaa.Open
open Go.Proofs.Ytobljmgoengofaa.Base Go.RowKit Go.Proofs.YtobljmgoengofaaW.PrintWords Go.Proofs.YtobljmgoengofaaW.PrintLast Go.Proofs.YtobljmgoengofaaW.PrintMore

/-- With so much fuel, what type t reads as is a value of kind d. -/
def OpensN (P : Program) (n : Nat) (t : TypeId) {α : Type} (d : Kd α) (ok : α → Prop) : Prop :=
  ∀ (H : Type) (enc : TypeId × Value → H) (w : World) (base : Nat) (held : Bool) (cs : List Value) (x : DataW H × List MemPlace), DataW.trod enc P w base (fun _ => true) held n t cs = some x → ∃ v, d.K w v cs ∧ ok v
def Opens (P : Program) (t : TypeId) {α : Type} (d : Kd α) (ok : α → Prop) : Prop := ∀ n, OpensN P n t d ok

theorem opens_int {P : Program} {t : TypeId} {k : IntKind} (ht : P.underlying t = some (.int k)) : Opens P t (Kd.int k) (fun v => (Lit.int k v).wf = true) := by
  intro n H enc w base held cs x h
  obtain ⟨v, rfl, hw, _⟩ : ∃ v, cs = [.int k v] ∧ (Lit.int k v).wf = true ∧ True := by
    cases n with
    | zero => simp [DataW.trod] at h
    | succ n =>
      unfold DataW.trod at h
      rw [ht] at h
      split at h <;> simp_all
  exact ⟨v, rfl, hw⟩
theorem opens_string {P : Program} {t : TypeId} (ht : P.underlying t = some .string) : Opens P t Kd.string (fun s => s.size ≤ maxLen) := by
  intro n H enc w base held cs x h
  obtain ⟨v, rfl, hv⟩ : ∃ v, cs = [.string v] ∧ v.size ≤ maxLen := by
    cases n with
    | zero => simp [DataW.trod] at h
    | succ n =>
      unfold DataW.trod at h
      rw [ht] at h
      split at h <;> simp_all
  exact ⟨v, rfl, hv⟩
theorem choose_list {α : Type} {p : Nat → α → Prop} : ∀ n, (∀ i, i < n → ∃ v, p i v) → ∃ xs : List α, xs.length = n ∧ ∀ i v, xs[i]? = some v → p i v := by
  intro n
  induction n with
  | zero => intro _; exact ⟨[], rfl, fun i v h => by simp at h⟩
  | succ n ih =>
    intro h
    obtain ⟨xs, hl, hx⟩ := ih (fun i hi => h i (by omega))
    obtain ⟨v, hv⟩ := h n (by omega)
    refine ⟨xs ++ [v], by simp [hl], fun i u hu => ?_⟩
    rcases Nat.lt_or_ge i xs.length with hi | hi
    · rw [List.getElem?_append_left hi] at hu; exact hx i u hu
    · have hi' : i = n := by
        have := (List.getElem?_eq_some_iff.1 hu).1
        rw [List.length_append, List.length_singleton] at this
        omega
      subst hi'
      have : v = u := by rw [← hl] at hu; simpa using hu
      subst this
      exact hv
theorem opensN_slice {P : Program} {n : Nat} {t e : TypeId} {α : Type} {d : Kd α} {ok : α → Prop} (ht : P.underlying t = some (.slice e)) (hc : P.cellsOf e = d.sz) (hd : OpensN P n e d ok) : OpensN P (n + 1) t (Kd.slice e d) (fun xs => ∀ x ∈ xs, ok x) := by
  intro H enc w base held cs x h
  rcases DataW.trod_slice ht h with ⟨rfl, _⟩ | ⟨a, len, cap, elems, rest, m, hm, rfl, _, hb, hl, hmx, hel, hi, _⟩
  · exact ⟨[], ⟨none, 0, rfl, by simp, Kd.C_nil _ _⟩, fun x hx => by cases hx⟩
  · have hmn : m = n := by omega
    subst hmn
    obtain ⟨xs, hxl, hxs⟩ := choose_list (α := α) (p := fun i v => ok v ∧ ∃ c, c.length = d.sz ∧ d.K w v c ∧ ∀ j u, c[j]? = some u → w.cell? (a.add (i * d.sz + j)) = some u) len (fun i hil => by
      have h1 := hi i hil
      rw [List.getElem?_eq_getElem (by omega)] at h1
      obtain ⟨cs', h2, h3⟩ := Option.bind_eq_some_iff.1 h1
      obtain ⟨v, hv, hok⟩ := hd _ _ _ _ _ _ _ h3
      obtain ⟨_, h4, h5⟩ := World.cells?_some h2
      refine ⟨v, hok, cs', by rw [h4, hc], hv, fun j u hu => ?_⟩
      have hj : j < cs'.length := (List.getElem?_eq_some_iff.1 hu).1
      have h6 := h5 j (by omega)
      rw [hu, hc] at h6
      rw [← h6, Addr.add_add])
    refine ⟨xs, ⟨some a, cap, by rw [hxl], by omega, ?_⟩, fun x hx => ?_⟩
    · refine ⟨rfl, ?_, fun _ => ⟨a, rfl, fun j p hj => ?_⟩⟩
      · rw [hxl]; simp only [maxLen] at hmx; omega
      · exact (hxs j p hj).2
    · obtain ⟨i, hi, rfl⟩ := List.mem_iff_getElem.1 hx
      exact (hxs i _ (List.getElem?_eq_getElem hi)).1
theorem opens_slice {P : Program} {t e : TypeId} {α : Type} {d : Kd α} {ok : α → Prop} (ht : P.underlying t = some (.slice e)) (hc : P.cellsOf e = d.sz) (hd : Opens P e d ok) : Opens P t (Kd.slice e d) (fun xs => ∀ x ∈ xs, ok x) := by
  intro n
  cases n with
  | zero => intro H enc w base held cs x h; simp [DataW.trod] at h
  | succ n => exact opensN_slice ht hc (hd n)
/-- The fields of a struct from offset o on. -/
def OpensF (P : Program) (n : Nat) (fs : List Field) (o : Nat) {α : Type} (d : Kd α) (ok : α → Prop) : Prop :=
  ∀ (H : Type) (enc : TypeId × Value → H) (w : World) (base : Nat) (held : Bool) (cs : List Value) (xs : List (DataW H × List MemPlace)),
    cs.length = o + d.sz → fs.mapM (fun f => DataW.trod enc P w base (fun _ => true) held n f.type ((cs.drop f.offset).take (P.cellsOf f.type))) = some xs → ∃ v, d.K w v (cs.drop o) ∧ ok v
theorem opensF_one {P : Program} {n : Nat} {f : Field} {o : Nat} {α : Type} {d : Kd α} {ok : α → Prop} (ho : f.offset = o) (hc : P.cellsOf f.type = d.sz) (hd : OpensN P n f.type d ok) : OpensF P n [f] o d ok := by
  intro H enc w base held cs xs hl h
  have h1 := mapM_some_get h 0 f rfl
  cases hx : xs[0]? with
  | none => rw [List.getElem?_eq_none_iff] at hx; have := mapM_some_length h; simp at this; omega
  | some y =>
    rw [hx, ho, List.take_of_length_le (by rw [List.length_drop]; omega)] at h1
    exact hd _ _ _ _ _ _ _ h1
theorem opensF_cons {P : Program} {n : Nat} {f : Field} {fs : List Field} {o : Nat} {α β : Type} {d : Kd α} {d2 : Kd β} {ok : α → Prop} {ok2 : β → Prop} (ho : f.offset = o) (hc : P.cellsOf f.type = d.sz) (hd : OpensN P n f.type d ok) (hr : OpensF P n fs (o + d.sz) d2 ok2) : OpensF P n (f :: fs) o (Kd.pair d d2) (fun v => ok v.1 ∧ ok2 v.2) := by
  intro H enc w base held cs xs hl h
  rw [List.mapM_cons] at h
  obtain ⟨y, h1, h2⟩ := Option.bind_eq_some_iff.1 h
  obtain ⟨ys, h3, h4⟩ := Option.bind_eq_some_iff.1 h2
  have hsz : (Kd.pair d d2).sz = d.sz + d2.sz := rfl
  rw [ho, hc] at h1
  obtain ⟨v1, k1, o1⟩ := hd _ _ _ _ _ _ _ h1
  obtain ⟨v2, k2, o2⟩ := hr _ _ _ _ _ _ _ (by rw [hl, hsz]; omega) h3
  refine ⟨(v1, v2), ⟨(cs.drop o).take d.sz, cs.drop (o + d.sz), ?_, k1, k2⟩, o1, o2⟩
  rw [← List.drop_drop, List.take_append_drop]
theorem opensN_struct {P : Program} {n : Nat} {t : TypeId} {fs : Array Field} {α : Type} {d : Kd α} {ok : α → Prop} (ht : P.underlying t = some (.struct fs)) (hc : P.cellsOf t = d.sz) (hd : OpensF P n fs.toList 0 d ok) : OpensN P (n + 1) t d ok := by
  intro H enc w base held cs x h
  unfold DataW.trod at h
  rw [ht] at h
  have h' : (if cs.length = P.cellsOf t then (fs.toList.mapM fun f => DataW.trod enc P w base (fun _ => true) held n f.type ((cs.drop f.offset).take (P.cellsOf f.type))).map fun xs => (DataW.agg (xs.map (·.1)), xs.flatMap (·.2)) else none) = some x := by
    revert h
    split <;> simp_all
  split at h'
  · next hl =>
    obtain ⟨xs, h1, _⟩ := Option.map_eq_some_iff.1 h'
    have := hd _ _ _ _ _ _ _ (by rw [hl, hc]; omega) h1
    simpa using this
  · cases h'
theorem opens_struct {P : Program} {t : TypeId} {fs : Array Field} {α : Type} {d : Kd α} {ok : α → Prop} (ht : P.underlying t = some (.struct fs)) (hc : P.cellsOf t = d.sz) (hd : ∀ n, OpensF P n fs.toList 0 d ok) : Opens P t d ok := by
  intro n
  cases n with
  | zero => intro H enc w base held cs x h; simp [DataW.trod] at h
  | succ n => exact opensN_struct ht hc (hd n)
/-- An argument, opened. -/
theorem Opens.arg {P : Program} {t : TypeId} {α : Type} {d : Kd α} {ok : α → Prop} (h : Opens P t d ok) {H : Type} {enc : TypeId × Value → H} {w : World} {base : Nat} {held : Bool} {v : Value} {D : DataW H} {ps : List MemPlace} (ht : DataW.Trod enc P w base (fun _ => true) held t v D ps) : ∃ x, d.K w x v.cells.toList ∧ ok x := by
  obtain ⟨n, hn⟩ := ht
  exact h n _ _ _ _ _ _ _ hn
end Go.Proofs.Ytobljmgoengofaa.Open
/- An argument that is a scope. -/
namespace Go.Proofs.Ytobljmgoengofaa.Scope
set_option linter.unusedVariables false
set_option linter.unusedSimpArgs false
open Go.RowKit Go.Proofs.YtobljmgoengofaaW.PrintWords Go.Proofs.Ytobljmgoengofaa.PZ
/-- An argument that is a scope, opened. -/
theorem opensN_scope : ∀ n, Open.OpensN Try.prog n 75 k75 (fun _ => True) := by
  intro n
  induction n using Nat.strongRecOn with
  | _ n ih =>
  cases n with
  | zero => intro H enc w base held cs x h; simp [DataW.trod] at h
  | succ n =>
    have hs : Open.OpensN Try.prog n 73 (Kd.slice 75 k75) (fun _ => True) := by
      cases n with
      | zero => intro H enc w base held cs x h; simp [DataW.trod] at h
      | succ n =>
        intro H enc w base held cs x h
        obtain ⟨v, hv, _⟩ := Open.opensN_slice Try.underlying73 (by kernel_rfl) (ih n (by omega)) H enc w base held cs x h
        exact ⟨v, hv, trivial⟩
    intro H enc w base held cs x h
    obtain ⟨⟨op, nm, fr, to_, kids⟩, ⟨_, _, e0, rfl, _, _, e1, rfl, _, _, e2, rfl, _, _, e3, rfl, ⟨A, c, rfl, hc, hr⟩⟩, _⟩ := Open.opensN_struct Try.underlying75 (by kernel_rfl) (Open.opensF_cons rfl (by kernel_rfl) (Open.opens_int Try.underlying3 n) (Open.opensF_cons rfl (by kernel_rfl) (Open.opens_string Try.underlying9 n) (Open.opensF_cons rfl (by kernel_rfl) (Open.opens_int Try.underlying3 n) (Open.opensF_cons rfl (by kernel_rfl) (Open.opens_int Try.underlying3 n) (Open.opensF_one rfl (by kernel_rfl) hs))))) H enc w base held cs x h
    subst e3 e2 e1
    rw [e0]
    exact ⟨⟨op, nm, fr, to_, kids⟩, k75_mk w ⟨op, nm, fr, to_, kids⟩ hc hr, trivial⟩
theorem opens_scope : Open.Opens Try.prog 75 k75 (fun _ => True) := opensN_scope
end Go.Proofs.Ytobljmgoengofaa.Scope
/- Arguments that are commands. -/
namespace Go.Proofs.Ytobljmgoengofaa.Plan
set_option linter.unusedVariables false
set_option linter.unusedSimpArgs false
open Go.RowKit Go.Proofs.YtobljmgoengofaaW.PrintWords Go.Proofs.Ytobljmgoengofaa.PZ Go.Proofs.Ytobljmgoengofaa.Scope
/-- An argument that is a command, opened. -/
theorem opens_cmd : Open.Opens Try.prog 77 k77 (fun _ => True) := by
  intro n
  cases n with
  | zero => intro H enc w base held cs x h; simp [DataW.trod] at h
  | succ n =>
    intro H enc w base held cs x h
    obtain ⟨⟨a, b1, b2, b3, b4, m, d, s1, s2, sc⟩, ⟨_, _, e0, rfl, _, _, e1, rfl, _, _, e2, rfl, _, _, e3, rfl, _, _, e4, rfl, _, _, e5, rfl, _, _, e6, ⟨A, c, rfl, hc, hr⟩, _, _, e7, rfl, _, _, e8, rfl, hsc⟩, _⟩ := Open.opensN_struct Try.underlying77 (by kernel_rfl)
      (Open.opensF_cons rfl (by kernel_rfl) (Open.opens_int Try.underlying3 n) (Open.opensF_cons rfl (by kernel_rfl) (Open.opens_string Try.underlying9 n) (Open.opensF_cons rfl (by kernel_rfl) (Open.opens_string Try.underlying9 n) (Open.opensF_cons rfl (by kernel_rfl) (Open.opens_string Try.underlying9 n) (Open.opensF_cons rfl (by kernel_rfl) (Open.opens_string Try.underlying9 n)
      (Open.opensF_cons rfl (by kernel_rfl) (Open.opens_int Try.underlying3 n) (Open.opensF_cons rfl (by kernel_rfl) (Open.opens_slice Try.underlying22 (by kernel_rfl) (Open.opens_int Try.underlying5) n) (Open.opensF_cons rfl (by kernel_rfl) (Open.opens_int Try.underlying52 n) (Open.opensF_cons rfl (by kernel_rfl) (Open.opens_int Try.underlying52 n) (Open.opensF_one rfl (by kernel_rfl) (opens_scope n))))))))))) H enc w base held cs x h
    subst e8 e7 e6 e5 e4 e3 e2 e1
    obtain ⟨A2, c2, rfl, hc2, hr2⟩ := k75_open hsc
    rw [e0]
    exact ⟨⟨a, b1, b2, b3, b4, m, d, s1, s2, sc⟩, k77_mk w ⟨a, b1, b2, b3, b4, m, d, s1, s2, sc⟩ hc hr hc2 hr2, trivial⟩
theorem opens_cmds : Open.Opens Try.prog 69 (Kd.slice 77 k77) (fun _ => True) := by
  intro n H enc w base held cs x h
  obtain ⟨v, hv, _⟩ := Open.opens_slice Try.underlying69 (by kernel_rfl) opens_cmd n H enc w base held cs x h
  exact ⟨v, hv, trivial⟩
end Go.Proofs.Ytobljmgoengofaa.Plan
-- printed for this claim by a program (pall.sh)
-- mended by fixpz.py
namespace Go.Proofs.Ytobljmgoengofaa.PZ
open Go.RowKit Go.Proofs.YtobljmgoengofaaW.PrintWords Go.Proofs.YtobljmgoengofaaW.PrintLast Go.Proofs.YtobljmgoengofaaW.PrintMore
attribute [local go_sem] max2_int min2_int max_two min_two max_three min_three max_four min_four   -- for this text's walks alone
set_option linter.unusedVariables false
set_option linter.unusedSimpArgs false

theorem eqA68 (d : Nat) (w : World) (x0 y0 : Int) (x1 y1 : Int) (x2 y2 : Int) (x3 y3 : Int) :
  (Op.equalIn (d + 2) 68 (.agg #[.int .i64 x0, .int .i64 x1, .int .i64 x2, .int .i64 x3]) (.agg #[.int .i64 y0, .int .i64 y1, .int .i64 y2, .int .i64 y3])).run Try.prog w = .ok (x0 == y0 && (x1 == y1 && (x2 == y2 && (x3 == y3)))) w := by
 refine eqA_of Try.underlying68 (by kernel_rfl) ?_
 refine eqf_cons (by rfl) (by go_simp; rfl) (by go_simp; rfl) (by go_simp) ?_
 refine eqf_cons (by rfl) (by go_simp; rfl) (by go_simp; rfl) (by go_simp) ?_
 refine eqf_cons (by rfl) (by go_simp; rfl) (by go_simp; rfl) (by go_simp) ?_
 exact eqf_last (by rfl) (by go_simp; rfl) (by go_simp; rfl) (by go_simp)
end Go.Proofs.Ytobljmgoengofaa.PZ
