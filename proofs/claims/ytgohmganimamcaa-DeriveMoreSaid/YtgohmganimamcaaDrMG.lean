/- Own and printed texts, laid together. -/
import Derived.Test.YtgohmganimamcaaDrMC
import Derived.Test.YtgohmganimamcaaDrMD
import Derived.Test.YtgohmganimamcaaDrMF
import Derived.Test.YtgohmganimamcaaDrME
-- printed for this claim by a program (pall.sh)
-- mended by fixpz.py
namespace Go.Proofs.Ytgohmganimamcaa.PZ
open Go.RowKit Go.Proofs.YtgohmganimamcaaW.PrintWords Go.Proofs.YtgohmganimamcaaW.PrintLast Go.Proofs.YtgohmganimamcaaW.PrintMore
attribute [local go_sem] max2_int min2_int max_two min_two max_three min_three max_four min_four   -- for this text's walks alone
set_option linter.unusedVariables false
set_option linter.unusedSimpArgs false

/-! ### hanaperlaw06_DeriveMore: function 7 -/
mutual
def hanaperlaw06_DeriveMore.j0 : Nat → List (S26) → List (S26) → Bool → Int → Int → List Int → List (S26) → Option (Bool)
 | 0, _, _, _, _, _, _, _ => none
 | k + 1, x0, x1, x26, x102000, x102001, x102002, x102003 => if x26 = true then ((hanaperlaw06_live.f).bind fun t105 => (some t105)) else ((derive_Follows.f x0 x102000 x102001 x102002 x102003).bind fun bt106 => ((some (([] : List (S26)) : List (S26))).bind fun y108 => (if y108.length + x0.length < 2199023255552 then ((some (y108 ++ x0 : List (S26))).bind fun y111 => (if y111.length + x1.length < 2199023255552 then ((derive_Follows.f (y111 ++ x1) x102000 x102001 x102002 x102003).bind fun bt117 => ((hanaperlaw06_num.f bt106.2).bind fun t119 => (if t119 = 0 then ((hanaperlaw06_num.f bt117.2).bind fun t120 => (hanaperlaw06_DeriveMore.j1 k x0 x1 bt106.1 bt117.1 (t120 != 0))) else (hanaperlaw06_DeriveMore.j1 k x0 x1 bt106.1 bt117.1 true)))) else (none))) else (none))))
def hanaperlaw06_DeriveMore.j1 : Nat → List (S26) → List (S26) → Bool → Bool → Bool → Option (Bool)
 | 0, _, _, _, _, _ => none
 | k + 1, x0, x1, x7, x9, x51 => if x51 = true then ((hanaperlaw06_live.f).bind fun t121 => (some t121)) else (if x7 = true then (hanaperlaw06_DeriveMore.j2 k x0 x1 x7 x9 (!x9)) else (hanaperlaw06_DeriveMore.j2 k x0 x1 x7 x9 false))
def hanaperlaw06_DeriveMore.j2 : Nat → List (S26) → List (S26) → Bool → Bool → Bool → Option (Bool)
 | 0, _, _, _, _, _ => none
 | k + 1, x0, x1, x7, x9, x57 => if x57 = true then (some false) else (hanaperlaw06_DeriveMore.l0 k x0 x1 x7 x9 0)
def hanaperlaw06_DeriveMore.l0 : Nat → List (S26) → List (S26) → Bool → Bool → Int → Option (Bool)
 | 0, _, _, _, _, _ => none
 | k + 1, x0, x1, x7, x9, x11 => if x11 < (x1.length : Int) then (if 0 ≤ x11 then ((derive_Follows.f x0 ((rd_T26 x1 x11).f0) ((rd_T26 x1 x11).f1) ((rd_T26 x1 x11).f2) ((rd_T26 x1 x11).f3)).bind fun bt124 => ((hanaperlaw06_num.f bt124.2).bind fun t126 => (if t126 = 0 then (if bt124.1 = true then (hanaperlaw06_DeriveMore.l0 k x0 x1 x7 x9 (wrap64 (x11 + 1))) else ((hanaperlaw06_live.f).bind fun t127 => (some t127))) else ((hanaperlaw06_live.f).bind fun t128 => (some t128))))) else (none)) else (if (x7 == x9) = true then ((hanaperlaw06_live.f).bind fun t122 => (some t122)) else (some false))
end
def hanaperlaw06_DeriveMore.f (k : Nat) (l0 : List (S26)) (l1 : List (S26)) (a2_0 : Int) (a2_1 : Int) (l2_2 : List Int) (l2_3 : List (S26)) : Option (Bool) := (hanaperlaw06_Small.f k l0).bind fun t102 => (if t102 = true then ((hanaperlaw06_Small.f k l1).bind fun t103 => (if t103 = true then ((hanaperref05_Small.f k a2_0 a2_1 l2_2 l2_3 40).bind fun t104 => (hanaperlaw06_DeriveMore.j0 k l0 l1 (!t104) a2_0 a2_1 l2_2 l2_3)) else (hanaperlaw06_DeriveMore.j0 k l0 l1 true a2_0 a2_1 l2_2 l2_3))) else (hanaperlaw06_DeriveMore.j0 k l0 l1 true a2_0 a2_1 l2_2 l2_3))
def hanaperlaw06_DeriveMore.T4 : Bool × List (List Nat × List Nat) := (true, [([], []), ([], []), ([0, 1], [0, 1]), ([], []), ([2, 3, 2], [2, 3]), ([], []), ([4, 5, 4], [4, 5]), ([6], [6]), ([7], [7]), ([7], [7]), ([8, 6, 0, 1, 2, 3, 4, 5, 6, 7, 8], [8]), ([9, 10, 0, 1, 2, 3, 4, 5, 6, 7, 8, 9, 10], [9])])
def hanaperlaw06_DeriveMore.B4 : List Nat := [0, 0, 3, 0, 15, 0, 63, 127, 255, 255, 511, 2047]
theorem hanaperlaw06_DeriveMore.tab4 : rtab .any (opsOf Try.f7 4) = hanaperlaw06_DeriveMore.T4 := by kernel_rfl
theorem hanaperlaw06_DeriveMore.bits4 : waitsOk hanaperlaw06_DeriveMore.T4.2 hanaperlaw06_DeriveMore.B4 = true := by kernel_rfl
set_option maxHeartbeats 8000000 in
set_option maxRecDepth 100000 in
theorem hanaperlaw06_DeriveMore.calls (k : Nat) (P0_ : Nat → Prop) (A0 : Option Addr) (c0 : Nat) (l0 : List (S26)) (P1_ : Nat → Prop) (A1 : Option Addr) (c1 : Nat) (l1 : List (S26)) (a2_0 : Int) (a2_1 : Int) (A2_2 : Option Addr) (c2_2 : Nat) (l2_2 : List Int) (A2_3 : Option Addr) (c2_3 : Nat) (l2_3 : List (S26)) (r : Bool) (w : World) (hs0 : Kd.V k26 26 w w.heap.size (fun k_ => P0_ k_) (.slice A0 l0.length c0) l0) (hs1 : Kd.V k26 26 w w.heap.size (fun k_ => P1_ k_) (.slice A1 l1.length c1) l1) (hr2_2 : Kd.C (Kd.int .u8) w A2_2 l2_2.length l2_2) (hc2_2 : l2_2.length ≤ c2_2) (hr2_3 : Kd.C k26 w A2_3 l2_3.length l2_3) (hc2_3 : l2_3.length ≤ c2_3) (h : hanaperlaw06_DeriveMore.f k l0 l1 a2_0 a2_1 l2_2 l2_3 = some r) :
  Calls Try.prog 7 #[.slice A0 l0.length c0, .slice A1 l1.length c1, .agg #[.int .i64 a2_0, .int .u64 a2_1, .slice A2_2 l2_2.length c2_2, .slice A2_3 l2_3.length c2_3]] w fun e w' => e = .returned (.bool r) ∧ Below w.heap.size w w' := by
 have hu26 := Try.underlying26
 have HO0 := Aside0.mk (show Kd.V k26 26 w w.heap.size (fun k_ => ((P0_ k_ ∨ P1_ k_) ∨ w.heap.size ≤ k_)) (.slice A0 l0.length c0) l0 from Kd.V_mono hs0 (fun k_ hk => .inl (.inl hk)))
 have HO1 := Aside0.mk (show Kd.V k26 26 w w.heap.size (fun k_ => ((P0_ k_ ∨ P1_ k_) ∨ w.heap.size ≤ k_)) (.slice A1 l1.length c1) l1 from Kd.V_mono hs1 (fun k_ hk => .inl (.inr hk)))
 have HR2_2 := Aside0.mk hr2_2
 have HC2_2 := Aside0.mk hc2_2
 clear hr2_2 hc2_2
 have HR2_3 := Aside0.mk hr2_3
 have HC2_3 := Aside0.mk hc2_3
 clear hr2_3 hc2_3
 have HB := Aside0.mk (Below.refl w.heap.size w)
 have H : ((hanaperlaw06_Small.f k l0).bind fun t102 => (if t102 = true then ((hanaperlaw06_Small.f k l1).bind fun t103 => (if t103 = true then ((hanaperref05_Small.f k a2_0 a2_1 l2_2 l2_3 40).bind fun t104 => (hanaperlaw06_DeriveMore.j0 k l0 l1 (!t104) a2_0 a2_1 l2_2 l2_3)) else (hanaperlaw06_DeriveMore.j0 k l0 l1 true a2_0 a2_1 l2_2 l2_3))) else (hanaperlaw06_DeriveMore.j0 k l0 l1 true a2_0 a2_1 l2_2 l2_3))) = some r := h
 clear h
 have HC4 := Aside0.mk H
 clear H
 go_enter Try.func7, Try.ntmps7
 go_upto_region 1 with (first | ((with_reducible refine gate_dst (N := 5) rfl ?_); refine box_event ?hg (N := 5) ?hd (cs := #[.int .i64 a2_0, .int .u64 a2_1, .slice A2_2 l2_2.length c2_2, .slice A2_3 l2_3.length c2_3]) (t := 26) ?hr ?_; (case hd => rfl); (case hg => rfl); (case hr => first | (go_simp; done) | (go_simp; rfl)); intro gb101 hg w5 hbox hb; have n0_ := Aside0.mk (Kd.V_below (Kd.V_elderB (by (with_reducible repeat (first | apply Kd.V_alloc | apply Kd.V_drewN | apply Kd.V_drew)); exact HO0.out) gb101 (Nat.le_of_eq hg.symm)) hb); have n1_ := Aside0.mk (Kd.V_below (Kd.V_elderB (by (with_reducible repeat (first | apply Kd.V_alloc | apply Kd.V_drewN | apply Kd.V_drew)); exact HO1.out) gb101 (Nat.le_of_eq hg.symm)) hb); have n2_ := Aside0.mk (below_step (by repeat (first | (with_reducible first | exact HB.out | apply below_alloc | apply pw_below_drewN | apply below_drew1) | exact HB.out)) hb); have n3_ := Aside0.mk (hbox); have n4_ := Aside0.mk ((by rw [hg]; exact (below_size (by repeat (first | (with_reducible first | exact HB.out | apply below_alloc | apply pw_below_drewN | apply below_drew1) | exact HB.out))) : w.heap.size ≤ gb101)); have n5_ := Aside0.mk ((by rw [hg]; exact (below_size (by repeat (first | (with_reducible first | exact HB.out | apply below_alloc | apply pw_below_drewN | apply below_drew1) | exact HB.out))) : w.heap.size ≤ gb101)); clear HO0; clear HO1; clear HB; have HO0 := n0_; have HO1 := n1_; have HB := n2_; have BK101 := n3_; have GW101 := n4_; have GE101 := n5_; clear n0_ n1_ n2_ n3_ n4_ n5_; clear hb hbox hg))
 (try simp only [Act.put, List.setIfInBounds_toArray, List.set_cons_zero, List.set_cons_succ])
 go_cut [26] (fun v26 wc => ∃ (kq : Nat) (x26_3 : Bool), v26 = .bool x26_3 ∧ Aside0 (hanaperlaw06_DeriveMore.j0 kq l0 l1 x26_3 a2_0 a2_1 l2_2 l2_3 = some r) ∧ Aside0 (kq ≤ k) ∧ Aside0 (Kd.V k26 26 wc w.heap.size (fun k_ => ((P0_ k_ ∨ P1_ k_) ∨ w.heap.size ≤ k_) ∧ k_ ≠ gb101) (.slice A0 l0.length c0) l0) ∧ Aside0 (Kd.V k26 26 wc w.heap.size (fun k_ => ((P0_ k_ ∨ P1_ k_) ∨ w.heap.size ≤ k_) ∧ k_ ≠ gb101) (.slice A1 l1.length c1) l1) ∧ Aside0 (wc.heap[gb101]? = some (.cells #[.int .i64 a2_0, .int .u64 a2_1, (.slice A2_2 l2_2.length c2_2), (.slice A2_3 l2_3.length c2_3)] 26 (0, 0))) ∧ Aside0 (Below w.heap.size w wc))
 case first =>
  have H := HC4.out
  clear HC4
  replace H := Option.bind_eq_some_iff.mp H
  obtain ⟨t102, A60, H⟩ := H
  replace H : (if t102 = true then ((hanaperlaw06_Small.f k l1).bind fun t103 => (if t103 = true then ((hanaperref05_Small.f k a2_0 a2_1 l2_2 l2_3 40).bind fun t104 => (hanaperlaw06_DeriveMore.j0 k l0 l1 (!t104) a2_0 a2_1 l2_2 l2_3)) else (hanaperlaw06_DeriveMore.j0 k l0 l1 true a2_0 a2_1 l2_2 l2_3))) else (hanaperlaw06_DeriveMore.j0 k l0 l1 true a2_0 a2_1 l2_2 l2_3)) = some r := H
  have A6 := Aside0.mk A60
  clear A60
  by_cases c7 : t102 = true
  ·subst c7
   have H1 : ((hanaperlaw06_Small.f k l1).bind fun t103 => (if t103 = true then ((hanaperref05_Small.f k a2_0 a2_1 l2_2 l2_3 40).bind fun t104 => (hanaperlaw06_DeriveMore.j0 k l0 l1 (!t104) a2_0 a2_1 l2_2 l2_3)) else (hanaperlaw06_DeriveMore.j0 k l0 l1 true a2_0 a2_1 l2_2 l2_3))) = some r := by rw [if_pos rfl] at H; exact H
   clear H
   have H := H1
   clear H1
   replace H := Option.bind_eq_some_iff.mp H
   obtain ⟨t103, A80, H⟩ := H
   replace H : (if t103 = true then ((hanaperref05_Small.f k a2_0 a2_1 l2_2 l2_3 40).bind fun t104 => (hanaperlaw06_DeriveMore.j0 k l0 l1 (!t104) a2_0 a2_1 l2_2 l2_3)) else (hanaperlaw06_DeriveMore.j0 k l0 l1 true a2_0 a2_1 l2_2 l2_3)) = some r := H
   have A8 := Aside0.mk A80
   clear A80
   by_cases c9 : t103 = true
   ·subst c9
    have H1 : ((hanaperref05_Small.f k a2_0 a2_1 l2_2 l2_3 40).bind fun t104 => (hanaperlaw06_DeriveMore.j0 k l0 l1 (!t104) a2_0 a2_1 l2_2 l2_3)) = some r := by rw [if_pos rfl] at H; exact H
    clear H
    have H := H1
    clear H1
    replace H := Option.bind_eq_some_iff.mp H
    obtain ⟨t104, A100, H⟩ := H
    replace H : (hanaperlaw06_DeriveMore.j0 k l0 l1 (!t104) a2_0 a2_1 l2_2 l2_3) = some r := H
    have A10 := Aside0.mk A100
    clear A100
    have H' := Aside0.mk H
    clear H
    go_wp2_with (first | ((with_reducible refine gate_callee (f := 23) rfl ?_); refine goesL_ (some 15) rfl rfl Try.func23 (by kernel_rfl) rfl #[.slice A0 l0.length c0] rfl (by (try simp only [List.map_toArray, List.map_cons, List.map_nil]); first | done | rfl | (simp only [List.length_drop, List.length_take]; rfl)) ?_; (with_reducible refine (hanaperlaw06_Small.calls k _ _ l0 true _ ?side1 ?side2 A6.out).mono ?_); (case side1 => repeat (first | exact (Kd.V_reads' HO0.out).2.2 | (with_reducible refine Kd.C_alloc ?_ _) | (with_reducible refine Kd.C_drewN ?_ _) | (with_reducible refine Kd.C_drew ?_))); (case side2 => exact (Kd.V_reads' HO0.out).2.1); rintro e w11 ⟨rfl, hb⟩; refine ⟨_, rfl, ?_⟩; have n0_ := Aside0.mk (Kd.V_below (by (with_reducible repeat (first | apply Kd.V_alloc | apply Kd.V_drewN | apply Kd.V_drew)); exact HO0.out) hb); have n1_ := Aside0.mk (Kd.V_below (by (with_reducible repeat (first | apply Kd.V_alloc | apply Kd.V_drewN | apply Kd.V_drew)); exact HO1.out) hb); have n2_ := Aside0.mk (blk_below (g := gb101) (o := .cells #[.int .i64 a2_0, .int .u64 a2_1, .slice A2_2 l2_2.length c2_2, .slice A2_3 l2_3.length c2_3] 26 (0, 0)) (by (with_reducible repeat (first | refine blk_drewN ?_ _ | refine blk_drew ?_ | refine blk_alloc ?_ _)); exact BK101.out) hb); have n3_ := Aside0.mk (below_step (by repeat (first | (with_reducible first | exact HB.out | apply below_alloc | apply pw_below_drewN | apply below_drew1 | refine below_set ?_ GE101.out) | exact HB.out)) hb); clear HO0; clear HO1; clear BK101; clear HB; have HO0 := n0_; have HO1 := n1_; have BK101 := n2_; have HB := n3_; clear n0_ n1_ n2_ n3_; (try clear hb); (try clear hb2); (try clear hk); (try clear hi)) | (go_at_call 23; (with_reducible refine (hanaperlaw06_Small.calls k _ _ l1 true _ ?side1 ?side2 A8.out).mono ?_); (case side1 => repeat (first | exact (Kd.V_reads' HO1.out).2.2 | (with_reducible refine Kd.C_alloc ?_ _) | (with_reducible refine Kd.C_drewN ?_ _) | (with_reducible refine Kd.C_drew ?_))); (case side2 => exact (Kd.V_reads' HO1.out).2.1); rintro e w12 ⟨rfl, hb⟩; have n0_ := Aside0.mk (Kd.V_below (by (with_reducible repeat (first | apply Kd.V_alloc | apply Kd.V_drewN | apply Kd.V_drew)); exact HO0.out) hb); have n1_ := Aside0.mk (Kd.V_below (by (with_reducible repeat (first | apply Kd.V_alloc | apply Kd.V_drewN | apply Kd.V_drew)); exact HO1.out) hb); have n2_ := Aside0.mk (blk_below (g := gb101) (o := .cells #[.int .i64 a2_0, .int .u64 a2_1, .slice A2_2 l2_2.length c2_2, .slice A2_3 l2_3.length c2_3] 26 (0, 0)) (by (with_reducible repeat (first | refine blk_drewN ?_ _ | refine blk_drew ?_ | refine blk_alloc ?_ _)); exact BK101.out) hb); have n3_ := Aside0.mk (below_step (by repeat (first | (with_reducible first | exact HB.out | apply below_alloc | apply pw_below_drewN | apply below_drew1 | refine below_set ?_ GE101.out) | exact HB.out)) hb); clear HO0; clear HO1; clear BK101; clear HB; have HO0 := n0_; have HO1 := n1_; have BK101 := n2_; have HB := n3_; clear n0_ n1_ n2_ n3_; (try clear hb); (try clear hb2); (try clear hk); (try clear hi); have hcz13_0 : w12.cell? ⟨gb101, 0, none⟩ = some (.int .i64 a2_0) := (blk_cell BK101.out 0).trans rfl; have hcz13_1 : w12.cell? ⟨gb101, 1, none⟩ = some (.int .u64 a2_1) := (blk_cell BK101.out 1).trans rfl; have hcz13_2 : w12.cell? ⟨gb101, 2, none⟩ = some (.slice A2_2 l2_2.length c2_2) := (blk_cell BK101.out 2).trans rfl; have hcz13_3 : w12.cell? ⟨gb101, 3, none⟩ = some (.slice A2_3 l2_3.length c2_3) := (blk_cell BK101.out 3).trans rfl; have hfz13_0 := blk_frozen BK101.out 0; have hfz13_1 := blk_frozen BK101.out 1; have hfz13_2 := blk_frozen BK101.out 2; have hfz13_3 := blk_frozen BK101.out 3) | (go_at_call 10; (with_reducible refine (hanaperref05_Small.calls k a2_0 a2_1 _ _ l2_2 _ _ l2_3 40 t104 _ ?side1 ?side2 ?side3 ?side4 A10.out).mono ?_); (case side1 => repeat (first | exact (Kd.C_below HR2_2.out HB.out) | (with_reducible refine Kd.C_alloc ?_ _) | (with_reducible refine Kd.C_drewN ?_ _) | (with_reducible refine Kd.C_drew ?_))); (case side2 => exact HC2_2.out); (case side3 => repeat (first | exact (Kd.C_below HR2_3.out HB.out) | (with_reducible refine Kd.C_alloc ?_ _) | (with_reducible refine Kd.C_drewN ?_ _) | (with_reducible refine Kd.C_drew ?_))); (case side4 => exact HC2_3.out); rintro e w14 ⟨rfl, hb⟩; have n0_ := Aside0.mk (Kd.V_below (by (with_reducible repeat (first | apply Kd.V_alloc | apply Kd.V_drewN | apply Kd.V_drew)); exact HO0.out) hb); have n1_ := Aside0.mk (Kd.V_below (by (with_reducible repeat (first | apply Kd.V_alloc | apply Kd.V_drewN | apply Kd.V_drew)); exact HO1.out) hb); have n2_ := Aside0.mk (blk_below (g := gb101) (o := .cells #[.int .i64 a2_0, .int .u64 a2_1, .slice A2_2 l2_2.length c2_2, .slice A2_3 l2_3.length c2_3] 26 (0, 0)) (by (with_reducible repeat (first | refine blk_drewN ?_ _ | refine blk_drew ?_ | refine blk_alloc ?_ _)); exact BK101.out) hb); have n3_ := Aside0.mk (below_step (by repeat (first | (with_reducible first | exact HB.out | apply below_alloc | apply pw_below_drewN | apply below_drew1 | refine below_set ?_ GE101.out) | exact HB.out)) hb); clear HO0; clear HO1; clear BK101; clear HB; have HO0 := n0_; have HO1 := n1_; have BK101 := n2_; have HB := n3_; clear n0_ n1_ n2_ n3_; (try clear hb); (try clear hb2); (try clear hk); (try clear hi)))
    go_meet
    case rel => exact ⟨_, (!t104), (by first | rfl | (simp; done) | (simp [*]; done)), H', ⟨by first | omega | exact Nat.le_refl _⟩, ⟨by (with_reducible repeat (first | apply Kd.V_alloc | apply Kd.V_drewN | apply Kd.V_drew)); exact HO0.out⟩, ⟨by (with_reducible repeat (first | apply Kd.V_alloc | apply Kd.V_drewN | apply Kd.V_drew)); exact HO1.out⟩, ⟨by (with_reducible repeat (first | refine blk_drewN ?_ _ | refine blk_drew ?_ | refine blk_alloc ?_ _)); exact BK101.out⟩, ⟨by repeat (first | (with_reducible first | exact HB.out | apply below_alloc | apply pw_below_drewN | apply below_drew1 | refine below_set ?_ GE101.out) | exact HB.out)⟩⟩
   ·replace c9 := Bool.eq_false_iff.mpr c9
    subst c9
    have H1 : (hanaperlaw06_DeriveMore.j0 k l0 l1 true a2_0 a2_1 l2_2 l2_3) = some r := by rw [if_neg (show ¬ (false = true) by decide)] at H; exact H
    clear H
    have H := H1
    clear H1
    have H' := Aside0.mk H
    clear H
    go_wp2_with (first | ((with_reducible refine gate_callee (f := 23) rfl ?_); refine goesL_ (some 15) rfl rfl Try.func23 (by kernel_rfl) rfl #[.slice A0 l0.length c0] rfl (by (try simp only [List.map_toArray, List.map_cons, List.map_nil]); first | done | rfl | (simp only [List.length_drop, List.length_take]; rfl)) ?_; (with_reducible refine (hanaperlaw06_Small.calls k _ _ l0 true _ ?side1 ?side2 A6.out).mono ?_); (case side1 => repeat (first | exact (Kd.V_reads' HO0.out).2.2 | (with_reducible refine Kd.C_alloc ?_ _) | (with_reducible refine Kd.C_drewN ?_ _) | (with_reducible refine Kd.C_drew ?_))); (case side2 => exact (Kd.V_reads' HO0.out).2.1); rintro e w15 ⟨rfl, hb⟩; refine ⟨_, rfl, ?_⟩; have n0_ := Aside0.mk (Kd.V_below (by (with_reducible repeat (first | apply Kd.V_alloc | apply Kd.V_drewN | apply Kd.V_drew)); exact HO0.out) hb); have n1_ := Aside0.mk (Kd.V_below (by (with_reducible repeat (first | apply Kd.V_alloc | apply Kd.V_drewN | apply Kd.V_drew)); exact HO1.out) hb); have n2_ := Aside0.mk (blk_below (g := gb101) (o := .cells #[.int .i64 a2_0, .int .u64 a2_1, .slice A2_2 l2_2.length c2_2, .slice A2_3 l2_3.length c2_3] 26 (0, 0)) (by (with_reducible repeat (first | refine blk_drewN ?_ _ | refine blk_drew ?_ | refine blk_alloc ?_ _)); exact BK101.out) hb); have n3_ := Aside0.mk (below_step (by repeat (first | (with_reducible first | exact HB.out | apply below_alloc | apply pw_below_drewN | apply below_drew1 | refine below_set ?_ GE101.out) | exact HB.out)) hb); clear HO0; clear HO1; clear BK101; clear HB; have HO0 := n0_; have HO1 := n1_; have BK101 := n2_; have HB := n3_; clear n0_ n1_ n2_ n3_; (try clear hb); (try clear hb2); (try clear hk); (try clear hi)) | (go_at_call 23; (with_reducible refine (hanaperlaw06_Small.calls k _ _ l1 false _ ?side1 ?side2 A8.out).mono ?_); (case side1 => repeat (first | exact (Kd.V_reads' HO1.out).2.2 | (with_reducible refine Kd.C_alloc ?_ _) | (with_reducible refine Kd.C_drewN ?_ _) | (with_reducible refine Kd.C_drew ?_))); (case side2 => exact (Kd.V_reads' HO1.out).2.1); rintro e w16 ⟨rfl, hb⟩; have n0_ := Aside0.mk (Kd.V_below (by (with_reducible repeat (first | apply Kd.V_alloc | apply Kd.V_drewN | apply Kd.V_drew)); exact HO0.out) hb); have n1_ := Aside0.mk (Kd.V_below (by (with_reducible repeat (first | apply Kd.V_alloc | apply Kd.V_drewN | apply Kd.V_drew)); exact HO1.out) hb); have n2_ := Aside0.mk (blk_below (g := gb101) (o := .cells #[.int .i64 a2_0, .int .u64 a2_1, .slice A2_2 l2_2.length c2_2, .slice A2_3 l2_3.length c2_3] 26 (0, 0)) (by (with_reducible repeat (first | refine blk_drewN ?_ _ | refine blk_drew ?_ | refine blk_alloc ?_ _)); exact BK101.out) hb); have n3_ := Aside0.mk (below_step (by repeat (first | (with_reducible first | exact HB.out | apply below_alloc | apply pw_below_drewN | apply below_drew1 | refine below_set ?_ GE101.out) | exact HB.out)) hb); clear HO0; clear HO1; clear BK101; clear HB; have HO0 := n0_; have HO1 := n1_; have BK101 := n2_; have HB := n3_; clear n0_ n1_ n2_ n3_; (try clear hb); (try clear hb2); (try clear hk); (try clear hi)))
    go_meet
    case rel => exact ⟨_, (true), (by first | rfl | (simp; done) | (simp [*]; done)), H', ⟨by first | omega | exact Nat.le_refl _⟩, ⟨by (with_reducible repeat (first | apply Kd.V_alloc | apply Kd.V_drewN | apply Kd.V_drew)); exact HO0.out⟩, ⟨by (with_reducible repeat (first | apply Kd.V_alloc | apply Kd.V_drewN | apply Kd.V_drew)); exact HO1.out⟩, ⟨by (with_reducible repeat (first | refine blk_drewN ?_ _ | refine blk_drew ?_ | refine blk_alloc ?_ _)); exact BK101.out⟩, ⟨by repeat (first | (with_reducible first | exact HB.out | apply below_alloc | apply pw_below_drewN | apply below_drew1 | refine below_set ?_ GE101.out) | exact HB.out)⟩⟩
  ·replace c7 := Bool.eq_false_iff.mpr c7
   subst c7
   have H1 : (hanaperlaw06_DeriveMore.j0 k l0 l1 true a2_0 a2_1 l2_2 l2_3) = some r := by rw [if_neg (show ¬ (false = true) by decide)] at H; exact H
   clear H
   have H := H1
   clear H1
   have H' := Aside0.mk H
   clear H
   go_wp2_with (first | ((with_reducible refine gate_callee (f := 23) rfl ?_); refine goesL_ (some 15) rfl rfl Try.func23 (by kernel_rfl) rfl #[.slice A0 l0.length c0] rfl (by (try simp only [List.map_toArray, List.map_cons, List.map_nil]); first | done | rfl | (simp only [List.length_drop, List.length_take]; rfl)) ?_; (with_reducible refine (hanaperlaw06_Small.calls k _ _ l0 false _ ?side1 ?side2 A6.out).mono ?_); (case side1 => repeat (first | exact (Kd.V_reads' HO0.out).2.2 | (with_reducible refine Kd.C_alloc ?_ _) | (with_reducible refine Kd.C_drewN ?_ _) | (with_reducible refine Kd.C_drew ?_))); (case side2 => exact (Kd.V_reads' HO0.out).2.1); rintro e w17 ⟨rfl, hb⟩; refine ⟨_, rfl, ?_⟩; have n0_ := Aside0.mk (Kd.V_below (by (with_reducible repeat (first | apply Kd.V_alloc | apply Kd.V_drewN | apply Kd.V_drew)); exact HO0.out) hb); have n1_ := Aside0.mk (Kd.V_below (by (with_reducible repeat (first | apply Kd.V_alloc | apply Kd.V_drewN | apply Kd.V_drew)); exact HO1.out) hb); have n2_ := Aside0.mk (blk_below (g := gb101) (o := .cells #[.int .i64 a2_0, .int .u64 a2_1, .slice A2_2 l2_2.length c2_2, .slice A2_3 l2_3.length c2_3] 26 (0, 0)) (by (with_reducible repeat (first | refine blk_drewN ?_ _ | refine blk_drew ?_ | refine blk_alloc ?_ _)); exact BK101.out) hb); have n3_ := Aside0.mk (below_step (by repeat (first | (with_reducible first | exact HB.out | apply below_alloc | apply pw_below_drewN | apply below_drew1 | refine below_set ?_ GE101.out) | exact HB.out)) hb); clear HO0; clear HO1; clear BK101; clear HB; have HO0 := n0_; have HO1 := n1_; have BK101 := n2_; have HB := n3_; clear n0_ n1_ n2_ n3_; (try clear hb); (try clear hb2); (try clear hk); (try clear hi)))
   go_meet
   case rel => exact ⟨_, (true), (by first | rfl | (simp; done) | (simp [*]; done)), H', ⟨by first | omega | exact Nat.le_refl _⟩, ⟨by (with_reducible repeat (first | apply Kd.V_alloc | apply Kd.V_drewN | apply Kd.V_drew)); exact HO0.out⟩, ⟨by (with_reducible repeat (first | apply Kd.V_alloc | apply Kd.V_drewN | apply Kd.V_drew)); exact HO1.out⟩, ⟨by (with_reducible repeat (first | refine blk_drewN ?_ _ | refine blk_drew ?_ | refine blk_alloc ?_ _)); exact BK101.out⟩, ⟨by repeat (first | (with_reducible first | exact HB.out | apply below_alloc | apply pw_below_drewN | apply below_drew1 | refine below_set ?_ GE101.out) | exact HB.out)⟩⟩
 case rest =>
  clear HC4
  (try clear c1);(try clear c2);(try clear p2);(try clear c7);(try clear c9);(try clear hcz13_0);(try clear hcz13_1);(try clear hcz13_2);(try clear hcz13_3);(try clear hfz13_0);(try clear hfz13_1);(try clear hfz13_2);(try clear hfz13_3)
  obtain ⟨kq, x26_3, rfl, HA, HJ3, HO_0, HO_1, BK101, HB⟩ := hcut
  cases kq with
  | zero => exact absurd HA.out (by simp [hanaperlaw06_DeriveMore.j0])
  | succ kj3 =>
   have H := HA.out
   clear HA
   simp only [hanaperlaw06_DeriveMore.j0] at H
   by_cases c18 : x26_3 = true
   ·subst c18
    have H1 : ((hanaperlaw06_live.f).bind fun t105 => (some t105)) = some r := by rw [if_pos rfl] at H; exact H
    clear H
    have H := H1
    clear H1
    replace H := Option.bind_eq_some_iff.mp H
    obtain ⟨t105, A190, H⟩ := H
    replace H : (some t105) = some r := H
    have A19 := Aside0.mk A190
    clear A190
    obtain rfl := Option.some.inj H
    go_wp2_with (first | ((with_reducible refine gate_callee (f := 24) rfl ?_); refine goesL_ (some 27) rfl rfl Try.func24 (by kernel_rfl) rfl #[] rfl (by (try simp only [List.map_toArray, List.map_cons, List.map_nil]); first | done | rfl | (simp only [List.length_drop, List.length_take]; rfl)) ?_; (with_reducible refine (hanaperlaw06_live.calls  t105 _ A19.out).mono ?_); rintro e w20 ⟨rfl, hb⟩; refine ⟨_, rfl, ?_⟩; have n0_ := Aside0.mk (Kd.V_below (by (with_reducible repeat (first | apply Kd.V_alloc | apply Kd.V_drewN | apply Kd.V_drew)); exact HO_0.out) hb); have n1_ := Aside0.mk (Kd.V_below (by (with_reducible repeat (first | apply Kd.V_alloc | apply Kd.V_drewN | apply Kd.V_drew)); exact HO_1.out) hb); have n2_ := Aside0.mk (blk_below (g := gb101) (o := .cells #[.int .i64 a2_0, .int .u64 a2_1, .slice A2_2 l2_2.length c2_2, .slice A2_3 l2_3.length c2_3] 26 (0, 0)) (by (with_reducible repeat (first | refine blk_drewN ?_ _ | refine blk_drew ?_ | refine blk_alloc ?_ _)); exact BK101.out) hb); have n3_ := Aside0.mk (below_step (by repeat (first | (with_reducible first | exact HB.out | apply below_alloc | apply pw_below_drewN | apply below_drew1 | refine below_set ?_ GE101.out) | exact HB.out)) hb); clear HO_0; clear HO_1; clear BK101; clear HB; have HO_0 := n0_; have HO_1 := n1_; have BK101 := n2_; have HB := n3_; clear n0_ n1_ n2_ n3_; (try clear hb); (try clear hb2); (try clear hk); (try clear hi)))
    go_ret
    exact ⟨by first | rfl | (simp [errW_none, errW_some] <;> rfl) | (simp [*, errW_none, errW_some] <;> rfl), by repeat (first | (with_reducible first | exact HB.out | apply below_alloc | apply pw_below_drewN | apply below_drew1 | refine below_set ?_ GE101.out) | exact HB.out)⟩
   ·replace c18 := Bool.eq_false_iff.mpr c18
    subst c18
    have H1 : ((derive_Follows.f l0 a2_0 a2_1 l2_2 l2_3).bind fun bt106 => ((some (([] : List (S26)) : List (S26))).bind fun y108 => (if y108.length + l0.length < 2199023255552 then ((some (y108 ++ l0 : List (S26))).bind fun y111 => (if y111.length + l1.length < 2199023255552 then ((derive_Follows.f (y111 ++ l1) a2_0 a2_1 l2_2 l2_3).bind fun bt117 => ((hanaperlaw06_num.f bt106.2).bind fun t119 => (if t119 = 0 then ((hanaperlaw06_num.f bt117.2).bind fun t120 => (hanaperlaw06_DeriveMore.j1 kj3 l0 l1 bt106.1 bt117.1 (t120 != 0))) else (hanaperlaw06_DeriveMore.j1 kj3 l0 l1 bt106.1 bt117.1 true)))) else (none))) else (none)))) = some r := by rw [if_neg (show ¬ (false = true) by decide)] at H; exact H
    clear H
    have H := H1
    clear H1
    replace H := Option.bind_eq_some_iff.mp H
    obtain ⟨⟨t106, t107⟩, A210, H⟩ := H
    replace H : ((some (([] : List (S26)) : List (S26))).bind fun y108 => (if y108.length + l0.length < 2199023255552 then ((some (y108 ++ l0 : List (S26))).bind fun y111 => (if y111.length + l1.length < 2199023255552 then ((derive_Follows.f (y111 ++ l1) a2_0 a2_1 l2_2 l2_3).bind fun bt117 => ((hanaperlaw06_num.f t107).bind fun t119 => (if t119 = 0 then ((hanaperlaw06_num.f bt117.2).bind fun t120 => (hanaperlaw06_DeriveMore.j1 kj3 l0 l1 t106 bt117.1 (t120 != 0))) else (hanaperlaw06_DeriveMore.j1 kj3 l0 l1 t106 bt117.1 true)))) else (none))) else (none))) = some r := H
    have A21 := Aside0.mk A210
    clear A210
    obtain ⟨y108, hy108⟩ : ∃ y_ : List (S26), y_ = (([] : List (S26))) := ⟨_, rfl⟩
    replace H : (if y108.length + l0.length < 2199023255552 then ((some (y108 ++ l0 : List (S26))).bind fun y111 => (if y111.length + l1.length < 2199023255552 then ((derive_Follows.f (y111 ++ l1) a2_0 a2_1 l2_2 l2_3).bind fun bt117 => ((hanaperlaw06_num.f t107).bind fun t119 => (if t119 = 0 then ((hanaperlaw06_num.f bt117.2).bind fun t120 => (hanaperlaw06_DeriveMore.j1 kj3 l0 l1 t106 bt117.1 (t120 != 0))) else (hanaperlaw06_DeriveMore.j1 kj3 l0 l1 t106 bt117.1 true)))) else (none))) else (none)) = some r := by first | (rw [hy108]; with_reducible exact H) | (have H2_ := (Option.bind_some _ _).symm.trans H; rw [hy108]; with_reducible exact H2_) | (have H2_ := (Option.bind_some _ _).symm.trans H; with_reducible exact H2_) | with_reducible exact H | (rw [hy108]; exact H) | exact H
    have Ny108 := Aside0.mk hy108
    clear hy108
    by_cases c22 : y108.length + l0.length < 2199023255552
    ·rw [if_pos c22] at H
     have LMc22 := Aside0.mk c22
     clear c22
     obtain ⟨y111, hy111⟩ : ∃ y_ : List (S26), y_ = (y108 ++ l0) := ⟨_, rfl⟩
     replace H : (if y111.length + l1.length < 2199023255552 then ((derive_Follows.f (y111 ++ l1) a2_0 a2_1 l2_2 l2_3).bind fun bt117 => ((hanaperlaw06_num.f t107).bind fun t119 => (if t119 = 0 then ((hanaperlaw06_num.f bt117.2).bind fun t120 => (hanaperlaw06_DeriveMore.j1 kj3 l0 l1 t106 bt117.1 (t120 != 0))) else (hanaperlaw06_DeriveMore.j1 kj3 l0 l1 t106 bt117.1 true)))) else (none)) = some r := by first | (rw [hy111]; with_reducible exact H) | (have H2_ := (Option.bind_some _ _).symm.trans H; rw [hy111]; with_reducible exact H2_) | (have H2_ := (Option.bind_some _ _).symm.trans H; with_reducible exact H2_) | with_reducible exact H | (rw [hy111]; exact H) | exact H
     have Ny111 := Aside0.mk hy111
     clear hy111
     by_cases c23 : y111.length + l1.length < 2199023255552
     ·rw [if_pos c23] at H
      have LMc23 := Aside0.mk c23
      clear c23
      obtain ⟨y114, hy114⟩ : ∃ y_ : List (S26), y_ = (y111 ++ l1) := ⟨_, rfl⟩
      replace H : ((derive_Follows.f y114 a2_0 a2_1 l2_2 l2_3).bind fun bt117 => ((hanaperlaw06_num.f t107).bind fun t119 => (if t119 = 0 then ((hanaperlaw06_num.f bt117.2).bind fun t120 => (hanaperlaw06_DeriveMore.j1 kj3 l0 l1 t106 bt117.1 (t120 != 0))) else (hanaperlaw06_DeriveMore.j1 kj3 l0 l1 t106 bt117.1 true)))) = some r := by first | (rw [hy114]; with_reducible exact H) | (have H2_ := (Option.bind_some _ _).symm.trans H; rw [hy114]; with_reducible exact H2_) | (have H2_ := (Option.bind_some _ _).symm.trans H; with_reducible exact H2_) | with_reducible exact H | (rw [hy114]; exact H) | exact H
      have Ny114 := Aside0.mk hy114
      clear hy114
      replace H := Option.bind_eq_some_iff.mp H
      obtain ⟨⟨t117, t118⟩, A240, H⟩ := H
      replace H : ((hanaperlaw06_num.f t107).bind fun t119 => (if t119 = 0 then ((hanaperlaw06_num.f t118).bind fun t120 => (hanaperlaw06_DeriveMore.j1 kj3 l0 l1 t106 t117 (t120 != 0))) else (hanaperlaw06_DeriveMore.j1 kj3 l0 l1 t106 t117 true))) = some r := H
      have A24 := Aside0.mk A240
      clear A240
      have HC25 := Aside0.mk H
      clear H
      have hcz26_0 : wc.cell? ⟨gb101, 0, none⟩ = some (.int .i64 a2_0) := (blk_cell BK101.out 0).trans rfl
      have hcz26_1 : wc.cell? ⟨gb101, 1, none⟩ = some (.int .u64 a2_1) := (blk_cell BK101.out 1).trans rfl
      have hcz26_2 : wc.cell? ⟨gb101, 2, none⟩ = some (.slice A2_2 l2_2.length c2_2) := (blk_cell BK101.out 2).trans rfl
      have hcz26_3 : wc.cell? ⟨gb101, 3, none⟩ = some (.slice A2_3 l2_3.length c2_3) := (blk_cell BK101.out 3).trans rfl
      have hfz26_0 := blk_frozen BK101.out 0
      have hfz26_1 := blk_frozen BK101.out 1
      have hfz26_2 := blk_frozen BK101.out 2
      have hfz26_3 := blk_frozen BK101.out 3
      try go_wp2_with (first | ((with_reducible refine gate_callee (f := 29) rfl ?_); refine goesL_ (some 31) rfl rfl Try.func29 (by kernel_rfl) rfl #[.slice A0 l0.length c0, .agg #[.int .i64 a2_0, .int .u64 a2_1, .slice A2_2 l2_2.length c2_2, .slice A2_3 l2_3.length c2_3]] rfl (by (try simp only [List.map_toArray, List.map_cons, List.map_nil]); first | done | rfl | (simp only [List.length_drop, List.length_take]; rfl)) ?_; (with_reducible refine (derive_Follows.calls _ _ l0 a2_0 a2_1 _ _ l2_2 _ _ l2_3 t106 t107 _ ?side1 ?side2 ?side3 ?side4 ?side5 ?side6 A21.out).mono ?_); (case side1 => repeat (first | exact (Kd.V_reads' HO_0.out).2.2 | (with_reducible refine Kd.C_alloc ?_ _) | (with_reducible refine Kd.C_drewN ?_ _) | (with_reducible refine Kd.C_drew ?_))); (case side2 => exact (Kd.V_reads' HO_0.out).2.1); (case side3 => repeat (first | exact (Kd.C_below HR2_2.out HB.out) | (with_reducible refine Kd.C_alloc ?_ _) | (with_reducible refine Kd.C_drewN ?_ _) | (with_reducible refine Kd.C_drew ?_))); (case side4 => exact HC2_2.out); (case side5 => repeat (first | exact (Kd.C_below HR2_3.out HB.out) | (with_reducible refine Kd.C_alloc ?_ _) | (with_reducible refine Kd.C_drewN ?_ _) | (with_reducible refine Kd.C_drew ?_))); (case side6 => exact HC2_3.out); rintro e w27 ⟨rfl, hb⟩; refine ⟨_, rfl, ?_⟩; have n0_ := Aside0.mk (Kd.V_below (by (with_reducible repeat (first | apply Kd.V_alloc | apply Kd.V_drewN | apply Kd.V_drew)); exact HO_0.out) hb); have n1_ := Aside0.mk (Kd.V_below (by (with_reducible repeat (first | apply Kd.V_alloc | apply Kd.V_drewN | apply Kd.V_drew)); exact HO_1.out) hb); have n2_ := Aside0.mk (blk_below (g := gb101) (o := .cells #[.int .i64 a2_0, .int .u64 a2_1, .slice A2_2 l2_2.length c2_2, .slice A2_3 l2_3.length c2_3] 26 (0, 0)) (by (with_reducible repeat (first | refine blk_drewN ?_ _ | refine blk_drew ?_ | refine blk_alloc ?_ _)); exact BK101.out) hb); have n3_ := Aside0.mk (below_step (by repeat (first | (with_reducible first | exact HB.out | apply below_alloc | apply pw_below_drewN | apply below_drew1 | refine below_set ?_ GE101.out) | exact HB.out)) hb); clear HO_0; clear HO_1; clear BK101; clear HB; have HO_0 := n0_; have HO_1 := n1_; have BK101 := n2_; have HB := n3_; clear n0_ n1_ n2_ n3_; (try clear hb); (try clear hb2); (try clear hk); (try clear hi)))
      have n0_ := Aside0.mk (Kd.V_drew HO_0.out)
      have n1_ := Aside0.mk (Kd.V_drew HO_1.out)
      have n2_ := Aside0.mk (blk_drew BK101.out)
      have n3_ := Aside0.mk (below_drew1 HB.out)
      clear HO_0
      clear HO_1
      clear BK101
      clear HB
      have HO_0 := n0_
      have HO_1 := n1_
      have BK101 := n2_
      have HB := n3_
      clear n0_ n1_ n2_ n3_
      refine start_ (n := 12) (S := fun w' => w'.cell? ⟨gb101, 0, none⟩ = some (.int .i64 a2_0) ∧ w'.cell? ⟨gb101, 1, none⟩ = some (.int .u64 a2_1) ∧ w'.cell? ⟨gb101, 2, none⟩ = some (.slice A2_2 l2_2.length c2_2) ∧ w'.cell? ⟨gb101, 3, none⟩ = some (.slice A2_3 l2_3.length c2_3)) (ds := []) #[false, false, false, false, false, false, false, false, false, false, false, false] (by kernel_rfl) rfl rfl ⟨(blk_cell BK101.out 0).trans rfl, (blk_cell BK101.out 1).trans rfl, (blk_cell BK101.out 2).trans rfl, (blk_cell BK101.out 3).trans rfl⟩ (fun hHeld => ?_); refine with_tabW hanaperlaw06_DeriveMore.tab4 hanaperlaw06_DeriveMore.bits4 (fun HT_ HW_ => ?_)
      generalize w27.drew = w28 at HO_0 HO_1 BK101 HB hHeld ⊢
      refine pure_ (i := 1) (N := some 36) (v := ?_) (a' := ?_) #[false, true, false, false, false, false, false, false, false, false, false, false] rfl rfl (any_of HT_.out (by kernel_rfl)) (fun _ _ _ h => h) (Or.inl ⟨by rfl, ?_⟩) ?_ ?_
      rotate_left
      ·intro w'
       go_simp
       with_reducible rfl
      rotate_left
      ·simp only [Act.put, List.setIfInBounds_toArray, List.set_cons_zero, List.set_cons_succ, i64_w, i32_w]
       rfl
      refine pure_ (i := 3) (N := some 38) (v := ?_) (a' := ?_) #[false, true, false, true, false, false, false, false, false, false, false, false] rfl rfl (any_of HT_.out (by kernel_rfl)) (fun _ _ _ h => h) (Or.inl ⟨by rfl, ?_⟩) ?_ ?_
      rotate_left
      ·intro w'
       go_simp
       with_reducible rfl
      rotate_left
      ·simp only [Act.put, List.setIfInBounds_toArray, List.set_cons_zero, List.set_cons_succ, i64_w, i32_w]
       rfl
      refine take_ (i := 5) (N := some 40) (v := ?_) (a' := ?_) #[false, true, false, true, false, true, false, false, false, false, false, false] rfl rfl (take_ofW HT_.out HW_.out (by kernel_rfl)) (fun _ _ _ h => h) (Or.inl ⟨by rfl, ?_⟩) hHeld ?_ ?_
      rotate_left
      ·rintro w' ⟨s0, s1, s2, s3⟩
       go_simp
       with_reducible rfl
      rotate_left
      ·simp only [Act.put, List.setIfInBounds_toArray, List.set_cons_zero, List.set_cons_succ, i64_w, i32_w]
       rfl
      refine one_ (i := 0) (N := some 35) #[true, true, false, true, false, true, false, false, false, false, false, false] rfl rfl (one_of HT_.out (by kernel_rfl)) (by decide) (fun K hK => ?_)
      refine Kd.N_lit_step k26 _ 26 ?hg (N' := 35) ?hd (xs := ([] : List (S26))) (inner := []) (ok := (fun k_ => ((P0_ k_ ∨ P1_ k_) ∨ w.heap.size ≤ k_) ∧ k_ ≠ gb101)) (okp := (fun k_ => ((P0_ k_ ∨ P1_ k_) ∨ w.heap.size ≤ k_) ∧ k_ ≠ gb101)) ?hr ?hp (fun _ hk => hk) ((show ∀ k_, w28.heap.size ≤ k_ → (fun k_ => ((P0_ k_ ∨ P1_ k_) ∨ w.heap.size ≤ k_) ∧ k_ ≠ gb101) k_ from fun k_ hk => ⟨(.inr (Nat.le_trans (below_size (by repeat (first | (with_reducible first | exact HB.out | apply below_alloc | apply pw_below_drewN | apply below_drew1 | refine below_set ?_ GE101.out) | exact HB.out))) hk)), Kd.freshB (g := gb101) (o := .cells #[.int .i64 a2_0, .int .u64 a2_1, .slice A2_2 l2_2.length c2_2, .slice A2_3 l2_3.length c2_3] 26 (0, 0)) (by (with_reducible repeat (first | refine blk_drewN ?_ _ | refine blk_drew ?_ | refine blk_alloc ?_ _)); exact BK101.out) k_ hk⟩) _ (Nat.le_refl _)) (Below.refl _ _) (Nat.le_refl _) (by simp) ?_; (case hd => rfl); (case hg => rfl); (case hr => first | (go_simp; done) | (go_simp; rfl)); (case hp => exact (Reps.none _ _))
      intro v109 w29 ho30 hb hg_ hnew_
      clear hg_ hnew_
      (first | rw [← Ny108.out] at ho30 | (simp only [Int.reduceToNat] at ho30; rw [← Ny108.out] at ho30))
      have n0_ := Aside0.mk (Kd.V_elder' (by (with_reducible repeat (first | apply Kd.V_alloc | apply Kd.V_drewN | apply Kd.V_drew)); exact HO_0.out) (Kd.N_base ho30) hb)
      have n1_ := Aside0.mk (Kd.V_elder' (by (with_reducible repeat (first | apply Kd.V_alloc | apply Kd.V_drewN | apply Kd.V_drew)); exact HO_1.out) (Kd.N_base ho30) hb)
      have n2_ := Aside0.mk (Kd.N_lower ho30 (below_size (by repeat (first | (with_reducible first | exact HB.out | apply below_alloc | apply pw_below_drewN | apply below_drew1 | refine below_set ?_ GE101.out) | exact HB.out))))
      have n3_ := Aside0.mk (blk_below (g := gb101) (o := .cells #[.int .i64 a2_0, .int .u64 a2_1, .slice A2_2 l2_2.length c2_2, .slice A2_3 l2_3.length c2_3] 26 (0, 0)) (by (with_reducible repeat (first | refine blk_drewN ?_ _ | refine blk_drew ?_ | refine blk_alloc ?_ _)); exact BK101.out) hb)
      have n4_ := Aside0.mk (below_step (by repeat (first | (with_reducible first | exact HB.out | apply below_alloc | apply pw_below_drewN | apply below_drew1 | refine below_set ?_ GE101.out) | exact HB.out)) hb)
      clear HO_0
      clear HO_1
      clear BK101
      clear HB
      have HO_0 := n0_
      have HO_1 := n1_
      have HO110 := n2_
      have BK101 := n3_
      have HB := n4_
      clear n0_ n1_ n2_ n3_ n4_
      clear hb ho30
      refine hK.out _ _ ⟨(blk_cell BK101.out 0).trans rfl, (blk_cell BK101.out 1).trans rfl, (blk_cell BK101.out 2).trans rfl, (blk_cell BK101.out 3).trans rfl⟩ (fun hHeld => ?_)
      clear hK K
      refine norm_ (a' := ?_) ?_ ?_
      rotate_left
      ·show Act.put _ (some 35) _ = _
       simp only [Act.put, List.setIfInBounds_toArray, List.set_cons_zero, List.set_cons_succ, i64_w, i32_w]
       rfl
      refine one_ (i := 2) (N := some 37) #[true, true, true, true, false, true, false, false, false, false, false, false] rfl rfl (one_of HT_.out (by kernel_rfl)) (by decide) (fun K hK => ?_)
      refine Kd.N_append_rows_step k26 (w0 := w) w.heap.size (by rfl) (.tmp 35) (.tmp 36) 24 26 (.agg #[(.int .i64 0), (.int .u64 0), (.slice none 0 0), (.slice none 0 0)]) 64 rfl Try.underlying24 info26 rfl (by decide) (by omega) v109 y108 l0 _ _ _ (fun k_ => ((P0_ k_ ∨ P1_ k_) ∨ w.heap.size ≤ k_) ∧ k_ ≠ gb101) (fun k_ => ((fun k_ => ((P0_ k_ ∨ P1_ k_) ∨ w.heap.size ≤ k_) ∧ k_ ≠ gb101)) k_ ∧ some k_ ≠ (v109 : Value).ownBlock) rfl rfl ?aO ?aR (fun _ hk => hk) ?aF ?aB ?aS ?aL ?_
      (case aR => exact (by skip; exact Kd.V_F (Kd.V_mono (ok' := (fun k_ => ((fun k_ => ((P0_ k_ ∨ P1_ k_) ∨ w.heap.size ≤ k_) ∧ k_ ≠ gb101)) k_ ∧ some k_ ≠ (v109 : Value).ownBlock)) (HO_0.out) (fun k_ hk => ⟨⟨hk.1.1, hk.1.2⟩, hk.2⟩))))
      (case aB => exact (by repeat (first | (with_reducible first | exact HB.out | apply below_alloc | apply pw_below_drewN | apply below_drew1 | refine below_set ?_ GE101.out) | exact HB.out)))
      (case aF => exact (fun k_ hk => ⟨(.inr (Nat.le_trans (below_size (by repeat (first | (with_reducible first | exact HB.out | apply below_alloc | apply pw_below_drewN | apply below_drew1 | refine below_set ?_ GE101.out) | exact HB.out))) hk)), Kd.freshB (g := gb101) (o := .cells #[.int .i64 a2_0, .int .u64 a2_1, .slice A2_2 l2_2.length c2_2, .slice A2_3 l2_3.length c2_3] 26 (0, 0)) (by (with_reducible repeat (first | refine blk_drewN ?_ _ | refine blk_drew ?_ | refine blk_alloc ?_ _)); exact BK101.out) k_ hk⟩))
      (case aO => exact (by (with_reducible repeat (first | apply Kd.N_alloc | apply Kd.N_drewN | apply Kd.N_drew)); exact HO110.out))
      (case aS => exact (below_size (by repeat (first | (with_reducible first | exact HB.out | apply below_alloc | apply pw_below_drewN | apply below_drew1 | refine below_set ?_ GE101.out) | exact HB.out))))
      (case aL => have := LMc22.out; omega)
      intro v112 w31 ho hb hg hat
      rw [← Ny111.out] at ho
      have n0_ := Aside0.mk (Kd.V_afterv (ok := (fun k_ => ((P0_ k_ ∨ P1_ k_) ∨ w.heap.size ≤ k_) ∧ k_ ≠ gb101)) (by (with_reducible repeat (first | apply Kd.V_alloc | apply Kd.V_drewN | apply Kd.V_drew)); exact HO_0.out) hg hat)
      have n1_ := Aside0.mk (Kd.V_afterv (ok := (fun k_ => ((P0_ k_ ∨ P1_ k_) ∨ w.heap.size ≤ k_) ∧ k_ ≠ gb101)) (by (with_reducible repeat (first | apply Kd.V_alloc | apply Kd.V_drewN | apply Kd.V_drew)); exact HO_1.out) hg hat)
      have n2_ := Aside0.mk (blk_grown (g := gb101) (o := .cells #[.int .i64 a2_0, .int .u64 a2_1, .slice A2_2 l2_2.length c2_2, .slice A2_3 l2_3.length c2_3] 26 (0, 0)) (by (with_reducible repeat (first | refine blk_drewN ?_ _ | refine blk_drew ?_ | refine blk_alloc ?_ _)); exact BK101.out) hg (Kd.N_away HO110.out (fun _ hk => hk.2)))
      have n3_ := Aside0.mk (hb)
      have n4_ := Aside0.mk (ho)
      clear HO_0
      clear HO_1
      clear BK101
      clear HB
      clear HO110
      have HO_0 := n0_
      have HO_1 := n1_
      have BK101 := n2_
      have HB := n3_
      have HO113 := n4_
      clear n0_ n1_ n2_ n3_ n4_
      clear ho hb hg hat
      refine hK.out _ _ ⟨(blk_cell BK101.out 0).trans rfl, (blk_cell BK101.out 1).trans rfl, (blk_cell BK101.out 2).trans rfl, (blk_cell BK101.out 3).trans rfl⟩ (fun hHeld => ?_)
      clear hK K
      refine norm_ (a' := ?_) ?_ ?_
      rotate_left
      ·show Act.put _ (some 37) _ = _
       simp only [Act.put, List.setIfInBounds_toArray, List.set_cons_zero, List.set_cons_succ, i64_w, i32_w]
       rfl
      refine one_ (i := 4) (N := some 39) #[true, true, true, true, true, true, false, false, false, false, false, false] rfl rfl (one_of HT_.out (by kernel_rfl)) (by decide) (fun K hK => ?_)
      refine Kd.N_append_rows_step k26 (w0 := w) w.heap.size (by rfl) (.tmp 37) (.tmp 38) 24 26 (.agg #[(.int .i64 0), (.int .u64 0), (.slice none 0 0), (.slice none 0 0)]) 64 rfl Try.underlying24 info26 rfl (by decide) (by omega) v112 y111 l1 _ _ _ (fun k_ => ((P0_ k_ ∨ P1_ k_) ∨ w.heap.size ≤ k_) ∧ k_ ≠ gb101) (fun k_ => ((fun k_ => ((P0_ k_ ∨ P1_ k_) ∨ w.heap.size ≤ k_) ∧ k_ ≠ gb101)) k_ ∧ some k_ ≠ (v112 : Value).ownBlock) rfl rfl ?aO ?aR (fun _ hk => hk) ?aF ?aB ?aS ?aL ?_
      (case aR => exact (by skip; exact Kd.V_F (Kd.V_mono (ok' := (fun k_ => ((fun k_ => ((P0_ k_ ∨ P1_ k_) ∨ w.heap.size ≤ k_) ∧ k_ ≠ gb101)) k_ ∧ some k_ ≠ (v112 : Value).ownBlock)) (HO_1.out) (fun k_ hk => ⟨⟨hk.1.1, hk.1.2⟩, hk.2⟩))))
      (case aB => exact (by repeat (first | (with_reducible first | exact HB.out | apply below_alloc | apply pw_below_drewN | apply below_drew1 | refine below_set ?_ GE101.out) | exact HB.out)))
      (case aF => exact (fun k_ hk => ⟨(.inr (Nat.le_trans (below_size (by repeat (first | (with_reducible first | exact HB.out | apply below_alloc | apply pw_below_drewN | apply below_drew1 | refine below_set ?_ GE101.out) | exact HB.out))) hk)), Kd.freshB (g := gb101) (o := .cells #[.int .i64 a2_0, .int .u64 a2_1, .slice A2_2 l2_2.length c2_2, .slice A2_3 l2_3.length c2_3] 26 (0, 0)) (by (with_reducible repeat (first | refine blk_drewN ?_ _ | refine blk_drew ?_ | refine blk_alloc ?_ _)); exact BK101.out) k_ hk⟩))
      (case aO => exact (by (with_reducible repeat (first | apply Kd.N_alloc | apply Kd.N_drewN | apply Kd.N_drew)); exact HO113.out))
      (case aS => exact (below_size (by repeat (first | (with_reducible first | exact HB.out | apply below_alloc | apply pw_below_drewN | apply below_drew1 | refine below_set ?_ GE101.out) | exact HB.out))))
      (case aL => have := LMc23.out; omega)
      intro v115 w32 ho hb hg hat
      rw [← Ny114.out] at ho
      have n0_ := Aside0.mk (Kd.V_afterv (ok := (fun k_ => ((P0_ k_ ∨ P1_ k_) ∨ w.heap.size ≤ k_) ∧ k_ ≠ gb101)) (by (with_reducible repeat (first | apply Kd.V_alloc | apply Kd.V_drewN | apply Kd.V_drew)); exact HO_0.out) hg hat)
      have n1_ := Aside0.mk (Kd.V_afterv (ok := (fun k_ => ((P0_ k_ ∨ P1_ k_) ∨ w.heap.size ≤ k_) ∧ k_ ≠ gb101)) (by (with_reducible repeat (first | apply Kd.V_alloc | apply Kd.V_drewN | apply Kd.V_drew)); exact HO_1.out) hg hat)
      have n2_ := Aside0.mk (blk_grown (g := gb101) (o := .cells #[.int .i64 a2_0, .int .u64 a2_1, .slice A2_2 l2_2.length c2_2, .slice A2_3 l2_3.length c2_3] 26 (0, 0)) (by (with_reducible repeat (first | refine blk_drewN ?_ _ | refine blk_drew ?_ | refine blk_alloc ?_ _)); exact BK101.out) hg (Kd.N_away HO113.out (fun _ hk => hk.2)))
      have n3_ := Aside0.mk (hb)
      have n4_ := Aside0.mk (ho)
      clear HO_0
      clear HO_1
      clear BK101
      clear HB
      clear HO113
      have HO_0 := n0_
      have HO_1 := n1_
      have BK101 := n2_
      have HB := n3_
      have HO116 := n4_
      clear n0_ n1_ n2_ n3_ n4_
      clear ho hb hg hat
      obtain ⟨Ao33, co33, eo33⟩ := Kd.N_slice HO116.out
      (first | subst eo33 | (injection eo33 with f1_ f2_ f3_; have f4_ := f1_.symm; have f5_ := f3_.symm; clear f1_ f2_ f3_; subst f4_; subst f5_))
      refine hK.out _ _ ⟨(blk_cell BK101.out 0).trans rfl, (blk_cell BK101.out 1).trans rfl, (blk_cell BK101.out 2).trans rfl, (blk_cell BK101.out 3).trans rfl⟩ (fun hHeld => ?_)
      clear hK K
      refine norm_ (a' := ?_) ?_ ?_
      rotate_left
      ·show Act.put _ (some 39) _ = _
       simp only [Act.put, List.setIfInBounds_toArray, List.set_cons_zero, List.set_cons_succ, i64_w, i32_w]
       rfl
      refine one_ (i := 6) (N := some 41) #[true, true, true, true, true, true, true, false, false, false, false, false] rfl rfl (one_of HT_.out (by kernel_rfl)) (by decide) (fun K hK => ?_)
      refine goes_ Try.func29 (by kernel_rfl) rfl #[.slice Ao33 y114.length co33, .agg #[.int .i64 a2_0, .int .u64 a2_1, .slice A2_2 l2_2.length c2_2, .slice A2_3 l2_3.length c2_3]] (by rfl) rfl rfl (by (try simp only [List.map_toArray, List.map_cons, List.map_nil]); first | done | rfl | (simp only [List.length_drop, List.length_take]; rfl)) ?_
      with_reducible refine (derive_Follows.calls _ _ y114 a2_0 a2_1 _ _ l2_2 _ _ l2_3 t117 t118 _ ?side1 ?side2 ?side3 ?side4 ?side5 ?side6 A24.out).mono ?_
      (case side1 => repeat (first | exact (Kd.N_reads' HO116.out).2.2 | (with_reducible refine Kd.C_alloc ?_ _) | (with_reducible refine Kd.C_drewN ?_ _) | (with_reducible refine Kd.C_drew ?_)))
      (case side2 => exact (Kd.N_reads' HO116.out).2.1)
      (case side3 => repeat (first | exact (Kd.C_below HR2_2.out HB.out) | (with_reducible refine Kd.C_alloc ?_ _) | (with_reducible refine Kd.C_drewN ?_ _) | (with_reducible refine Kd.C_drew ?_)))
      (case side4 => exact HC2_2.out)
      (case side5 => repeat (first | exact (Kd.C_below HR2_3.out HB.out) | (with_reducible refine Kd.C_alloc ?_ _) | (with_reducible refine Kd.C_drewN ?_ _) | (with_reducible refine Kd.C_drew ?_)))
      (case side6 => exact HC2_3.out)
      rintro e w34 ⟨rfl, hb⟩
      refine ⟨_, rfl, ?_⟩
      have n0_ := Aside0.mk (Kd.V_below (by (with_reducible repeat (first | apply Kd.V_alloc | apply Kd.V_drewN | apply Kd.V_drew)); exact HO_0.out) hb)
      have n1_ := Aside0.mk (Kd.V_below (by (with_reducible repeat (first | apply Kd.V_alloc | apply Kd.V_drewN | apply Kd.V_drew)); exact HO_1.out) hb)
      have n2_ := Aside0.mk (Kd.N_below (by (with_reducible repeat (first | apply Kd.N_alloc | apply Kd.N_drewN | apply Kd.N_drew)); exact HO116.out) hb)
      have n3_ := Aside0.mk (blk_below (g := gb101) (o := .cells #[.int .i64 a2_0, .int .u64 a2_1, .slice A2_2 l2_2.length c2_2, .slice A2_3 l2_3.length c2_3] 26 (0, 0)) (by (with_reducible repeat (first | refine blk_drewN ?_ _ | refine blk_drew ?_ | refine blk_alloc ?_ _)); exact BK101.out) hb)
      have n4_ := Aside0.mk (below_step (by repeat (first | (with_reducible first | exact HB.out | apply below_alloc | apply pw_below_drewN | apply below_drew1 | refine below_set ?_ GE101.out) | exact HB.out)) hb)
      clear HO_0
      clear HO_1
      clear HO116
      clear BK101
      clear HB
      have HO_0 := n0_
      have HO_1 := n1_
      have HO116 := n2_
      have BK101 := n3_
      have HB := n4_
      clear n0_ n1_ n2_ n3_ n4_
      (try clear hb)
      (try clear hb2)
      (try clear hk)
      (try clear hi)
      refine hK.out _ _ ⟨(blk_cell BK101.out 0).trans rfl, (blk_cell BK101.out 1).trans rfl, (blk_cell BK101.out 2).trans rfl, (blk_cell BK101.out 3).trans rfl⟩ (fun hHeld => ?_)
      clear hK K
      refine norm_ (a' := ?_) ?_ ?_
      rotate_left
      ·show Act.put _ (some 41) _ = _
       simp only [Act.put, List.setIfInBounds_toArray, List.set_cons_zero, List.set_cons_succ, i64_w, i32_w]
       rfl
      refine pure_ (i := 7) (N := some 34) (v := ?_) (a' := ?_) #[true, true, true, true, true, true, true, true, false, false, false, false] rfl rfl (any_of HT_.out (by kernel_rfl)) (fun _ _ _ h => h) (Or.inl ⟨by rfl, ?_⟩) ?_ ?_
      rotate_left
      ·intro w'
       go_simp
       with_reducible rfl
      rotate_left
      ·simp only [Act.put, List.setIfInBounds_toArray, List.set_cons_zero, List.set_cons_succ, i64_w, i32_w]
       rfl
      refine pure_ (i := 8) (N := some 42) (v := ?_) (a' := ?_) #[true, true, true, true, true, true, true, true, true, false, false, false] rfl rfl (any_of HT_.out (by kernel_rfl)) (fun _ _ _ h => h) (Or.inl ⟨by rfl, ?_⟩) ?_ ?_
      rotate_left
      ·intro w'
       go_simp
       with_reducible rfl
      rotate_left
      ·simp only [Act.put, List.setIfInBounds_toArray, List.set_cons_zero, List.set_cons_succ, i64_w, i32_w]
       rfl
      refine pure_ (i := 9) (N := some 43) (v := ?_) (a' := ?_) #[true, true, true, true, true, true, true, true, true, true, false, false] rfl rfl (any_of HT_.out (by kernel_rfl)) (fun _ _ _ h => h) (Or.inl ⟨by rfl, ?_⟩) ?_ ?_
      rotate_left
      ·intro w'
       go_simp
       with_reducible rfl
      rotate_left
      ·simp only [Act.put, List.setIfInBounds_toArray, List.set_cons_zero, List.set_cons_succ, i64_w, i32_w]
       rfl
      refine pure_ (i := 10) (N := some 9) (v := ?_) (a' := ?_) #[true, true, true, true, true, true, true, true, true, true, true, false] rfl rfl (any_of HT_.out (by kernel_rfl)) (fun _ _ _ h => h) (Or.inl ⟨by rfl, ?_⟩) ?_ ?_
      rotate_left
      ·intro w'
       go_simp
       with_reducible rfl
      rotate_left
      ·simp only [Act.put, List.setIfInBounds_toArray, List.set_cons_zero, List.set_cons_succ, i64_w, i32_w]
       rfl
      refine pure_ (i := 11) (N := some 10) (v := ?_) (a' := ?_) #[true, true, true, true, true, true, true, true, true, true, true, true] rfl rfl (any_of HT_.out (by kernel_rfl)) (fun _ _ _ h => h) (Or.inl ⟨by rfl, ?_⟩) ?_ ?_
      rotate_left
      ·intro w'
       go_simp
       with_reducible rfl
      rotate_left
      ·simp only [Act.put, List.setIfInBounds_toArray, List.set_cons_zero, List.set_cons_succ, i64_w, i32_w]
       rfl
      refine done_ (done_of HT_.out (by kernel_rfl)) ?_
      go_upto_region 5 with (fail)
      go_cut [51] (fun v51 wc => ∃ (kq : Nat) (x51_24 : Bool), v51 = .bool x51_24 ∧ Aside0 (hanaperlaw06_DeriveMore.j1 kq l0 l1 t106 t117 x51_24 = some r) ∧ Aside0 (kq ≤ kj3) ∧ Aside0 (Kd.V k26 26 wc w.heap.size (fun k_ => ((P0_ k_ ∨ P1_ k_) ∨ w.heap.size ≤ k_) ∧ k_ ≠ gb101) (.slice A0 l0.length c0) l0) ∧ Aside0 (Kd.V k26 26 wc w.heap.size (fun k_ => ((P0_ k_ ∨ P1_ k_) ∨ w.heap.size ≤ k_) ∧ k_ ≠ gb101) (.slice A1 l1.length c1) l1) ∧ Aside0 (wc.heap[gb101]? = some (.cells #[.int .i64 a2_0, .int .u64 a2_1, (.slice A2_2 l2_2.length c2_2), (.slice A2_3 l2_3.length c2_3)] 26 (0, 0))) ∧ Aside0 (Below w.heap.size w wc))
      case first =>
       have H := HC25.out
       clear HC25
       replace H := Option.bind_eq_some_iff.mp H
       obtain ⟨t119, A350, H⟩ := H
       replace H : (if t119 = 0 then ((hanaperlaw06_num.f t118).bind fun t120 => (hanaperlaw06_DeriveMore.j1 kj3 l0 l1 t106 t117 (t120 != 0))) else (hanaperlaw06_DeriveMore.j1 kj3 l0 l1 t106 t117 true)) = some r := H
       have A35 := Aside0.mk A350
       clear A350
       by_cases c36 : t119 = 0
       ·rw [if_pos c36] at H
        have c36b0 : (t119 == 0) = true := beq_iff_eq.mpr c36
        have c36b1 : (t119 != 0) = false := bne_eq_false_iff_eq.mpr c36
        clear c36
        (first | rw [c36b0] | (simp only [i64_w, i32_w]; rw [c36b0]) | skip)
        replace H := Option.bind_eq_some_iff.mp H
        obtain ⟨t120, A370, H⟩ := H
        replace H : (hanaperlaw06_DeriveMore.j1 kj3 l0 l1 t106 t117 (t120 != 0)) = some r := H
        have A37 := Aside0.mk A370
        clear A370
        have H' := Aside0.mk H
        clear H
        go_wp2_with (first | ((with_reducible refine gate_callee (f := 28) rfl ?_); refine goesL_ (some 45) rfl rfl Try.func28 (by kernel_rfl) rfl #[.int .i64 t107] rfl (by (try simp only [List.map_toArray, List.map_cons, List.map_nil]); first | done | rfl | (simp only [List.length_drop, List.length_take]; rfl)) ?_; (with_reducible refine (hanaperlaw06_num.calls t107 t119 _ A35.out).mono ?_); rintro e w' ⟨rfl, ⟨nd, rfl⟩⟩; refine ⟨_, rfl, ?_⟩) | (go_at_call 28; (with_reducible refine (hanaperlaw06_num.calls t118 t120 _ A37.out).mono ?_); rintro e w' ⟨rfl, ⟨nd, rfl⟩⟩))
        go_meet
        case rel => exact ⟨_, ((t120 != 0)), (by first | rfl | (simp; done) | (simp [*]; done)), H', ⟨by have := HJ3.out; first | omega | exact Nat.le_refl _⟩, ⟨by (with_reducible repeat (first | apply Kd.V_alloc | apply Kd.V_drewN | apply Kd.V_drew)); exact Kd.V_mono HO_0.out (fun _ hk => ⟨hk.1.1, hk.1.2⟩)⟩, ⟨by (with_reducible repeat (first | apply Kd.V_alloc | apply Kd.V_drewN | apply Kd.V_drew)); exact Kd.V_mono HO_1.out (fun _ hk => ⟨hk.1.1, hk.1.2⟩)⟩, ⟨by (with_reducible repeat (first | refine blk_drewN ?_ _ | refine blk_drew ?_ | refine blk_alloc ?_ _)); exact BK101.out⟩, ⟨by repeat (first | (with_reducible first | exact HB.out | apply below_alloc | apply pw_below_drewN | apply below_drew1 | refine below_set ?_ GE101.out) | exact HB.out)⟩⟩
       ·rw [if_neg c36] at H
        have c36b0 : (t119 == 0) = false := beq_eq_false_iff_ne.mpr c36
        have c36b1 : (t119 != 0) = true := bne_iff_ne.mpr c36
        (first | rw [c36b0] | (simp only [i64_w, i32_w]; rw [c36b0]) | skip)
        have H' := Aside0.mk H
        clear H
        go_wp2_with (first | ((with_reducible refine gate_callee (f := 28) rfl ?_); refine goesL_ (some 45) rfl rfl Try.func28 (by kernel_rfl) rfl #[.int .i64 t107] rfl (by (try simp only [List.map_toArray, List.map_cons, List.map_nil]); first | done | rfl | (simp only [List.length_drop, List.length_take]; rfl)) ?_; (with_reducible refine (hanaperlaw06_num.calls t107 t119 _ A35.out).mono ?_); rintro e w' ⟨rfl, ⟨nd, rfl⟩⟩; refine ⟨_, rfl, ?_⟩))
        go_meet
        case rel => exact ⟨_, (true), (by first | rfl | (simp; done) | (simp [*]; done)), H', ⟨by have := HJ3.out; first | omega | exact Nat.le_refl _⟩, ⟨by (with_reducible repeat (first | apply Kd.V_alloc | apply Kd.V_drewN | apply Kd.V_drew)); exact Kd.V_mono HO_0.out (fun _ hk => ⟨hk.1.1, hk.1.2⟩)⟩, ⟨by (with_reducible repeat (first | apply Kd.V_alloc | apply Kd.V_drewN | apply Kd.V_drew)); exact Kd.V_mono HO_1.out (fun _ hk => ⟨hk.1.1, hk.1.2⟩)⟩, ⟨by (with_reducible repeat (first | refine blk_drewN ?_ _ | refine blk_drew ?_ | refine blk_alloc ?_ _)); exact BK101.out⟩, ⟨by repeat (first | (with_reducible first | exact HB.out | apply below_alloc | apply pw_below_drewN | apply below_drew1 | refine below_set ?_ GE101.out) | exact HB.out)⟩⟩
      case rest =>
       clear HC25
       (try clear c1);(try clear c2);(try clear p2);(try clear c3);(try clear c7);(try clear c9);(try clear c18);(try clear c22);(try clear c23);(try clear c24);(try clear c28);(try clear c29);(try clear c36);(try clear c36b0);(try clear c36b1);(try clear hcz13_0);(try clear hcz13_1);(try clear hcz13_2);(try clear hcz13_3);(try clear hcz26_0);(try clear hcz26_1);(try clear hcz26_2);(try clear hcz26_3);(try clear hfz13_0);(try clear hfz13_1);(try clear hfz13_2);(try clear hfz13_3);(try clear hfz26_0);(try clear hfz26_1);(try clear hfz26_2);(try clear hfz26_3);(try clear p2)
       obtain ⟨kq, x51_24, rfl, HA, HJ24, HO_0, HO_1, BK101, HB⟩ := hcut
       cases kq with
       | zero => exact absurd HA.out (by simp [hanaperlaw06_DeriveMore.j1])
       | succ kj24 =>
        have H := HA.out
        clear HA
        simp only [hanaperlaw06_DeriveMore.j1] at H
        by_cases c38 : x51_24 = true
        ·subst c38
         have H1 : ((hanaperlaw06_live.f).bind fun t121 => (some t121)) = some r := by rw [if_pos rfl] at H; exact H
         clear H
         have H := H1
         clear H1
         replace H := Option.bind_eq_some_iff.mp H
         obtain ⟨t121, A390, H⟩ := H
         replace H : (some t121) = some r := H
         have A39 := Aside0.mk A390
         clear A390
         obtain rfl := Option.some.inj H
         go_wp2_with (first | ((with_reducible refine gate_callee (f := 24) rfl ?_); refine goesL_ (some 52) rfl rfl Try.func24 (by kernel_rfl) rfl #[] rfl (by (try simp only [List.map_toArray, List.map_cons, List.map_nil]); first | done | rfl | (simp only [List.length_drop, List.length_take]; rfl)) ?_; (with_reducible refine (hanaperlaw06_live.calls  t121 _ A39.out).mono ?_); rintro e w40 ⟨rfl, hb⟩; refine ⟨_, rfl, ?_⟩; have n0_ := Aside0.mk (Kd.V_below (by (with_reducible repeat (first | apply Kd.V_alloc | apply Kd.V_drewN | apply Kd.V_drew)); exact HO_0.out) hb); have n1_ := Aside0.mk (Kd.V_below (by (with_reducible repeat (first | apply Kd.V_alloc | apply Kd.V_drewN | apply Kd.V_drew)); exact HO_1.out) hb); have n2_ := Aside0.mk (blk_below (g := gb101) (o := .cells #[.int .i64 a2_0, .int .u64 a2_1, .slice A2_2 l2_2.length c2_2, .slice A2_3 l2_3.length c2_3] 26 (0, 0)) (by (with_reducible repeat (first | refine blk_drewN ?_ _ | refine blk_drew ?_ | refine blk_alloc ?_ _)); exact BK101.out) hb); have n3_ := Aside0.mk (below_step (by repeat (first | (with_reducible first | exact HB.out | apply below_alloc | apply pw_below_drewN | apply below_drew1 | refine below_set ?_ GE101.out) | exact HB.out)) hb); clear HO_0; clear HO_1; clear BK101; clear HB; have HO_0 := n0_; have HO_1 := n1_; have BK101 := n2_; have HB := n3_; clear n0_ n1_ n2_ n3_; (try clear hb); (try clear hb2); (try clear hk); (try clear hi)))
         go_ret
         exact ⟨by first | rfl | (simp [errW_none, errW_some] <;> rfl) | (simp [*, errW_none, errW_some] <;> rfl), by repeat (first | (with_reducible first | exact HB.out | apply below_alloc | apply pw_below_drewN | apply below_drew1 | refine below_set ?_ GE101.out) | exact HB.out)⟩
        ·replace c38 := Bool.eq_false_iff.mpr c38
         subst c38
         have H1 : (if t106 = true then (hanaperlaw06_DeriveMore.j2 kj24 l0 l1 t106 t117 (!t117)) else (hanaperlaw06_DeriveMore.j2 kj24 l0 l1 t106 t117 false)) = some r := by rw [if_neg (show ¬ (false = true) by decide)] at H; exact H
         clear H
         have H := H1
         clear H1
         have HC41 := Aside0.mk H
         clear H
         go_upto_region 7 with (fail)
         go_cut [57] (fun v57 wc => ∃ (kq : Nat) (x57_40 : Bool), v57 = .bool x57_40 ∧ Aside0 (hanaperlaw06_DeriveMore.j2 kq l0 l1 t106 t117 x57_40 = some r) ∧ Aside0 (kq ≤ kj24) ∧ Aside0 (Kd.V k26 26 wc w.heap.size (fun k_ => ((P0_ k_ ∨ P1_ k_) ∨ w.heap.size ≤ k_) ∧ k_ ≠ gb101) (.slice A0 l0.length c0) l0) ∧ Aside0 (Kd.V k26 26 wc w.heap.size (fun k_ => ((P0_ k_ ∨ P1_ k_) ∨ w.heap.size ≤ k_) ∧ k_ ≠ gb101) (.slice A1 l1.length c1) l1) ∧ Aside0 (wc.heap[gb101]? = some (.cells #[.int .i64 a2_0, .int .u64 a2_1, (.slice A2_2 l2_2.length c2_2), (.slice A2_3 l2_3.length c2_3)] 26 (0, 0))) ∧ Aside0 (Below w.heap.size w wc))
         case first =>
          have H := HC41.out
          clear HC41
          by_cases c42 : t106 = true
          ·subst c42
           have H1 : (hanaperlaw06_DeriveMore.j2 kj24 l0 l1 true t117 (!t117)) = some r := by rw [if_pos rfl] at H; exact H
           clear H
           have H := H1
           clear H1
           have H' := Aside0.mk H
           clear H
           go_wp2
           go_meet
           case rel => exact ⟨_, (!t117), (by first | rfl | (simp; done) | (simp [*]; done)), H', ⟨by have := HJ3.out; have := HJ24.out; first | omega | exact Nat.le_refl _⟩, ⟨by (with_reducible repeat (first | apply Kd.V_alloc | apply Kd.V_drewN | apply Kd.V_drew)); exact HO_0.out⟩, ⟨by (with_reducible repeat (first | apply Kd.V_alloc | apply Kd.V_drewN | apply Kd.V_drew)); exact HO_1.out⟩, ⟨by (with_reducible repeat (first | refine blk_drewN ?_ _ | refine blk_drew ?_ | refine blk_alloc ?_ _)); exact BK101.out⟩, ⟨by repeat (first | (with_reducible first | exact HB.out | apply below_alloc | apply pw_below_drewN | apply below_drew1 | refine below_set ?_ GE101.out) | exact HB.out)⟩⟩
          ·replace c42 := Bool.eq_false_iff.mpr c42
           subst c42
           have H1 : (hanaperlaw06_DeriveMore.j2 kj24 l0 l1 false t117 false) = some r := by rw [if_neg (show ¬ (false = true) by decide)] at H; exact H
           clear H
           have H := H1
           clear H1
           have H' := Aside0.mk H
           clear H
           go_wp2
           go_meet
           case rel => exact ⟨_, (false), (by first | rfl | (simp; done) | (simp [*]; done)), H', ⟨by have := HJ3.out; have := HJ24.out; first | omega | exact Nat.le_refl _⟩, ⟨by (with_reducible repeat (first | apply Kd.V_alloc | apply Kd.V_drewN | apply Kd.V_drew)); exact HO_0.out⟩, ⟨by (with_reducible repeat (first | apply Kd.V_alloc | apply Kd.V_drewN | apply Kd.V_drew)); exact HO_1.out⟩, ⟨by (with_reducible repeat (first | refine blk_drewN ?_ _ | refine blk_drew ?_ | refine blk_alloc ?_ _)); exact BK101.out⟩, ⟨by repeat (first | (with_reducible first | exact HB.out | apply below_alloc | apply pw_below_drewN | apply below_drew1 | refine below_set ?_ GE101.out) | exact HB.out)⟩⟩
         case rest =>
          clear HC41
          (try clear c1);(try clear c2);(try clear p2);(try clear c3);(try clear c4);(try clear c7);(try clear c9);(try clear c18);(try clear c22);(try clear c23);(try clear c24);(try clear c28);(try clear c29);(try clear c36);(try clear c36b0);(try clear c36b1);(try clear c38);(try clear c42);(try clear hcz13_0);(try clear hcz13_1);(try clear hcz13_2);(try clear hcz13_3);(try clear hcz26_0);(try clear hcz26_1);(try clear hcz26_2);(try clear hcz26_3);(try clear hfz13_0);(try clear hfz13_1);(try clear hfz13_2);(try clear hfz13_3);(try clear hfz26_0);(try clear hfz26_1);(try clear hfz26_2);(try clear hfz26_3);(try clear p2)
          obtain ⟨kq, x57_40, rfl, HA, HJ40, HO_0, HO_1, BK101, HB⟩ := hcut
          cases kq with
          | zero => exact absurd HA.out (by simp [hanaperlaw06_DeriveMore.j2])
          | succ kj40 =>
           have H := HA.out
           clear HA
           simp only [hanaperlaw06_DeriveMore.j2] at H
           by_cases c43 : x57_40 = true
           ·subst c43
            have H1 : (some false) = some r := by rw [if_pos rfl] at H; exact H
            clear H
            have H := H1
            clear H1
            obtain rfl := Option.some.inj H
            go_wp2
            go_ret
            exact ⟨by first | rfl | (simp [errW_none, errW_some] <;> rfl) | (simp [*, errW_none, errW_some] <;> rfl), by repeat (first | (with_reducible first | exact HB.out | apply below_alloc | apply pw_below_drewN | apply below_drew1 | refine below_set ?_ GE101.out) | exact HB.out)⟩
           ·replace c43 := Bool.eq_false_iff.mpr c43
            subst c43
            have H1 : (hanaperlaw06_DeriveMore.l0 kj40 l0 l1 t106 t117 0) = some r := by rw [if_neg (show ¬ (false = true) by decide)] at H; exact H
            clear H
            have H := H1
            clear H1
            have H' := Aside0.mk H
            clear H
            go_wp2
            go_loopg [11] kj40 (fun kq v11 w' => ∃ (x11_4 : Int), v11 = .int .i64 x11_4 ∧ Aside0 (hanaperlaw06_DeriveMore.l0 kq l0 l1 t106 t117 x11_4 = some r) ∧ Aside0 (kq ≤ kj40) ∧ Aside0 (Kd.V k26 26 w' w.heap.size (fun k_ => ((P0_ k_ ∨ P1_ k_) ∨ w.heap.size ≤ k_) ∧ k_ ≠ gb101) (.slice A0 l0.length c0) l0) ∧ Aside0 (Kd.V k26 26 w' w.heap.size (fun k_ => ((P0_ k_ ∨ P1_ k_) ∨ w.heap.size ≤ k_) ∧ k_ ≠ gb101) (.slice A1 l1.length c1) l1) ∧ Aside0 (w'.heap[gb101]? = some (.cells #[.int .i64 a2_0, .int .u64 a2_1, (.slice A2_2 l2_2.length c2_2), (.slice A2_3 l2_3.length c2_3)] 26 (0, 0))) ∧ Aside0 (Below w.heap.size w w'))
            case atStart => exact ⟨(0), (by first | rfl | (simp; done) | (simp [*]; done)), H', ⟨Nat.le_refl _⟩, ⟨by (with_reducible repeat (first | apply Kd.V_alloc | apply Kd.V_drewN | apply Kd.V_drew)); exact HO_0.out⟩, ⟨by (with_reducible repeat (first | apply Kd.V_alloc | apply Kd.V_drewN | apply Kd.V_drew)); exact HO_1.out⟩, ⟨by (with_reducible repeat (first | refine blk_drewN ?_ _ | refine blk_drew ?_ | refine blk_alloc ?_ _)); exact BK101.out⟩, ⟨by repeat (first | (with_reducible first | exact HB.out | apply below_alloc | apply pw_below_drewN | apply below_drew1 | refine below_set ?_ GE101.out) | exact HB.out)⟩⟩
            case round =>
             clear H'
             (try clear c1);(try clear c2);(try clear p2);(try clear c3);(try clear c4);(try clear c7);(try clear c9);(try clear c18);(try clear c22);(try clear c23);(try clear c24);(try clear c28);(try clear c29);(try clear c36);(try clear c36b0);(try clear c36b1);(try clear c38);(try clear c42);(try clear c43);(try clear hcz13_0);(try clear hcz13_1);(try clear hcz13_2);(try clear hcz13_3);(try clear hcz26_0);(try clear hcz26_1);(try clear hcz26_2);(try clear hcz26_3);(try clear hfz13_0);(try clear hfz13_1);(try clear hfz13_2);(try clear hfz13_3);(try clear hfz26_0);(try clear hfz26_1);(try clear hfz26_2);(try clear hfz26_3);(try clear p2)
             obtain ⟨x11_4, rfl, HA, HK4, HO_0, HO_1, BK101, HB⟩ := hrel
             cases gk with
             | zero => exact absurd HA.out (by simp [hanaperlaw06_DeriveMore.l0])
             | succ k4 =>
              have H := HA.out
              clear HA
              simp only [hanaperlaw06_DeriveMore.l0] at H
              by_cases c44 : x11_4 < (l1.length : Int)
              ·rw [if_pos c44] at H
               have c44b0 : decide (x11_4 < (l1.length : Int)) = true := decide_eq_true c44
               clear c44
               by_cases c45 : 0 ≤ x11_4
               ·rw [if_pos c45] at H
                have c45b0 : decide (0 ≤ x11_4) = true := decide_eq_true c45
                clear c45
                replace H := Option.bind_eq_some_iff.mp H
                obtain ⟨⟨t124, t125⟩, A460, H⟩ := H
                replace H : ((hanaperlaw06_num.f t125).bind fun t126 => (if t126 = 0 then (if t124 = true then (hanaperlaw06_DeriveMore.l0 k4 l0 l1 t106 t117 (wrap64 (x11_4 + 1))) else ((hanaperlaw06_live.f).bind fun t127 => (some t127))) else ((hanaperlaw06_live.f).bind fun t128 => (some t128)))) = some r := H
                have A46 := Aside0.mk A460
                clear A460
                replace H := Option.bind_eq_some_iff.mp H
                obtain ⟨t126, A470, H⟩ := H
                replace H : (if t126 = 0 then (if t124 = true then (hanaperlaw06_DeriveMore.l0 k4 l0 l1 t106 t117 (wrap64 (x11_4 + 1))) else ((hanaperlaw06_live.f).bind fun t127 => (some t127))) else ((hanaperlaw06_live.f).bind fun t128 => (some t128))) = some r := H
                have A47 := Aside0.mk A470
                clear A470
                by_cases c48 : t126 = 0
                ·rw [if_pos c48] at H
                 have c48b0 : (t126 == 0) = true := beq_iff_eq.mpr c48
                 have c48b1 : (t126 != 0) = false := bne_eq_false_iff_eq.mpr c48
                 clear c48
                 by_cases c49 : t124 = true
                 ·subst c49
                  have H1 : (hanaperlaw06_DeriveMore.l0 k4 l0 l1 t106 t117 (wrap64 (x11_4 + 1))) = some r := by rw [if_pos rfl] at H; exact H
                  clear H
                  have H := H1
                  clear H1
                  have H' := Aside0.mk H
                  clear H
                  have p123 : 0 ≤ (x11_4 : Int) := of_decide_eq_true (by first | (with_reducible assumption) | assumption)
                  have q123 : x11_4 < (l1.length : Int) := of_decide_eq_true (by first | (with_reducible assumption) | assumption)
                  obtain ⟨ad123, A123_2, c123_2, A123_3, c123_3, e123, hx123_0, hx123_1, hx123_2, hx123_3, hl123_2, hi123_2, hl123_3, hi123_3⟩ := at_T26 (Kd.V_reads' HO_1.out).2.2 x11_4 p123 q123
                  cases e123
                  obtain ⟨ce123, hce123, hMe123, hcc123⟩ := Kd.V_get HO_1.out z26 x11_4 p123 (by first | exact q123 | exact of_decide_eq_true (by first | (with_reducible assumption) | assumption) | (have e_ := (Kd.V_reads' HO_1.out).1; omega))
                  obtain ⟨ua123_2, uc123_2, ua123_3, uc123_3, rfl, ul123_2, ge123_2, ul123_3, ge123_3⟩ := k26_openF hMe123
                  have hv123_2 := hcc123 2 _ rfl
                  rw [add_field _ _ 2 (by omega)] at hv123_2
                  replace hv123_2 := Option.some.inj (hv123_2.symm.trans hx123_2)
                  injection hv123_2 with hva_ hvn_ hvc_
                  rw [hva_] at ge123_2
                  rw [hvc_] at ul123_2
                  have HL123_2 := Aside0.mk (show Kd.V (Kd.int .u8) 5 _ w.heap.size _ _ ((rd_T26 l1 x11_4).f2) from Kd.V_mk ul123_2 ge123_2)
                  clear hva_ hvn_ hvc_ ge123_2 ul123_2
                  have hv123_3 := hcc123 3 _ rfl
                  rw [add_field _ _ 3 (by omega)] at hv123_3
                  replace hv123_3 := Option.some.inj (hv123_3.symm.trans hx123_3)
                  injection hv123_3 with hva_ hvn_ hvc_
                  rw [hva_] at ge123_3
                  rw [hvc_] at ul123_3
                  have HL123_3 := Aside0.mk (show Kd.V k26 26 _ w.heap.size _ _ ((rd_T26 l1 x11_4).f3) from Kd.V_mk ul123_3 ge123_3)
                  clear hva_ hvn_ hvc_ ge123_3 ul123_3
                  clear hcc123 hce123
                  have HR123_2 := Aside0.mk hi123_2
                  have HC123_2 := Aside0.mk hl123_2
                  clear hi123_2 hl123_2
                  have HR123_3 := Aside0.mk hi123_3
                  have HC123_3 := Aside0.mk hl123_3
                  clear hi123_3 hl123_3
                  replace p123 := eq_true p123
                  replace q123 := eq_true q123
                  go_wp2_with (first | ((with_reducible refine gate_callee (f := 29) rfl ?_); refine goesL_ (some 70) rfl rfl Try.func29 (by kernel_rfl) rfl #[.slice A0 l0.length c0, .agg #[.int .i64 ((rd_T26 l1 x11_4).f0), .int .u64 ((rd_T26 l1 x11_4).f1), .slice A123_2 ((rd_T26 l1 x11_4).f2).length c123_2, .slice A123_3 ((rd_T26 l1 x11_4).f3).length c123_3]] rfl (by (try simp only [List.map_toArray, List.map_cons, List.map_nil]); first | done | rfl | (simp only [List.length_drop, List.length_take]; rfl)) ?_; (with_reducible refine (derive_Follows.calls _ _ l0 ((rd_T26 l1 x11_4).f0) ((rd_T26 l1 x11_4).f1) _ _ ((rd_T26 l1 x11_4).f2) _ _ ((rd_T26 l1 x11_4).f3) true t125 _ ?side1 ?side2 ?side3 ?side4 ?side5 ?side6 A46.out).mono ?_); (case side1 => repeat (first | exact (Kd.V_reads' HO_0.out).2.2 | (with_reducible refine Kd.C_alloc ?_ _) | (with_reducible refine Kd.C_drewN ?_ _) | (with_reducible refine Kd.C_drew ?_))); (case side2 => exact (Kd.V_reads' HO_0.out).2.1); (case side3 => repeat (first | exact (by repeat (first | (with_reducible exact HR123_2.out) | (with_reducible refine Kd.C_alloc ?_ _) | (with_reducible refine Kd.C_drewN ?_ _) | (with_reducible refine Kd.C_drew ?_) | exact HR123_2.out)) | (with_reducible refine Kd.C_alloc ?_ _) | (with_reducible refine Kd.C_drewN ?_ _) | (with_reducible refine Kd.C_drew ?_))); (case side4 => exact HC123_2.out); (case side5 => repeat (first | exact (by repeat (first | (with_reducible exact HR123_3.out) | (with_reducible refine Kd.C_alloc ?_ _) | (with_reducible refine Kd.C_drewN ?_ _) | (with_reducible refine Kd.C_drew ?_) | exact HR123_3.out)) | (with_reducible refine Kd.C_alloc ?_ _) | (with_reducible refine Kd.C_drewN ?_ _) | (with_reducible refine Kd.C_drew ?_))); (case side6 => exact HC123_3.out); rintro e w50 ⟨rfl, hb⟩; refine ⟨_, rfl, ?_⟩; have n0_ := Aside0.mk (Kd.V_below (by (with_reducible repeat (first | apply Kd.V_alloc | apply Kd.V_drewN | apply Kd.V_drew)); exact HO_0.out) hb); have n1_ := Aside0.mk (Kd.V_below (by (with_reducible repeat (first | apply Kd.V_alloc | apply Kd.V_drewN | apply Kd.V_drew)); exact HO_1.out) hb); have n2_ := Aside0.mk (Kd.V_below (by (with_reducible repeat (first | apply Kd.V_alloc | apply Kd.V_drewN | apply Kd.V_drew)); exact HL123_2.out) hb); have n3_ := Aside0.mk (Kd.V_below (by (with_reducible repeat (first | apply Kd.V_alloc | apply Kd.V_drewN | apply Kd.V_drew)); exact HL123_3.out) hb); have n4_ := Aside0.mk (blk_below (g := gb101) (o := .cells #[.int .i64 a2_0, .int .u64 a2_1, .slice A2_2 l2_2.length c2_2, .slice A2_3 l2_3.length c2_3] 26 (0, 0)) (by (with_reducible repeat (first | refine blk_drewN ?_ _ | refine blk_drew ?_ | refine blk_alloc ?_ _)); exact BK101.out) hb); have n5_ := Aside0.mk (Kd.C_below (by repeat (first | (with_reducible exact HR123_2.out) | (with_reducible refine Kd.C_alloc ?_ _) | (with_reducible refine Kd.C_drewN ?_ _) | (with_reducible refine Kd.C_drew ?_) | exact HR123_2.out)) hb); have n6_ := Aside0.mk (Kd.C_below (by repeat (first | (with_reducible exact HR123_3.out) | (with_reducible refine Kd.C_alloc ?_ _) | (with_reducible refine Kd.C_drewN ?_ _) | (with_reducible refine Kd.C_drew ?_) | exact HR123_3.out)) hb); have n7_ := Aside0.mk (below_step (by repeat (first | (with_reducible first | exact HB.out | apply below_alloc | apply pw_below_drewN | apply below_drew1 | refine below_set ?_ GE101.out) | exact HB.out)) hb); clear HO_0; clear HO_1; clear HL123_2; clear HL123_3; clear BK101; clear HR123_2; clear HR123_3; clear HB; have HO_0 := n0_; have HO_1 := n1_; have HL123_2 := n2_; have HL123_3 := n3_; have BK101 := n4_; have HR123_2 := n5_; have HR123_3 := n6_; have HB := n7_; clear n0_ n1_ n2_ n3_ n4_ n5_ n6_ n7_; (try clear hb); (try clear hb2); (try clear hk); (try clear hi)) | ((with_reducible refine gate_callee (f := 28) rfl ?_); refine goesL_ (some 74) rfl rfl Try.func28 (by kernel_rfl) rfl #[.int .i64 t125] rfl (by (try simp only [List.map_toArray, List.map_cons, List.map_nil]); first | done | rfl | (simp only [List.length_drop, List.length_take]; rfl)) ?_; (with_reducible refine (hanaperlaw06_num.calls t125 t126 _ A47.out).mono ?_); rintro e w' ⟨rfl, ⟨nd, rfl⟩⟩; refine ⟨_, rfl, ?_⟩))
                  go_roundg k4
                  case measure => have := HJ3.out; have := HJ24.out; have := HJ40.out; have := HK4.out; omega
                  case rel => exact ⟨(wrap64 (x11_4 + 1)), (by first | rfl | (simp; done) | (simp [*]; done)), H', ⟨by have := HJ3.out; have := HJ24.out; have := HJ40.out; have := HK4.out; omega⟩, ⟨by (with_reducible repeat (first | apply Kd.V_alloc | apply Kd.V_drewN | apply Kd.V_drew)); exact HO_0.out⟩, ⟨by (with_reducible repeat (first | apply Kd.V_alloc | apply Kd.V_drewN | apply Kd.V_drew)); exact HO_1.out⟩, ⟨by (with_reducible repeat (first | refine blk_drewN ?_ _ | refine blk_drew ?_ | refine blk_alloc ?_ _)); exact BK101.out⟩, ⟨by repeat (first | (with_reducible first | exact HB.out | apply below_alloc | apply pw_below_drewN | apply below_drew1 | refine below_set ?_ GE101.out) | exact HB.out)⟩⟩
                 ·replace c49 := Bool.eq_false_iff.mpr c49
                  subst c49
                  have H1 : ((hanaperlaw06_live.f).bind fun t127 => (some t127)) = some r := by rw [if_neg (show ¬ (false = true) by decide)] at H; exact H
                  clear H
                  have H := H1
                  clear H1
                  replace H := Option.bind_eq_some_iff.mp H
                  obtain ⟨t127, A510, H⟩ := H
                  replace H : (some t127) = some r := H
                  have A51 := Aside0.mk A510
                  clear A510
                  obtain rfl := Option.some.inj H
                  have p123 : 0 ≤ (x11_4 : Int) := of_decide_eq_true (by first | (with_reducible assumption) | assumption)
                  have q123 : x11_4 < (l1.length : Int) := of_decide_eq_true (by first | (with_reducible assumption) | assumption)
                  obtain ⟨ad123, A123_2, c123_2, A123_3, c123_3, e123, hx123_0, hx123_1, hx123_2, hx123_3, hl123_2, hi123_2, hl123_3, hi123_3⟩ := at_T26 (Kd.V_reads' HO_1.out).2.2 x11_4 p123 q123
                  cases e123
                  obtain ⟨ce123, hce123, hMe123, hcc123⟩ := Kd.V_get HO_1.out z26 x11_4 p123 (by first | exact q123 | exact of_decide_eq_true (by first | (with_reducible assumption) | assumption) | (have e_ := (Kd.V_reads' HO_1.out).1; omega))
                  obtain ⟨ua123_2, uc123_2, ua123_3, uc123_3, rfl, ul123_2, ge123_2, ul123_3, ge123_3⟩ := k26_openF hMe123
                  have hv123_2 := hcc123 2 _ rfl
                  rw [add_field _ _ 2 (by omega)] at hv123_2
                  replace hv123_2 := Option.some.inj (hv123_2.symm.trans hx123_2)
                  injection hv123_2 with hva_ hvn_ hvc_
                  rw [hva_] at ge123_2
                  rw [hvc_] at ul123_2
                  have HL123_2 := Aside0.mk (show Kd.V (Kd.int .u8) 5 _ w.heap.size _ _ ((rd_T26 l1 x11_4).f2) from Kd.V_mk ul123_2 ge123_2)
                  clear hva_ hvn_ hvc_ ge123_2 ul123_2
                  have hv123_3 := hcc123 3 _ rfl
                  rw [add_field _ _ 3 (by omega)] at hv123_3
                  replace hv123_3 := Option.some.inj (hv123_3.symm.trans hx123_3)
                  injection hv123_3 with hva_ hvn_ hvc_
                  rw [hva_] at ge123_3
                  rw [hvc_] at ul123_3
                  have HL123_3 := Aside0.mk (show Kd.V k26 26 _ w.heap.size _ _ ((rd_T26 l1 x11_4).f3) from Kd.V_mk ul123_3 ge123_3)
                  clear hva_ hvn_ hvc_ ge123_3 ul123_3
                  clear hcc123 hce123
                  have HR123_2 := Aside0.mk hi123_2
                  have HC123_2 := Aside0.mk hl123_2
                  clear hi123_2 hl123_2
                  have HR123_3 := Aside0.mk hi123_3
                  have HC123_3 := Aside0.mk hl123_3
                  clear hi123_3 hl123_3
                  replace p123 := eq_true p123
                  replace q123 := eq_true q123
                  go_wp2_with (first | ((with_reducible refine gate_callee (f := 29) rfl ?_); refine goesL_ (some 70) rfl rfl Try.func29 (by kernel_rfl) rfl #[.slice A0 l0.length c0, .agg #[.int .i64 ((rd_T26 l1 x11_4).f0), .int .u64 ((rd_T26 l1 x11_4).f1), .slice A123_2 ((rd_T26 l1 x11_4).f2).length c123_2, .slice A123_3 ((rd_T26 l1 x11_4).f3).length c123_3]] rfl (by (try simp only [List.map_toArray, List.map_cons, List.map_nil]); first | done | rfl | (simp only [List.length_drop, List.length_take]; rfl)) ?_; (with_reducible refine (derive_Follows.calls _ _ l0 ((rd_T26 l1 x11_4).f0) ((rd_T26 l1 x11_4).f1) _ _ ((rd_T26 l1 x11_4).f2) _ _ ((rd_T26 l1 x11_4).f3) false t125 _ ?side1 ?side2 ?side3 ?side4 ?side5 ?side6 A46.out).mono ?_); (case side1 => repeat (first | exact (Kd.V_reads' HO_0.out).2.2 | (with_reducible refine Kd.C_alloc ?_ _) | (with_reducible refine Kd.C_drewN ?_ _) | (with_reducible refine Kd.C_drew ?_))); (case side2 => exact (Kd.V_reads' HO_0.out).2.1); (case side3 => repeat (first | exact (by repeat (first | (with_reducible exact HR123_2.out) | (with_reducible refine Kd.C_alloc ?_ _) | (with_reducible refine Kd.C_drewN ?_ _) | (with_reducible refine Kd.C_drew ?_) | exact HR123_2.out)) | (with_reducible refine Kd.C_alloc ?_ _) | (with_reducible refine Kd.C_drewN ?_ _) | (with_reducible refine Kd.C_drew ?_))); (case side4 => exact HC123_2.out); (case side5 => repeat (first | exact (by repeat (first | (with_reducible exact HR123_3.out) | (with_reducible refine Kd.C_alloc ?_ _) | (with_reducible refine Kd.C_drewN ?_ _) | (with_reducible refine Kd.C_drew ?_) | exact HR123_3.out)) | (with_reducible refine Kd.C_alloc ?_ _) | (with_reducible refine Kd.C_drewN ?_ _) | (with_reducible refine Kd.C_drew ?_))); (case side6 => exact HC123_3.out); rintro e w52 ⟨rfl, hb⟩; refine ⟨_, rfl, ?_⟩; have n0_ := Aside0.mk (Kd.V_below (by (with_reducible repeat (first | apply Kd.V_alloc | apply Kd.V_drewN | apply Kd.V_drew)); exact HO_0.out) hb); have n1_ := Aside0.mk (Kd.V_below (by (with_reducible repeat (first | apply Kd.V_alloc | apply Kd.V_drewN | apply Kd.V_drew)); exact HO_1.out) hb); have n2_ := Aside0.mk (Kd.V_below (by (with_reducible repeat (first | apply Kd.V_alloc | apply Kd.V_drewN | apply Kd.V_drew)); exact HL123_2.out) hb); have n3_ := Aside0.mk (Kd.V_below (by (with_reducible repeat (first | apply Kd.V_alloc | apply Kd.V_drewN | apply Kd.V_drew)); exact HL123_3.out) hb); have n4_ := Aside0.mk (blk_below (g := gb101) (o := .cells #[.int .i64 a2_0, .int .u64 a2_1, .slice A2_2 l2_2.length c2_2, .slice A2_3 l2_3.length c2_3] 26 (0, 0)) (by (with_reducible repeat (first | refine blk_drewN ?_ _ | refine blk_drew ?_ | refine blk_alloc ?_ _)); exact BK101.out) hb); have n5_ := Aside0.mk (Kd.C_below (by repeat (first | (with_reducible exact HR123_2.out) | (with_reducible refine Kd.C_alloc ?_ _) | (with_reducible refine Kd.C_drewN ?_ _) | (with_reducible refine Kd.C_drew ?_) | exact HR123_2.out)) hb); have n6_ := Aside0.mk (Kd.C_below (by repeat (first | (with_reducible exact HR123_3.out) | (with_reducible refine Kd.C_alloc ?_ _) | (with_reducible refine Kd.C_drewN ?_ _) | (with_reducible refine Kd.C_drew ?_) | exact HR123_3.out)) hb); have n7_ := Aside0.mk (below_step (by repeat (first | (with_reducible first | exact HB.out | apply below_alloc | apply pw_below_drewN | apply below_drew1 | refine below_set ?_ GE101.out) | exact HB.out)) hb); clear HO_0; clear HO_1; clear HL123_2; clear HL123_3; clear BK101; clear HR123_2; clear HR123_3; clear HB; have HO_0 := n0_; have HO_1 := n1_; have HL123_2 := n2_; have HL123_3 := n3_; have BK101 := n4_; have HR123_2 := n5_; have HR123_3 := n6_; have HB := n7_; clear n0_ n1_ n2_ n3_ n4_ n5_ n6_ n7_; (try clear hb); (try clear hb2); (try clear hk); (try clear hi)) | ((with_reducible refine gate_callee (f := 28) rfl ?_); refine goesL_ (some 74) rfl rfl Try.func28 (by kernel_rfl) rfl #[.int .i64 t125] rfl (by (try simp only [List.map_toArray, List.map_cons, List.map_nil]); first | done | rfl | (simp only [List.length_drop, List.length_take]; rfl)) ?_; (with_reducible refine (hanaperlaw06_num.calls t125 t126 _ A47.out).mono ?_); rintro e w' ⟨rfl, ⟨nd, rfl⟩⟩; refine ⟨_, rfl, ?_⟩))
                  refine (hanaperlaw06_live.calls t127 _ A51.out).mono ?_
                  rintro e wl_ ⟨rfl, hb⟩
                  have n0_ := Aside0.mk (below_step (by repeat (first | (with_reducible first | exact HB.out | apply below_alloc | apply pw_below_drewN | apply below_drew1) | exact HB.out)) hb)
                  clear HB
                  have HB := n0_
                  clear n0_ hb
                  go_wp2_with (fail)
                  go_ret
                  exact ⟨by first | rfl | (simp [errW_none, errW_some] <;> rfl) | (simp [*, errW_none, errW_some] <;> rfl), by repeat (first | (with_reducible first | exact HB.out | apply below_alloc | apply pw_below_drewN | apply below_drew1 | refine below_set ?_ GE101.out) | exact HB.out)⟩
                ·rw [if_neg c48] at H
                 have c48b0 : (t126 == 0) = false := beq_eq_false_iff_ne.mpr c48
                 have c48b1 : (t126 != 0) = true := bne_iff_ne.mpr c48
                 replace H := Option.bind_eq_some_iff.mp H
                 obtain ⟨t128, A540, H⟩ := H
                 replace H : (some t128) = some r := H
                 have A54 := Aside0.mk A540
                 clear A540
                 obtain rfl := Option.some.inj H
                 have p123 : 0 ≤ (x11_4 : Int) := of_decide_eq_true (by first | (with_reducible assumption) | assumption)
                 have q123 : x11_4 < (l1.length : Int) := of_decide_eq_true (by first | (with_reducible assumption) | assumption)
                 obtain ⟨ad123, A123_2, c123_2, A123_3, c123_3, e123, hx123_0, hx123_1, hx123_2, hx123_3, hl123_2, hi123_2, hl123_3, hi123_3⟩ := at_T26 (Kd.V_reads' HO_1.out).2.2 x11_4 p123 q123
                 cases e123
                 obtain ⟨ce123, hce123, hMe123, hcc123⟩ := Kd.V_get HO_1.out z26 x11_4 p123 (by first | exact q123 | exact of_decide_eq_true (by first | (with_reducible assumption) | assumption) | (have e_ := (Kd.V_reads' HO_1.out).1; omega))
                 obtain ⟨ua123_2, uc123_2, ua123_3, uc123_3, rfl, ul123_2, ge123_2, ul123_3, ge123_3⟩ := k26_openF hMe123
                 have hv123_2 := hcc123 2 _ rfl
                 rw [add_field _ _ 2 (by omega)] at hv123_2
                 replace hv123_2 := Option.some.inj (hv123_2.symm.trans hx123_2)
                 injection hv123_2 with hva_ hvn_ hvc_
                 rw [hva_] at ge123_2
                 rw [hvc_] at ul123_2
                 have HL123_2 := Aside0.mk (show Kd.V (Kd.int .u8) 5 _ w.heap.size _ _ ((rd_T26 l1 x11_4).f2) from Kd.V_mk ul123_2 ge123_2)
                 clear hva_ hvn_ hvc_ ge123_2 ul123_2
                 have hv123_3 := hcc123 3 _ rfl
                 rw [add_field _ _ 3 (by omega)] at hv123_3
                 replace hv123_3 := Option.some.inj (hv123_3.symm.trans hx123_3)
                 injection hv123_3 with hva_ hvn_ hvc_
                 rw [hva_] at ge123_3
                 rw [hvc_] at ul123_3
                 have HL123_3 := Aside0.mk (show Kd.V k26 26 _ w.heap.size _ _ ((rd_T26 l1 x11_4).f3) from Kd.V_mk ul123_3 ge123_3)
                 clear hva_ hvn_ hvc_ ge123_3 ul123_3
                 clear hcc123 hce123
                 have HR123_2 := Aside0.mk hi123_2
                 have HC123_2 := Aside0.mk hl123_2
                 clear hi123_2 hl123_2
                 have HR123_3 := Aside0.mk hi123_3
                 have HC123_3 := Aside0.mk hl123_3
                 clear hi123_3 hl123_3
                 replace p123 := eq_true p123
                 replace q123 := eq_true q123
                 go_wp2_with (first | ((with_reducible refine gate_callee (f := 29) rfl ?_); refine goesL_ (some 70) rfl rfl Try.func29 (by kernel_rfl) rfl #[.slice A0 l0.length c0, .agg #[.int .i64 ((rd_T26 l1 x11_4).f0), .int .u64 ((rd_T26 l1 x11_4).f1), .slice A123_2 ((rd_T26 l1 x11_4).f2).length c123_2, .slice A123_3 ((rd_T26 l1 x11_4).f3).length c123_3]] rfl (by (try simp only [List.map_toArray, List.map_cons, List.map_nil]); first | done | rfl | (simp only [List.length_drop, List.length_take]; rfl)) ?_; (with_reducible refine (derive_Follows.calls _ _ l0 ((rd_T26 l1 x11_4).f0) ((rd_T26 l1 x11_4).f1) _ _ ((rd_T26 l1 x11_4).f2) _ _ ((rd_T26 l1 x11_4).f3) t124 t125 _ ?side1 ?side2 ?side3 ?side4 ?side5 ?side6 A46.out).mono ?_); (case side1 => repeat (first | exact (Kd.V_reads' HO_0.out).2.2 | (with_reducible refine Kd.C_alloc ?_ _) | (with_reducible refine Kd.C_drewN ?_ _) | (with_reducible refine Kd.C_drew ?_))); (case side2 => exact (Kd.V_reads' HO_0.out).2.1); (case side3 => repeat (first | exact (by repeat (first | (with_reducible exact HR123_2.out) | (with_reducible refine Kd.C_alloc ?_ _) | (with_reducible refine Kd.C_drewN ?_ _) | (with_reducible refine Kd.C_drew ?_) | exact HR123_2.out)) | (with_reducible refine Kd.C_alloc ?_ _) | (with_reducible refine Kd.C_drewN ?_ _) | (with_reducible refine Kd.C_drew ?_))); (case side4 => exact HC123_2.out); (case side5 => repeat (first | exact (by repeat (first | (with_reducible exact HR123_3.out) | (with_reducible refine Kd.C_alloc ?_ _) | (with_reducible refine Kd.C_drewN ?_ _) | (with_reducible refine Kd.C_drew ?_) | exact HR123_3.out)) | (with_reducible refine Kd.C_alloc ?_ _) | (with_reducible refine Kd.C_drewN ?_ _) | (with_reducible refine Kd.C_drew ?_))); (case side6 => exact HC123_3.out); rintro e w55 ⟨rfl, hb⟩; refine ⟨_, rfl, ?_⟩; have n0_ := Aside0.mk (Kd.V_below (by (with_reducible repeat (first | apply Kd.V_alloc | apply Kd.V_drewN | apply Kd.V_drew)); exact HO_0.out) hb); have n1_ := Aside0.mk (Kd.V_below (by (with_reducible repeat (first | apply Kd.V_alloc | apply Kd.V_drewN | apply Kd.V_drew)); exact HO_1.out) hb); have n2_ := Aside0.mk (Kd.V_below (by (with_reducible repeat (first | apply Kd.V_alloc | apply Kd.V_drewN | apply Kd.V_drew)); exact HL123_2.out) hb); have n3_ := Aside0.mk (Kd.V_below (by (with_reducible repeat (first | apply Kd.V_alloc | apply Kd.V_drewN | apply Kd.V_drew)); exact HL123_3.out) hb); have n4_ := Aside0.mk (blk_below (g := gb101) (o := .cells #[.int .i64 a2_0, .int .u64 a2_1, .slice A2_2 l2_2.length c2_2, .slice A2_3 l2_3.length c2_3] 26 (0, 0)) (by (with_reducible repeat (first | refine blk_drewN ?_ _ | refine blk_drew ?_ | refine blk_alloc ?_ _)); exact BK101.out) hb); have n5_ := Aside0.mk (Kd.C_below (by repeat (first | (with_reducible exact HR123_2.out) | (with_reducible refine Kd.C_alloc ?_ _) | (with_reducible refine Kd.C_drewN ?_ _) | (with_reducible refine Kd.C_drew ?_) | exact HR123_2.out)) hb); have n6_ := Aside0.mk (Kd.C_below (by repeat (first | (with_reducible exact HR123_3.out) | (with_reducible refine Kd.C_alloc ?_ _) | (with_reducible refine Kd.C_drewN ?_ _) | (with_reducible refine Kd.C_drew ?_) | exact HR123_3.out)) hb); have n7_ := Aside0.mk (below_step (by repeat (first | (with_reducible first | exact HB.out | apply below_alloc | apply pw_below_drewN | apply below_drew1 | refine below_set ?_ GE101.out) | exact HB.out)) hb); clear HO_0; clear HO_1; clear HL123_2; clear HL123_3; clear BK101; clear HR123_2; clear HR123_3; clear HB; have HO_0 := n0_; have HO_1 := n1_; have HL123_2 := n2_; have HL123_3 := n3_; have BK101 := n4_; have HR123_2 := n5_; have HR123_3 := n6_; have HB := n7_; clear n0_ n1_ n2_ n3_ n4_ n5_ n6_ n7_; (try clear hb); (try clear hb2); (try clear hk); (try clear hi)) | ((with_reducible refine gate_callee (f := 28) rfl ?_); refine goesL_ (some 74) rfl rfl Try.func28 (by kernel_rfl) rfl #[.int .i64 t125] rfl (by (try simp only [List.map_toArray, List.map_cons, List.map_nil]); first | done | rfl | (simp only [List.length_drop, List.length_take]; rfl)) ?_; (with_reducible refine (hanaperlaw06_num.calls t125 t126 _ A47.out).mono ?_); rintro e w' ⟨rfl, ⟨nd, rfl⟩⟩; refine ⟨_, rfl, ?_⟩))
                 refine (hanaperlaw06_live.calls t128 _ A54.out).mono ?_
                 rintro e wl_ ⟨rfl, hb⟩
                 have n0_ := Aside0.mk (below_step (by repeat (first | (with_reducible first | exact HB.out | apply below_alloc | apply pw_below_drewN | apply below_drew1) | exact HB.out)) hb)
                 clear HB
                 have HB := n0_
                 clear n0_ hb
                 go_wp2_with (fail)
                 go_ret
                 exact ⟨by first | rfl | (simp [errW_none, errW_some] <;> rfl) | (simp [*, errW_none, errW_some] <;> rfl), by repeat (first | (with_reducible first | exact HB.out | apply below_alloc | apply pw_below_drewN | apply below_drew1 | refine below_set ?_ GE101.out) | exact HB.out)⟩
               ·rw [if_neg c45] at H
                exact absurd H (by simp)
              ·rw [if_neg c44] at H
               have c44b0 : decide (x11_4 < (l1.length : Int)) = false := decide_eq_false c44
               clear c44
               by_cases c57 : (t106 == t117) = true
               ·rw [if_pos c57] at H
                have c57b0 : (t106 == t117) = true := c57
                (try (have c57b1 : decide (t106 = t117) = true := by simpa using c57))
                (try (have c57b2 : (t106 == t117) = true := by simpa using c57))
                clear c57
                replace H := Option.bind_eq_some_iff.mp H
                obtain ⟨t122, A580, H⟩ := H
                replace H : (some t122) = some r := H
                have A58 := Aside0.mk A580
                clear A580
                obtain rfl := Option.some.inj H
                go_wp2_with (first | (go_at_call 24; (with_reducible refine (hanaperlaw06_live.calls  t122 _ A58.out).mono ?_); rintro e w59 ⟨rfl, hb⟩; have n0_ := Aside0.mk (Kd.V_below (by (with_reducible repeat (first | apply Kd.V_alloc | apply Kd.V_drewN | apply Kd.V_drew)); exact HO_0.out) hb); have n1_ := Aside0.mk (Kd.V_below (by (with_reducible repeat (first | apply Kd.V_alloc | apply Kd.V_drewN | apply Kd.V_drew)); exact HO_1.out) hb); have n2_ := Aside0.mk (blk_below (g := gb101) (o := .cells #[.int .i64 a2_0, .int .u64 a2_1, .slice A2_2 l2_2.length c2_2, .slice A2_3 l2_3.length c2_3] 26 (0, 0)) (by (with_reducible repeat (first | refine blk_drewN ?_ _ | refine blk_drew ?_ | refine blk_alloc ?_ _)); exact BK101.out) hb); have n3_ := Aside0.mk (below_step (by repeat (first | (with_reducible first | exact HB.out | apply below_alloc | apply pw_below_drewN | apply below_drew1 | refine below_set ?_ GE101.out) | exact HB.out)) hb); clear HO_0; clear HO_1; clear BK101; clear HB; have HO_0 := n0_; have HO_1 := n1_; have BK101 := n2_; have HB := n3_; clear n0_ n1_ n2_ n3_; (try clear hb); (try clear hb2); (try clear hk); (try clear hi)))
                go_ret
                exact ⟨by first | rfl | (simp [errW_none, errW_some] <;> rfl) | (simp [*, errW_none, errW_some] <;> rfl), by repeat (first | (with_reducible first | exact HB.out | apply below_alloc | apply pw_below_drewN | apply below_drew1 | refine below_set ?_ GE101.out) | exact HB.out)⟩
               ·rw [if_neg c57] at H
                have c57b0 : (t106 == t117) = false := by simpa using c57
                (try (have c57b1 : decide (t106 = t117) = false := by simpa using c57))
                (try (have c57b2 : (t106 == t117) = false := by simpa using c57))
                (try (have c57b3 : ¬ (t106 = t117) := by simpa using c57))
                clear c57
                obtain rfl := Option.some.inj H
                go_wp2
                go_ret
                exact ⟨by first | rfl | (simp [errW_none, errW_some] <;> rfl) | (simp [*, errW_none, errW_some] <;> rfl), by repeat (first | (with_reducible first | exact HB.out | apply below_alloc | apply pw_below_drewN | apply below_drew1 | refine below_set ?_ GE101.out) | exact HB.out)⟩
     ·rw [if_neg c23] at H
      exact absurd H (by simp)
    ·rw [if_neg c22] at H
     exact absurd H (by simp)

end Go.Proofs.Ytgohmganimamcaa.PZ
/- The law DeriveMore. -/
namespace Go.Proofs.Ytgohmganimamcaa.Term
set_option linter.unusedVariables false
set_option linter.unusedSimpArgs false
open Go.RowKit Go.Proofs.Ytgohmganimamcaa.Base Go.Proofs.Ytgohmganimamcaa.TlvPlain Go.Proofs.Ytgohmganimamcaa.Lo Go.Proofs.Ytgohmganimamcaa.RdPlain Go.Proofs.Ytgohmganimamcaa.Aid Go.Proofs.Ytgohmganimamcaa.PZ Go.Proofs.YtgohmganimamcaaW.PrintWords Go.Proofs.YtgohmganimamcaaW.PrintLast Go.Proofs.YtgohmganimamcaaW.PrintMore
theorem more_l0 {l m : List ST} (hl : ∀ x ∈ l, wfT x) (hm : ∀ x ∈ m, wfT x) (hlen : m.length ≤ 24) (a b : Bool) (hab : (∀ x ∈ m, (folV l x).2 = 0 ∧ (folV l x).1 = true) → a = b) :
    ∀ (n i : Nat), i + n = m.length → (∀ x ∈ m.take i, (folV l x).2 = 0 ∧ (folV l x).1 = true) → Ev (fun k => hanaperlaw06_DeriveMore.l0 k l m a b (i : Int)) true := by
  intro n
  induction n with
  | zero =>
    intro i hi h
    rw [List.take_of_length_le (by omega)] at h
    refine Ev.step (fun k => by simp only [hanaperlaw06_DeriveMore.l0]; rfl) (neg (by omega) (pos ?_ (bindSome rfl (now rfl))))
    rw [hab h]
    simp
  | succ n ih =>
    intro i hi h
    have hlt : i < m.length := by omega
    refine Ev.step (fun k => by simp only [hanaperlaw06_DeriveMore.l0]; rfl) (pos (by omega) (pos (by omega) ?_))
    rw [rd_at m i hlt]
    refine bindSome (folf hl (hm _ (List.getElem_mem hlt))) (bindSome (a := (folV l m[i]).2) rfl ?_)
    by_cases h0 : (folV l m[i]).2 = 0
    · refine pos h0 ?_
      by_cases h1 : (folV l m[i]).1 = true
      · refine pos h1 ?_
        rw [inc hlt (by omega)]
        refine ih (i + 1) (by omega) (fun x hx => ?_)
        rw [take_snoc m i hlt, List.mem_append] at hx
        rcases hx with hx | hx
        · exact h x hx
        · simp only [List.mem_singleton] at hx
          rw [hx]; exact ⟨h0, h1⟩
      · exact neg h1 (bindSome rfl (now rfl))
    · exact neg h0 (bindSome rfl (now rfl))
theorem more_ev {l m : List ST} (hl : ∀ x ∈ l, wfT x) (hm : ∀ x ∈ m, wfT x) (l1 : l.length ≤ 9223372036854775807) (l2 : m.length ≤ 9223372036854775807) {t : ST} (ht : wfT t) :
    Ev (fun k => hanaperlaw06_DeriveMore.f k l m t.f0 t.f1 t.f2 t.f3) true := by
  unfold hanaperlaw06_DeriveMore.f
  have out : Ev (fun k => hanaperlaw06_DeriveMore.j0 k l m true t.f0 t.f1 t.f2 t.f3) true := Ev.step (fun k => by simp only [hanaperlaw06_DeriveMore.j0]; rfl) (pos (show true = true from rfl) (bindSome rfl (now rfl)))
  obtain ⟨b1, e1, g1⟩ := small6_ev l l1
  refine evBind e1 ?_
  cases b1 with
  | false => exact neg Bool.false_ne_true out
  | true =>
    refine pos rfl ?_
    obtain ⟨b2, e2, g2⟩ := small6_ev m l2
    refine evBind e2 ?_
    cases b2 with
    | false => exact neg Bool.false_ne_true out
    | true =>
      refine pos rfl ?_
      have n1 := (g1 rfl).1
      have n2 := (g2 rfl).1
      obtain ⟨b3, e3, _⟩ := small40_ev t
      refine evBind e3 ?_
      cases b3 with
      | false => exact out
      | true =>
        have hlm : ∀ x ∈ l ++ m, wfT x := fun x hx => by
          rcases List.mem_append.1 hx with h | h
          · exact hl x h
          · exact hm x h
        refine Ev.step (fun k => by simp only [hanaperlaw06_DeriveMore.j0]; rfl) (neg Bool.false_ne_true (bindSome (folf hl ht) (bindSome (a := ([] : List ST)) rfl (pos ?_ (bindSome (a := l) rfl (pos ?_ ?_))))))
        · simp only [List.length_nil]
          omega
        · omega
        refine bindSome (folf hlm ht) (bindSome (a := (folV l t).2) rfl ?_)
        have live1 : Ev (fun k => hanaperlaw06_DeriveMore.j1 k l m (folV l t).1 (folV (l ++ m) t).1 true) true := Ev.step (fun k => by simp only [hanaperlaw06_DeriveMore.j1]; rfl) (pos (show true = true from rfl) (bindSome rfl (now rfl)))
        by_cases z1 : (folV l t).2 = 0
        · refine pos z1 (bindSome (a := (folV (l ++ m) t).2) rfl ?_)
          by_cases z2 : (folV (l ++ m) t).2 = 0
          · rw [show ((folV (l ++ m) t).2 != 0) = false from by rw [z2]; rfl]
            obtain ⟨r1, _, f1⟩ := fol_zero z1
            obtain ⟨r2, _, f2⟩ := fol_zero z2
            have up : madeT (closeD l) t = true → madeT (closeD (l ++ m)) t = true := made_more (close_more hlm r2 (fun x hx => List.mem_append.2 (.inl hx))) t
            rw [f1, f2]
            have fin : Ev (fun k => hanaperlaw06_DeriveMore.j2 k l m (madeT (closeD l) t) (madeT (closeD (l ++ m)) t) false) true := by
              refine Ev.step (fun k => by simp only [hanaperlaw06_DeriveMore.j2]; rfl) (neg Bool.false_ne_true ?_)
              refine more_l0 hl hm n2 _ _ (fun h => ?_) m.length 0 (by omega) (fun x hx => by simp at hx)
              have down : madeT (closeD (l ++ m)) t = true → madeT (closeD l) t = true := follow_cut hlm r1 r2 (fun x hx => by rw [← (fol_zero (h x hx).1).2.2]; exact (h x hx).2)
              exact Bool.eq_iff_iff.2 ⟨up, down⟩
            refine Ev.step (fun k => by simp only [hanaperlaw06_DeriveMore.j1]; rfl) (neg Bool.false_ne_true ?_)
            cases h : madeT (closeD l) t with
            | true =>
              refine pos rfl ?_
              rw [h, up h] at fin
              rw [up h]
              exact fin
            | false =>
              rw [h] at fin
              exact neg Bool.false_ne_true fin
          · rw [show ((folV (l ++ m) t).2 != 0) = true from by simp [z2]]
            exact live1
        · exact neg z1 live1
theorem moreWalk (w : World) (A : Option Addr) (c : Nat) (l : List ST) (hA : Kd.C k26 w A l.length l) (hl : l.length ≤ c) (okl : ∀ k ∈ l, wfT k) (B : Option Addr) (d : Nat) (m : List ST) (hB : Kd.C k26 w B m.length m) (hm : m.length ≤ d) (okm : ∀ k ∈ m, wfT k) (x : ST) (cs : Array Value) (hK : k26.K w x cs.toList) (hw : wfT x) :
    Calls Try.prog 7 #[.slice A l.length c, .slice B m.length d, .agg cs] w fun e w' => e = .returned (.bool true) ∧ Below w.heap.size w w' := by
  obtain ⟨A2, c2, A3, c3, e0, l2, g2, l3, g3⟩ := k26_open hK
  have e : cs = #[.int .i64 x.f0, .int .u64 x.f1, .slice A2 x.f2.length c2, .slice A3 x.f3.length c3] := Array.toList_inj.1 e0
  subst e
  obtain ⟨k, h⟩ := (more_ev okl okm hA.2.1 hB.2.1 hw).rounds
  exact hanaperlaw06_DeriveMore.calls k _ A c l _ B d m x.f0 x.f1 A2 c2 x.f2 A3 c3 x.f3 true w (Kd.V_mk hl (Kd.C_F k26_heap hA)) (Kd.V_mk hm (Kd.C_F k26_heap hB)) g2 l2 g3 l3 h
end Go.Proofs.Ytgohmganimamcaa.Term
