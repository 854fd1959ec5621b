/- Own and printed texts, laid together. -/
import Derived.Test.YtobljmgoengofaaPlGF
import Derived.Test.YtobljmgoengofaaPlGI
import Derived.Test.YtobljmgoengofaaPlGH
import Derived.Test.YtobljmgoengofaaPlGC
import Derived.ProofKit
import Derived.Deep.Slices
import Derived.Test.YtobljmgoengofaaPlGG
-- printed for this claim by a program (pall.sh)
-- mended by fixpz.py
namespace Go.Proofs.Ytobljmgoengofaa.PZ
open Go.RowKit Go.Proofs.YtobljmgoengofaaW.PrintWords Go.Proofs.YtobljmgoengofaaW.PrintLast Go.Proofs.YtobljmgoengofaaW.PrintMore
attribute [local go_sem] max2_int min2_int max_two min_two max_three min_three max_four min_four   -- for this text's walks alone
set_option linter.unusedVariables false
set_option linter.unusedSimpArgs false

/-! ### hanaperlaw34_Light: function 57 -/
mutual
def hanaperlaw34_Light.l0 : Nat → List (S77) → Int → Option (Bool)
 | 0, _, _ => none
 | k + 1, x0, x3 => if x3 < (x0.length : Int) then (hanaperlaw34_Light.j1 k x0 x3 (decide (x3 < 120))) else (hanaperlaw34_Light.j1 k x0 x3 false)
def hanaperlaw34_Light.j1 : Nat → List (S77) → Int → Bool → Option (Bool)
 | 0, _, _, _ => none
 | k + 1, x0, x3, x11 => if x11 = true then (if 0 ≤ x3 then (if x3 < (x0.length : Int) then ((hanaperlaw29_Light.f k ((rd_T77 x0 x3).f0) ((rd_T77 x0 x3).f1) ((rd_T77 x0 x3).f2) ((rd_T77 x0 x3).f3) ((rd_T77 x0 x3).f4) ((rd_T77 x0 x3).f5) ((rd_T77 x0 x3).f6) ((rd_T77 x0 x3).f7) ((rd_T77 x0 x3).f8) ((rd_T77 x0 x3).f9.f0) ((rd_T77 x0 x3).f9.f1) ((rd_T77 x0 x3).f9.f2) ((rd_T77 x0 x3).f9.f3) ((rd_T77 x0 x3).f9.f4)).bind fun t102 => (if t102 = true then (hanaperlaw34_Light.l0 k x0 (wrap64 (x3 + 1))) else (some false))) else (none)) else (none)) else (some (decide ((x0.length : Int) ≤ 100)))
end
def hanaperlaw34_Light.f (k : Nat) (l0 : List (S77)) : Option (Bool) := hanaperlaw34_Light.l0 k l0 0
set_option maxHeartbeats 8000000 in
set_option maxRecDepth 100000 in
theorem hanaperlaw34_Light.calls (k : Nat) (A0 : Option Addr) (c0 : Nat) (l0 : List (S77)) (r : Bool) (w : World) (hr0 : Kd.C k77 w A0 l0.length l0) (hc0 : l0.length ≤ c0) (h : hanaperlaw34_Light.f k l0 = some r) :
  Calls Try.prog 57 #[.slice A0 l0.length c0] w fun e w' => e = .returned (.bool r) ∧ Below w.heap.size w w' := by
 have hu77 := Try.underlying77
 have HR0 := Aside0.mk hr0
 have HC0 := Aside0.mk hc0
 clear hr0 hc0
 have HB := Aside0.mk (Below.refl w.heap.size w)
 have H : (hanaperlaw34_Light.l0 k l0 0) = some r := h
 clear h
 have H' := Aside0.mk H
 clear H
 go_enter Try.func57, Try.ntmps57
 go_wp2
 go_loopg [3] k (fun kq v3 w' => ∃ (x3_1 : Int), v3 = .int .i64 x3_1 ∧ Aside0 (hanaperlaw34_Light.l0 kq l0 x3_1 = some r) ∧ Aside0 (kq ≤ k) ∧ Aside0 (Below w.heap.size w w'))
 case atStart => exact ⟨(0), (by first | rfl | (simp; done) | (simp [*]; done)), H', ⟨Nat.le_refl _⟩, ⟨by repeat (first | (with_reducible first | exact HB.out | apply below_alloc | apply pw_below_drewN | apply below_drew1) | exact HB.out)⟩⟩
 case round =>
  clear H'
  obtain ⟨x3_1, rfl, HA, HK1, HB⟩ := hrel
  cases gk with
  | zero => exact absurd HA.out (by simp [hanaperlaw34_Light.l0])
  | succ k1 =>
   have H := HA.out
   clear HA
   simp only [hanaperlaw34_Light.l0] at H
   have HC2 := Aside0.mk H
   clear H
   go_upto_region 2 with (fail)
   go_cut [11] (fun v11 wc => ∃ (kq : Nat) (x11_1 : Bool), v11 = .bool x11_1 ∧ Aside0 (hanaperlaw34_Light.j1 kq l0 x3_1 x11_1 = some r) ∧ Aside0 (kq ≤ k1) ∧ Aside0 (Below w.heap.size w wc))
   case first =>
    have H := HC2.out
    clear HC2
    by_cases c3 : x3_1 < (l0.length : Int)
    ·rw [if_pos c3] at H
     have c3b0 : decide (x3_1 < (l0.length : Int)) = true := decide_eq_true c3
     clear c3
     (first | rw [c3b0] | (simp only [i64_w, i32_w]; rw [c3b0]) | skip)
     have H' := Aside0.mk H
     clear H
     go_wp2
     go_meet
     case rel => exact ⟨_, (decide (x3_1 < 120)), (by first | rfl | (simp; done) | (simp [*]; done)), H', ⟨by have := HK1.out; first | omega | exact Nat.le_refl _⟩, ⟨by repeat (first | (with_reducible first | exact HB.out | apply below_alloc | apply pw_below_drewN | apply below_drew1) | exact HB.out)⟩⟩
    ·rw [if_neg c3] at H
     have c3b0 : decide (x3_1 < (l0.length : Int)) = false := decide_eq_false c3
     clear c3
     (first | rw [c3b0] | (simp only [i64_w, i32_w]; rw [c3b0]) | skip)
     have H' := Aside0.mk H
     clear H
     go_wp2
     go_meet
     case rel => exact ⟨_, (false), (by first | rfl | (simp; done) | (simp [*]; done)), H', ⟨by have := HK1.out; first | omega | exact Nat.le_refl _⟩, ⟨by repeat (first | (with_reducible first | exact HB.out | apply below_alloc | apply pw_below_drewN | apply below_drew1) | exact HB.out)⟩⟩
   case rest =>
    clear HC2
    (try clear p2);(try clear c3);(try clear c3b0)
    obtain ⟨kq, x11_1, rfl, HA, HJ1, HB⟩ := hcut
    cases kq with
    | zero => exact absurd HA.out (by simp [hanaperlaw34_Light.j1])
    | succ kj1 =>
     have H := HA.out
     clear HA
     simp only [hanaperlaw34_Light.j1] at H
     by_cases c4 : x11_1 = true
     ·subst c4
      have H1 : (if 0 ≤ x3_1 then (if x3_1 < (l0.length : Int) then ((hanaperlaw29_Light.f kj1 ((rd_T77 l0 x3_1).f0) ((rd_T77 l0 x3_1).f1) ((rd_T77 l0 x3_1).f2) ((rd_T77 l0 x3_1).f3) ((rd_T77 l0 x3_1).f4) ((rd_T77 l0 x3_1).f5) ((rd_T77 l0 x3_1).f6) ((rd_T77 l0 x3_1).f7) ((rd_T77 l0 x3_1).f8) ((rd_T77 l0 x3_1).f9.f0) ((rd_T77 l0 x3_1).f9.f1) ((rd_T77 l0 x3_1).f9.f2) ((rd_T77 l0 x3_1).f9.f3) ((rd_T77 l0 x3_1).f9.f4)).bind fun t102 => (if t102 = true then (hanaperlaw34_Light.l0 kj1 l0 (wrap64 (x3_1 + 1))) else (some false))) else (none)) else (none)) = some r := by rw [if_pos rfl] at H; exact H
      clear H
      have H := H1
      clear H1
      by_cases c5 : 0 ≤ x3_1
      ·rw [if_pos c5] at H
       have c5b0 : decide (0 ≤ x3_1) = true := decide_eq_true c5
       clear c5
       by_cases c6 : x3_1 < (l0.length : Int)
       ·rw [if_pos c6] at H
        have c6b0 : decide (x3_1 < (l0.length : Int)) = true := decide_eq_true c6
        clear c6
        replace H := Option.bind_eq_some_iff.mp H
        obtain ⟨t102, A70, H⟩ := H
        replace H : (if t102 = true then (hanaperlaw34_Light.l0 kj1 l0 (wrap64 (x3_1 + 1))) else (some false)) = some r := H
        have A7 := Aside0.mk A70
        clear A70
        by_cases c8 : t102 = true
        ·subst c8
         have H1 : (hanaperlaw34_Light.l0 kj1 l0 (wrap64 (x3_1 + 1))) = some r := by rw [if_pos rfl] at H; exact H
         clear H
         have H := H1
         clear H1
         have H' := Aside0.mk H
         clear H
         have p101 : 0 ≤ (x3_1 : Int) := of_decide_eq_true (by first | (with_reducible assumption) | assumption)
         have q101 : x3_1 < (l0.length : Int) := of_decide_eq_true (by first | (with_reducible assumption) | assumption)
         obtain ⟨ad101, A101_6, c101_6, A101_13, c101_13, e101, hx101_0, hx101_1, hx101_2, hx101_3, hx101_4, hx101_5, hx101_6, hx101_7, hx101_8, hx101_9, hx101_10, hx101_11, hx101_12, hx101_13, hl101_6, hi101_6, hl101_13, hi101_13⟩ := at_T77 HR0.out x3_1 p101 q101
         cases e101
         replace hx101_0 := (HB.out.cell (World.block_lt_of_cell? w _ hx101_0)).trans hx101_0
         replace hx101_1 := (HB.out.cell (World.block_lt_of_cell? w _ hx101_1)).trans hx101_1
         replace hx101_2 := (HB.out.cell (World.block_lt_of_cell? w _ hx101_2)).trans hx101_2
         replace hx101_3 := (HB.out.cell (World.block_lt_of_cell? w _ hx101_3)).trans hx101_3
         replace hx101_4 := (HB.out.cell (World.block_lt_of_cell? w _ hx101_4)).trans hx101_4
         replace hx101_5 := (HB.out.cell (World.block_lt_of_cell? w _ hx101_5)).trans hx101_5
         replace hx101_6 := (HB.out.cell (World.block_lt_of_cell? w _ hx101_6)).trans hx101_6
         replace hx101_7 := (HB.out.cell (World.block_lt_of_cell? w _ hx101_7)).trans hx101_7
         replace hx101_8 := (HB.out.cell (World.block_lt_of_cell? w _ hx101_8)).trans hx101_8
         replace hx101_9 := (HB.out.cell (World.block_lt_of_cell? w _ hx101_9)).trans hx101_9
         replace hx101_10 := (HB.out.cell (World.block_lt_of_cell? w _ hx101_10)).trans hx101_10
         replace hx101_11 := (HB.out.cell (World.block_lt_of_cell? w _ hx101_11)).trans hx101_11
         replace hx101_12 := (HB.out.cell (World.block_lt_of_cell? w _ hx101_12)).trans hx101_12
         replace hx101_13 := (HB.out.cell (World.block_lt_of_cell? w _ hx101_13)).trans hx101_13
         have HR101_6 := Aside0.mk hi101_6
         have HC101_6 := Aside0.mk hl101_6
         clear hi101_6 hl101_6
         have HR101_13 := Aside0.mk hi101_13
         have HC101_13 := Aside0.mk hl101_13
         clear hi101_13 hl101_13
         replace p101 := eq_true p101
         replace q101 := eq_true q101
         go_wp2_with (first | ((with_reducible refine gate_callee (f := 62) rfl ?_); refine goesL_ (some 18) rfl rfl Try.func62 (by kernel_rfl) rfl #[.agg #[.int .i64 ((rd_T77 l0 x3_1).f0), .string ((rd_T77 l0 x3_1).f1), .string ((rd_T77 l0 x3_1).f2), .string ((rd_T77 l0 x3_1).f3), .string ((rd_T77 l0 x3_1).f4), .int .i64 ((rd_T77 l0 x3_1).f5), .slice A101_6 ((rd_T77 l0 x3_1).f6).length c101_6, .int .u64 ((rd_T77 l0 x3_1).f7), .int .u64 ((rd_T77 l0 x3_1).f8), .int .i64 ((rd_T77 l0 x3_1).f9.f0), .string ((rd_T77 l0 x3_1).f9.f1), .int .i64 ((rd_T77 l0 x3_1).f9.f2), .int .i64 ((rd_T77 l0 x3_1).f9.f3), .slice A101_13 ((rd_T77 l0 x3_1).f9.f4).length c101_13]] rfl (by (try simp only [List.map_toArray, List.map_cons, List.map_nil]); first | done | rfl | (simp only [List.length_drop, List.length_take]; rfl)) ?_; (with_reducible refine (hanaperlaw29_Light.calls kj1 ((rd_T77 l0 x3_1).f0) ((rd_T77 l0 x3_1).f1) ((rd_T77 l0 x3_1).f2) ((rd_T77 l0 x3_1).f3) ((rd_T77 l0 x3_1).f4) ((rd_T77 l0 x3_1).f5) _ _ ((rd_T77 l0 x3_1).f6) ((rd_T77 l0 x3_1).f7) ((rd_T77 l0 x3_1).f8) ((rd_T77 l0 x3_1).f9.f0) ((rd_T77 l0 x3_1).f9.f1) ((rd_T77 l0 x3_1).f9.f2) ((rd_T77 l0 x3_1).f9.f3) _ _ ((rd_T77 l0 x3_1).f9.f4) true _ ?side1 ?side2 ?side3 ?side4 A7.out).mono ?_); (case side1 => repeat (first | exact (Kd.C_below HR101_6.out HB.out) | (with_reducible refine Kd.C_alloc ?_ _) | (with_reducible refine Kd.C_drewN ?_ _) | (with_reducible refine Kd.C_drew ?_))); (case side2 => exact HC101_6.out); (case side3 => repeat (first | exact (Kd.C_below HR101_13.out HB.out) | (with_reducible refine Kd.C_alloc ?_ _) | (with_reducible refine Kd.C_drewN ?_ _) | (with_reducible refine Kd.C_drew ?_))); (case side4 => exact HC101_13.out); rintro e w9 ⟨rfl, hb⟩; refine ⟨_, rfl, ?_⟩; have n0_ := Aside0.mk (below_step (by repeat (first | (with_reducible first | exact HB.out | apply below_alloc | apply pw_below_drewN | apply below_drew1) | exact HB.out)) hb); clear HB; have HB := n0_; clear n0_; (try clear hb); (try clear hb2); (try clear hk); (try clear hi)))
         go_roundg kj1
         case measure => have := HK1.out; have := HJ1.out; omega
         case rel => exact ⟨(wrap64 (x3_1 + 1)), (by first | rfl | (simp; done) | (simp [*]; done)), H', ⟨by have := HK1.out; have := HJ1.out; omega⟩, ⟨by repeat (first | (with_reducible first | exact HB.out | apply below_alloc | apply pw_below_drewN | apply below_drew1) | exact HB.out)⟩⟩
        ·replace c8 := Bool.eq_false_iff.mpr c8
         subst c8
         have H1 : (some false) = some r := by rw [if_neg (show ¬ (false = true) by decide)] at H; exact H
         clear H
         have H := H1
         clear H1
         obtain rfl := Option.some.inj H
         have p101 : 0 ≤ (x3_1 : Int) := of_decide_eq_true (by first | (with_reducible assumption) | assumption)
         have q101 : x3_1 < (l0.length : Int) := of_decide_eq_true (by first | (with_reducible assumption) | assumption)
         obtain ⟨ad101, A101_6, c101_6, A101_13, c101_13, e101, hx101_0, hx101_1, hx101_2, hx101_3, hx101_4, hx101_5, hx101_6, hx101_7, hx101_8, hx101_9, hx101_10, hx101_11, hx101_12, hx101_13, hl101_6, hi101_6, hl101_13, hi101_13⟩ := at_T77 HR0.out x3_1 p101 q101
         cases e101
         replace hx101_0 := (HB.out.cell (World.block_lt_of_cell? w _ hx101_0)).trans hx101_0
         replace hx101_1 := (HB.out.cell (World.block_lt_of_cell? w _ hx101_1)).trans hx101_1
         replace hx101_2 := (HB.out.cell (World.block_lt_of_cell? w _ hx101_2)).trans hx101_2
         replace hx101_3 := (HB.out.cell (World.block_lt_of_cell? w _ hx101_3)).trans hx101_3
         replace hx101_4 := (HB.out.cell (World.block_lt_of_cell? w _ hx101_4)).trans hx101_4
         replace hx101_5 := (HB.out.cell (World.block_lt_of_cell? w _ hx101_5)).trans hx101_5
         replace hx101_6 := (HB.out.cell (World.block_lt_of_cell? w _ hx101_6)).trans hx101_6
         replace hx101_7 := (HB.out.cell (World.block_lt_of_cell? w _ hx101_7)).trans hx101_7
         replace hx101_8 := (HB.out.cell (World.block_lt_of_cell? w _ hx101_8)).trans hx101_8
         replace hx101_9 := (HB.out.cell (World.block_lt_of_cell? w _ hx101_9)).trans hx101_9
         replace hx101_10 := (HB.out.cell (World.block_lt_of_cell? w _ hx101_10)).trans hx101_10
         replace hx101_11 := (HB.out.cell (World.block_lt_of_cell? w _ hx101_11)).trans hx101_11
         replace hx101_12 := (HB.out.cell (World.block_lt_of_cell? w _ hx101_12)).trans hx101_12
         replace hx101_13 := (HB.out.cell (World.block_lt_of_cell? w _ hx101_13)).trans hx101_13
         have HR101_6 := Aside0.mk hi101_6
         have HC101_6 := Aside0.mk hl101_6
         clear hi101_6 hl101_6
         have HR101_13 := Aside0.mk hi101_13
         have HC101_13 := Aside0.mk hl101_13
         clear hi101_13 hl101_13
         replace p101 := eq_true p101
         replace q101 := eq_true q101
         go_wp2_with (first | ((with_reducible refine gate_callee (f := 62) rfl ?_); refine goesL_ (some 18) rfl rfl Try.func62 (by kernel_rfl) rfl #[.agg #[.int .i64 ((rd_T77 l0 x3_1).f0), .string ((rd_T77 l0 x3_1).f1), .string ((rd_T77 l0 x3_1).f2), .string ((rd_T77 l0 x3_1).f3), .string ((rd_T77 l0 x3_1).f4), .int .i64 ((rd_T77 l0 x3_1).f5), .slice A101_6 ((rd_T77 l0 x3_1).f6).length c101_6, .int .u64 ((rd_T77 l0 x3_1).f7), .int .u64 ((rd_T77 l0 x3_1).f8), .int .i64 ((rd_T77 l0 x3_1).f9.f0), .string ((rd_T77 l0 x3_1).f9.f1), .int .i64 ((rd_T77 l0 x3_1).f9.f2), .int .i64 ((rd_T77 l0 x3_1).f9.f3), .slice A101_13 ((rd_T77 l0 x3_1).f9.f4).length c101_13]] rfl (by (try simp only [List.map_toArray, List.map_cons, List.map_nil]); first | done | rfl | (simp only [List.length_drop, List.length_take]; rfl)) ?_; (with_reducible refine (hanaperlaw29_Light.calls kj1 ((rd_T77 l0 x3_1).f0) ((rd_T77 l0 x3_1).f1) ((rd_T77 l0 x3_1).f2) ((rd_T77 l0 x3_1).f3) ((rd_T77 l0 x3_1).f4) ((rd_T77 l0 x3_1).f5) _ _ ((rd_T77 l0 x3_1).f6) ((rd_T77 l0 x3_1).f7) ((rd_T77 l0 x3_1).f8) ((rd_T77 l0 x3_1).f9.f0) ((rd_T77 l0 x3_1).f9.f1) ((rd_T77 l0 x3_1).f9.f2) ((rd_T77 l0 x3_1).f9.f3) _ _ ((rd_T77 l0 x3_1).f9.f4) false _ ?side1 ?side2 ?side3 ?side4 A7.out).mono ?_); (case side1 => repeat (first | exact (Kd.C_below HR101_6.out HB.out) | (with_reducible refine Kd.C_alloc ?_ _) | (with_reducible refine Kd.C_drewN ?_ _) | (with_reducible refine Kd.C_drew ?_))); (case side2 => exact HC101_6.out); (case side3 => repeat (first | exact (Kd.C_below HR101_13.out HB.out) | (with_reducible refine Kd.C_alloc ?_ _) | (with_reducible refine Kd.C_drewN ?_ _) | (with_reducible refine Kd.C_drew ?_))); (case side4 => exact HC101_13.out); rintro e w10 ⟨rfl, hb⟩; refine ⟨_, rfl, ?_⟩; have n0_ := Aside0.mk (below_step (by repeat (first | (with_reducible first | exact HB.out | apply below_alloc | apply pw_below_drewN | apply below_drew1) | exact HB.out)) hb); clear HB; have HB := n0_; clear n0_; (try clear hb); (try clear hb2); (try clear hk); (try clear hi)))
         go_ret
         exact ⟨by first | rfl | (simp [errW_none, errW_some] <;> rfl) | (simp [*, errW_none, errW_some] <;> rfl), by repeat (first | (with_reducible first | exact HB.out | apply below_alloc | apply pw_below_drewN | apply below_drew1) | exact HB.out)⟩
       ·rw [if_neg c6] at H
        exact absurd H (by simp)
      ·rw [if_neg c5] at H
       exact absurd H (by simp)
     ·replace c4 := Bool.eq_false_iff.mpr c4
      subst c4
      have H1 : (some (decide ((l0.length : Int) ≤ 100))) = some r := by rw [if_neg (show ¬ (false = true) by decide)] at H; exact H
      clear H
      have H := H1
      clear H1
      obtain rfl := Option.some.inj H
      go_wp2
      go_ret
      exact ⟨by first | rfl | (simp [errW_none, errW_some] <;> rfl) | (simp [*, errW_none, errW_some] <;> rfl), by repeat (first | (with_reducible first | exact HB.out | apply below_alloc | apply pw_below_drewN | apply below_drew1) | exact HB.out)⟩

end Go.Proofs.Ytobljmgoengofaa.PZ
/- plan: what a command weighs, how much room commands need, and whether they fit: the printed functions' values. -/
namespace Go.Proofs.Ytobljmgoengofaa.Plan
set_option linter.unusedVariables false
set_option linter.unusedSimpArgs false
open Go.RowKit Go.Proofs.YtobljmgoengofaaW.PrintWords Go.Proofs.YtobljmgoengofaaW.PrintMore Go.Proofs.Ytobljmgoengofaa.PZ Go.Proofs.Ytobljmgoengofaa.Aid Go.Proofs.Ytobljmgoengofaa.Lo Go.Proofs.Ytobljmgoengofaa.Scope
abbrev SC := S77
def putB (x : S75) : List Int := if mayB x = true then putS x else []
/-- What a command weighs, and how many events it has. -/
def wgt (x : SC) : Int × Int :=
  if x.f0 = 3 then (20, 1) else if x.f0 = 4 then (21, 1) else if x.f0 = 7 then (26, 1) else if x.f0 = 5 then (150, 2) else if x.f0 = 18 then (4, 1)
  else if x.f0 = 9 ∨ x.f0 = 11 then (26 + ((putB x.f9).length : Int), 1)
  else if x.f0 = 2 ∨ x.f0 = 8 ∨ x.f0 = 10 ∨ x.f0 = 12 ∨ x.f0 = 14 ∨ x.f0 = 15 ∨ x.f0 = 16 ∨ x.f0 = 17 then (0, 1) else (0, 0)
def lightC (x : SC) : Prop := short x.f9 ∧ nodes x.f9 ≤ 60
theorem putB_len {x : SC} (h : lightC x) : (putB x.f9).length ≤ 6600 := by
  have := put_len _ x.f9 (Nat.lt_succ_self _) h.1
  have := h.2
  unfold putB
  split
  · omega
  · simp
theorem wgt_rng {x : SC} (h : lightC x) : (0 ≤ (wgt x).1 ∧ (wgt x).1 ≤ 7000) ∧ 0 ≤ (wgt x).2 ∧ (wgt x).2 ≤ 2 := by
  have := putB_len h
  unfold wgt
  repeat' split
  all_goals (dsimp only; omega)
theorem put_v {x : S75} (hs : short x) (hN : nodes x ≤ 60) : Ev (fun k => scope_Put.f k x.f0 x.f1 x.f2 x.f3 x.f4) (putB x, if mayB x = true then 0 else 1) := by
  have h := Put_ev x hs hN
  unfold putB
  by_cases c : mayB x = true
  · rw [if_pos c] at h; rw [if_pos c, if_pos c]; exact h
  · rw [if_neg c] at h; rw [if_neg c, if_neg c]; exact h
theorem val {α : Type} {g : Nat → Option α} {r s : α} (h : s = r) (e : Ev g r) : Ev g s := h ▸ e
theorem j1_ev (x : SC) (b : Bool) : Ev (fun k => plan_weight.j1 k b x.f0 x.f1 x.f2 x.f3 x.f4 x.f5 x.f6 x.f7 x.f8 x.f9.f0 x.f9.f1 x.f9.f2 x.f9.f3 x.f9.f4) (if b = true then (0, 0) else if x.f0 < 1 then (0, 0) else if x.f0 > 22 then (0, 0) else (0, 1)) := by
  refine Ev.step (fun k => by simp only [plan_weight.j1]; rfl) ?_
  by_cases c : b = true
  · exact val (if_pos c) (pos c (now rfl))
  refine val (if_neg c) (neg c ?_)
  by_cases c : x.f0 < 1
  · exact val (if_pos c) (pos c (now rfl))
  refine val (if_neg c) (neg c ?_)
  by_cases c : x.f0 > 22
  · exact val (if_pos c) (pos c (now rfl))
  exact val (if_neg c) (neg c (now rfl))
theorem j1_one (x : SC) {n : Int} (h : x.f0 = n) : Ev (fun k => plan_weight.j1 k (x.f0 == n) x.f0 x.f1 x.f2 x.f3 x.f4 x.f5 x.f6 x.f7 x.f8 x.f9.f0 x.f9.f1 x.f9.f2 x.f9.f3 x.f9.f4) (0, 0) := by
  have e := j1_ev x (x.f0 == n)
  rw [if_pos (by simp [h])] at e
  exact e
theorem j0_put {x : SC} (h : lightC x) (y : Int) (b : Bool) (hb : b = true) : Ev (fun k => plan_weight.j0 k y b x.f0 x.f1 x.f2 x.f3 x.f4 x.f5 x.f6 x.f7 x.f8 x.f9.f0 x.f9.f1 x.f9.f2 x.f9.f3 x.f9.f4) (26 + ((putB x.f9).length : Int), 1) := by
  have := putB_len h
  have e : wrap64 (26 + ((putB x.f9).length : Int)) = 26 + ((putB x.f9).length : Int) := w64 (by omega) (by omega)
  refine Ev.step (fun k => by simp only [plan_weight.j0]; rfl) (pos hb (evBind (put_v h.1 h.2) ?_))
  show Ev (fun _ => some (wrap64 (26 + ((putB x.f9).length : Int)), (1 : Int))) (26 + ((putB x.f9).length : Int), 1)
  rw [e]
  exact now rfl
theorem w_ev (x : SC) (h : lightC x) : Ev (fun k => plan_weight.f k x.f0 x.f1 x.f2 x.f3 x.f4 x.f5 x.f6 x.f7 x.f8 x.f9.f0 x.f9.f1 x.f9.f2 x.f9.f3 x.f9.f4) (wgt x) := by
  unfold plan_weight.f wgt
  by_cases c3 : x.f0 = 3
  · exact val (if_pos c3) (pos c3 (now rfl))
  refine val (if_neg c3) (neg c3 ?_)
  by_cases c4 : x.f0 = 4
  · exact val (if_pos c4) (pos c4 (now rfl))
  refine val (if_neg c4) (neg c4 ?_)
  by_cases c7 : x.f0 = 7
  · exact val (if_pos c7) (pos c7 (now rfl))
  refine val (if_neg c7) (neg c7 ?_)
  by_cases c5 : x.f0 = 5
  · exact val (if_pos c5) (pos c5 (now rfl))
  refine val (if_neg c5) (neg c5 ?_)
  by_cases c18 : x.f0 = 18
  · exact val (if_pos c18) (pos c18 (now rfl))
  refine val (if_neg c18) (neg c18 ?_)
  by_cases c9 : x.f0 = 9
  · exact val (if_pos (.inl c9)) (pos c9 (j0_put h _ _ (by simp [c9])))
  refine neg c9 ?_
  by_cases c11 : x.f0 = 11
  · exact val (if_pos (.inr c11)) (j0_put h _ _ (by simp [c11]))
  refine val (if_neg (show ¬ (x.f0 = 9 ∨ x.f0 = 11) by omega)) ?_
  refine Ev.step (fun k => by simp only [plan_weight.j0]; rfl) (neg (by simp [c11]) ?_)
  by_cases c1 : x.f0 = 1
  · exact val (if_neg (by omega)) (pos c1 (j1_one x c1))
  refine neg c1 ?_
  by_cases c1 : x.f0 = 6
  · exact val (if_neg (by omega)) (pos c1 (j1_one x c1))
  refine neg c1 ?_
  by_cases c1 : x.f0 = 13
  · exact val (if_neg (by omega)) (pos c1 (j1_one x c1))
  refine neg c1 ?_
  by_cases c1 : x.f0 = 19
  · exact val (if_neg (by omega)) (pos c1 (j1_one x c1))
  refine neg c1 ?_
  by_cases c1 : x.f0 = 20
  · exact val (if_neg (by omega)) (pos c1 (j1_one x c1))
  refine neg c1 ?_
  by_cases c1 : x.f0 = 21
  · exact val (if_neg (by omega)) (pos c1 (j1_one x c1))
  refine neg c1 ?_
  by_cases c22 : x.f0 = 22
  · exact val (if_neg (by omega)) (j1_one x c22)
  have e := j1_ev x (x.f0 == 22)
  rw [if_neg (by simp [c22])] at e
  by_cases cl : x.f0 < 1
  · rw [if_pos cl] at e; exact val (if_neg (by omega)) (e)
  rw [if_neg cl] at e
  by_cases cg : x.f0 > 22
  · rw [if_pos cg] at e; exact val (if_neg (by omega)) (e)
  rw [if_neg cg] at e; exact val (if_pos (by omega)) (e)
/-- The sums over commands: weights, events, records, subjects. -/
structure Sums where
  w : Int
  e : Int
  r : Int
  s : Int
def stepN (t : Sums) (x : SC) : Sums := ⟨mn (t.w + (wgt x).1) 1000000, mn (t.e + (wgt x).2) 1000000, if x.f0 = 5 then mn (t.r + 1) 1000000 else t.r, if x.f0 = 4 then mn (t.s + 1) 16 else t.s⟩
def Sums.ok (t : Sums) : Prop := (0 ≤ t.w ∧ t.w ≤ 1000000) ∧ (0 ≤ t.e ∧ t.e ≤ 1000000) ∧ (0 ≤ t.r ∧ t.r ≤ 1000000) ∧ (0 ≤ t.s ∧ t.s ≤ 16)
theorem mn_rng {a b : Int} (h0 : 0 ≤ a) (hb : 0 ≤ b) : 0 ≤ mn a b ∧ mn a b ≤ b := by unfold mn; split <;> omega
theorem step_ok {t : Sums} {x : SC} (h : t.ok) (hx : lightC x) : (stepN t x).ok := by
  obtain ⟨⟨w0, w1⟩, ⟨e0, e1⟩, ⟨r0, r1⟩, s0, s1⟩ := h
  obtain ⟨⟨a0, a1⟩, b0, b1⟩ := wgt_rng hx
  unfold stepN Sums.ok
  dsimp only
  refine ⟨mn_rng (by omega) (by omega), mn_rng (by omega) (by omega), ?_, ?_⟩
  · split
    · exact mn_rng (by omega) (by omega)
    · omega
  · split
    · exact mn_rng (by omega) (by omega)
    · omega
/-- The config that sums tell. -/
def finN (t : Sums) : Int × Int × Int × Int :=
  let c := (954 + t.w) / 255
  let a := (286 + 90 * t.e) / 255
  let r := c + a + 2 * t.r + 10
  (r + 2 + r / 120, 3 + t.r, t.s, c + a + t.r + 5)
theorem pages_v {n : Int} (h0 : 0 ≤ n) (h1 : n ≤ 1000000000) : plan_pages.f n = some ((n + 254) / 255) ∧ hanaperref34_Pages.f n = some ((n + 254) / 255) := by
  unfold plan_pages.f hanaperref34_Pages.f
  rw [w64 (x := n + 255) (by omega) (by omega), w64 (x := n + 255 - 1) (by omega) (by omega), w64 (x := n + 254) (by omega) (by omega), show n + 255 - 1 = n + 254 by omega, Int.tdiv_eq_ediv_of_nonneg (by omega), w64 (by omega) (by omega)]
  exact ⟨rfl, rfl⟩
theorem fin_v {t : Sums} (h : t.ok) {c a : Int} (hc : c = (954 + t.w) / 255) (ha : a = (286 + 90 * t.e) / 255) :
    (wrap64 ((wrap64 ((wrap64 ((wrap64 ((wrap64 (c + a)) + (wrap64 (2 * t.r)))) + 10)) + 2)) + (wrap64 (Int.tdiv (wrap64 ((wrap64 ((wrap64 (c + a)) + (wrap64 (2 * t.r)))) + 10)) 120))), wrap64 (3 + t.r), t.s, wrap64 ((wrap64 ((wrap64 (c + a)) + t.r)) + 5)) = finN t := by
  obtain ⟨⟨w0, w1⟩, ⟨e0, e1⟩, ⟨r0, r1⟩, s0, s1⟩ := h
  rw [w64 (x := c + a) (by omega) (by omega), w64 (x := 2 * t.r) (by omega) (by omega), w64 (x := c + a + 2 * t.r) (by omega) (by omega), w64 (x := c + a + 2 * t.r + 10) (by omega) (by omega), Int.tdiv_eq_ediv_of_nonneg (by omega), w64 (x := (c + a + 2 * t.r + 10) / 120) (by omega) (by omega), w64 (x := c + a + 2 * t.r + 10 + 2) (by omega) (by omega), w64 (x := c + a + 2 * t.r + 10 + 2 + (c + a + 2 * t.r + 10) / 120) (by omega) (by omega), w64 (x := 3 + t.r) (by omega) (by omega), w64 (x := c + a + t.r) (by omega) (by omega), w64 (x := c + a + t.r + 5) (by omega) (by omega), hc, ha]
  rfl
theorem rd_c (xs : List SC) (i : Nat) (h : i < xs.length) : rd_T77 xs (i : Int) = xs[i] := by simp [rd_T77, List.getD_eq_getElem?_getD, List.getElem?_eq_getElem h]
theorem need_loop (l : List SC) (hl : l.length ≤ 1000) (hL : ∀ x ∈ l, lightC x) : ∀ (n i : Nat) (t : Sums), i ≤ l.length → l.length - i = n → t.ok → Ev (fun k => plan_Need.l0 k t.w t.e t.r t.s l (l.length : Int) (i : Int)) (finN ((l.drop i).foldl stepN t)) := by
  intro n
  induction n with
  | zero =>
    intro i t hi hn ht
    rw [List.drop_eq_nil_of_le (by omega)]
    obtain ⟨⟨w0, w1⟩, ⟨e0, e1⟩, ⟨r0, r1⟩, s0, s1⟩ := id ht
    refine Ev.step (fun k => by simp only [plan_Need.l0]; rfl) (neg (by omega) ?_)
    refine bindSome (a := (954 + t.w) / 255) (by rw [w64 (by omega) (by omega), (pages_v (by omega) (by omega)).1, show 700 + t.w + 254 = 954 + t.w by omega]) ?_
    refine bindSome (a := (286 + 90 * t.e) / 255) (by rw [w64 (x := 90 * t.e) (by omega) (by omega), w64 (by omega) (by omega), (pages_v (by omega) (by omega)).1, show 32 + 90 * t.e + 254 = 286 + 90 * t.e by omega]) ?_
    exact now (fin_v ht rfl rfl)
  | succ n ih =>
    intro i t hi hn ht
    have hlt : i < l.length := by omega
    rw [drop_cons _ _ hlt, List.foldl_cons]
    have hx := hL l[i] (List.getElem_mem hlt)
    have hs := step_ok ht hx
    have hr := ih (i + 1) (stepN t l[i]) (by omega) (by omega) hs
    obtain ⟨⟨w0, w1⟩, ⟨e0, e1⟩, ⟨r0, r1⟩, s0, s1⟩ := ht
    obtain ⟨⟨a0, a1⟩, b0, b1⟩ := wgt_rng hx
    refine Ev.step (fun k => by simp only [plan_Need.l0]; rfl) (pos (by omega) (pos (by omega) (pos (by omega) ?_)))
    rw [rd_c _ _ hlt]
    refine evBind (w_ev _ hx) ?_
    rw [inc hlt (by omega), w64 (x := t.w + (wgt l[i]).1) (by omega) (by omega), w64 (x := t.e + (wgt l[i]).2) (by omega) (by omega), w64 (x := t.r + 1) (by omega) (by omega), w64 (x := t.s + 1) (by omega) (by omega)]
    unfold stepN at hr ⊢
    dsimp only at hr ⊢
    by_cases c5 : l[i].f0 = 5
    · rw [if_pos c5, if_neg (by omega)] at hr ⊢
      exact pos c5 hr
    · rw [if_neg c5] at hr ⊢
      refine neg c5 ?_
      by_cases c4 : l[i].f0 = 4
      · rw [if_pos c4] at hr ⊢
        exact pos c4 hr
      · rw [if_neg c4] at hr ⊢
        exact neg c4 hr
def sumN (l : List SC) : Sums := l.foldl stepN ⟨0, 0, 0, 0⟩
theorem zero_ok : (⟨0, 0, 0, 0⟩ : Sums).ok := by unfold Sums.ok; decide
theorem need_ev (l : List SC) (hl : l.length ≤ 1000) (hL : ∀ x ∈ l, lightC x) : Ev (fun k => plan_Need.f k l) (finN (sumN l)) := by
  have h := need_loop l hl hL _ 0 ⟨0, 0, 0, 0⟩ (Nat.zero_le _) rfl zero_ok
  rw [List.drop_zero] at h
  exact h
/-- May a config be? -/
def mayC (a b c d : Int) : Bool := decide ((((2 ≤ a ∧ a ≤ 400) ∧ (1 ≤ b ∧ b ≤ 64)) ∧ ((0 ≤ c ∧ c ≤ 16) ∧ (1 ≤ d ∧ d ≤ 800))) ∧ 1 + a + b + c + d ≤ 1024)
theorem within_v (a lo hi : Int) : store_within.f a lo hi = some (decide (lo ≤ a ∧ a ≤ hi)) := by
  unfold store_within.f
  by_cases c : a ≥ lo
  · rw [if_pos c]; simp [c]
  · rw [if_neg c]; simp [c]
theorem whole_v {a b c d : Int} (ha : 2 ≤ a ∧ a ≤ 400) (hb : 1 ≤ b ∧ b ≤ 64) (hc : 0 ≤ c ∧ c ≤ 16) (hd : 1 ≤ d ∧ d ≤ 800) : wrap64 ((wrap64 ((wrap64 ((wrap64 (1 + a)) + b)) + c)) + d) = 1 + a + b + c + d := by
  rw [w64 (x := 1 + a) (by omega) (by omega), w64 (x := 1 + a + b) (by omega) (by omega), w64 (x := 1 + a + b + c) (by omega) (by omega), w64 (by omega) (by omega)]
theorem check_ev (a b c d : Int) : Ev (fun k => store_Check.f k a b c d) (if mayC a b c d = true then 0 else 1) := by
  have bad : Ev (fun k => store_Check.j0 k true a b c d) 1 := Ev.step (fun k => by simp only [store_Check.j0]; rfl) (pos (show true = true from rfl) (now rfl))
  unfold store_Check.f
  refine bindSome (within_v _ _ _) ?_
  by_cases h1 : 2 ≤ a ∧ a ≤ 400
  · refine pos (decide_eq_true h1) (bindSome (within_v _ _ _) ?_)
    by_cases h2 : 1 ≤ b ∧ b ≤ 64
    · refine pos (decide_eq_true h2) (bindSome (within_v _ _ _) ?_)
      by_cases h3 : 0 ≤ c ∧ c ≤ 16
      · refine pos (decide_eq_true h3) (bindSome (within_v _ _ _) ?_)
        by_cases h4 : 1 ≤ d ∧ d ≤ 800
        · rw [decide_eq_true h4]
          refine Ev.step (fun k => by simp only [store_Check.j0]; rfl) (neg (by decide) (bindSome (show store_whole.f a b c d = some (1 + a + b + c + d) by unfold store_whole.f; rw [whole_v h1 h2 h3 h4]) ?_))
          by_cases h5 : 1 + a + b + c + d > 1024
          · exact val (if_neg (by unfold mayC; simp; omega)) (pos h5 (now rfl))
          · exact val (if_pos (by unfold mayC; simp; omega)) (neg h5 (now rfl))
        · rw [decide_eq_false h4]; exact val (if_neg (by unfold mayC; simp; omega)) bad
      · exact val (if_neg (by unfold mayC; simp; omega)) (neg (by simp; omega) bad)
    · exact val (if_neg (by unfold mayC; simp; omega)) (neg (by simp; omega) bad)
  · exact val (if_neg (by unfold mayC; simp; omega)) (neg (by simp; omega) bad)
/-- Do commands with these sums fit? -/
def fitsV (a b c d : Int) (n : Int × Int × Int × Int) : Bool := mayC a b c d && (decide (a ≥ n.1) && (decide (b ≥ n.2.1) && (decide (c ≥ n.2.2.1) && decide (d ≥ n.2.2.2))))
theorem fits_ev (a b c d : Int) (l : List SC) (hl : l.length ≤ 1000) (hL : ∀ x ∈ l, lightC x) : Ev (fun k => plan_Fits.f k a b c d l) (fitsV a b c d (finN (sumN l))) := by
  unfold plan_Fits.f fitsV
  refine evBind (need_ev l hl hL) (evBind (check_ev a b c d) ?_)
  cases hm : mayC a b c d with
  | false => exact neg (by decide) (now rfl)
  | true =>
    refine pos (by rfl) ?_
    by_cases h1 : a ≥ (finN (sumN l)).1
    · rw [decide_eq_true h1]; refine pos h1 ?_
      by_cases h2 : b ≥ (finN (sumN l)).2.1
      · rw [decide_eq_true h2]; refine pos h2 ?_
        by_cases h3 : c ≥ (finN (sumN l)).2.2.1
        · rw [decide_eq_true h3]; exact pos h3 (now rfl)
        · rw [decide_eq_false h3]; exact neg h3 (now rfl)
      · rw [decide_eq_false h2]; exact neg h2 (now rfl)
    · rw [decide_eq_false h1]; exact neg h1 (now rfl)
/-- Light, whatever the commands: yes or no; if yes, they are few, and light. -/
theorem light1_ev (x : SC) : ∃ b, Ev (fun k => hanaperlaw29_Light.f k x.f0 x.f1 x.f2 x.f3 x.f4 x.f5 x.f6 x.f7 x.f8 x.f9.f0 x.f9.f1 x.f9.f2 x.f9.f3 x.f9.f4) b ∧ (b = true → lightC x) := by
  unfold hanaperlaw29_Light.f
  obtain ⟨b, hb, hs⟩ := Small_ev x.f9
  by_cases h1 : (x.f1.size : Int) ≤ 100
  · by_cases h2 : (x.f2.size : Int) ≤ 100
    · by_cases h3 : (x.f3.size : Int) ≤ 100
      · by_cases h4 : (x.f4.size : Int) ≤ 100
        · by_cases h5 : (x.f6.length : Int) ≤ 1000
          · exact ⟨b, pos h1 (pos h2 (pos h3 (pos h4 (pos h5 (evBind hb (now rfl)))))), hs⟩
          · exact ⟨false, pos h1 (pos h2 (pos h3 (pos h4 (neg h5 (now rfl))))), fun h => by cases h⟩
        · exact ⟨false, pos h1 (pos h2 (pos h3 (neg h4 (now rfl)))), fun h => by cases h⟩
      · exact ⟨false, pos h1 (pos h2 (neg h3 (now rfl))), fun h => by cases h⟩
    · exact ⟨false, pos h1 (neg h2 (now rfl)), fun h => by cases h⟩
  · exact ⟨false, neg h1 (now rfl), fun h => by cases h⟩
theorem light_loop (l : List SC) : ∀ (n i : Nat), i ≤ 120 → i ≤ l.length → 120 - i = n → ∃ b, Ev (fun k => hanaperlaw34_Light.l0 k l (i : Int)) b ∧ (b = true → l.length ≤ 100 ∧ ∀ x ∈ l.drop i, lightC x) := by
  have fin : ∀ (i : Nat), (i = l.length ∨ i = 120) → i ≤ l.length → ∃ b, Ev (fun k => hanaperlaw34_Light.j1 k l (i : Int) false) b ∧ (b = true → l.length ≤ 100 ∧ ∀ x ∈ l.drop i, lightC x) := by
    intro i hi hle
    refine ⟨decide ((l.length : Int) ≤ 100), Ev.step (fun k => by simp only [hanaperlaw34_Light.j1]; rfl) (neg (by decide) (now rfl)), fun h => ?_⟩
    have h1 := of_decide_eq_true h
    refine ⟨by omega, ?_⟩
    rw [List.drop_eq_nil_of_le (by omega)]
    simp
  intro n
  induction n with
  | zero =>
    intro i h1 h2 h3
    obtain ⟨b, hb, hx⟩ := fin i (.inr (by omega)) h2
    by_cases c : (i : Int) < (l.length : Int)
    · exact ⟨b, Ev.step (fun k => by simp only [hanaperlaw34_Light.l0]; rfl) (pos c (by rw [decide_eq_false (show ¬ ((i : Int) < 120) by omega)]; exact hb)), hx⟩
    · exact ⟨b, Ev.step (fun k => by simp only [hanaperlaw34_Light.l0]; rfl) (neg c hb), hx⟩
  | succ n ih =>
    intro i h1 h2 h3
    by_cases c : (i : Int) < (l.length : Int)
    · have hlt : i < l.length := by omega
      obtain ⟨b1, hb1, hs1⟩ := light1_ev l[i]
      cases b1 with
      | false =>
        refine ⟨false, Ev.step (fun k => by simp only [hanaperlaw34_Light.l0]; rfl) (pos c ?_), fun h => by cases h⟩
        rw [decide_eq_true (show (i : Int) < 120 by omega)]
        refine Ev.step (fun k => by simp only [hanaperlaw34_Light.j1]; rfl) (pos (show true = true from rfl) (pos (by omega) (pos c ?_)))
        rw [rd_c _ _ hlt]
        exact evBind hb1 (neg (by decide) (now rfl))
      | true =>
        obtain ⟨b, hb, hx⟩ := ih (i + 1) (by omega) (by omega) (by omega)
        refine ⟨b, Ev.step (fun k => by simp only [hanaperlaw34_Light.l0]; rfl) (pos c ?_), fun h => ?_⟩
        · rw [decide_eq_true (show (i : Int) < 120 by omega)]
          refine Ev.step (fun k => by simp only [hanaperlaw34_Light.j1]; rfl) (pos (show true = true from rfl) (pos (by omega) (pos c ?_)))
          rw [rd_c _ _ hlt, show wrap64 ((i : Int) + 1) = ((i + 1 : Nat) : Int) from by rw [w64 (by omega) (by omega)]; rfl]
          exact evBind hb1 (pos rfl hb)
        · obtain ⟨q1, q2⟩ := hx h
          refine ⟨q1, fun x hxm => ?_⟩
          rw [drop_cons _ _ hlt] at hxm
          rcases List.mem_cons.1 hxm with rfl | hxm
          · exact hs1 rfl
          · exact q2 x hxm
    · obtain ⟨b, hb, hx⟩ := fin i (.inl (by omega)) h2
      exact ⟨b, Ev.step (fun k => by simp only [hanaperlaw34_Light.l0]; rfl) (neg c hb), hx⟩
theorem light_ev (l : List SC) : ∃ b, Ev (fun k => hanaperlaw34_Light.f k l) b ∧ (b = true → l.length ≤ 100 ∧ ∀ x ∈ l, lightC x) := by
  have h := light_loop l 120 0 (by decide) (Nat.zero_le _) rfl
  rw [List.drop_zero] at h
  exact h
end Go.Proofs.Ytobljmgoengofaa.Plan
/- plan: a command more needs no less. -/
namespace Go.Proofs.Ytobljmgoengofaa.Plan
set_option linter.unusedVariables false
set_option linter.unusedSimpArgs false
open Go.RowKit Go.Proofs.YtobljmgoengofaaW.PrintWords Go.Proofs.YtobljmgoengofaaW.PrintMore Go.Proofs.Ytobljmgoengofaa.PZ Go.Proofs.Ytobljmgoengofaa.Aid Go.Proofs.Ytobljmgoengofaa.Lo Go.Proofs.Ytobljmgoengofaa.Scope
theorem fold_ok : ∀ (l : List SC) (t : Sums), t.ok → (∀ x ∈ l, lightC x) → (l.foldl stepN t).ok
  | [], t, h, _ => h
  | x :: l, t, h, hl => fold_ok l (stepN t x) (step_ok h (hl x (by simp))) (fun y hy => hl y (by simp [hy]))
theorem sum_ok {l : List SC} (h : ∀ x ∈ l, lightC x) : (sumN l).ok := fold_ok l _ zero_ok h
theorem sum_snoc (l : List SC) (x : SC) : sumN (l ++ [x]) = stepN (sumN l) x := by unfold sumN; rw [List.foldl_append]; rfl
/-- Componentwise. -/
def leN (a b : Int × Int × Int × Int) : Prop := (a.1 ≤ b.1 ∧ a.2.1 ≤ b.2.1) ∧ a.2.2.1 ≤ b.2.2.1 ∧ a.2.2.2 ≤ b.2.2.2
theorem mn_more {a b m : Int} (h : a ≤ m) (hb : 0 ≤ b) : a ≤ mn (a + b) m := by unfold mn; split <;> omega
theorem grow_le {l : List SC} {x : SC} (h : ∀ y ∈ l, lightC y) (hx : lightC x) : leN (finN (sumN l)) (finN (sumN (l ++ [x]))) := by
  rw [sum_snoc]
  have ht := sum_ok h
  have hs := step_ok ht hx
  obtain ⟨t, htq⟩ : ∃ t, sumN l = t := ⟨_, rfl⟩
  rw [htq] at ht hs ⊢
  obtain ⟨⟨w0, w1⟩, ⟨e0, e1⟩, ⟨r0, r1⟩, s0, s1⟩ := ht
  obtain ⟨⟨a0, a1⟩, b0, b1⟩ := wgt_rng hx
  have g1 : t.w ≤ (stepN t x).w := mn_more w1 a0
  have g2 : t.e ≤ (stepN t x).e := mn_more e1 b0
  have g3 : t.r ≤ (stepN t x).r := by
    unfold stepN; dsimp only
    split
    · exact mn_more r1 (by omega)
    · exact Int.le_refl _
  have g4 : t.s ≤ (stepN t x).s := by
    unfold stepN; dsimp only
    split
    · exact mn_more s1 (by omega)
    · exact Int.le_refl _
  obtain ⟨u, hu⟩ : ∃ u, stepN t x = u := ⟨_, rfl⟩
  rw [hu] at g1 g2 g3 g4 hs ⊢
  clear hu
  unfold leN finN
  dsimp only
  have c1 : (954 + t.w) / 255 ≤ (954 + u.w) / 255 := by omega
  have c2 : (286 + 90 * t.e) / 255 ≤ (286 + 90 * u.e) / 255 := by omega
  omega
theorem fits_le {a b c d : Int} {n m : Int × Int × Int × Int} (h : leN n m) (hf : fitsV a b c d m = true) : fitsV a b c d n = true := by
  obtain ⟨⟨h1, h2⟩, h3, h4⟩ := h
  unfold fitsV at hf ⊢
  simp only [Bool.and_eq_true, decide_eq_true_eq] at hf ⊢
  obtain ⟨q0, q1, q2, q3, q4⟩ := hf
  exact ⟨q0, by omega, by omega, by omega, by omega⟩
end Go.Proofs.Ytobljmgoengofaa.Plan
/- What an argument reads as, opened kind by kind: out of the form's reading a value of the kind, whose cells it has. -/
namespace Go.Proofs.Ytobljmgoengofaa.Open
open Go.Proofs.Ytobljmgoengofaa.Base Go.RowKit Go.Proofs.YtobljmgoengofaaW.PrintWords Go.Proofs.YtobljmgoengofaaW.PrintLast Go.Proofs.YtobljmgoengofaaW.PrintMore

/-- With so much fuel, what type t reads as is a value of kind d. -/
def OpensN (P : Program) (n : Nat) (t : TypeId) {α : Type} (d : Kd α) (ok : α → Prop) : Prop :=
  ∀ (H : Type) (enc : TypeId × Value → H) (w : World) (base : Nat) (held : Bool) (cs : List Value) (x : DataW H × List MemPlace), DataW.trod enc P w base (fun _ => true) held n t cs = some x → ∃ v, d.K w v cs ∧ ok v
def Opens (P : Program) (t : TypeId) {α : Type} (d : Kd α) (ok : α → Prop) : Prop := ∀ n, OpensN P n t d ok

theorem opens_int {P : Program} {t : TypeId} {k : IntKind} (ht : P.underlying t = some (.int k)) : Opens P t (Kd.int k) (fun v => (Lit.int k v).wf = true) := by
  intro n H enc w base held cs x h
  obtain ⟨v, rfl, hw, _⟩ : ∃ v, cs = [.int k v] ∧ (Lit.int k v).wf = true ∧ True := by
    cases n with
    | zero => simp [DataW.trod] at h
    | succ n =>
      unfold DataW.trod at h
      rw [ht] at h
      split at h <;> simp_all
  exact ⟨v, rfl, hw⟩
theorem opens_string {P : Program} {t : TypeId} (ht : P.underlying t = some .string) : Opens P t Kd.string (fun s => s.size ≤ maxLen) := by
  intro n H enc w base held cs x h
  obtain ⟨v, rfl, hv⟩ : ∃ v, cs = [.string v] ∧ v.size ≤ maxLen := by
    cases n with
    | zero => simp [DataW.trod] at h
    | succ n =>
      unfold DataW.trod at h
      rw [ht] at h
      split at h <;> simp_all
  exact ⟨v, rfl, hv⟩
theorem choose_list {α : Type} {p : Nat → α → Prop} : ∀ n, (∀ i, i < n → ∃ v, p i v) → ∃ xs : List α, xs.length = n ∧ ∀ i v, xs[i]? = some v → p i v := by
  intro n
  induction n with
  | zero => intro _; exact ⟨[], rfl, fun i v h => by simp at h⟩
  | succ n ih =>
    intro h
    obtain ⟨xs, hl, hx⟩ := ih (fun i hi => h i (by omega))
    obtain ⟨v, hv⟩ := h n (by omega)
    refine ⟨xs ++ [v], by simp [hl], fun i u hu => ?_⟩
    rcases Nat.lt_or_ge i xs.length with hi | hi
    · rw [List.getElem?_append_left hi] at hu; exact hx i u hu
    · have hi' : i = n := by
        have := (List.getElem?_eq_some_iff.1 hu).1
        rw [List.length_append, List.length_singleton] at this
        omega
      subst hi'
      have : v = u := by rw [← hl] at hu; simpa using hu
      subst this
      exact hv
theorem opensN_slice {P : Program} {n : Nat} {t e : TypeId} {α : Type} {d : Kd α} {ok : α → Prop} (ht : P.underlying t = some (.slice e)) (hc : P.cellsOf e = d.sz) (hd : OpensN P n e d ok) : OpensN P (n + 1) t (Kd.slice e d) (fun xs => ∀ x ∈ xs, ok x) := by
  intro H enc w base held cs x h
  rcases DataW.trod_slice ht h with ⟨rfl, _⟩ | ⟨a, len, cap, elems, rest, m, hm, rfl, _, hb, hl, hmx, hel, hi, _⟩
  · exact ⟨[], ⟨none, 0, rfl, by simp, Kd.C_nil _ _⟩, fun x hx => by cases hx⟩
  · have hmn : m = n := by omega
    subst hmn
    obtain ⟨xs, hxl, hxs⟩ := choose_list (α := α) (p := fun i v => ok v ∧ ∃ c, c.length = d.sz ∧ d.K w v c ∧ ∀ j u, c[j]? = some u → w.cell? (a.add (i * d.sz + j)) = some u) len (fun i hil => by
      have h1 := hi i hil
      rw [List.getElem?_eq_getElem (by omega)] at h1
      obtain ⟨cs', h2, h3⟩ := Option.bind_eq_some_iff.1 h1
      obtain ⟨v, hv, hok⟩ := hd _ _ _ _ _ _ _ h3
      obtain ⟨_, h4, h5⟩ := World.cells?_some h2
      refine ⟨v, hok, cs', by rw [h4, hc], hv, fun j u hu => ?_⟩
      have hj : j < cs'.length := (List.getElem?_eq_some_iff.1 hu).1
      have h6 := h5 j (by omega)
      rw [hu, hc] at h6
      rw [← h6, Addr.add_add])
    refine ⟨xs, ⟨some a, cap, by rw [hxl], by omega, ?_⟩, fun x hx => ?_⟩
    · refine ⟨rfl, ?_, fun _ => ⟨a, rfl, fun j p hj => ?_⟩⟩
      · rw [hxl]; simp only [maxLen] at hmx; omega
      · exact (hxs j p hj).2
    · obtain ⟨i, hi, rfl⟩ := List.mem_iff_getElem.1 hx
      exact (hxs i _ (List.getElem?_eq_getElem hi)).1
theorem opens_slice {P : Program} {t e : TypeId} {α : Type} {d : Kd α} {ok : α → Prop} (ht : P.underlying t = some (.slice e)) (hc : P.cellsOf e = d.sz) (hd : Opens P e d ok) : Opens P t (Kd.slice e d) (fun xs => ∀ x ∈ xs, ok x) := by
  intro n
  cases n with
  | zero => intro H enc w base held cs x h; simp [DataW.trod] at h
  | succ n => exact opensN_slice ht hc (hd n)
/-- The fields of a struct from offset o on. -/
def OpensF (P : Program) (n : Nat) (fs : List Field) (o : Nat) {α : Type} (d : Kd α) (ok : α → Prop) : Prop :=
  ∀ (H : Type) (enc : TypeId × Value → H) (w : World) (base : Nat) (held : Bool) (cs : List Value) (xs : List (DataW H × List MemPlace)),
    cs.length = o + d.sz → fs.mapM (fun f => DataW.trod enc P w base (fun _ => true) held n f.type ((cs.drop f.offset).take (P.cellsOf f.type))) = some xs → ∃ v, d.K w v (cs.drop o) ∧ ok v
theorem opensF_one {P : Program} {n : Nat} {f : Field} {o : Nat} {α : Type} {d : Kd α} {ok : α → Prop} (ho : f.offset = o) (hc : P.cellsOf f.type = d.sz) (hd : OpensN P n f.type d ok) : OpensF P n [f] o d ok := by
  intro H enc w base held cs xs hl h
  have h1 := mapM_some_get h 0 f rfl
  cases hx : xs[0]? with
  | none => rw [List.getElem?_eq_none_iff] at hx; have := mapM_some_length h; simp at this; omega
  | some y =>
    rw [hx, ho, List.take_of_length_le (by rw [List.length_drop]; omega)] at h1
    exact hd _ _ _ _ _ _ _ h1
theorem opensF_cons {P : Program} {n : Nat} {f : Field} {fs : List Field} {o : Nat} {α β : Type} {d : Kd α} {d2 : Kd β} {ok : α → Prop} {ok2 : β → Prop} (ho : f.offset = o) (hc : P.cellsOf f.type = d.sz) (hd : OpensN P n f.type d ok) (hr : OpensF P n fs (o + d.sz) d2 ok2) : OpensF P n (f :: fs) o (Kd.pair d d2) (fun v => ok v.1 ∧ ok2 v.2) := by
  intro H enc w base held cs xs hl h
  rw [List.mapM_cons] at h
  obtain ⟨y, h1, h2⟩ := Option.bind_eq_some_iff.1 h
  obtain ⟨ys, h3, h4⟩ := Option.bind_eq_some_iff.1 h2
  have hsz : (Kd.pair d d2).sz = d.sz + d2.sz := rfl
  rw [ho, hc] at h1
  obtain ⟨v1, k1, o1⟩ := hd _ _ _ _ _ _ _ h1
  obtain ⟨v2, k2, o2⟩ := hr _ _ _ _ _ _ _ (by rw [hl, hsz]; omega) h3
  refine ⟨(v1, v2), ⟨(cs.drop o).take d.sz, cs.drop (o + d.sz), ?_, k1, k2⟩, o1, o2⟩
  rw [← List.drop_drop, List.take_append_drop]
theorem opensN_struct {P : Program} {n : Nat} {t : TypeId} {fs : Array Field} {α : Type} {d : Kd α} {ok : α → Prop} (ht : P.underlying t = some (.struct fs)) (hc : P.cellsOf t = d.sz) (hd : OpensF P n fs.toList 0 d ok) : OpensN P (n + 1) t d ok := by
  intro H enc w base held cs x h
  unfold DataW.trod at h
  rw [ht] at h
  have h' : (if cs.length = P.cellsOf t then (fs.toList.mapM fun f => DataW.trod enc P w base (fun _ => true) held n f.type ((cs.drop f.offset).take (P.cellsOf f.type))).map fun xs => (DataW.agg (xs.map (·.1)), xs.flatMap (·.2)) else none) = some x := by
    revert h
    split <;> simp_all
  split at h'
  · next hl =>
    obtain ⟨xs, h1, _⟩ := Option.map_eq_some_iff.1 h'
    have := hd _ _ _ _ _ _ _ (by rw [hl, hc]; omega) h1
    simpa using this
  · cases h'
theorem opens_struct {P : Program} {t : TypeId} {fs : Array Field} {α : Type} {d : Kd α} {ok : α → Prop} (ht : P.underlying t = some (.struct fs)) (hc : P.cellsOf t = d.sz) (hd : ∀ n, OpensF P n fs.toList 0 d ok) : Opens P t d ok := by
  intro n
  cases n with
  | zero => intro H enc w base held cs x h; simp [DataW.trod] at h
  | succ n => exact opensN_struct ht hc (hd n)
/-- An argument, opened. -/
theorem Opens.arg {P : Program} {t : TypeId} {α : Type} {d : Kd α} {ok : α → Prop} (h : Opens P t d ok) {H : Type} {enc : TypeId × Value → H} {w : World} {base : Nat} {held : Bool} {v : Value} {D : DataW H} {ps : List MemPlace} (ht : DataW.Trod enc P w base (fun _ => true) held t v D ps) : ∃ x, d.K w x v.cells.toList ∧ ok x := by
  obtain ⟨n, hn⟩ := ht
  exact h n _ _ _ _ _ _ _ hn
end Go.Proofs.Ytobljmgoengofaa.Open
/- An argument that is a scope. -/
namespace Go.Proofs.Ytobljmgoengofaa.Scope
set_option linter.unusedVariables false
set_option linter.unusedSimpArgs false
open Go.RowKit Go.Proofs.YtobljmgoengofaaW.PrintWords Go.Proofs.Ytobljmgoengofaa.PZ
/-- An argument that is a scope, opened. -/
theorem opensN_scope : ∀ n, Open.OpensN Try.prog n 75 k75 (fun _ => True) := by
  intro n
  induction n using Nat.strongRecOn with
  | _ n ih =>
  cases n with
  | zero => intro H enc w base held cs x h; simp [DataW.trod] at h
  | succ n =>
    have hs : Open.OpensN Try.prog n 73 (Kd.slice 75 k75) (fun _ => True) := by
      cases n with
      | zero => intro H enc w base held cs x h; simp [DataW.trod] at h
      | succ n =>
        intro H enc w base held cs x h
        obtain ⟨v, hv, _⟩ := Open.opensN_slice Try.underlying73 (by kernel_rfl) (ih n (by omega)) H enc w base held cs x h
        exact ⟨v, hv, trivial⟩
    intro H enc w base held cs x h
    obtain ⟨⟨op, nm, fr, to_, kids⟩, ⟨_, _, e0, rfl, _, _, e1, rfl, _, _, e2, rfl, _, _, e3, rfl, ⟨A, c, rfl, hc, hr⟩⟩, _⟩ := Open.opensN_struct Try.underlying75 (by kernel_rfl) (Open.opensF_cons rfl (by kernel_rfl) (Open.opens_int Try.underlying3 n) (Open.opensF_cons rfl (by kernel_rfl) (Open.opens_string Try.underlying9 n) (Open.opensF_cons rfl (by kernel_rfl) (Open.opens_int Try.underlying3 n) (Open.opensF_cons rfl (by kernel_rfl) (Open.opens_int Try.underlying3 n) (Open.opensF_one rfl (by kernel_rfl) hs))))) H enc w base held cs x h
    subst e3 e2 e1
    rw [e0]
    exact ⟨⟨op, nm, fr, to_, kids⟩, k75_mk w ⟨op, nm, fr, to_, kids⟩ hc hr, trivial⟩
theorem opens_scope : Open.Opens Try.prog 75 k75 (fun _ => True) := opensN_scope
end Go.Proofs.Ytobljmgoengofaa.Scope
/- Arguments that are commands. -/
namespace Go.Proofs.Ytobljmgoengofaa.Plan
set_option linter.unusedVariables false
set_option linter.unusedSimpArgs false
open Go.RowKit Go.Proofs.YtobljmgoengofaaW.PrintWords Go.Proofs.Ytobljmgoengofaa.PZ Go.Proofs.Ytobljmgoengofaa.Scope
/-- An argument that is a command, opened. -/
theorem opens_cmd : Open.Opens Try.prog 77 k77 (fun _ => True) := by
  intro n
  cases n with
  | zero => intro H enc w base held cs x h; simp [DataW.trod] at h
  | succ n =>
    intro H enc w base held cs x h
    obtain ⟨⟨a, b1, b2, b3, b4, m, d, s1, s2, sc⟩, ⟨_, _, e0, rfl, _, _, e1, rfl, _, _, e2, rfl, _, _, e3, rfl, _, _, e4, rfl, _, _, e5, rfl, _, _, e6, ⟨A, c, rfl, hc, hr⟩, _, _, e7, rfl, _, _, e8, rfl, hsc⟩, _⟩ := Open.opensN_struct Try.underlying77 (by kernel_rfl)
      (Open.opensF_cons rfl (by kernel_rfl) (Open.opens_int Try.underlying3 n) (Open.opensF_cons rfl (by kernel_rfl) (Open.opens_string Try.underlying9 n) (Open.opensF_cons rfl (by kernel_rfl) (Open.opens_string Try.underlying9 n) (Open.opensF_cons rfl (by kernel_rfl) (Open.opens_string Try.underlying9 n) (Open.opensF_cons rfl (by kernel_rfl) (Open.opens_string Try.underlying9 n)
      (Open.opensF_cons rfl (by kernel_rfl) (Open.opens_int Try.underlying3 n) (Open.opensF_cons rfl (by kernel_rfl) (Open.opens_slice Try.underlying22 (by kernel_rfl) (Open.opens_int Try.underlying5) n) (Open.opensF_cons rfl (by kernel_rfl) (Open.opens_int Try.underlying52 n) (Open.opensF_cons rfl (by kernel_rfl) (Open.opens_int Try.underlying52 n) (Open.opensF_one rfl (by kernel_rfl) (opens_scope n))))))))))) H enc w base held cs x h
    subst e8 e7 e6 e5 e4 e3 e2 e1
    obtain ⟨A2, c2, rfl, hc2, hr2⟩ := k75_open hsc
    rw [e0]
    exact ⟨⟨a, b1, b2, b3, b4, m, d, s1, s2, sc⟩, k77_mk w ⟨a, b1, b2, b3, b4, m, d, s1, s2, sc⟩ hc hr hc2 hr2, trivial⟩
theorem opens_cmds : Open.Opens Try.prog 69 (Kd.slice 77 k77) (fun _ => True) := by
  intro n H enc w base held cs x h
  obtain ⟨v, hv, _⟩ := Open.opens_slice Try.underlying69 (by kernel_rfl) opens_cmd n H enc w base held cs x h
  exact ⟨v, hv, trivial⟩
end Go.Proofs.Ytobljmgoengofaa.Plan
