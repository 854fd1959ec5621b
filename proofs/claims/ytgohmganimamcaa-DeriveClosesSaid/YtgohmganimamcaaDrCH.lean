/- Own and printed texts, laid together. -/
import Derived.Test.YtgohmganimamcaaDrCC
import Derived.Test.YtgohmganimamcaaDrCD
import Derived.Test.YtgohmganimamcaaDrCG
import Derived.Test.YtgohmganimamcaaDrCE
import Derived.Test.YtgohmganimamcaaDrCF
-- printed for this claim by a program (pall.sh)
-- mended by fixpz.py
namespace Go.Proofs.Ytgohmganimamcaa.PZ
open Go.RowKit Go.Proofs.YtgohmganimamcaaW.PrintWords Go.Proofs.YtgohmganimamcaaW.PrintLast Go.Proofs.YtgohmganimamcaaW.PrintMore
attribute [local go_sem] max2_int min2_int max_two min_two max_three min_three max_four min_four   -- for this text's walks alone
set_option linter.unusedVariables false
set_option linter.unusedSimpArgs false

/-! ### hanaperref06_Closure: function 26 -/
mutual
def hanaperref06_Closure.l0 : Nat → List (S26) → Int → Option ((List (S26)) × Int)
 | 0, _, _ => none
 | k + 1, x0, x4 => if x4 < (x0.length : Int) then (if 0 ≤ x4 then ((hanaperref05_May.f k ((rd_T26 x0 x4).f0) ((rd_T26 x0 x4).f1) ((rd_T26 x0 x4).f2) ((rd_T26 x0 x4).f3)).bind fun t102 => (if t102 = true then (hanaperref06_Closure.l0 k x0 (wrap64 (x4 + 1))) else (some (([] : List (S26)), 1)))) else (none)) else (hanaperref06_Closure.l1 k x0 0 0)
def hanaperref06_Closure.j2 : Nat → List (S26) → Int → Option ((List (S26)) × Int)
 | 0, _, _ => none
 | k + 1, x0, x5 => if (x0.length : Int) > 300 then (hanaperref06_Closure.j3 k x0 true) else (hanaperref06_Closure.j3 k x0 (decide (x5 > 2000)))
def hanaperref06_Closure.j3 : Nat → List (S26) → Bool → Option ((List (S26)) × Int)
 | 0, _, _ => none
 | k + 1, x0, x49 => if x49 = true then (some (([] : List (S26)), 4)) else (hanaperref06_Closure.l2 k x0 ([] : List (S26)) 0)
def hanaperref06_Closure.l2 : Nat → List (S26) → List (S26) → Int → Option ((List (S26)) × Int)
 | 0, _, _, _ => none
 | k + 1, x0, x7, x8 => if x8 < (x0.length : Int) then (if 0 ≤ x8 then ((hanaperref06_Has.f k x7 ((rd_T26 x0 x8).f0) ((rd_T26 x0 x8).f1) ((rd_T26 x0 x8).f2) ((rd_T26 x0 x8).f3)).bind fun t108 => (if t108 = true then (hanaperref06_Closure.l2 k x0 x7 (wrap64 (x8 + 1))) else (if x7.length < 2199023255552 then (hanaperref06_Closure.l2 k x0 (x7 ++ [(⟨(rd_T26 x0 x8).f0, (rd_T26 x0 x8).f1, (rd_T26 x0 x8).f2, (rd_T26 x0 x8).f3⟩ : S26)]) (wrap64 (x8 + 1))) else (none)))) else (none)) else (hanaperref06_Closure.l3 k x7)
def hanaperref06_Closure.l3 : Nat → List (S26) → Option ((List (S26)) × Int)
 | 0, _ => none
 | k + 1, x7 => hanaperref06_Closure.l4 k x7 (x7.length : Int) 0
def hanaperref06_Closure.l4 : Nat → List (S26) → Int → Int → Option ((List (S26)) × Int)
 | 0, _, _, _ => none
 | k + 1, x7, x9, x10 => if x10 < x9 then (if 0 ≤ x10 then (if x10 < (x7.length : Int) then ((hanaperref06_gives.f k x7 ((rd_T26 x7 x10).f0) ((rd_T26 x7 x10).f1) ((rd_T26 x7 x10).f2) ((rd_T26 x7 x10).f3)).bind fun t114 => (hanaperref06_Closure.l5 k x7 x9 x10 t114 0)) else (none)) else (none)) else (if (x7.length : Int) = x9 then (some (x7, 0)) else (hanaperref06_Closure.l3 k x7))
def hanaperref06_Closure.l5 : Nat → List (S26) → Int → Int → List (S26) → Int → Option ((List (S26)) × Int)
 | 0, _, _, _, _, _ => none
 | k + 1, x7, x9, x10, x11, x12 => if x12 < (x11.length : Int) then (if 0 ≤ x12 then ((hanaperref06_Has.f k x7 ((rd_T26 x11 x12).f0) ((rd_T26 x11 x12).f1) ((rd_T26 x11 x12).f2) ((rd_T26 x11 x12).f3)).bind fun t118 => (if t118 = true then (hanaperref06_Closure.l5 k x7 x9 x10 x11 (wrap64 (x12 + 1))) else (if x7.length < 2199023255552 then (hanaperref06_Closure.l5 k (x7 ++ [(⟨(rd_T26 x11 x12).f0, (rd_T26 x11 x12).f1, (rd_T26 x11 x12).f2, (rd_T26 x11 x12).f3⟩ : S26)]) x9 x10 x11 (wrap64 (x12 + 1))) else (none)))) else (none)) else (hanaperref06_Closure.l4 k x7 x9 (wrap64 (x10 + 1)))
def hanaperref06_Closure.l1 : Nat → List (S26) → Int → Int → Option ((List (S26)) × Int)
 | 0, _, _, _ => none
 | k + 1, x0, x5, x6 => if x6 < (x0.length : Int) then (if x5 ≤ 2000 then (if 0 ≤ x6 then ((hanaperref05_Parts.f k ((rd_T26 x0 x6).f0) ((rd_T26 x0 x6).f1) ((rd_T26 x0 x6).f2) ((rd_T26 x0 x6).f3)).bind fun t104 => (hanaperref06_Closure.l1 k x0 (wrap64 (x5 + (t104.length : Int))) (wrap64 (x6 + 1)))) else (none)) else (hanaperref06_Closure.j2 k x0 x5)) else (hanaperref06_Closure.j2 k x0 x5)
end
def hanaperref06_Closure.f (k : Nat) (l0 : List (S26)) : Option ((List (S26)) × Int) := hanaperref06_Closure.l0 k l0 0
set_option maxHeartbeats 8000000 in
set_option maxRecDepth 100000 in
theorem hanaperref06_Closure.calls (k : Nat) (P0_ : Nat → Prop) (A0 : Option Addr) (c0 : Nat) (l0 : List (S26)) (r1 : List (S26)) (r2 : Int) (w : World) (hs0 : Kd.V k26 26 w w.heap.size (fun k_ => P0_ k_) (.slice A0 l0.length c0) l0) (h : hanaperref06_Closure.f k l0 = some (r1, r2)) :
  Calls Try.prog 26 #[.slice A0 l0.length c0] w fun e w' => ∃ v0_ : Value, e = .returned (.tuple #[v0_, .int .i64 r2]) ∧ Kd.N k26 26 w' w.heap.size (fun k_ => (P0_ k_ ∨ w.heap.size ≤ k_)) v0_ r1 ∧ Below w.heap.size w w' := by
 have hu26 := Try.underlying26
 have HO0 := Aside0.mk (show Kd.V k26 26 w w.heap.size (fun k_ => (P0_ k_ ∨ w.heap.size ≤ k_)) (.slice A0 l0.length c0) l0 from Kd.V_mono hs0 (fun k_ hk => .inl hk))
 have HB := Aside0.mk (Below.refl w.heap.size w)
 have H : (hanaperref06_Closure.l0 k l0 0) = some (r1, r2) := h
 clear h
 have H' := Aside0.mk H
 clear H
 go_enter Try.func26, Try.ntmps26
 go_wp2
 go_loopg [4] k (fun kq v4 w' => ∃ (x4_1 : Int), v4 = .int .i64 x4_1 ∧ Aside0 (hanaperref06_Closure.l0 kq l0 x4_1 = some (r1, r2)) ∧ Aside0 (kq ≤ k) ∧ Aside0 (Kd.V k26 26 w' w.heap.size (fun k_ => (P0_ k_ ∨ w.heap.size ≤ k_)) (.slice A0 l0.length c0) l0) ∧ Aside0 (Below w.heap.size w w'))
 case atStart => exact ⟨(0), (by first | rfl | (simp; done) | (simp [*]; done)), H', ⟨Nat.le_refl _⟩, ⟨by (with_reducible repeat (first | apply Kd.V_alloc | apply Kd.V_drewN | apply Kd.V_drew)); exact HO0.out⟩, ⟨by repeat (first | (with_reducible first | exact HB.out | apply below_alloc | apply pw_below_drewN | apply below_drew1) | exact HB.out)⟩⟩
 case round =>
  clear H'
  obtain ⟨x4_1, rfl, HA, HK1, HO_0, HB⟩ := hrel
  cases gk with
  | zero => exact absurd HA.out (by simp [hanaperref06_Closure.l0])
  | succ k1 =>
   have H := HA.out
   clear HA
   simp only [hanaperref06_Closure.l0] at H
   by_cases c2 : x4_1 < (l0.length : Int)
   ·rw [if_pos c2] at H
    have c2b0 : decide (x4_1 < (l0.length : Int)) = true := decide_eq_true c2
    clear c2
    by_cases c3 : 0 ≤ x4_1
    ·rw [if_pos c3] at H
     have c3b0 : decide (0 ≤ x4_1) = true := decide_eq_true c3
     clear c3
     replace H := Option.bind_eq_some_iff.mp H
     obtain ⟨t102, A40, H⟩ := H
     replace H : (if t102 = true then (hanaperref06_Closure.l0 k1 l0 (wrap64 (x4_1 + 1))) else (some (([] : List (S26)), 1))) = some (r1, r2) := H
     have A4 := Aside0.mk A40
     clear A40
     by_cases c5 : t102 = true
     ·subst c5
      have H1 : (hanaperref06_Closure.l0 k1 l0 (wrap64 (x4_1 + 1))) = some (r1, r2) := by rw [if_pos rfl] at H; exact H
      clear H
      have H := H1
      clear H1
      have H' := Aside0.mk H
      clear H
      have p101 : 0 ≤ (x4_1 : Int) := of_decide_eq_true (by first | (with_reducible assumption) | assumption)
      have q101 : x4_1 < (l0.length : Int) := of_decide_eq_true (by first | (with_reducible assumption) | assumption)
      obtain ⟨ad101, A101_2, c101_2, A101_3, c101_3, e101, hx101_0, hx101_1, hx101_2, hx101_3, hl101_2, hi101_2, hl101_3, hi101_3⟩ := at_T26 (Kd.V_reads' HO_0.out).2.2 x4_1 p101 q101
      cases e101
      obtain ⟨ce101, hce101, hMe101, hcc101⟩ := Kd.V_get HO_0.out z26 x4_1 p101 (by first | exact q101 | exact of_decide_eq_true (by first | (with_reducible assumption) | assumption) | (have e_ := (Kd.V_reads' HO_0.out).1; omega))
      obtain ⟨ua101_2, uc101_2, ua101_3, uc101_3, rfl, ul101_2, ge101_2, ul101_3, ge101_3⟩ := k26_openF hMe101
      have hv101_2 := hcc101 2 _ rfl
      rw [add_field _ _ 2 (by omega)] at hv101_2
      replace hv101_2 := Option.some.inj (hv101_2.symm.trans hx101_2)
      injection hv101_2 with hva_ hvn_ hvc_
      rw [hva_] at ge101_2
      rw [hvc_] at ul101_2
      have HL101_2 := Aside0.mk (show Kd.V (Kd.int .u8) 5 _ w.heap.size _ _ ((rd_T26 l0 x4_1).f2) from Kd.V_mk ul101_2 ge101_2)
      clear hva_ hvn_ hvc_ ge101_2 ul101_2
      have hv101_3 := hcc101 3 _ rfl
      rw [add_field _ _ 3 (by omega)] at hv101_3
      replace hv101_3 := Option.some.inj (hv101_3.symm.trans hx101_3)
      injection hv101_3 with hva_ hvn_ hvc_
      rw [hva_] at ge101_3
      rw [hvc_] at ul101_3
      have HL101_3 := Aside0.mk (show Kd.V k26 26 _ w.heap.size _ _ ((rd_T26 l0 x4_1).f3) from Kd.V_mk ul101_3 ge101_3)
      clear hva_ hvn_ hvc_ ge101_3 ul101_3
      clear hcc101 hce101
      have HR101_2 := Aside0.mk hi101_2
      have HC101_2 := Aside0.mk hl101_2
      clear hi101_2 hl101_2
      have HR101_3 := Aside0.mk hi101_3
      have HC101_3 := Aside0.mk hl101_3
      clear hi101_3 hl101_3
      replace p101 := eq_true p101
      replace q101 := eq_true q101
      go_wp2_with (first | ((with_reducible refine gate_callee (f := 17) rfl ?_); refine goesL_ (some 23) rfl rfl Try.func17 (by kernel_rfl) rfl #[.agg #[.int .i64 ((rd_T26 l0 x4_1).f0), .int .u64 ((rd_T26 l0 x4_1).f1), .slice A101_2 ((rd_T26 l0 x4_1).f2).length c101_2, .slice A101_3 ((rd_T26 l0 x4_1).f3).length c101_3]] rfl (by (try simp only [List.map_toArray, List.map_cons, List.map_nil]); first | done | rfl | (simp only [List.length_drop, List.length_take]; rfl)) ?_; (with_reducible refine (hanaperref05_May.calls k1 ((rd_T26 l0 x4_1).f0) ((rd_T26 l0 x4_1).f1) _ _ ((rd_T26 l0 x4_1).f2) _ _ ((rd_T26 l0 x4_1).f3) true _ ?side1 ?side2 ?side3 ?side4 A4.out).mono ?_); (case side1 => repeat (first | exact (by repeat (first | (with_reducible exact HR101_2.out) | (with_reducible refine Kd.C_alloc ?_ _) | (with_reducible refine Kd.C_drewN ?_ _) | (with_reducible refine Kd.C_drew ?_) | exact HR101_2.out)) | (with_reducible refine Kd.C_alloc ?_ _) | (with_reducible refine Kd.C_drewN ?_ _) | (with_reducible refine Kd.C_drew ?_))); (case side2 => exact HC101_2.out); (case side3 => repeat (first | exact (by repeat (first | (with_reducible exact HR101_3.out) | (with_reducible refine Kd.C_alloc ?_ _) | (with_reducible refine Kd.C_drewN ?_ _) | (with_reducible refine Kd.C_drew ?_) | exact HR101_3.out)) | (with_reducible refine Kd.C_alloc ?_ _) | (with_reducible refine Kd.C_drewN ?_ _) | (with_reducible refine Kd.C_drew ?_))); (case side4 => exact HC101_3.out); rintro e w6 ⟨rfl, hb⟩; refine ⟨_, rfl, ?_⟩; have n0_ := Aside0.mk (Kd.V_below (by (with_reducible repeat (first | apply Kd.V_alloc | apply Kd.V_drewN | apply Kd.V_drew)); exact HO_0.out) hb); have n1_ := Aside0.mk (Kd.V_below (by (with_reducible repeat (first | apply Kd.V_alloc | apply Kd.V_drewN | apply Kd.V_drew)); exact HL101_2.out) hb); have n2_ := Aside0.mk (Kd.V_below (by (with_reducible repeat (first | apply Kd.V_alloc | apply Kd.V_drewN | apply Kd.V_drew)); exact HL101_3.out) hb); have n3_ := Aside0.mk (Kd.C_below (by repeat (first | (with_reducible exact HR101_2.out) | (with_reducible refine Kd.C_alloc ?_ _) | (with_reducible refine Kd.C_drewN ?_ _) | (with_reducible refine Kd.C_drew ?_) | exact HR101_2.out)) hb); have n4_ := Aside0.mk (Kd.C_below (by repeat (first | (with_reducible exact HR101_3.out) | (with_reducible refine Kd.C_alloc ?_ _) | (with_reducible refine Kd.C_drewN ?_ _) | (with_reducible refine Kd.C_drew ?_) | exact HR101_3.out)) hb); have n5_ := Aside0.mk (below_step (by repeat (first | (with_reducible first | exact HB.out | apply below_alloc | apply pw_below_drewN | apply below_drew1) | exact HB.out)) hb); clear HO_0; clear HL101_2; clear HL101_3; clear HR101_2; clear HR101_3; clear HB; have HO_0 := n0_; have HL101_2 := n1_; have HL101_3 := n2_; have HR101_2 := n3_; have HR101_3 := n4_; have HB := n5_; clear n0_ n1_ n2_ n3_ n4_ n5_; (try clear hb); (try clear hb2); (try clear hk); (try clear hi)))
      go_roundg k1
      case measure => have := HK1.out; omega
      case rel => exact ⟨(wrap64 (x4_1 + 1)), (by first | rfl | (simp; done) | (simp [*]; done)), H', ⟨by have := HK1.out; omega⟩, ⟨by (with_reducible repeat (first | apply Kd.V_alloc | apply Kd.V_drewN | apply Kd.V_drew)); exact HO_0.out⟩, ⟨by repeat (first | (with_reducible first | exact HB.out | apply below_alloc | apply pw_below_drewN | apply below_drew1) | exact HB.out)⟩⟩
     ·replace c5 := Bool.eq_false_iff.mpr c5
      subst c5
      have H1 : (some (([] : List (S26)), 1)) = some (r1, r2) := by rw [if_neg (show ¬ (false = true) by decide)] at H; exact H
      clear H
      have H := H1
      clear H1
      simp only [Option.some.injEq, Prod.mk.injEq] at H
      obtain ⟨rfl, rfl⟩ := H
      have p101 : 0 ≤ (x4_1 : Int) := of_decide_eq_true (by first | (with_reducible assumption) | assumption)
      have q101 : x4_1 < (l0.length : Int) := of_decide_eq_true (by first | (with_reducible assumption) | assumption)
      obtain ⟨ad101, A101_2, c101_2, A101_3, c101_3, e101, hx101_0, hx101_1, hx101_2, hx101_3, hl101_2, hi101_2, hl101_3, hi101_3⟩ := at_T26 (Kd.V_reads' HO_0.out).2.2 x4_1 p101 q101
      cases e101
      obtain ⟨ce101, hce101, hMe101, hcc101⟩ := Kd.V_get HO_0.out z26 x4_1 p101 (by first | exact q101 | exact of_decide_eq_true (by first | (with_reducible assumption) | assumption) | (have e_ := (Kd.V_reads' HO_0.out).1; omega))
      obtain ⟨ua101_2, uc101_2, ua101_3, uc101_3, rfl, ul101_2, ge101_2, ul101_3, ge101_3⟩ := k26_openF hMe101
      have hv101_2 := hcc101 2 _ rfl
      rw [add_field _ _ 2 (by omega)] at hv101_2
      replace hv101_2 := Option.some.inj (hv101_2.symm.trans hx101_2)
      injection hv101_2 with hva_ hvn_ hvc_
      rw [hva_] at ge101_2
      rw [hvc_] at ul101_2
      have HL101_2 := Aside0.mk (show Kd.V (Kd.int .u8) 5 _ w.heap.size _ _ ((rd_T26 l0 x4_1).f2) from Kd.V_mk ul101_2 ge101_2)
      clear hva_ hvn_ hvc_ ge101_2 ul101_2
      have hv101_3 := hcc101 3 _ rfl
      rw [add_field _ _ 3 (by omega)] at hv101_3
      replace hv101_3 := Option.some.inj (hv101_3.symm.trans hx101_3)
      injection hv101_3 with hva_ hvn_ hvc_
      rw [hva_] at ge101_3
      rw [hvc_] at ul101_3
      have HL101_3 := Aside0.mk (show Kd.V k26 26 _ w.heap.size _ _ ((rd_T26 l0 x4_1).f3) from Kd.V_mk ul101_3 ge101_3)
      clear hva_ hvn_ hvc_ ge101_3 ul101_3
      clear hcc101 hce101
      have HR101_2 := Aside0.mk hi101_2
      have HC101_2 := Aside0.mk hl101_2
      clear hi101_2 hl101_2
      have HR101_3 := Aside0.mk hi101_3
      have HC101_3 := Aside0.mk hl101_3
      clear hi101_3 hl101_3
      replace p101 := eq_true p101
      replace q101 := eq_true q101
      go_wp2_with (first | ((with_reducible refine gate_callee (f := 17) rfl ?_); refine goesL_ (some 23) rfl rfl Try.func17 (by kernel_rfl) rfl #[.agg #[.int .i64 ((rd_T26 l0 x4_1).f0), .int .u64 ((rd_T26 l0 x4_1).f1), .slice A101_2 ((rd_T26 l0 x4_1).f2).length c101_2, .slice A101_3 ((rd_T26 l0 x4_1).f3).length c101_3]] rfl (by (try simp only [List.map_toArray, List.map_cons, List.map_nil]); first | done | rfl | (simp only [List.length_drop, List.length_take]; rfl)) ?_; (with_reducible refine (hanaperref05_May.calls k1 ((rd_T26 l0 x4_1).f0) ((rd_T26 l0 x4_1).f1) _ _ ((rd_T26 l0 x4_1).f2) _ _ ((rd_T26 l0 x4_1).f3) false _ ?side1 ?side2 ?side3 ?side4 A4.out).mono ?_); (case side1 => repeat (first | exact (by repeat (first | (with_reducible exact HR101_2.out) | (with_reducible refine Kd.C_alloc ?_ _) | (with_reducible refine Kd.C_drewN ?_ _) | (with_reducible refine Kd.C_drew ?_) | exact HR101_2.out)) | (with_reducible refine Kd.C_alloc ?_ _) | (with_reducible refine Kd.C_drewN ?_ _) | (with_reducible refine Kd.C_drew ?_))); (case side2 => exact HC101_2.out); (case side3 => repeat (first | exact (by repeat (first | (with_reducible exact HR101_3.out) | (with_reducible refine Kd.C_alloc ?_ _) | (with_reducible refine Kd.C_drewN ?_ _) | (with_reducible refine Kd.C_drew ?_) | exact HR101_3.out)) | (with_reducible refine Kd.C_alloc ?_ _) | (with_reducible refine Kd.C_drewN ?_ _) | (with_reducible refine Kd.C_drew ?_))); (case side4 => exact HC101_3.out); rintro e w7 ⟨rfl, hb⟩; refine ⟨_, rfl, ?_⟩; have n0_ := Aside0.mk (Kd.V_below (by (with_reducible repeat (first | apply Kd.V_alloc | apply Kd.V_drewN | apply Kd.V_drew)); exact HO_0.out) hb); have n1_ := Aside0.mk (Kd.V_below (by (with_reducible repeat (first | apply Kd.V_alloc | apply Kd.V_drewN | apply Kd.V_drew)); exact HL101_2.out) hb); have n2_ := Aside0.mk (Kd.V_below (by (with_reducible repeat (first | apply Kd.V_alloc | apply Kd.V_drewN | apply Kd.V_drew)); exact HL101_3.out) hb); have n3_ := Aside0.mk (Kd.C_below (by repeat (first | (with_reducible exact HR101_2.out) | (with_reducible refine Kd.C_alloc ?_ _) | (with_reducible refine Kd.C_drewN ?_ _) | (with_reducible refine Kd.C_drew ?_) | exact HR101_2.out)) hb); have n4_ := Aside0.mk (Kd.C_below (by repeat (first | (with_reducible exact HR101_3.out) | (with_reducible refine Kd.C_alloc ?_ _) | (with_reducible refine Kd.C_drewN ?_ _) | (with_reducible refine Kd.C_drew ?_) | exact HR101_3.out)) hb); have n5_ := Aside0.mk (below_step (by repeat (first | (with_reducible first | exact HB.out | apply below_alloc | apply pw_below_drewN | apply below_drew1) | exact HB.out)) hb); clear HO_0; clear HL101_2; clear HL101_3; clear HR101_2; clear HR101_3; clear HB; have HO_0 := n0_; have HL101_2 := n1_; have HL101_3 := n2_; have HR101_2 := n3_; have HR101_3 := n4_; have HB := n5_; clear n0_ n1_ n2_ n3_ n4_ n5_; (try clear hb); (try clear hb2); (try clear hk); (try clear hi)))
      go_ret2
      exact ⟨_, by first | rfl | (simp [errW_none, errW_some] <;> rfl) | (simp [*, errW_none, errW_some] <;> rfl), by first | exact Kd.R_nil _ _ _ _ _ | exact Kd.N_nil _ _ _ _ _ | exact Kd.V_nil _ _ _ _ _ | exact Kd.Q_nil _ _ _ _ _ | exact Kd.S_nil _ _ _ _ _, by repeat (first | (with_reducible first | exact HB.out | apply below_alloc | apply pw_below_drewN | apply below_drew1) | exact HB.out)⟩
    ·rw [if_neg c3] at H
     exact absurd H (by simp)
   ·rw [if_neg c2] at H
    have c2b0 : decide (x4_1 < (l0.length : Int)) = false := decide_eq_false c2
    clear c2
    have HC8 := Aside0.mk H
    clear H
    go_upto_block 2 with (fail)
    go_cut [5] (fun v5 wc => ∃ (kq : Nat) (x5_7 : Int), v5 = .int .i64 x5_7 ∧ Aside0 (hanaperref06_Closure.j2 kq l0 x5_7 = some (r1, r2)) ∧ Aside0 (kq ≤ k1) ∧ Aside0 (Kd.V k26 26 wc w.heap.size (fun k_ => (P0_ k_ ∨ w.heap.size ≤ k_)) (.slice A0 l0.length c0) l0) ∧ Aside0 (Below w.heap.size w wc))
    case first =>
     have H := HC8.out
     clear HC8
     have H' := Aside0.mk H
     clear H
     go_wp2
     go_loopg [5, 6] k1 (fun kq v5 v6 w' => ∃ (x5_2 : Int) (x6_2 : Int), v5 = .int .i64 x5_2 ∧ v6 = .int .i64 x6_2 ∧ Aside0 (hanaperref06_Closure.l1 kq l0 x5_2 x6_2 = some (r1, r2)) ∧ Aside0 (kq ≤ k1) ∧ Aside0 (Kd.V k26 26 w' w.heap.size (fun k_ => (P0_ k_ ∨ w.heap.size ≤ k_)) (.slice A0 l0.length c0) l0) ∧ Aside0 (Below w.heap.size w w'))
     case atStart => exact ⟨(0), (0), (by first | rfl | (simp; done) | (simp [*]; done)), (by first | rfl | (simp; done) | (simp [*]; done)), H', ⟨Nat.le_refl _⟩, ⟨by (with_reducible repeat (first | apply Kd.V_alloc | apply Kd.V_drewN | apply Kd.V_drew)); exact HO_0.out⟩, ⟨by repeat (first | (with_reducible first | exact HB.out | apply below_alloc | apply pw_below_drewN | apply below_drew1) | exact HB.out)⟩⟩
     case round =>
      clear H'
      (try clear c1);(try clear p1);(try clear q1);(try clear hx1);(try clear c2);(try clear c2b0);(try clear p2);(try clear c3);(try clear c3b0);(try clear c5);(try clear p6);(try clear hx101_0);(try clear hx101_1);(try clear hx101_2);(try clear hx101_3);(try clear p101);(try clear q101)
      obtain ⟨x5_2, x6_2, rfl, rfl, HA, HK2, HO_0, HB⟩ := hrel
      cases gk with
      | zero => exact absurd HA.out (by simp [hanaperref06_Closure.l1])
      | succ k2 =>
       have H := HA.out
       clear HA
       simp only [hanaperref06_Closure.l1] at H
       by_cases c9 : x6_2 < (l0.length : Int)
       ·rw [if_pos c9] at H
        have c9b0 : decide (x6_2 < (l0.length : Int)) = true := decide_eq_true c9
        clear c9
        (first | rw [c9b0] | (simp only [i64_w, i32_w]; rw [c9b0]) | skip)
        by_cases c10 : x5_2 ≤ 2000
        ·rw [if_pos c10] at H
         have c10b0 : decide (x5_2 ≤ 2000) = true := decide_eq_true c10
         clear c10
         by_cases c11 : 0 ≤ x6_2
         ·rw [if_pos c11] at H
          have c11b0 : decide (0 ≤ x6_2) = true := decide_eq_true c11
          clear c11
          replace H := Option.bind_eq_some_iff.mp H
          obtain ⟨t104, A120, H⟩ := H
          replace H : (hanaperref06_Closure.l1 k2 l0 (wrap64 (x5_2 + (t104.length : Int))) (wrap64 (x6_2 + 1))) = some (r1, r2) := H
          have A12 := Aside0.mk A120
          clear A120
          have H' := Aside0.mk H
          clear H
          have p103 : 0 ≤ (x6_2 : Int) := of_decide_eq_true (by first | (with_reducible assumption) | assumption)
          have q103 : x6_2 < (l0.length : Int) := of_decide_eq_true (by first | (with_reducible assumption) | assumption)
          obtain ⟨ad103, A103_2, c103_2, A103_3, c103_3, e103, hx103_0, hx103_1, hx103_2, hx103_3, hl103_2, hi103_2, hl103_3, hi103_3⟩ := at_T26 (Kd.V_reads' HO_0.out).2.2 x6_2 p103 q103
          cases e103
          obtain ⟨ce103, hce103, hMe103, hcc103⟩ := Kd.V_get HO_0.out z26 x6_2 p103 (by first | exact q103 | exact of_decide_eq_true (by first | (with_reducible assumption) | assumption) | (have e_ := (Kd.V_reads' HO_0.out).1; omega))
          obtain ⟨ua103_2, uc103_2, ua103_3, uc103_3, rfl, ul103_2, ge103_2, ul103_3, ge103_3⟩ := k26_openF hMe103
          have hv103_2 := hcc103 2 _ rfl
          rw [add_field _ _ 2 (by omega)] at hv103_2
          replace hv103_2 := Option.some.inj (hv103_2.symm.trans hx103_2)
          injection hv103_2 with hva_ hvn_ hvc_
          rw [hva_] at ge103_2
          rw [hvc_] at ul103_2
          have HL103_2 := Aside0.mk (show Kd.V (Kd.int .u8) 5 _ w.heap.size _ _ ((rd_T26 l0 x6_2).f2) from Kd.V_mk ul103_2 ge103_2)
          clear hva_ hvn_ hvc_ ge103_2 ul103_2
          have hv103_3 := hcc103 3 _ rfl
          rw [add_field _ _ 3 (by omega)] at hv103_3
          replace hv103_3 := Option.some.inj (hv103_3.symm.trans hx103_3)
          injection hv103_3 with hva_ hvn_ hvc_
          rw [hva_] at ge103_3
          rw [hvc_] at ul103_3
          have HL103_3 := Aside0.mk (show Kd.V k26 26 _ w.heap.size _ _ ((rd_T26 l0 x6_2).f3) from Kd.V_mk ul103_3 ge103_3)
          clear hva_ hvn_ hvc_ ge103_3 ul103_3
          clear hcc103 hce103
          have HR103_2 := Aside0.mk hi103_2
          have HC103_2 := Aside0.mk hl103_2
          clear hi103_2 hl103_2
          have HR103_3 := Aside0.mk hi103_3
          have HC103_3 := Aside0.mk hl103_3
          clear hi103_3 hl103_3
          replace p103 := eq_true p103
          replace q103 := eq_true q103
          go_wp2_with (first | ((with_reducible refine gate_callee (f := 32) rfl ?_); refine goesL_ (some 40) rfl rfl Try.func32 (by kernel_rfl) rfl #[.agg #[.int .i64 ((rd_T26 l0 x6_2).f0), .int .u64 ((rd_T26 l0 x6_2).f1), .slice A103_2 ((rd_T26 l0 x6_2).f2).length c103_2, .slice A103_3 ((rd_T26 l0 x6_2).f3).length c103_3]] rfl (by (try simp only [List.map_toArray, List.map_cons, List.map_nil]); first | done | rfl | (simp only [List.length_drop, List.length_take]; rfl)) ?_; (with_reducible refine (hanaperref05_Parts.calls k2 ((rd_T26 l0 x6_2).f0) ((rd_T26 l0 x6_2).f1) (fun k_ => (P0_ k_ ∨ w.heap.size ≤ k_)) _ _ ((rd_T26 l0 x6_2).f2) (fun k_ => (P0_ k_ ∨ w.heap.size ≤ k_)) _ _ ((rd_T26 l0 x6_2).f3) t104 _ ?side1 ?side2 A12.out).mono ?_); (case side1 => exact HL103_2.out); (case side2 => exact HL103_3.out); rintro e w13 ⟨v105, rfl, ho0, hb⟩; refine ⟨_, rfl, ?_⟩; have n0_ := Aside0.mk (Kd.V_elder' (by (with_reducible repeat (first | apply Kd.V_alloc | apply Kd.V_drewN | apply Kd.V_drew)); exact HO_0.out) (Kd.N_base ho0) hb); have n1_ := Aside0.mk (Kd.V_elder' (by (with_reducible repeat (first | apply Kd.V_alloc | apply Kd.V_drewN | apply Kd.V_drew)); exact HL103_2.out) (Kd.N_base ho0) hb); have n2_ := Aside0.mk (Kd.V_elder' (by (with_reducible repeat (first | apply Kd.V_alloc | apply Kd.V_drewN | apply Kd.V_drew)); exact HL103_3.out) (Kd.N_base ho0) hb); have n3_ := Aside0.mk (Kd.N_lower (Kd.N_mono (ok' := fun k_ => (P0_ k_ ∨ w.heap.size ≤ k_)) ho0 (fun k_ hk_ => Or.elim hk_ (fun hs_ => Or.elim hs_ (fun hs_ => hs_) (fun hs_ => hs_)) (fun hn_ => (.inr (Nat.le_trans (below_size (by repeat (first | (with_reducible first | exact HB.out | apply below_alloc | apply pw_below_drewN | apply below_drew1) | exact HB.out))) hn_))))) (below_size (by repeat (first | (with_reducible first | exact HB.out | apply below_alloc | apply pw_below_drewN | apply below_drew1) | exact HB.out)))); have n4_ := Aside0.mk (Kd.C_below (by repeat (first | (with_reducible exact HR103_2.out) | (with_reducible refine Kd.C_alloc ?_ _) | (with_reducible refine Kd.C_drewN ?_ _) | (with_reducible refine Kd.C_drew ?_) | exact HR103_2.out)) hb); have n5_ := Aside0.mk (Kd.C_below (by repeat (first | (with_reducible exact HR103_3.out) | (with_reducible refine Kd.C_alloc ?_ _) | (with_reducible refine Kd.C_drewN ?_ _) | (with_reducible refine Kd.C_drew ?_) | exact HR103_3.out)) hb); have n6_ := Aside0.mk (below_step (by repeat (first | (with_reducible first | exact HB.out | apply below_alloc | apply pw_below_drewN | apply below_drew1) | exact HB.out)) hb); clear HO_0; clear HL103_2; clear HL103_3; clear HR103_2; clear HR103_3; clear HB; have HO_0 := n0_; have HL103_2 := n1_; have HL103_3 := n2_; have HO106 := n3_; have HR103_2 := n4_; have HR103_3 := n5_; have HB := n6_; clear n0_ n1_ n2_ n3_ n4_ n5_ n6_; (try clear hb); (try clear hb2); (try clear hk); (try clear hi); (try clear ho0); obtain ⟨Ao14, co14, eo14⟩ := Kd.N_slice HO106.out; subst eo14))
          go_roundg k2
          case measure => have := HK1.out; have := HK2.out; omega
          case rel => exact ⟨(wrap64 (x5_2 + (t104.length : Int))), (wrap64 (x6_2 + 1)), (by first | rfl | (simp; done) | (simp [*]; done)), (by first | rfl | (simp; done) | (simp [*]; done)), H', ⟨by have := HK1.out; have := HK2.out; omega⟩, ⟨by (with_reducible repeat (first | apply Kd.V_alloc | apply Kd.V_drewN | apply Kd.V_drew)); exact Kd.V_mono HO_0.out (fun _ hk => hk.1)⟩, ⟨by repeat (first | (with_reducible first | exact HB.out | apply below_alloc | apply pw_below_drewN | apply below_drew1) | exact HB.out)⟩⟩
         ·rw [if_neg c11] at H
          exact absurd H (by simp)
        ·rw [if_neg c10] at H
         have c10b0 : decide (x5_2 ≤ 2000) = false := decide_eq_false c10
         clear c10
         have H' := Aside0.mk H
         clear H
         go_wp2
         go_meet
         case rel => exact ⟨_, (x5_2), (by first | rfl | (simp; done) | (simp [*]; done)), H', ⟨by have := HK1.out; have := HK2.out; first | omega | exact Nat.le_refl _⟩, ⟨by (with_reducible repeat (first | apply Kd.V_alloc | apply Kd.V_drewN | apply Kd.V_drew)); exact HO_0.out⟩, ⟨by repeat (first | (with_reducible first | exact HB.out | apply below_alloc | apply pw_below_drewN | apply below_drew1) | exact HB.out)⟩⟩
       ·rw [if_neg c9] at H
        have c9b0 : decide (x6_2 < (l0.length : Int)) = false := decide_eq_false c9
        clear c9
        (first | rw [c9b0] | (simp only [i64_w, i32_w]; rw [c9b0]) | skip)
        have H' := Aside0.mk H
        clear H
        go_wp2
        go_meet
        case rel => exact ⟨_, (x5_2), (by first | rfl | (simp; done) | (simp [*]; done)), H', ⟨by have := HK1.out; have := HK2.out; first | omega | exact Nat.le_refl _⟩, ⟨by (with_reducible repeat (first | apply Kd.V_alloc | apply Kd.V_drewN | apply Kd.V_drew)); exact HO_0.out⟩, ⟨by repeat (first | (with_reducible first | exact HB.out | apply below_alloc | apply pw_below_drewN | apply below_drew1) | exact HB.out)⟩⟩
    case rest =>
     clear HC8
     (try clear c1);(try clear p1);(try clear q1);(try clear hx1);(try clear c2);(try clear c2b0);(try clear p2);(try clear c3);(try clear c3b0);(try clear c5);(try clear p6);(try clear c9);(try clear c9b0);(try clear c10);(try clear c10b0);(try clear p10);(try clear q10);(try clear hx10);(try clear c11);(try clear c11b0);(try clear hx101_0);(try clear hx101_1);(try clear hx101_2);(try clear hx101_3);(try clear hx103_0);(try clear hx103_1);(try clear hx103_2);(try clear hx103_3);(try clear p1);(try clear p101);(try clear p103);(try clear p2);(try clear p6);(try clear q1);(try clear q101);(try clear q103)
     obtain ⟨kq, x5_7, rfl, HA, HJ7, HO_0, HB⟩ := hcut
     cases kq with
     | zero => exact absurd HA.out (by simp [hanaperref06_Closure.j2])
     | succ kj7 =>
      have H := HA.out
      clear HA
      simp only [hanaperref06_Closure.j2] at H
      have HC15 := Aside0.mk H
      clear H
      go_upto_region 11 with (fail)
      go_cut [49] (fun v49 wc => ∃ (kq : Nat) (x49_14 : Bool), v49 = .bool x49_14 ∧ Aside0 (hanaperref06_Closure.j3 kq l0 x49_14 = some (r1, r2)) ∧ Aside0 (kq ≤ kj7) ∧ Aside0 (Kd.V k26 26 wc w.heap.size (fun k_ => (P0_ k_ ∨ w.heap.size ≤ k_)) (.slice A0 l0.length c0) l0) ∧ Aside0 (Below w.heap.size w wc))
      case first =>
       have H := HC15.out
       clear HC15
       by_cases c16 : (l0.length : Int) > 300
       ·rw [if_pos c16] at H
        have c16b0 : decide (300 < (l0.length : Int)) = true := decide_eq_true c16
        have c16b1 : decide (300 < l0.length) = true := decide_eq_true (by omega)
        clear c16
        (first | rw [c16b0] | (simp only [i64_w, i32_w]; rw [c16b0]) | skip)
        have H' := Aside0.mk H
        clear H
        go_wp2
        go_meet
        case rel => exact ⟨_, (true), (by first | rfl | (simp; done) | (simp [*]; done)), H', ⟨by have := HK1.out; have := HJ7.out; first | omega | exact Nat.le_refl _⟩, ⟨by (with_reducible repeat (first | apply Kd.V_alloc | apply Kd.V_drewN | apply Kd.V_drew)); exact HO_0.out⟩, ⟨by repeat (first | (with_reducible first | exact HB.out | apply below_alloc | apply pw_below_drewN | apply below_drew1) | exact HB.out)⟩⟩
       ·rw [if_neg c16] at H
        have c16b0 : decide (300 < (l0.length : Int)) = false := decide_eq_false c16
        have c16b1 : decide (300 < l0.length) = false := decide_eq_false (by omega)
        clear c16
        (first | rw [c16b0] | (simp only [i64_w, i32_w]; rw [c16b0]) | skip)
        have H' := Aside0.mk H
        clear H
        go_wp2
        go_meet
        case rel => exact ⟨_, (decide (x5_7 > 2000)), (by first | rfl | (simp; done) | (simp [*]; done)), H', ⟨by have := HK1.out; have := HJ7.out; first | omega | exact Nat.le_refl _⟩, ⟨by (with_reducible repeat (first | apply Kd.V_alloc | apply Kd.V_drewN | apply Kd.V_drew)); exact HO_0.out⟩, ⟨by repeat (first | (with_reducible first | exact HB.out | apply below_alloc | apply pw_below_drewN | apply below_drew1) | exact HB.out)⟩⟩
      case rest =>
       clear HC15
       (try clear c1);(try clear p1);(try clear q1);(try clear hx1);(try clear c2);(try clear c2b0);(try clear p2);(try clear c3);(try clear c3b0);(try clear c5);(try clear p6);(try clear c9);(try clear c9b0);(try clear c10);(try clear c10b0);(try clear p10);(try clear q10);(try clear hx10);(try clear c11);(try clear c11b0);(try clear c16);(try clear c16b0);(try clear c16b1);(try clear hx101_0);(try clear hx101_1);(try clear hx101_2);(try clear hx101_3);(try clear hx103_0);(try clear hx103_1);(try clear hx103_2);(try clear hx103_3);(try clear p1);(try clear p10);(try clear p101);(try clear p103);(try clear p2);(try clear p6);(try clear q1);(try clear q10);(try clear q101);(try clear q103)
       obtain ⟨kq, x49_14, rfl, HA, HJ14, HO_0, HB⟩ := hcut
       cases kq with
       | zero => exact absurd HA.out (by simp [hanaperref06_Closure.j3])
       | succ kj14 =>
        have H := HA.out
        clear HA
        simp only [hanaperref06_Closure.j3] at H
        by_cases c17 : x49_14 = true
        ·subst c17
         have H1 : (some (([] : List (S26)), 4)) = some (r1, r2) := by rw [if_pos rfl] at H; exact H
         clear H
         have H := H1
         clear H1
         simp only [Option.some.injEq, Prod.mk.injEq] at H
         obtain ⟨rfl, rfl⟩ := H
         go_wp2
         go_ret2
         exact ⟨_, by first | rfl | (simp [errW_none, errW_some] <;> rfl) | (simp [*, errW_none, errW_some] <;> rfl), by first | exact Kd.R_nil _ _ _ _ _ | exact Kd.N_nil _ _ _ _ _ | exact Kd.V_nil _ _ _ _ _ | exact Kd.Q_nil _ _ _ _ _ | exact Kd.S_nil _ _ _ _ _, by repeat (first | (with_reducible first | exact HB.out | apply below_alloc | apply pw_below_drewN | apply below_drew1) | exact HB.out)⟩
        ·replace c17 := Bool.eq_false_iff.mpr c17
         subst c17
         have H1 : (hanaperref06_Closure.l2 kj14 l0 ([] : List (S26)) 0) = some (r1, r2) := by rw [if_neg (show ¬ (false = true) by decide)] at H; exact H
         clear H
         have H := H1
         clear H1
         have H' := Aside0.mk H
         clear H
         go_wp2
         go_loopg [7, 8] kj14 (fun kq v7 v8 w' => ∃ (x7_4 : List (S26)) (x8_4 : Int), v8 = .int .i64 x8_4 ∧ Aside0 (hanaperref06_Closure.l2 kq l0 x7_4 x8_4 = some (r1, r2)) ∧ Aside0 (kq ≤ kj14) ∧ Aside0 (Kd.V k26 26 w' w.heap.size (fun k_ => (P0_ k_ ∨ w.heap.size ≤ k_) ∧ some k_ ≠ (v7 : Value).ownBlock) (.slice A0 l0.length c0) l0) ∧ Aside0 (Kd.N k26 26 w' w.heap.size (fun k_ => (P0_ k_ ∨ w.heap.size ≤ k_)) v7 x7_4) ∧ Aside0 (Below w.heap.size w w'))
         case atStart => exact ⟨(([] : List (S26))), (0), (by first | rfl | (simp; done) | (simp [*]; done)), H', ⟨Nat.le_refl _⟩, ⟨by (with_reducible repeat (first | apply Kd.V_alloc | apply Kd.V_drewN | apply Kd.V_drew)); exact Kd.V_mono HO_0.out (fun _ hk => ⟨hk, (by simp [Value.ownBlock])⟩)⟩, ⟨by first | exact Kd.R_nil _ _ _ _ _ | exact Kd.N_nil _ _ _ _ _ | exact Kd.V_nil _ _ _ _ _ | exact Kd.Q_nil _ _ _ _ _ | exact Kd.S_nil _ _ _ _ _⟩, ⟨by repeat (first | (with_reducible first | exact HB.out | apply below_alloc | apply pw_below_drewN | apply below_drew1) | exact HB.out)⟩⟩
         case round =>
          clear H'
          (try clear c1);(try clear p1);(try clear q1);(try clear hx1);(try clear c2);(try clear c2b0);(try clear p2);(try clear c3);(try clear c3b0);(try clear c5);(try clear p6);(try clear c9);(try clear c9b0);(try clear c10);(try clear c10b0);(try clear p10);(try clear q10);(try clear hx10);(try clear c11);(try clear c11b0);(try clear c16);(try clear c16b0);(try clear c16b1);(try clear c17);(try clear hx101_0);(try clear hx101_1);(try clear hx101_2);(try clear hx101_3);(try clear hx103_0);(try clear hx103_1);(try clear hx103_2);(try clear hx103_3);(try clear p1);(try clear p10);(try clear p101);(try clear p103);(try clear p2);(try clear p6);(try clear q1);(try clear q10);(try clear q101);(try clear q103)
          obtain ⟨x7_4, x8_4, rfl, HA, HK4, HO_0, HO_7, HB⟩ := hrel
          cases gk with
          | zero => exact absurd HA.out (by simp [hanaperref06_Closure.l2])
          | succ k4 =>
           have H := HA.out
           clear HA
           simp only [hanaperref06_Closure.l2] at H
           by_cases c18 : x8_4 < (l0.length : Int)
           ·rw [if_pos c18] at H
            have c18b0 : decide (x8_4 < (l0.length : Int)) = true := decide_eq_true c18
            clear c18
            by_cases c19 : 0 ≤ x8_4
            ·rw [if_pos c19] at H
             have c19b0 : decide (0 ≤ x8_4) = true := decide_eq_true c19
             clear c19
             replace H := Option.bind_eq_some_iff.mp H
             obtain ⟨t108, A200, H⟩ := H
             replace H : (if t108 = true then (hanaperref06_Closure.l2 k4 l0 x7_4 (wrap64 (x8_4 + 1))) else (if x7_4.length < 2199023255552 then (hanaperref06_Closure.l2 k4 l0 (x7_4 ++ [(⟨(rd_T26 l0 x8_4).f0, (rd_T26 l0 x8_4).f1, (rd_T26 l0 x8_4).f2, (rd_T26 l0 x8_4).f3⟩ : S26)]) (wrap64 (x8_4 + 1))) else (none))) = some (r1, r2) := H
             have A20 := Aside0.mk A200
             clear A200
             by_cases c21 : t108 = true
             ·subst c21
              have H1 : (hanaperref06_Closure.l2 k4 l0 x7_4 (wrap64 (x8_4 + 1))) = some (r1, r2) := by rw [if_pos rfl] at H; exact H
              clear H
              have H := H1
              clear H1
              have H' := Aside0.mk H
              clear H
              have p107 : 0 ≤ (x8_4 : Int) := of_decide_eq_true (by first | (with_reducible assumption) | assumption)
              have q107 : x8_4 < (l0.length : Int) := of_decide_eq_true (by first | (with_reducible assumption) | assumption)
              obtain ⟨ad107, A107_2, c107_2, A107_3, c107_3, e107, hx107_0, hx107_1, hx107_2, hx107_3, hl107_2, hi107_2, hl107_3, hi107_3⟩ := at_T26 (Kd.V_reads' HO_0.out).2.2 x8_4 p107 q107
              cases e107
              obtain ⟨ce107, hce107, hMe107, hcc107⟩ := Kd.V_get HO_0.out z26 x8_4 p107 (by first | exact q107 | exact of_decide_eq_true (by first | (with_reducible assumption) | assumption) | (have e_ := (Kd.V_reads' HO_0.out).1; omega))
              obtain ⟨ua107_2, uc107_2, ua107_3, uc107_3, rfl, ul107_2, ge107_2, ul107_3, ge107_3⟩ := k26_openF hMe107
              have hv107_2 := hcc107 2 _ rfl
              rw [add_field _ _ 2 (by omega)] at hv107_2
              replace hv107_2 := Option.some.inj (hv107_2.symm.trans hx107_2)
              injection hv107_2 with hva_ hvn_ hvc_
              rw [hva_] at ge107_2
              rw [hvc_] at ul107_2
              have HL107_2 := Aside0.mk (show Kd.V (Kd.int .u8) 5 _ w.heap.size _ _ ((rd_T26 l0 x8_4).f2) from Kd.V_mk ul107_2 ge107_2)
              clear hva_ hvn_ hvc_ ge107_2 ul107_2
              have hv107_3 := hcc107 3 _ rfl
              rw [add_field _ _ 3 (by omega)] at hv107_3
              replace hv107_3 := Option.some.inj (hv107_3.symm.trans hx107_3)
              injection hv107_3 with hva_ hvn_ hvc_
              rw [hva_] at ge107_3
              rw [hvc_] at ul107_3
              have HL107_3 := Aside0.mk (show Kd.V k26 26 _ w.heap.size _ _ ((rd_T26 l0 x8_4).f3) from Kd.V_mk ul107_3 ge107_3)
              clear hva_ hvn_ hvc_ ge107_3 ul107_3
              clear hcc107 hce107
              have HR107_2 := Aside0.mk hi107_2
              have HC107_2 := Aside0.mk hl107_2
              clear hi107_2 hl107_2
              have HR107_3 := Aside0.mk hi107_3
              have HC107_3 := Aside0.mk hl107_3
              clear hi107_3 hl107_3
              replace p107 := eq_true p107
              replace q107 := eq_true q107
              obtain ⟨Ao22, co22, eo22⟩ := Kd.N_slice HO_7.out
              subst eo22
              go_wp2_with (first | ((with_reducible refine gate_callee (f := 31) rfl ?_); refine goesL_ (some 61) rfl rfl Try.func31 (by kernel_rfl) rfl #[.slice Ao22 x7_4.length co22, .agg #[.int .i64 ((rd_T26 l0 x8_4).f0), .int .u64 ((rd_T26 l0 x8_4).f1), .slice A107_2 ((rd_T26 l0 x8_4).f2).length c107_2, .slice A107_3 ((rd_T26 l0 x8_4).f3).length c107_3]] rfl (by (try simp only [List.map_toArray, List.map_cons, List.map_nil]); first | done | rfl | (simp only [List.length_drop, List.length_take]; rfl)) ?_; (with_reducible refine (hanaperref06_Has.calls k4 _ _ x7_4 ((rd_T26 l0 x8_4).f0) ((rd_T26 l0 x8_4).f1) _ _ ((rd_T26 l0 x8_4).f2) _ _ ((rd_T26 l0 x8_4).f3) true _ ?side1 ?side2 ?side3 ?side4 ?side5 ?side6 A20.out).mono ?_); (case side1 => repeat (first | exact (Kd.N_reads' HO_7.out).2.2 | (with_reducible refine Kd.C_alloc ?_ _) | (with_reducible refine Kd.C_drewN ?_ _) | (with_reducible refine Kd.C_drew ?_))); (case side2 => exact (Kd.N_reads' HO_7.out).2.1); (case side3 => repeat (first | exact (by repeat (first | (with_reducible exact HR107_2.out) | (with_reducible refine Kd.C_alloc ?_ _) | (with_reducible refine Kd.C_drewN ?_ _) | (with_reducible refine Kd.C_drew ?_) | exact HR107_2.out)) | (with_reducible refine Kd.C_alloc ?_ _) | (with_reducible refine Kd.C_drewN ?_ _) | (with_reducible refine Kd.C_drew ?_))); (case side4 => exact HC107_2.out); (case side5 => repeat (first | exact (by repeat (first | (with_reducible exact HR107_3.out) | (with_reducible refine Kd.C_alloc ?_ _) | (with_reducible refine Kd.C_drewN ?_ _) | (with_reducible refine Kd.C_drew ?_) | exact HR107_3.out)) | (with_reducible refine Kd.C_alloc ?_ _) | (with_reducible refine Kd.C_drewN ?_ _) | (with_reducible refine Kd.C_drew ?_))); (case side6 => exact HC107_3.out); rintro e w23 ⟨rfl, hb⟩; refine ⟨_, rfl, ?_⟩; have n0_ := Aside0.mk (Kd.V_below (by (with_reducible repeat (first | apply Kd.V_alloc | apply Kd.V_drewN | apply Kd.V_drew)); exact HO_0.out) hb); have n1_ := Aside0.mk (Kd.N_below (by (with_reducible repeat (first | apply Kd.N_alloc | apply Kd.N_drewN | apply Kd.N_drew)); exact HO_7.out) hb); have n2_ := Aside0.mk (Kd.V_below (by (with_reducible repeat (first | apply Kd.V_alloc | apply Kd.V_drewN | apply Kd.V_drew)); exact HL107_2.out) hb); have n3_ := Aside0.mk (Kd.V_below (by (with_reducible repeat (first | apply Kd.V_alloc | apply Kd.V_drewN | apply Kd.V_drew)); exact HL107_3.out) hb); have n4_ := Aside0.mk (Kd.C_below (by repeat (first | (with_reducible exact HR107_2.out) | (with_reducible refine Kd.C_alloc ?_ _) | (with_reducible refine Kd.C_drewN ?_ _) | (with_reducible refine Kd.C_drew ?_) | exact HR107_2.out)) hb); have n5_ := Aside0.mk (Kd.C_below (by repeat (first | (with_reducible exact HR107_3.out) | (with_reducible refine Kd.C_alloc ?_ _) | (with_reducible refine Kd.C_drewN ?_ _) | (with_reducible refine Kd.C_drew ?_) | exact HR107_3.out)) hb); have n6_ := Aside0.mk (below_step (by repeat (first | (with_reducible first | exact HB.out | apply below_alloc | apply pw_below_drewN | apply below_drew1) | exact HB.out)) hb); clear HO_0; clear HO_7; clear HL107_2; clear HL107_3; clear HR107_2; clear HR107_3; clear HB; have HO_0 := n0_; have HO_7 := n1_; have HL107_2 := n2_; have HL107_3 := n3_; have HR107_2 := n4_; have HR107_3 := n5_; have HB := n6_; clear n0_ n1_ n2_ n3_ n4_ n5_ n6_; (try clear hb); (try clear hb2); (try clear hk); (try clear hi)))
              go_roundg k4
              case measure => have := HK1.out; have := HJ7.out; have := HJ14.out; have := HK4.out; omega
              case rel => exact ⟨(x7_4), (wrap64 (x8_4 + 1)), (by first | rfl | (simp; done) | (simp [*]; done)), H', ⟨by have := HK1.out; have := HJ7.out; have := HJ14.out; have := HK4.out; omega⟩, ⟨by (with_reducible repeat (first | apply Kd.V_alloc | apply Kd.V_drewN | apply Kd.V_drew)); exact HO_0.out⟩, ⟨by (with_reducible repeat (first | apply Kd.N_alloc | apply Kd.N_drewN | apply Kd.N_drew)); exact HO_7.out⟩, ⟨by repeat (first | (with_reducible first | exact HB.out | apply below_alloc | apply pw_below_drewN | apply below_drew1) | exact HB.out)⟩⟩
             ·replace c21 := Bool.eq_false_iff.mpr c21
              subst c21
              have H1 : (if x7_4.length < 2199023255552 then (hanaperref06_Closure.l2 k4 l0 (x7_4 ++ [(⟨(rd_T26 l0 x8_4).f0, (rd_T26 l0 x8_4).f1, (rd_T26 l0 x8_4).f2, (rd_T26 l0 x8_4).f3⟩ : S26)]) (wrap64 (x8_4 + 1))) else (none)) = some (r1, r2) := by rw [if_neg (show ¬ (false = true) by decide)] at H; exact H
              clear H
              have H := H1
              clear H1
              by_cases c24 : x7_4.length < 2199023255552
              ·rw [if_pos c24] at H
               have LMc24 := Aside0.mk c24
               clear c24
               obtain ⟨y110, hy110⟩ : ∃ y_ : List (S26), y_ = (x7_4 ++ [(⟨(rd_T26 l0 x8_4).f0, (rd_T26 l0 x8_4).f1, (rd_T26 l0 x8_4).f2, (rd_T26 l0 x8_4).f3⟩ : S26)]) := ⟨_, rfl⟩
               replace H : (hanaperref06_Closure.l2 k4 l0 y110 (wrap64 (x8_4 + 1))) = some (r1, r2) := by first | (rw [hy110]; with_reducible exact H) | (have H2_ := (Option.bind_some _ _).symm.trans H; rw [hy110]; with_reducible exact H2_) | (have H2_ := (Option.bind_some _ _).symm.trans H; with_reducible exact H2_) | with_reducible exact H | (rw [hy110]; exact H) | exact H
               have Ny110 := Aside0.mk hy110
               clear hy110
               have H' := Aside0.mk H
               clear H
               have p107 : 0 ≤ (x8_4 : Int) := of_decide_eq_true (by first | (with_reducible assumption) | assumption)
               have q107 : x8_4 < (l0.length : Int) := of_decide_eq_true (by first | (with_reducible assumption) | assumption)
               obtain ⟨ad107, A107_2, c107_2, A107_3, c107_3, e107, hx107_0, hx107_1, hx107_2, hx107_3, hl107_2, hi107_2, hl107_3, hi107_3⟩ := at_T26 (Kd.V_reads' HO_0.out).2.2 x8_4 p107 q107
               cases e107
               obtain ⟨ce107, hce107, hMe107, hcc107⟩ := Kd.V_get HO_0.out z26 x8_4 p107 (by first | exact q107 | exact of_decide_eq_true (by first | (with_reducible assumption) | assumption) | (have e_ := (Kd.V_reads' HO_0.out).1; omega))
               obtain ⟨ua107_2, uc107_2, ua107_3, uc107_3, rfl, ul107_2, ge107_2, ul107_3, ge107_3⟩ := k26_openF hMe107
               have hv107_2 := hcc107 2 _ rfl
               rw [add_field _ _ 2 (by omega)] at hv107_2
               replace hv107_2 := Option.some.inj (hv107_2.symm.trans hx107_2)
               injection hv107_2 with hva_ hvn_ hvc_
               rw [hva_] at ge107_2
               rw [hvc_] at ul107_2
               have HL107_2 := Aside0.mk (show Kd.V (Kd.int .u8) 5 _ w.heap.size _ _ ((rd_T26 l0 x8_4).f2) from Kd.V_mk ul107_2 ge107_2)
               clear hva_ hvn_ hvc_ ge107_2 ul107_2
               have hv107_3 := hcc107 3 _ rfl
               rw [add_field _ _ 3 (by omega)] at hv107_3
               replace hv107_3 := Option.some.inj (hv107_3.symm.trans hx107_3)
               injection hv107_3 with hva_ hvn_ hvc_
               rw [hva_] at ge107_3
               rw [hvc_] at ul107_3
               have HL107_3 := Aside0.mk (show Kd.V k26 26 _ w.heap.size _ _ ((rd_T26 l0 x8_4).f3) from Kd.V_mk ul107_3 ge107_3)
               clear hva_ hvn_ hvc_ ge107_3 ul107_3
               clear hcc107 hce107
               have HR107_2 := Aside0.mk hi107_2
               have HC107_2 := Aside0.mk hl107_2
               clear hi107_2 hl107_2
               have HR107_3 := Aside0.mk hi107_3
               have HC107_3 := Aside0.mk hl107_3
               clear hi107_3 hl107_3
               replace p107 := eq_true p107
               replace q107 := eq_true q107
               obtain ⟨Ao25, co25, eo25⟩ := Kd.N_slice HO_7.out
               subst eo25
               go_wp2_with (first | ((with_reducible refine gate_callee (f := 31) rfl ?_); refine goesL_ (some 61) rfl rfl Try.func31 (by kernel_rfl) rfl #[.slice Ao25 x7_4.length co25, .agg #[.int .i64 ((rd_T26 l0 x8_4).f0), .int .u64 ((rd_T26 l0 x8_4).f1), .slice A107_2 ((rd_T26 l0 x8_4).f2).length c107_2, .slice A107_3 ((rd_T26 l0 x8_4).f3).length c107_3]] rfl (by (try simp only [List.map_toArray, List.map_cons, List.map_nil]); first | done | rfl | (simp only [List.length_drop, List.length_take]; rfl)) ?_; (with_reducible refine (hanaperref06_Has.calls k4 _ _ x7_4 ((rd_T26 l0 x8_4).f0) ((rd_T26 l0 x8_4).f1) _ _ ((rd_T26 l0 x8_4).f2) _ _ ((rd_T26 l0 x8_4).f3) false _ ?side1 ?side2 ?side3 ?side4 ?side5 ?side6 A20.out).mono ?_); (case side1 => repeat (first | exact (Kd.N_reads' HO_7.out).2.2 | (with_reducible refine Kd.C_alloc ?_ _) | (with_reducible refine Kd.C_drewN ?_ _) | (with_reducible refine Kd.C_drew ?_))); (case side2 => exact (Kd.N_reads' HO_7.out).2.1); (case side3 => repeat (first | exact (by repeat (first | (with_reducible exact HR107_2.out) | (with_reducible refine Kd.C_alloc ?_ _) | (with_reducible refine Kd.C_drewN ?_ _) | (with_reducible refine Kd.C_drew ?_) | exact HR107_2.out)) | (with_reducible refine Kd.C_alloc ?_ _) | (with_reducible refine Kd.C_drewN ?_ _) | (with_reducible refine Kd.C_drew ?_))); (case side4 => exact HC107_2.out); (case side5 => repeat (first | exact (by repeat (first | (with_reducible exact HR107_3.out) | (with_reducible refine Kd.C_alloc ?_ _) | (with_reducible refine Kd.C_drewN ?_ _) | (with_reducible refine Kd.C_drew ?_) | exact HR107_3.out)) | (with_reducible refine Kd.C_alloc ?_ _) | (with_reducible refine Kd.C_drewN ?_ _) | (with_reducible refine Kd.C_drew ?_))); (case side6 => exact HC107_3.out); rintro e w26 ⟨rfl, hb⟩; refine ⟨_, rfl, ?_⟩; have n0_ := Aside0.mk (Kd.V_below (by (with_reducible repeat (first | apply Kd.V_alloc | apply Kd.V_drewN | apply Kd.V_drew)); exact HO_0.out) hb); have n1_ := Aside0.mk (Kd.N_below (by (with_reducible repeat (first | apply Kd.N_alloc | apply Kd.N_drewN | apply Kd.N_drew)); exact HO_7.out) hb); have n2_ := Aside0.mk (Kd.V_below (by (with_reducible repeat (first | apply Kd.V_alloc | apply Kd.V_drewN | apply Kd.V_drew)); exact HL107_2.out) hb); have n3_ := Aside0.mk (Kd.V_below (by (with_reducible repeat (first | apply Kd.V_alloc | apply Kd.V_drewN | apply Kd.V_drew)); exact HL107_3.out) hb); have n4_ := Aside0.mk (Kd.C_below (by repeat (first | (with_reducible exact HR107_2.out) | (with_reducible refine Kd.C_alloc ?_ _) | (with_reducible refine Kd.C_drewN ?_ _) | (with_reducible refine Kd.C_drew ?_) | exact HR107_2.out)) hb); have n5_ := Aside0.mk (Kd.C_below (by repeat (first | (with_reducible exact HR107_3.out) | (with_reducible refine Kd.C_alloc ?_ _) | (with_reducible refine Kd.C_drewN ?_ _) | (with_reducible refine Kd.C_drew ?_) | exact HR107_3.out)) hb); have n6_ := Aside0.mk (below_step (by repeat (first | (with_reducible first | exact HB.out | apply below_alloc | apply pw_below_drewN | apply below_drew1) | exact HB.out)) hb); clear HO_0; clear HO_7; clear HL107_2; clear HL107_3; clear HR107_2; clear HR107_3; clear HB; have HO_0 := n0_; have HO_7 := n1_; have HL107_2 := n2_; have HL107_3 := n3_; have HR107_2 := n4_; have HR107_3 := n5_; have HB := n6_; clear n0_ n1_ n2_ n3_ n4_ n5_ n6_; (try clear hb); (try clear hb2); (try clear hk); (try clear hi); have p109 : 0 ≤ (x8_4 : Int) := of_decide_eq_true (by first | (with_reducible assumption) | assumption); have q109 : x8_4 < (l0.length : Int) := of_decide_eq_true (by first | (with_reducible assumption) | assumption); obtain ⟨ad109, A109_2, c109_2, A109_3, c109_3, e109, hx109_0, hx109_1, hx109_2, hx109_3, hl109_2, hi109_2, hl109_3, hi109_3⟩ := at_T26 (Kd.V_reads' HO_0.out).2.2 x8_4 p109 q109; obtain rfl : ad107 = ad109 := (by injection e109); obtain ⟨ce109, hce109, hMe109, hcc109⟩ := Kd.V_get HO_0.out z26 x8_4 p109 (by first | exact q109 | exact of_decide_eq_true (by first | (with_reducible assumption) | assumption) | (have e_ := (Kd.V_reads' HO_0.out).1; omega)); obtain ⟨ua109_2, uc109_2, ua109_3, uc109_3, rfl, ul109_2, ge109_2, ul109_3, ge109_3⟩ := k26_openF hMe109; have hv109_2 := hcc109 2 _ rfl; rw [add_field _ _ 2 (by omega)] at hv109_2; replace hv109_2 := Option.some.inj (hv109_2.symm.trans hx109_2); injection hv109_2 with hva_ hvn_ hvc_; rw [hva_] at ge109_2; rw [hvc_] at ul109_2; have HL109_2 := Aside0.mk (show Kd.V (Kd.int .u8) 5 _ w.heap.size _ _ ((rd_T26 l0 x8_4).f2) from Kd.V_mk ul109_2 ge109_2); clear hva_ hvn_ hvc_ ge109_2 ul109_2; have hv109_3 := hcc109 3 _ rfl; rw [add_field _ _ 3 (by omega)] at hv109_3; replace hv109_3 := Option.some.inj (hv109_3.symm.trans hx109_3); injection hv109_3 with hva_ hvn_ hvc_; rw [hva_] at ge109_3; rw [hvc_] at ul109_3; have HL109_3 := Aside0.mk (show Kd.V k26 26 _ w.heap.size _ _ ((rd_T26 l0 x8_4).f3) from Kd.V_mk ul109_3 ge109_3); clear hva_ hvn_ hvc_ ge109_3 ul109_3; clear hcc109 hce109; have HR109_2 := Aside0.mk hi109_2; have HC109_2 := Aside0.mk hl109_2; clear hi109_2 hl109_2; have HR109_3 := Aside0.mk hi109_3; have HC109_3 := Aside0.mk hl109_3; clear hi109_3 hl109_3; replace p109 := eq_true p109; replace q109 := eq_true q109) | ((with_reducible refine gate_builtin (b := .append) (xs := #[.tmp 63, .tmp 68]) rfl ?_); at_builtin; refine Kd.N_append k26 (w0 := w) w.heap.size rfl (.tmp 63) (.tmp 68) 24 26 (.agg #[(.int .i64 0), (.int .u64 0), (.slice none 0 0), (.slice none 0 0)]) 64 rfl Try.underlying24 info26 rfl (by decide) (by omega) (.slice Ao25 x7_4.length co25) x7_4 (⟨(rd_T26 l0 x8_4).f0, (rd_T26 l0 x8_4).f1, (rd_T26 l0 x8_4).f2, (rd_T26 l0 x8_4).f3⟩ : S26) [.int .i64 ((rd_T26 l0 x8_4).f0), .int .u64 ((rd_T26 l0 x8_4).f1), .slice A109_2 ((rd_T26 l0 x8_4).f2).length c109_2, .slice A109_3 ((rd_T26 l0 x8_4).f3).length c109_3] (fun k_ => (P0_ k_ ∨ w.heap.size ≤ k_)) (fun k_ => ((fun k_ => (P0_ k_ ∨ w.heap.size ≤ k_))) k_ ∧ some k_ ≠ (.slice Ao25 x7_4.length co25 : Value).ownBlock) rfl rfl ?aP (fun _ hk => hk) ?aF ?aO ?aB ?aS ?aL ?_; (case aP => exact (k26_mkF _ _ (⟨(rd_T26 l0 x8_4).f0, (rd_T26 l0 x8_4).f1, (rd_T26 l0 x8_4).f2, (rd_T26 l0 x8_4).f3⟩ : S26) (Kd.V_reads' (Kd.V_mono (ok' := (fun k_ => ((fun k_ => (P0_ k_ ∨ w.heap.size ≤ k_))) k_ ∧ some k_ ≠ (.slice Ao25 x7_4.length co25 : Value).ownBlock)) (HL109_2.out) (fun k_ hk => ⟨hk.1, hk.2⟩))).2.1 (Kd.V_F (Kd.V_mono (ok' := (fun k_ => ((fun k_ => (P0_ k_ ∨ w.heap.size ≤ k_))) k_ ∧ some k_ ≠ (.slice Ao25 x7_4.length co25 : Value).ownBlock)) (HL109_2.out) (fun k_ hk => ⟨hk.1, hk.2⟩))) (Kd.V_reads' (Kd.V_mono (ok' := (fun k_ => ((fun k_ => (P0_ k_ ∨ w.heap.size ≤ k_))) k_ ∧ some k_ ≠ (.slice Ao25 x7_4.length co25 : Value).ownBlock)) (HL109_3.out) (fun k_ hk => ⟨hk.1, hk.2⟩))).2.1 (Kd.V_F (Kd.V_mono (ok' := (fun k_ => ((fun k_ => (P0_ k_ ∨ w.heap.size ≤ k_))) k_ ∧ some k_ ≠ (.slice Ao25 x7_4.length co25 : Value).ownBlock)) (HL109_3.out) (fun k_ hk => ⟨hk.1, hk.2⟩))))); (case aB => exact (by repeat (first | (with_reducible first | exact HB.out | apply below_alloc | apply pw_below_drewN | apply below_drew1) | exact HB.out))); (case aF => exact (fun k_ hk => (.inr (Nat.le_trans (below_size (by repeat (first | (with_reducible first | exact HB.out | apply below_alloc | apply pw_below_drewN | apply below_drew1) | exact HB.out))) hk)))); (case aO => exact (by (with_reducible repeat (first | apply Kd.N_alloc | apply Kd.N_drewN | apply Kd.N_drew)); exact HO_7.out)); (case aS => exact (below_size (by repeat (first | (with_reducible first | exact HB.out | apply below_alloc | apply pw_below_drewN | apply below_drew1) | exact HB.out)))); (case aL => have := LMc24.out; omega); intro v111 w27 ho hb hg hat; rw [← Ny110.out] at ho; have n0_ := Aside0.mk (Kd.V_afterv (ok := (fun k_ => (P0_ k_ ∨ w.heap.size ≤ k_))) (by (with_reducible repeat (first | apply Kd.V_alloc | apply Kd.V_drewN | apply Kd.V_drew)); exact HO_0.out) hg hat); have n1_ := Aside0.mk (Kd.V_afterv (ok := (fun k_ => (P0_ k_ ∨ w.heap.size ≤ k_))) (by (with_reducible repeat (first | apply Kd.V_alloc | apply Kd.V_drewN | apply Kd.V_drew)); exact HL107_2.out) hg hat); have n2_ := Aside0.mk (Kd.V_afterv (ok := (fun k_ => (P0_ k_ ∨ w.heap.size ≤ k_))) (by (with_reducible repeat (first | apply Kd.V_alloc | apply Kd.V_drewN | apply Kd.V_drew)); exact HL107_3.out) hg hat); have n3_ := Aside0.mk (Kd.V_afterv (ok := (fun k_ => (P0_ k_ ∨ w.heap.size ≤ k_))) (by (with_reducible repeat (first | apply Kd.V_alloc | apply Kd.V_drewN | apply Kd.V_drew)); exact HL109_2.out) hg hat); have n4_ := Aside0.mk (Kd.V_afterv (ok := (fun k_ => (P0_ k_ ∨ w.heap.size ≤ k_))) (by (with_reducible repeat (first | apply Kd.V_alloc | apply Kd.V_drewN | apply Kd.V_drew)); exact HL109_3.out) hg hat); have n5_ := Aside0.mk (hb); have n6_ := Aside0.mk (ho); clear HO_0; clear HL107_2; clear HL107_3; clear HL109_2; clear HL109_3; clear HB; clear HO_7; have HO_0 := n0_; have HL107_2 := n1_; have HL107_3 := n2_; have HL109_2 := n3_; have HL109_3 := n4_; have HB := n5_; have HO112 := n6_; clear n0_ n1_ n2_ n3_ n4_ n5_ n6_; clear ho hb hg hat))
               go_roundg k4
               case measure => have := HK1.out; have := HJ7.out; have := HJ14.out; have := HK4.out; omega
               case rel => exact ⟨(y110), (wrap64 (x8_4 + 1)), (by first | rfl | (simp; done) | (simp [*]; done)), H', ⟨by have := HK1.out; have := HJ7.out; have := HJ14.out; have := HK4.out; omega⟩, ⟨by (with_reducible repeat (first | apply Kd.V_alloc | apply Kd.V_drewN | apply Kd.V_drew)); exact HO_0.out⟩, ⟨by (with_reducible repeat (first | apply Kd.N_alloc | apply Kd.N_drewN | apply Kd.N_drew)); exact HO112.out⟩, ⟨by repeat (first | (with_reducible first | exact HB.out | apply below_alloc | apply pw_below_drewN | apply below_drew1) | exact HB.out)⟩⟩
              ·rw [if_neg c24] at H
               exact absurd H (by simp)
            ·rw [if_neg c19] at H
             exact absurd H (by simp)
           ·rw [if_neg c18] at H
            have c18b0 : decide (x8_4 < (l0.length : Int)) = false := decide_eq_false c18
            clear c18
            have H' := Aside0.mk H
            clear H
            go_wp2
            go_loopg [7] k4 (fun kq v7 w' => ∃ (x7_5 : List (S26)), Aside0 (hanaperref06_Closure.l3 kq x7_5 = some (r1, r2)) ∧ Aside0 (kq ≤ k4) ∧ Aside0 (Kd.N k26 26 w' w.heap.size (fun k_ => (P0_ k_ ∨ w.heap.size ≤ k_)) v7 x7_5) ∧ Aside0 (Below w.heap.size w w'))
            case atStart => exact ⟨(x7_4), H', ⟨Nat.le_refl _⟩, ⟨by (with_reducible repeat (first | apply Kd.N_alloc | apply Kd.N_drewN | apply Kd.N_drew)); exact HO_7.out⟩, ⟨by repeat (first | (with_reducible first | exact HB.out | apply below_alloc | apply pw_below_drewN | apply below_drew1) | exact HB.out)⟩⟩
            case round =>
             clear H'
             (try clear c1);(try clear p1);(try clear q1);(try clear hx1);(try clear c2);(try clear c2b0);(try clear p2);(try clear c3);(try clear c3b0);(try clear c5);(try clear p6);(try clear c9);(try clear c9b0);(try clear c10);(try clear c10b0);(try clear p10);(try clear q10);(try clear hx10);(try clear c11);(try clear c11b0);(try clear c16);(try clear c16b0);(try clear c16b1);(try clear c17);(try clear c18);(try clear c18b0);(try clear c19);(try clear c19b0);(try clear c21);(try clear c24);(try clear c26);(try clear hx101_0);(try clear hx101_1);(try clear hx101_2);(try clear hx101_3);(try clear hx103_0);(try clear hx103_1);(try clear hx103_2);(try clear hx103_3);(try clear hx107_0);(try clear hx107_1);(try clear hx107_2);(try clear hx107_3);(try clear hx109_0);(try clear hx109_1);(try clear hx109_2);(try clear hx109_3);(try clear p1);(try clear p10);(try clear p101);(try clear p103);(try clear p107);(try clear p109);(try clear p2);(try clear p6);(try clear q1);(try clear q10);(try clear q101);(try clear q103);(try clear q107);(try clear q109)
             obtain ⟨x7_5, HA, HK5, HO_7, HB⟩ := hrel
             cases gk with
             | zero => exact absurd HA.out (by simp [hanaperref06_Closure.l3])
             | succ k5 =>
              have H := HA.out
              clear HA
              simp only [hanaperref06_Closure.l3] at H
              have H' := Aside0.mk H
              clear H
              obtain ⟨Ao28, co28, eo28⟩ := Kd.N_slice HO_7.out
              subst eo28
              go_wp2
              go_loopg [7, 10] k5 (fun kq v7 v10 w' => ∃ (x7_6 : List (S26)) (x10_6 : Int), v10 = .int .i64 x10_6 ∧ Aside0 (hanaperref06_Closure.l4 kq x7_6 (x7_5.length : Int) x10_6 = some (r1, r2)) ∧ Aside0 (kq ≤ k5) ∧ Aside0 (Kd.N k26 26 w' w.heap.size (fun k_ => (P0_ k_ ∨ w.heap.size ≤ k_)) v7 x7_6) ∧ Aside0 (Below w.heap.size w w'))
              case atStart => exact ⟨(x7_5), (0), (by first | rfl | (simp; done) | (simp [*]; done)), H', ⟨Nat.le_refl _⟩, ⟨by (with_reducible repeat (first | apply Kd.N_alloc | apply Kd.N_drewN | apply Kd.N_drew)); exact HO_7.out⟩, ⟨by repeat (first | (with_reducible first | exact HB.out | apply below_alloc | apply pw_below_drewN | apply below_drew1) | exact HB.out)⟩⟩
              case round =>
               clear H'
               (try clear c1);(try clear p1);(try clear q1);(try clear hx1);(try clear c2);(try clear c2b0);(try clear p2);(try clear c3);(try clear c3b0);(try clear c5);(try clear p6);(try clear c9);(try clear c9b0);(try clear c10);(try clear c10b0);(try clear p10);(try clear q10);(try clear hx10);(try clear c11);(try clear c11b0);(try clear c16);(try clear c16b0);(try clear c16b1);(try clear c17);(try clear c18);(try clear c18b0);(try clear c19);(try clear c19b0);(try clear c21);(try clear c24);(try clear c26);(try clear hx101_0);(try clear hx101_1);(try clear hx101_2);(try clear hx101_3);(try clear hx103_0);(try clear hx103_1);(try clear hx103_2);(try clear hx103_3);(try clear hx107_0);(try clear hx107_1);(try clear hx107_2);(try clear hx107_3);(try clear hx109_0);(try clear hx109_1);(try clear hx109_2);(try clear hx109_3);(try clear p1);(try clear p10);(try clear p101);(try clear p103);(try clear p107);(try clear p109);(try clear p2);(try clear p6);(try clear q1);(try clear q10);(try clear q101);(try clear q103);(try clear q107);(try clear q109)
               obtain ⟨x7_6, x10_6, rfl, HA, HK6, HO_7, HB⟩ := hrel
               cases gk with
               | zero => exact absurd HA.out (by simp [hanaperref06_Closure.l4])
               | succ k6 =>
                have H := HA.out
                clear HA
                simp only [hanaperref06_Closure.l4] at H
                by_cases c29 : x10_6 < (x7_5.length : Int)
                ·rw [if_pos c29] at H
                 have c29b0 : decide (x10_6 < (x7_5.length : Int)) = true := decide_eq_true c29
                 clear c29
                 by_cases c30 : 0 ≤ x10_6
                 ·rw [if_pos c30] at H
                  have c30b0 : decide (0 ≤ x10_6) = true := decide_eq_true c30
                  clear c30
                  by_cases c31 : x10_6 < (x7_6.length : Int)
                  ·rw [if_pos c31] at H
                   have c31b0 : decide (x10_6 < (x7_6.length : Int)) = true := decide_eq_true c31
                   clear c31
                   replace H := Option.bind_eq_some_iff.mp H
                   obtain ⟨t114, A320, H⟩ := H
                   replace H : (hanaperref06_Closure.l5 k6 x7_6 (x7_5.length : Int) x10_6 t114 0) = some (r1, r2) := H
                   have A32 := Aside0.mk A320
                   clear A320
                   have H' := Aside0.mk H
                   clear H
                   obtain ⟨Ao33, co33, eo33⟩ := Kd.N_slice HO_7.out
                   subst eo33
                   have p113 : 0 ≤ (x10_6 : Int) := of_decide_eq_true (by first | (with_reducible assumption) | assumption)
                   have q113 : x10_6 < (x7_6.length : Int) := of_decide_eq_true (by first | (with_reducible assumption) | assumption)
                   obtain ⟨ad113, A113_2, c113_2, A113_3, c113_3, e113, hx113_0, hx113_1, hx113_2, hx113_3, hl113_2, hi113_2, hl113_3, hi113_3⟩ := at_T26 (Kd.N_reads' HO_7.out).2.2 x10_6 p113 q113
                   cases e113
                   obtain ⟨ce113, hce113, hMe113, hcc113⟩ := Kd.N_get HO_7.out z26 x10_6 p113 (by first | exact q113 | exact of_decide_eq_true (by first | (with_reducible assumption) | assumption) | (have e_ := (Kd.N_reads' HO_7.out).1; omega))
                   obtain ⟨ua113_2, uc113_2, ua113_3, uc113_3, rfl, ul113_2, ge113_2, ul113_3, ge113_3⟩ := k26_openF hMe113
                   have hv113_2 := hcc113 2 _ rfl
                   rw [add_field _ _ 2 (by omega)] at hv113_2
                   replace hv113_2 := Option.some.inj (hv113_2.symm.trans hx113_2)
                   injection hv113_2 with hva_ hvn_ hvc_
                   rw [hva_] at ge113_2
                   rw [hvc_] at ul113_2
                   have HL113_2 := Aside0.mk (show Kd.V (Kd.int .u8) 5 _ w.heap.size _ _ ((rd_T26 x7_6 x10_6).f2) from Kd.V_mk ul113_2 ge113_2)
                   clear hva_ hvn_ hvc_ ge113_2 ul113_2
                   have hv113_3 := hcc113 3 _ rfl
                   rw [add_field _ _ 3 (by omega)] at hv113_3
                   replace hv113_3 := Option.some.inj (hv113_3.symm.trans hx113_3)
                   injection hv113_3 with hva_ hvn_ hvc_
                   rw [hva_] at ge113_3
                   rw [hvc_] at ul113_3
                   have HL113_3 := Aside0.mk (show Kd.V k26 26 _ w.heap.size _ _ ((rd_T26 x7_6 x10_6).f3) from Kd.V_mk ul113_3 ge113_3)
                   clear hva_ hvn_ hvc_ ge113_3 ul113_3
                   clear hcc113 hce113
                   have HR113_2 := Aside0.mk hi113_2
                   have HC113_2 := Aside0.mk hl113_2
                   clear hi113_2 hl113_2
                   have HR113_3 := Aside0.mk hi113_3
                   have HC113_3 := Aside0.mk hl113_3
                   clear hi113_3 hl113_3
                   replace p113 := eq_true p113
                   replace q113 := eq_true q113
                   go_wp2_with (first | ((with_reducible refine gate_callee (f := 60) rfl ?_); refine goesL_ (some 82) rfl rfl Try.func60 (by kernel_rfl) rfl #[.slice (some ad113) x7_6.length co33, .agg #[.int .i64 ((rd_T26 x7_6 x10_6).f0), .int .u64 ((rd_T26 x7_6 x10_6).f1), .slice A113_2 ((rd_T26 x7_6 x10_6).f2).length c113_2, .slice A113_3 ((rd_T26 x7_6 x10_6).f3).length c113_3]] rfl (by (try simp only [List.map_toArray, List.map_cons, List.map_nil]); first | done | rfl | (simp only [List.length_drop, List.length_take]; rfl)) ?_; (with_reducible refine (hanaperref06_gives.calls k6 _ _ x7_6 ((rd_T26 x7_6 x10_6).f0) ((rd_T26 x7_6 x10_6).f1) _ _ ((rd_T26 x7_6 x10_6).f2) (fun k_ => ((P0_ k_ ∨ w.heap.size ≤ k_) ∧ some k_ ≠ (.slice (some ad113) x7_6.length co33 : Value).ownBlock)) _ _ ((rd_T26 x7_6 x10_6).f3) t114 _ ?side1 ?side2 ?side3 ?side4 ?side5 A32.out).mono ?_); (case side1 => repeat (first | exact (Kd.N_reads' HO_7.out).2.2 | (with_reducible refine Kd.C_alloc ?_ _) | (with_reducible refine Kd.C_drewN ?_ _) | (with_reducible refine Kd.C_drew ?_))); (case side2 => exact (Kd.N_reads' HO_7.out).2.1); (case side3 => repeat (first | exact (by repeat (first | (with_reducible exact HR113_2.out) | (with_reducible refine Kd.C_alloc ?_ _) | (with_reducible refine Kd.C_drewN ?_ _) | (with_reducible refine Kd.C_drew ?_) | exact HR113_2.out)) | (with_reducible refine Kd.C_alloc ?_ _) | (with_reducible refine Kd.C_drewN ?_ _) | (with_reducible refine Kd.C_drew ?_))); (case side4 => exact HC113_2.out); (case side5 => exact HL113_3.out); rintro e w34 ⟨v115, rfl, ho0, hb⟩; refine ⟨_, rfl, ?_⟩; have n0_ := Aside0.mk (Kd.N_below (by (with_reducible repeat (first | apply Kd.N_alloc | apply Kd.N_drewN | apply Kd.N_drew)); exact HO_7.out) hb); have n1_ := Aside0.mk (Kd.V_below (by (with_reducible repeat (first | apply Kd.V_alloc | apply Kd.V_drewN | apply Kd.V_drew)); exact HL113_2.out) hb); have n2_ := Aside0.mk (Kd.V_below (by (with_reducible repeat (first | apply Kd.V_alloc | apply Kd.V_drewN | apply Kd.V_drew)); exact HL113_3.out) hb); have n3_ := Aside0.mk (Kd.V_lower (Kd.V_mono (ok' := fun k_ => (P0_ k_ ∨ w.heap.size ≤ k_) ∧ some k_ ≠ (.slice (some ad113) x7_6.length co33 : Value).ownBlock) ho0 (fun k_ hk_ => ⟨Or.elim hk_ (fun hs_ => hs_.1) (fun hn_ => (.inr (Nat.le_trans (below_size (by repeat (first | (with_reducible first | exact HB.out | apply below_alloc | apply pw_below_drewN | apply below_drew1) | exact HB.out))) hn_))), Or.elim hk_ (fun hs_ => hs_.2) (fun hn_ => (Kd.fresh' (Kd.N_lt (by (with_reducible repeat (first | apply Kd.N_alloc | apply Kd.N_drewN | apply Kd.N_drew)); exact HO_7.out)) k_ hn_))⟩)) (below_size (by repeat (first | (with_reducible first | exact HB.out | apply below_alloc | apply pw_below_drewN | apply below_drew1) | exact HB.out)))); have n4_ := Aside0.mk (Kd.C_below (by repeat (first | (with_reducible exact HR113_2.out) | (with_reducible refine Kd.C_alloc ?_ _) | (with_reducible refine Kd.C_drewN ?_ _) | (with_reducible refine Kd.C_drew ?_) | exact HR113_2.out)) hb); have n5_ := Aside0.mk (Kd.C_below (by repeat (first | (with_reducible exact HR113_3.out) | (with_reducible refine Kd.C_alloc ?_ _) | (with_reducible refine Kd.C_drewN ?_ _) | (with_reducible refine Kd.C_drew ?_) | exact HR113_3.out)) hb); have n6_ := Aside0.mk (below_step (by repeat (first | (with_reducible first | exact HB.out | apply below_alloc | apply pw_below_drewN | apply below_drew1) | exact HB.out)) hb); clear HO_7; clear HL113_2; clear HL113_3; clear HR113_2; clear HR113_3; clear HB; have HO_7 := n0_; have HL113_2 := n1_; have HL113_3 := n2_; have HO116 := n3_; have HR113_2 := n4_; have HR113_3 := n5_; have HB := n6_; clear n0_ n1_ n2_ n3_ n4_ n5_ n6_; (try clear hb); (try clear hb2); (try clear hk); (try clear hi); (try clear ho0)))
                   go_loopg [7, 12] k6 (fun kq v7 v12 w' => ∃ (x7_7 : List (S26)) (x12_7 : Int), v12 = .int .i64 x12_7 ∧ Aside0 (hanaperref06_Closure.l5 kq x7_7 (x7_5.length : Int) x10_6 t114 x12_7 = some (r1, r2)) ∧ Aside0 (kq ≤ k6) ∧ Aside0 (Kd.N k26 26 w' w.heap.size (fun k_ => (P0_ k_ ∨ w.heap.size ≤ k_)) v7 x7_7) ∧ Aside0 (Kd.V k26 26 w' w.heap.size (fun k_ => (P0_ k_ ∨ w.heap.size ≤ k_) ∧ some k_ ≠ (v7 : Value).ownBlock) v115 t114) ∧ Aside0 (Below w.heap.size w w'))
                   case atStart => exact ⟨(x7_6), (0), (by first | rfl | (simp; done) | (simp [*]; done)), H', ⟨Nat.le_refl _⟩, ⟨by (with_reducible repeat (first | apply Kd.N_alloc | apply Kd.N_drewN | apply Kd.N_drew)); exact HO_7.out⟩, ⟨by (with_reducible repeat (first | apply Kd.V_alloc | apply Kd.V_drewN | apply Kd.V_drew)); exact HO116.out⟩, ⟨by repeat (first | (with_reducible first | exact HB.out | apply below_alloc | apply pw_below_drewN | apply below_drew1) | exact HB.out)⟩⟩
                   case round =>
                    clear H'
                    (try clear c1);(try clear p1);(try clear q1);(try clear hx1);(try clear c2);(try clear c2b0);(try clear p2);(try clear c3);(try clear c3b0);(try clear c5);(try clear c6);(try clear p6);(try clear c9);(try clear c9b0);(try clear c10);(try clear c10b0);(try clear p10);(try clear q10);(try clear hx10);(try clear c11);(try clear c11b0);(try clear p11);(try clear q11);(try clear hx11);(try clear c16);(try clear c16b0);(try clear c16b1);(try clear c17);(try clear c18);(try clear c18b0);(try clear c19);(try clear c19b0);(try clear c21);(try clear c24);(try clear c26);(try clear c29);(try clear c29b0);(try clear c30);(try clear c30b0);(try clear c31);(try clear c31b0);(try clear c32);(try clear hx101_0);(try clear hx101_1);(try clear hx101_2);(try clear hx101_3);(try clear hx103_0);(try clear hx103_1);(try clear hx103_2);(try clear hx103_3);(try clear hx107_0);(try clear hx107_1);(try clear hx107_2);(try clear hx107_3);(try clear hx109_0);(try clear hx109_1);(try clear hx109_2);(try clear hx109_3);(try clear hx113_0);(try clear hx113_1);(try clear hx113_2);(try clear hx113_3);(try clear p1);(try clear p10);(try clear p101);(try clear p103);(try clear p107);(try clear p109);(try clear p113);(try clear p2);(try clear p6);(try clear q1);(try clear q10);(try clear q101);(try clear q103);(try clear q107);(try clear q109);(try clear q113)
                    obtain ⟨x7_7, x12_7, rfl, HA, HK7, HO_7, HO_11, HB⟩ := hrel
                    cases gk with
                    | zero => exact absurd HA.out (by simp [hanaperref06_Closure.l5])
                    | succ k7 =>
                     have H := HA.out
                     clear HA
                     simp only [hanaperref06_Closure.l5] at H
                     by_cases c35 : x12_7 < (t114.length : Int)
                     ·rw [if_pos c35] at H
                      have c35b0 : decide (x12_7 < (t114.length : Int)) = true := decide_eq_true c35
                      clear c35
                      by_cases c36 : 0 ≤ x12_7
                      ·rw [if_pos c36] at H
                       have c36b0 : decide (0 ≤ x12_7) = true := decide_eq_true c36
                       clear c36
                       replace H := Option.bind_eq_some_iff.mp H
                       obtain ⟨t118, A370, H⟩ := H
                       replace H : (if t118 = true then (hanaperref06_Closure.l5 k7 x7_7 (x7_5.length : Int) x10_6 t114 (wrap64 (x12_7 + 1))) else (if x7_7.length < 2199023255552 then (hanaperref06_Closure.l5 k7 (x7_7 ++ [(⟨(rd_T26 t114 x12_7).f0, (rd_T26 t114 x12_7).f1, (rd_T26 t114 x12_7).f2, (rd_T26 t114 x12_7).f3⟩ : S26)]) (x7_5.length : Int) x10_6 t114 (wrap64 (x12_7 + 1))) else (none))) = some (r1, r2) := H
                       have A37 := Aside0.mk A370
                       clear A370
                       by_cases c38 : t118 = true
                       ·subst c38
                        have H1 : (hanaperref06_Closure.l5 k7 x7_7 (x7_5.length : Int) x10_6 t114 (wrap64 (x12_7 + 1))) = some (r1, r2) := by rw [if_pos rfl] at H; exact H
                        clear H
                        have H := H1
                        clear H1
                        have H' := Aside0.mk H
                        clear H
                        obtain ⟨Ao39, co39, eo39⟩ := Kd.V_slice HO_11.out
                        subst eo39
                        have p117 : 0 ≤ (x12_7 : Int) := of_decide_eq_true (by first | (with_reducible assumption) | assumption)
                        have q117 : x12_7 < (t114.length : Int) := of_decide_eq_true (by first | (with_reducible assumption) | assumption)
                        obtain ⟨ad117, A117_2, c117_2, A117_3, c117_3, e117, hx117_0, hx117_1, hx117_2, hx117_3, hl117_2, hi117_2, hl117_3, hi117_3⟩ := at_T26 (Kd.V_reads' HO_11.out).2.2 x12_7 p117 q117
                        cases e117
                        obtain ⟨ce117, hce117, hMe117, hcc117⟩ := Kd.V_get HO_11.out z26 x12_7 p117 (by first | exact q117 | exact of_decide_eq_true (by first | (with_reducible assumption) | assumption) | (have e_ := (Kd.V_reads' HO_11.out).1; omega))
                        obtain ⟨ua117_2, uc117_2, ua117_3, uc117_3, rfl, ul117_2, ge117_2, ul117_3, ge117_3⟩ := k26_openF hMe117
                        have hv117_2 := hcc117 2 _ rfl
                        rw [add_field _ _ 2 (by omega)] at hv117_2
                        replace hv117_2 := Option.some.inj (hv117_2.symm.trans hx117_2)
                        injection hv117_2 with hva_ hvn_ hvc_
                        rw [hva_] at ge117_2
                        rw [hvc_] at ul117_2
                        have HL117_2 := Aside0.mk (show Kd.V (Kd.int .u8) 5 _ w.heap.size _ _ ((rd_T26 t114 x12_7).f2) from Kd.V_mk ul117_2 ge117_2)
                        clear hva_ hvn_ hvc_ ge117_2 ul117_2
                        have hv117_3 := hcc117 3 _ rfl
                        rw [add_field _ _ 3 (by omega)] at hv117_3
                        replace hv117_3 := Option.some.inj (hv117_3.symm.trans hx117_3)
                        injection hv117_3 with hva_ hvn_ hvc_
                        rw [hva_] at ge117_3
                        rw [hvc_] at ul117_3
                        have HL117_3 := Aside0.mk (show Kd.V k26 26 _ w.heap.size _ _ ((rd_T26 t114 x12_7).f3) from Kd.V_mk ul117_3 ge117_3)
                        clear hva_ hvn_ hvc_ ge117_3 ul117_3
                        clear hcc117 hce117
                        have HR117_2 := Aside0.mk hi117_2
                        have HC117_2 := Aside0.mk hl117_2
                        clear hi117_2 hl117_2
                        have HR117_3 := Aside0.mk hi117_3
                        have HC117_3 := Aside0.mk hl117_3
                        clear hi117_3 hl117_3
                        replace p117 := eq_true p117
                        replace q117 := eq_true q117
                        obtain ⟨Ao40, co40, eo40⟩ := Kd.N_slice HO_7.out
                        subst eo40
                        go_wp2_with (first | ((with_reducible refine gate_callee (f := 31) rfl ?_); refine goesL_ (some 94) rfl rfl Try.func31 (by kernel_rfl) rfl #[.slice Ao40 x7_7.length co40, .agg #[.int .i64 ((rd_T26 t114 x12_7).f0), .int .u64 ((rd_T26 t114 x12_7).f1), .slice A117_2 ((rd_T26 t114 x12_7).f2).length c117_2, .slice A117_3 ((rd_T26 t114 x12_7).f3).length c117_3]] rfl (by (try simp only [List.map_toArray, List.map_cons, List.map_nil]); first | done | rfl | (simp only [List.length_drop, List.length_take]; rfl)) ?_; (with_reducible refine (hanaperref06_Has.calls k7 _ _ x7_7 ((rd_T26 t114 x12_7).f0) ((rd_T26 t114 x12_7).f1) _ _ ((rd_T26 t114 x12_7).f2) _ _ ((rd_T26 t114 x12_7).f3) true _ ?side1 ?side2 ?side3 ?side4 ?side5 ?side6 A37.out).mono ?_); (case side1 => repeat (first | exact (Kd.N_reads' HO_7.out).2.2 | (with_reducible refine Kd.C_alloc ?_ _) | (with_reducible refine Kd.C_drewN ?_ _) | (with_reducible refine Kd.C_drew ?_))); (case side2 => exact (Kd.N_reads' HO_7.out).2.1); (case side3 => repeat (first | exact (by repeat (first | (with_reducible exact HR117_2.out) | (with_reducible refine Kd.C_alloc ?_ _) | (with_reducible refine Kd.C_drewN ?_ _) | (with_reducible refine Kd.C_drew ?_) | exact HR117_2.out)) | (with_reducible refine Kd.C_alloc ?_ _) | (with_reducible refine Kd.C_drewN ?_ _) | (with_reducible refine Kd.C_drew ?_))); (case side4 => exact HC117_2.out); (case side5 => repeat (first | exact (by repeat (first | (with_reducible exact HR117_3.out) | (with_reducible refine Kd.C_alloc ?_ _) | (with_reducible refine Kd.C_drewN ?_ _) | (with_reducible refine Kd.C_drew ?_) | exact HR117_3.out)) | (with_reducible refine Kd.C_alloc ?_ _) | (with_reducible refine Kd.C_drewN ?_ _) | (with_reducible refine Kd.C_drew ?_))); (case side6 => exact HC117_3.out); rintro e w41 ⟨rfl, hb⟩; refine ⟨_, rfl, ?_⟩; have n0_ := Aside0.mk (Kd.N_below (by (with_reducible repeat (first | apply Kd.N_alloc | apply Kd.N_drewN | apply Kd.N_drew)); exact HO_7.out) hb); have n1_ := Aside0.mk (Kd.V_below (by (with_reducible repeat (first | apply Kd.V_alloc | apply Kd.V_drewN | apply Kd.V_drew)); exact HO_11.out) hb); have n2_ := Aside0.mk (Kd.V_below (by (with_reducible repeat (first | apply Kd.V_alloc | apply Kd.V_drewN | apply Kd.V_drew)); exact HL117_2.out) hb); have n3_ := Aside0.mk (Kd.V_below (by (with_reducible repeat (first | apply Kd.V_alloc | apply Kd.V_drewN | apply Kd.V_drew)); exact HL117_3.out) hb); have n4_ := Aside0.mk (Kd.C_below (by repeat (first | (with_reducible exact HR117_2.out) | (with_reducible refine Kd.C_alloc ?_ _) | (with_reducible refine Kd.C_drewN ?_ _) | (with_reducible refine Kd.C_drew ?_) | exact HR117_2.out)) hb); have n5_ := Aside0.mk (Kd.C_below (by repeat (first | (with_reducible exact HR117_3.out) | (with_reducible refine Kd.C_alloc ?_ _) | (with_reducible refine Kd.C_drewN ?_ _) | (with_reducible refine Kd.C_drew ?_) | exact HR117_3.out)) hb); have n6_ := Aside0.mk (below_step (by repeat (first | (with_reducible first | exact HB.out | apply below_alloc | apply pw_below_drewN | apply below_drew1) | exact HB.out)) hb); clear HO_7; clear HO_11; clear HL117_2; clear HL117_3; clear HR117_2; clear HR117_3; clear HB; have HO_7 := n0_; have HO_11 := n1_; have HL117_2 := n2_; have HL117_3 := n3_; have HR117_2 := n4_; have HR117_3 := n5_; have HB := n6_; clear n0_ n1_ n2_ n3_ n4_ n5_ n6_; (try clear hb); (try clear hb2); (try clear hk); (try clear hi)))
                        go_roundg k7
                        case measure => have := HK1.out; have := HJ7.out; have := HJ14.out; have := HK4.out; have := HK5.out; have := HK6.out; have := HK7.out; omega
                        case rel => exact ⟨(x7_7), (wrap64 (x12_7 + 1)), (by first | rfl | (simp; done) | (simp [*]; done)), H', ⟨by have := HK1.out; have := HJ7.out; have := HJ14.out; have := HK4.out; have := HK5.out; have := HK6.out; have := HK7.out; omega⟩, ⟨by (with_reducible repeat (first | apply Kd.N_alloc | apply Kd.N_drewN | apply Kd.N_drew)); exact HO_7.out⟩, ⟨by (with_reducible repeat (first | apply Kd.V_alloc | apply Kd.V_drewN | apply Kd.V_drew)); exact HO_11.out⟩, ⟨by repeat (first | (with_reducible first | exact HB.out | apply below_alloc | apply pw_below_drewN | apply below_drew1) | exact HB.out)⟩⟩
                       ·replace c38 := Bool.eq_false_iff.mpr c38
                        subst c38
                        have H1 : (if x7_7.length < 2199023255552 then (hanaperref06_Closure.l5 k7 (x7_7 ++ [(⟨(rd_T26 t114 x12_7).f0, (rd_T26 t114 x12_7).f1, (rd_T26 t114 x12_7).f2, (rd_T26 t114 x12_7).f3⟩ : S26)]) (x7_5.length : Int) x10_6 t114 (wrap64 (x12_7 + 1))) else (none)) = some (r1, r2) := by rw [if_neg (show ¬ (false = true) by decide)] at H; exact H
                        clear H
                        have H := H1
                        clear H1
                        by_cases c42 : x7_7.length < 2199023255552
                        ·rw [if_pos c42] at H
                         have LMc42 := Aside0.mk c42
                         clear c42
                         obtain ⟨y120, hy120⟩ : ∃ y_ : List (S26), y_ = (x7_7 ++ [(⟨(rd_T26 t114 x12_7).f0, (rd_T26 t114 x12_7).f1, (rd_T26 t114 x12_7).f2, (rd_T26 t114 x12_7).f3⟩ : S26)]) := ⟨_, rfl⟩
                         replace H : (hanaperref06_Closure.l5 k7 y120 (x7_5.length : Int) x10_6 t114 (wrap64 (x12_7 + 1))) = some (r1, r2) := by first | (rw [hy120]; with_reducible exact H) | (have H2_ := (Option.bind_some _ _).symm.trans H; rw [hy120]; with_reducible exact H2_) | (have H2_ := (Option.bind_some _ _).symm.trans H; with_reducible exact H2_) | with_reducible exact H | (rw [hy120]; exact H) | exact H
                         have Ny120 := Aside0.mk hy120
                         clear hy120
                         have H' := Aside0.mk H
                         clear H
                         obtain ⟨Ao43, co43, eo43⟩ := Kd.V_slice HO_11.out
                         subst eo43
                         have p117 : 0 ≤ (x12_7 : Int) := of_decide_eq_true (by first | (with_reducible assumption) | assumption)
                         have q117 : x12_7 < (t114.length : Int) := of_decide_eq_true (by first | (with_reducible assumption) | assumption)
                         obtain ⟨ad117, A117_2, c117_2, A117_3, c117_3, e117, hx117_0, hx117_1, hx117_2, hx117_3, hl117_2, hi117_2, hl117_3, hi117_3⟩ := at_T26 (Kd.V_reads' HO_11.out).2.2 x12_7 p117 q117
                         cases e117
                         obtain ⟨ce117, hce117, hMe117, hcc117⟩ := Kd.V_get HO_11.out z26 x12_7 p117 (by first | exact q117 | exact of_decide_eq_true (by first | (with_reducible assumption) | assumption) | (have e_ := (Kd.V_reads' HO_11.out).1; omega))
                         obtain ⟨ua117_2, uc117_2, ua117_3, uc117_3, rfl, ul117_2, ge117_2, ul117_3, ge117_3⟩ := k26_openF hMe117
                         have hv117_2 := hcc117 2 _ rfl
                         rw [add_field _ _ 2 (by omega)] at hv117_2
                         replace hv117_2 := Option.some.inj (hv117_2.symm.trans hx117_2)
                         injection hv117_2 with hva_ hvn_ hvc_
                         rw [hva_] at ge117_2
                         rw [hvc_] at ul117_2
                         have HL117_2 := Aside0.mk (show Kd.V (Kd.int .u8) 5 _ w.heap.size _ _ ((rd_T26 t114 x12_7).f2) from Kd.V_mk ul117_2 ge117_2)
                         clear hva_ hvn_ hvc_ ge117_2 ul117_2
                         have hv117_3 := hcc117 3 _ rfl
                         rw [add_field _ _ 3 (by omega)] at hv117_3
                         replace hv117_3 := Option.some.inj (hv117_3.symm.trans hx117_3)
                         injection hv117_3 with hva_ hvn_ hvc_
                         rw [hva_] at ge117_3
                         rw [hvc_] at ul117_3
                         have HL117_3 := Aside0.mk (show Kd.V k26 26 _ w.heap.size _ _ ((rd_T26 t114 x12_7).f3) from Kd.V_mk ul117_3 ge117_3)
                         clear hva_ hvn_ hvc_ ge117_3 ul117_3
                         clear hcc117 hce117
                         have HR117_2 := Aside0.mk hi117_2
                         have HC117_2 := Aside0.mk hl117_2
                         clear hi117_2 hl117_2
                         have HR117_3 := Aside0.mk hi117_3
                         have HC117_3 := Aside0.mk hl117_3
                         clear hi117_3 hl117_3
                         replace p117 := eq_true p117
                         replace q117 := eq_true q117
                         obtain ⟨Ao44, co44, eo44⟩ := Kd.N_slice HO_7.out
                         subst eo44
                         go_wp2_with (first | ((with_reducible refine gate_callee (f := 31) rfl ?_); refine goesL_ (some 94) rfl rfl Try.func31 (by kernel_rfl) rfl #[.slice Ao44 x7_7.length co44, .agg #[.int .i64 ((rd_T26 t114 x12_7).f0), .int .u64 ((rd_T26 t114 x12_7).f1), .slice A117_2 ((rd_T26 t114 x12_7).f2).length c117_2, .slice A117_3 ((rd_T26 t114 x12_7).f3).length c117_3]] rfl (by (try simp only [List.map_toArray, List.map_cons, List.map_nil]); first | done | rfl | (simp only [List.length_drop, List.length_take]; rfl)) ?_; (with_reducible refine (hanaperref06_Has.calls k7 _ _ x7_7 ((rd_T26 t114 x12_7).f0) ((rd_T26 t114 x12_7).f1) _ _ ((rd_T26 t114 x12_7).f2) _ _ ((rd_T26 t114 x12_7).f3) false _ ?side1 ?side2 ?side3 ?side4 ?side5 ?side6 A37.out).mono ?_); (case side1 => repeat (first | exact (Kd.N_reads' HO_7.out).2.2 | (with_reducible refine Kd.C_alloc ?_ _) | (with_reducible refine Kd.C_drewN ?_ _) | (with_reducible refine Kd.C_drew ?_))); (case side2 => exact (Kd.N_reads' HO_7.out).2.1); (case side3 => repeat (first | exact (by repeat (first | (with_reducible exact HR117_2.out) | (with_reducible refine Kd.C_alloc ?_ _) | (with_reducible refine Kd.C_drewN ?_ _) | (with_reducible refine Kd.C_drew ?_) | exact HR117_2.out)) | (with_reducible refine Kd.C_alloc ?_ _) | (with_reducible refine Kd.C_drewN ?_ _) | (with_reducible refine Kd.C_drew ?_))); (case side4 => exact HC117_2.out); (case side5 => repeat (first | exact (by repeat (first | (with_reducible exact HR117_3.out) | (with_reducible refine Kd.C_alloc ?_ _) | (with_reducible refine Kd.C_drewN ?_ _) | (with_reducible refine Kd.C_drew ?_) | exact HR117_3.out)) | (with_reducible refine Kd.C_alloc ?_ _) | (with_reducible refine Kd.C_drewN ?_ _) | (with_reducible refine Kd.C_drew ?_))); (case side6 => exact HC117_3.out); rintro e w45 ⟨rfl, hb⟩; refine ⟨_, rfl, ?_⟩; have n0_ := Aside0.mk (Kd.N_below (by (with_reducible repeat (first | apply Kd.N_alloc | apply Kd.N_drewN | apply Kd.N_drew)); exact HO_7.out) hb); have n1_ := Aside0.mk (Kd.V_below (by (with_reducible repeat (first | apply Kd.V_alloc | apply Kd.V_drewN | apply Kd.V_drew)); exact HO_11.out) hb); have n2_ := Aside0.mk (Kd.V_below (by (with_reducible repeat (first | apply Kd.V_alloc | apply Kd.V_drewN | apply Kd.V_drew)); exact HL117_2.out) hb); have n3_ := Aside0.mk (Kd.V_below (by (with_reducible repeat (first | apply Kd.V_alloc | apply Kd.V_drewN | apply Kd.V_drew)); exact HL117_3.out) hb); have n4_ := Aside0.mk (Kd.C_below (by repeat (first | (with_reducible exact HR117_2.out) | (with_reducible refine Kd.C_alloc ?_ _) | (with_reducible refine Kd.C_drewN ?_ _) | (with_reducible refine Kd.C_drew ?_) | exact HR117_2.out)) hb); have n5_ := Aside0.mk (Kd.C_below (by repeat (first | (with_reducible exact HR117_3.out) | (with_reducible refine Kd.C_alloc ?_ _) | (with_reducible refine Kd.C_drewN ?_ _) | (with_reducible refine Kd.C_drew ?_) | exact HR117_3.out)) hb); have n6_ := Aside0.mk (below_step (by repeat (first | (with_reducible first | exact HB.out | apply below_alloc | apply pw_below_drewN | apply below_drew1) | exact HB.out)) hb); clear HO_7; clear HO_11; clear HL117_2; clear HL117_3; clear HR117_2; clear HR117_3; clear HB; have HO_7 := n0_; have HO_11 := n1_; have HL117_2 := n2_; have HL117_3 := n3_; have HR117_2 := n4_; have HR117_3 := n5_; have HB := n6_; clear n0_ n1_ n2_ n3_ n4_ n5_ n6_; (try clear hb); (try clear hb2); (try clear hk); (try clear hi); have p119 : 0 ≤ (x12_7 : Int) := of_decide_eq_true (by first | (with_reducible assumption) | assumption); have q119 : x12_7 < (t114.length : Int) := of_decide_eq_true (by first | (with_reducible assumption) | assumption); obtain ⟨ad119, A119_2, c119_2, A119_3, c119_3, e119, hx119_0, hx119_1, hx119_2, hx119_3, hl119_2, hi119_2, hl119_3, hi119_3⟩ := at_T26 (Kd.V_reads' HO_11.out).2.2 x12_7 p119 q119; obtain rfl : ad117 = ad119 := (by injection e119); obtain ⟨ce119, hce119, hMe119, hcc119⟩ := Kd.V_get HO_11.out z26 x12_7 p119 (by first | exact q119 | exact of_decide_eq_true (by first | (with_reducible assumption) | assumption) | (have e_ := (Kd.V_reads' HO_11.out).1; omega)); obtain ⟨ua119_2, uc119_2, ua119_3, uc119_3, rfl, ul119_2, ge119_2, ul119_3, ge119_3⟩ := k26_openF hMe119; have hv119_2 := hcc119 2 _ rfl; rw [add_field _ _ 2 (by omega)] at hv119_2; replace hv119_2 := Option.some.inj (hv119_2.symm.trans hx119_2); injection hv119_2 with hva_ hvn_ hvc_; rw [hva_] at ge119_2; rw [hvc_] at ul119_2; have HL119_2 := Aside0.mk (show Kd.V (Kd.int .u8) 5 _ w.heap.size _ _ ((rd_T26 t114 x12_7).f2) from Kd.V_mk ul119_2 ge119_2); clear hva_ hvn_ hvc_ ge119_2 ul119_2; have hv119_3 := hcc119 3 _ rfl; rw [add_field _ _ 3 (by omega)] at hv119_3; replace hv119_3 := Option.some.inj (hv119_3.symm.trans hx119_3); injection hv119_3 with hva_ hvn_ hvc_; rw [hva_] at ge119_3; rw [hvc_] at ul119_3; have HL119_3 := Aside0.mk (show Kd.V k26 26 _ w.heap.size _ _ ((rd_T26 t114 x12_7).f3) from Kd.V_mk ul119_3 ge119_3); clear hva_ hvn_ hvc_ ge119_3 ul119_3; clear hcc119 hce119; have HR119_2 := Aside0.mk hi119_2; have HC119_2 := Aside0.mk hl119_2; clear hi119_2 hl119_2; have HR119_3 := Aside0.mk hi119_3; have HC119_3 := Aside0.mk hl119_3; clear hi119_3 hl119_3; replace p119 := eq_true p119; replace q119 := eq_true q119) | ((with_reducible refine gate_builtin (b := .append) (xs := #[.tmp 96, .tmp 101]) rfl ?_); at_builtin; refine Kd.N_append k26 (w0 := w) w.heap.size rfl (.tmp 96) (.tmp 101) 24 26 (.agg #[(.int .i64 0), (.int .u64 0), (.slice none 0 0), (.slice none 0 0)]) 64 rfl Try.underlying24 info26 rfl (by decide) (by omega) (.slice Ao44 x7_7.length co44) x7_7 (⟨(rd_T26 t114 x12_7).f0, (rd_T26 t114 x12_7).f1, (rd_T26 t114 x12_7).f2, (rd_T26 t114 x12_7).f3⟩ : S26) [.int .i64 ((rd_T26 t114 x12_7).f0), .int .u64 ((rd_T26 t114 x12_7).f1), .slice A119_2 ((rd_T26 t114 x12_7).f2).length c119_2, .slice A119_3 ((rd_T26 t114 x12_7).f3).length c119_3] (fun k_ => (P0_ k_ ∨ w.heap.size ≤ k_)) (fun k_ => ((fun k_ => (P0_ k_ ∨ w.heap.size ≤ k_))) k_ ∧ some k_ ≠ (.slice Ao44 x7_7.length co44 : Value).ownBlock) rfl rfl ?aP (fun _ hk => hk) ?aF ?aO ?aB ?aS ?aL ?_; (case aP => exact (k26_mkF _ _ (⟨(rd_T26 t114 x12_7).f0, (rd_T26 t114 x12_7).f1, (rd_T26 t114 x12_7).f2, (rd_T26 t114 x12_7).f3⟩ : S26) (Kd.V_reads' (Kd.V_mono (ok' := (fun k_ => ((fun k_ => (P0_ k_ ∨ w.heap.size ≤ k_))) k_ ∧ some k_ ≠ (.slice Ao44 x7_7.length co44 : Value).ownBlock)) (HL119_2.out) (fun k_ hk => ⟨hk.1, hk.2⟩))).2.1 (Kd.V_F (Kd.V_mono (ok' := (fun k_ => ((fun k_ => (P0_ k_ ∨ w.heap.size ≤ k_))) k_ ∧ some k_ ≠ (.slice Ao44 x7_7.length co44 : Value).ownBlock)) (HL119_2.out) (fun k_ hk => ⟨hk.1, hk.2⟩))) (Kd.V_reads' (Kd.V_mono (ok' := (fun k_ => ((fun k_ => (P0_ k_ ∨ w.heap.size ≤ k_))) k_ ∧ some k_ ≠ (.slice Ao44 x7_7.length co44 : Value).ownBlock)) (HL119_3.out) (fun k_ hk => ⟨hk.1, hk.2⟩))).2.1 (Kd.V_F (Kd.V_mono (ok' := (fun k_ => ((fun k_ => (P0_ k_ ∨ w.heap.size ≤ k_))) k_ ∧ some k_ ≠ (.slice Ao44 x7_7.length co44 : Value).ownBlock)) (HL119_3.out) (fun k_ hk => ⟨hk.1, hk.2⟩))))); (case aB => exact (by repeat (first | (with_reducible first | exact HB.out | apply below_alloc | apply pw_below_drewN | apply below_drew1) | exact HB.out))); (case aF => exact (fun k_ hk => (.inr (Nat.le_trans (below_size (by repeat (first | (with_reducible first | exact HB.out | apply below_alloc | apply pw_below_drewN | apply below_drew1) | exact HB.out))) hk)))); (case aO => exact (by (with_reducible repeat (first | apply Kd.N_alloc | apply Kd.N_drewN | apply Kd.N_drew)); exact HO_7.out)); (case aS => exact (below_size (by repeat (first | (with_reducible first | exact HB.out | apply below_alloc | apply pw_below_drewN | apply below_drew1) | exact HB.out)))); (case aL => have := LMc42.out; omega); intro v121 w46 ho hb hg hat; rw [← Ny120.out] at ho; have n0_ := Aside0.mk (Kd.V_afterv (ok := (fun k_ => (P0_ k_ ∨ w.heap.size ≤ k_))) (by (with_reducible repeat (first | apply Kd.V_alloc | apply Kd.V_drewN | apply Kd.V_drew)); exact HO_11.out) hg hat); have n1_ := Aside0.mk (Kd.V_afterv (ok := (fun k_ => (P0_ k_ ∨ w.heap.size ≤ k_))) (by (with_reducible repeat (first | apply Kd.V_alloc | apply Kd.V_drewN | apply Kd.V_drew)); exact HL117_2.out) hg hat); have n2_ := Aside0.mk (Kd.V_afterv (ok := (fun k_ => (P0_ k_ ∨ w.heap.size ≤ k_))) (by (with_reducible repeat (first | apply Kd.V_alloc | apply Kd.V_drewN | apply Kd.V_drew)); exact HL117_3.out) hg hat); have n3_ := Aside0.mk (Kd.V_afterv (ok := (fun k_ => (P0_ k_ ∨ w.heap.size ≤ k_))) (by (with_reducible repeat (first | apply Kd.V_alloc | apply Kd.V_drewN | apply Kd.V_drew)); exact HL119_2.out) hg hat); have n4_ := Aside0.mk (Kd.V_afterv (ok := (fun k_ => (P0_ k_ ∨ w.heap.size ≤ k_))) (by (with_reducible repeat (first | apply Kd.V_alloc | apply Kd.V_drewN | apply Kd.V_drew)); exact HL119_3.out) hg hat); have n5_ := Aside0.mk (hb); have n6_ := Aside0.mk (ho); clear HO_11; clear HL117_2; clear HL117_3; clear HL119_2; clear HL119_3; clear HB; clear HO_7; have HO_11 := n0_; have HL117_2 := n1_; have HL117_3 := n2_; have HL119_2 := n3_; have HL119_3 := n4_; have HB := n5_; have HO122 := n6_; clear n0_ n1_ n2_ n3_ n4_ n5_ n6_; clear ho hb hg hat))
                         go_roundg k7
                         case measure => have := HK1.out; have := HJ7.out; have := HJ14.out; have := HK4.out; have := HK5.out; have := HK6.out; have := HK7.out; omega
                         case rel => exact ⟨(y120), (wrap64 (x12_7 + 1)), (by first | rfl | (simp; done) | (simp [*]; done)), H', ⟨by have := HK1.out; have := HJ7.out; have := HJ14.out; have := HK4.out; have := HK5.out; have := HK6.out; have := HK7.out; omega⟩, ⟨by (with_reducible repeat (first | apply Kd.N_alloc | apply Kd.N_drewN | apply Kd.N_drew)); exact HO122.out⟩, ⟨by (with_reducible repeat (first | apply Kd.V_alloc | apply Kd.V_drewN | apply Kd.V_drew)); exact HO_11.out⟩, ⟨by repeat (first | (with_reducible first | exact HB.out | apply below_alloc | apply pw_below_drewN | apply below_drew1) | exact HB.out)⟩⟩
                        ·rw [if_neg c42] at H
                         exact absurd H (by simp)
                      ·rw [if_neg c36] at H
                       exact absurd H (by simp)
                     ·rw [if_neg c35] at H
                      have c35b0 : decide (x12_7 < (t114.length : Int)) = false := decide_eq_false c35
                      clear c35
                      have H' := Aside0.mk H
                      clear H
                      obtain ⟨Ao47, co47, eo47⟩ := Kd.V_slice HO_11.out
                      subst eo47
                      go_wp2
                      go_roundg k7
                      case measure => have := HK1.out; have := HJ7.out; have := HJ14.out; have := HK4.out; have := HK5.out; have := HK6.out; have := HK7.out; omega
                      case rel => exact ⟨(x7_7), (wrap64 (x10_6 + 1)), (by first | rfl | (simp; done) | (simp [*]; done)), H', ⟨by have := HK1.out; have := HJ7.out; have := HJ14.out; have := HK4.out; have := HK5.out; have := HK6.out; have := HK7.out; omega⟩, ⟨by (with_reducible repeat (first | apply Kd.N_alloc | apply Kd.N_drewN | apply Kd.N_drew)); exact HO_7.out⟩, ⟨by repeat (first | (with_reducible first | exact HB.out | apply below_alloc | apply pw_below_drewN | apply below_drew1) | exact HB.out)⟩⟩
                  ·rw [if_neg c31] at H
                   exact absurd H (by simp)
                 ·rw [if_neg c30] at H
                  exact absurd H (by simp)
                ·rw [if_neg c29] at H
                 have c29b0 : decide (x10_6 < (x7_5.length : Int)) = false := decide_eq_false c29
                 clear c29
                 by_cases c48 : (x7_6.length : Int) = (x7_5.length : Int)
                 ·rw [if_pos c48] at H
                  have c48b0 : ((x7_6.length : Int) == (x7_5.length : Int)) = true := beq_iff_eq.mpr c48
                  have c48b1 : ((x7_6.length : Int) != (x7_5.length : Int)) = false := bne_eq_false_iff_eq.mpr c48
                  have c48b2 : (x7_6.length == x7_5.length) = true := by first | simpa using c48 | (simp at c48 ⊢; omega)
                  clear c48
                  simp only [Option.some.injEq, Prod.mk.injEq] at H
                  obtain ⟨rfl, rfl⟩ := H
                  obtain ⟨Ao49, co49, eo49⟩ := Kd.N_slice HO_7.out
                  subst eo49
                  go_wp2
                  go_ret2
                  exact ⟨_, by first | rfl | (simp [errW_none, errW_some] <;> rfl) | (simp [*, errW_none, errW_some] <;> rfl), by (with_reducible repeat (first | apply Kd.N_alloc | apply Kd.N_drewN | apply Kd.N_drew)); exact HO_7.out, by repeat (first | (with_reducible first | exact HB.out | apply below_alloc | apply pw_below_drewN | apply below_drew1) | exact HB.out)⟩
                 ·rw [if_neg c48] at H
                  have c48b0 : ((x7_6.length : Int) == (x7_5.length : Int)) = false := beq_eq_false_iff_ne.mpr c48
                  have c48b1 : ((x7_6.length : Int) != (x7_5.length : Int)) = true := bne_iff_ne.mpr c48
                  have c48b2 : (x7_6.length == x7_5.length) = false := by first | simpa using c48 | (simp at c48 ⊢; omega)
                  have H' := Aside0.mk H
                  clear H
                  obtain ⟨Ao50, co50, eo50⟩ := Kd.N_slice HO_7.out
                  subst eo50
                  go_wp2
                  go_roundg k6
                  case measure => have := HK1.out; have := HJ7.out; have := HJ14.out; have := HK4.out; have := HK5.out; have := HK6.out; omega
                  case rel => exact ⟨(x7_6), H', ⟨by have := HK1.out; have := HJ7.out; have := HJ14.out; have := HK4.out; have := HK5.out; have := HK6.out; omega⟩, ⟨by (with_reducible repeat (first | apply Kd.N_alloc | apply Kd.N_drewN | apply Kd.N_drew)); exact HO_7.out⟩, ⟨by repeat (first | (with_reducible first | exact HB.out | apply below_alloc | apply pw_below_drewN | apply below_drew1) | exact HB.out)⟩⟩

end Go.Proofs.Ytgohmganimamcaa.PZ
-- printed for this claim by a program (pall.sh)
-- mended by fixpz.py
namespace Go.Proofs.Ytgohmganimamcaa.PZ
open Go.RowKit Go.Proofs.YtgohmganimamcaaW.PrintWords Go.Proofs.YtgohmganimamcaaW.PrintLast Go.Proofs.YtgohmganimamcaaW.PrintMore
attribute [local go_sem] max2_int min2_int max_two min_two max_three min_three max_four min_four   -- for this text's walks alone
set_option linter.unusedVariables false
set_option linter.unusedSimpArgs false

/-! ### hanaperlaw06_DeriveCloses: function 6 -/
def hanaperlaw06_DeriveCloses.f (k : Nat) (l0 : List (S26)) : Option (Bool) := (hanaperlaw06_Small.f k l0).bind fun t101 => (if t101 = true then ((derive_Closure.f l0).bind fun bt103 => ((hanaperref06_Closure.f k l0).bind fun bt107 => ((hanaperref05_SameAll.f k bt103.1 bt107.1).bind fun t111 => (if t111 = true then ((hanaperlaw06_num.f bt103.2).bind fun t112 => (if t112 = bt107.2 then ((hanaperlaw06_live.f).bind fun t113 => (some t113)) else (some false))) else (some false))))) else ((hanaperlaw06_live.f).bind fun t102 => (some t102)))
set_option maxHeartbeats 8000000 in
set_option maxRecDepth 100000 in
theorem hanaperlaw06_DeriveCloses.calls (k : Nat) (A0 : Option Addr) (c0 : Nat) (l0 : List (S26)) (r : Bool) (w : World) (hr0 : Kd.C k26 w A0 l0.length l0) (hc0 : l0.length ≤ c0) (h : hanaperlaw06_DeriveCloses.f k l0 = some r) :
  Calls Try.prog 6 #[.slice A0 l0.length c0] w fun e w' => e = .returned (.bool r) ∧ Below w.heap.size w w' := by
 have HR0 := Aside0.mk hr0
 have HC0 := Aside0.mk hc0
 clear hr0 hc0
 have HB := Aside0.mk (Below.refl w.heap.size w)
 have H : ((hanaperlaw06_Small.f k l0).bind fun t101 => (if t101 = true then ((derive_Closure.f l0).bind fun bt103 => ((hanaperref06_Closure.f k l0).bind fun bt107 => ((hanaperref05_SameAll.f k bt103.1 bt107.1).bind fun t111 => (if t111 = true then ((hanaperlaw06_num.f bt103.2).bind fun t112 => (if t112 = bt107.2 then ((hanaperlaw06_live.f).bind fun t113 => (some t113)) else (some false))) else (some false))))) else ((hanaperlaw06_live.f).bind fun t102 => (some t102)))) = some r := h
 clear h
 replace H := Option.bind_eq_some_iff.mp H
 obtain ⟨t101, A20, H⟩ := H
 replace H : (if t101 = true then ((derive_Closure.f l0).bind fun bt103 => ((hanaperref06_Closure.f k l0).bind fun bt107 => ((hanaperref05_SameAll.f k bt103.1 bt107.1).bind fun t111 => (if t111 = true then ((hanaperlaw06_num.f bt103.2).bind fun t112 => (if t112 = bt107.2 then ((hanaperlaw06_live.f).bind fun t113 => (some t113)) else (some false))) else (some false))))) else ((hanaperlaw06_live.f).bind fun t102 => (some t102))) = some r := H
 have A2 := Aside0.mk A20
 clear A20
 by_cases c3 : t101 = true
 ·subst c3
  have H1 : ((derive_Closure.f l0).bind fun bt103 => ((hanaperref06_Closure.f k l0).bind fun bt107 => ((hanaperref05_SameAll.f k bt103.1 bt107.1).bind fun t111 => (if t111 = true then ((hanaperlaw06_num.f bt103.2).bind fun t112 => (if t112 = bt107.2 then ((hanaperlaw06_live.f).bind fun t113 => (some t113)) else (some false))) else (some false))))) = some r := by rw [if_pos rfl] at H; exact H
  clear H
  have H := H1
  clear H1
  replace H := Option.bind_eq_some_iff.mp H
  obtain ⟨⟨t103, t106⟩, A40, H⟩ := H
  replace H : ((hanaperref06_Closure.f k l0).bind fun bt107 => ((hanaperref05_SameAll.f k t103 bt107.1).bind fun t111 => (if t111 = true then ((hanaperlaw06_num.f t106).bind fun t112 => (if t112 = bt107.2 then ((hanaperlaw06_live.f).bind fun t113 => (some t113)) else (some false))) else (some false)))) = some r := H
  have A4 := Aside0.mk A40
  clear A40
  replace H := Option.bind_eq_some_iff.mp H
  obtain ⟨⟨t107, t110⟩, A50, H⟩ := H
  replace H : ((hanaperref05_SameAll.f k t103 t107).bind fun t111 => (if t111 = true then ((hanaperlaw06_num.f t106).bind fun t112 => (if t112 = t110 then ((hanaperlaw06_live.f).bind fun t113 => (some t113)) else (some false))) else (some false))) = some r := H
  have A5 := Aside0.mk A50
  clear A50
  replace H := Option.bind_eq_some_iff.mp H
  obtain ⟨t111, A60, H⟩ := H
  replace H : (if t111 = true then ((hanaperlaw06_num.f t106).bind fun t112 => (if t112 = t110 then ((hanaperlaw06_live.f).bind fun t113 => (some t113)) else (some false))) else (some false)) = some r := H
  have A6 := Aside0.mk A60
  clear A60
  by_cases c7 : t111 = true
  ·subst c7
   have H1 : ((hanaperlaw06_num.f t106).bind fun t112 => (if t112 = t110 then ((hanaperlaw06_live.f).bind fun t113 => (some t113)) else (some false))) = some r := by rw [if_pos rfl] at H; exact H
   clear H
   have H := H1
   clear H1
   replace H := Option.bind_eq_some_iff.mp H
   obtain ⟨t112, A80, H⟩ := H
   replace H : (if t112 = t110 then ((hanaperlaw06_live.f).bind fun t113 => (some t113)) else (some false)) = some r := H
   have A8 := Aside0.mk A80
   clear A80
   by_cases c9 : t112 = t110
   ·rw [if_pos c9] at H
    have c9b0 : (t112 == t110) = true := beq_iff_eq.mpr c9
    have c9b1 : (t112 != t110) = false := bne_eq_false_iff_eq.mpr c9
    clear c9
    replace H := Option.bind_eq_some_iff.mp H
    obtain ⟨t113, A100, H⟩ := H
    replace H : (some t113) = some r := H
    have A10 := Aside0.mk A100
    clear A100
    obtain rfl := Option.some.inj H
    go_enter Try.func6, Try.ntmps6
    go_wp2_with (first | ((with_reducible refine gate_callee (f := 23) rfl ?_); refine goesL_ (some 8) rfl rfl Try.func23 (by kernel_rfl) rfl #[.slice A0 l0.length c0] rfl (by (try simp only [List.map_toArray, List.map_cons, List.map_nil]); first | done | rfl | (simp only [List.length_drop, List.length_take]; rfl)) ?_; (with_reducible refine (hanaperlaw06_Small.calls k _ _ l0 true _ ?side1 ?side2 A2.out).mono ?_); (case side1 => repeat (first | exact HR0.out | (with_reducible refine Kd.C_alloc ?_ _) | (with_reducible refine Kd.C_drewN ?_ _) | (with_reducible refine Kd.C_drew ?_))); (case side2 => exact HC0.out); rintro e w11 ⟨rfl, hb⟩; refine ⟨_, rfl, ?_⟩; have n0_ := Aside0.mk (below_step (by repeat (first | (with_reducible first | exact HB.out | apply below_alloc | apply pw_below_drewN | apply below_drew1) | exact HB.out)) hb); clear HB; have HB := n0_; clear n0_; (try clear hb); (try clear hb2); (try clear hk); (try clear hi)) | ((with_reducible refine gate_callee (f := 25) rfl ?_); refine goesL_ (some 13) rfl rfl Try.func25 (by kernel_rfl) rfl #[.slice A0 l0.length c0] rfl (by (try simp only [List.map_toArray, List.map_cons, List.map_nil]); first | done | rfl | (simp only [List.length_drop, List.length_take]; rfl)) ?_; (with_reducible refine (derive_Closure.calls (fun k_ => k_ < w.heap.size) _ _ l0 t103 t106 _ ?side1 A4.out).mono ?_); (case side1 => exact Kd.V_mk HC0.out (Kd.F_below (Kd.C_F k26_heap HR0.out) (by repeat (first | (with_reducible first | exact HB.out | apply below_alloc | apply pw_below_drewN | apply below_drew1) | exact HB.out)))); rintro e w12 ⟨v104, rfl, ho0, hb⟩; refine ⟨_, rfl, ?_⟩; have n0_ := Aside0.mk (Kd.N_lower (Kd.N_mono (ok' := fun k_ => True) ho0 (fun k_ hk_ => trivial)) (below_size (by repeat (first | (with_reducible first | exact HB.out | apply below_alloc | apply pw_below_drewN | apply below_drew1) | exact HB.out)))); have n1_ := Aside0.mk (below_step (by repeat (first | (with_reducible first | exact HB.out | apply below_alloc | apply pw_below_drewN | apply below_drew1) | exact HB.out)) hb); clear HB; have HO105 := n0_; have HB := n1_; clear n0_ n1_; (try clear hb); (try clear hb2); (try clear hk); (try clear hi); (try clear ho0)) | ((with_reducible refine gate_callee (f := 26) rfl ?_); refine goesL_ (some 18) rfl rfl Try.func26 (by kernel_rfl) rfl #[.slice A0 l0.length c0] rfl (by (try simp only [List.map_toArray, List.map_cons, List.map_nil]); first | done | rfl | (simp only [List.length_drop, List.length_take]; rfl)) ?_; (with_reducible refine (hanaperref06_Closure.calls k (fun k_ => k_ < w.heap.size) _ _ l0 t107 t110 _ ?side1 A5.out).mono ?_); (case side1 => exact Kd.V_mk HC0.out (Kd.F_below (Kd.C_F k26_heap HR0.out) (by repeat (first | (with_reducible first | exact HB.out | apply below_alloc | apply pw_below_drewN | apply below_drew1) | exact HB.out)))); rintro e w13 ⟨v108, rfl, ho0, hb⟩; refine ⟨_, rfl, ?_⟩; have n0_ := Aside0.mk (Kd.N_elder' (by (with_reducible repeat (first | apply Kd.N_alloc | apply Kd.N_drewN | apply Kd.N_drew)); exact HO105.out) (Kd.N_base ho0) hb); have n1_ := Aside0.mk (Kd.N_lower (Kd.N_mono (ok' := fun k_ => some k_ ≠ (v104 : Value).ownBlock) ho0 (fun k_ hk_ => Or.elim hk_ (fun hs_ => fun e_ => Nat.not_le.2 hs_ (Kd.N_base HO105.out k_ e_.symm)) (fun hn_ => (Kd.fresh' (Kd.N_lt (by (with_reducible repeat (first | apply Kd.N_alloc | apply Kd.N_drewN | apply Kd.N_drew)); exact HO105.out)) k_ hn_)))) (below_size (by repeat (first | (with_reducible first | exact HB.out | apply below_alloc | apply pw_below_drewN | apply below_drew1) | exact HB.out)))); have n2_ := Aside0.mk (below_step (by repeat (first | (with_reducible first | exact HB.out | apply below_alloc | apply pw_below_drewN | apply below_drew1) | exact HB.out)) hb); clear HO105; clear HB; have HO105 := n0_; have HO109 := n1_; have HB := n2_; clear n0_ n1_ n2_; (try clear hb); (try clear hb2); (try clear hk); (try clear hi); (try clear ho0); obtain ⟨Ao14, co14, eo14⟩ := Kd.N_slice HO105.out; subst eo14; obtain ⟨Ao15, co15, eo15⟩ := Kd.N_slice HO109.out; subst eo15) | ((with_reducible refine gate_callee (f := 27) rfl ?_); refine goesL_ (some 23) rfl rfl Try.func27 (by kernel_rfl) rfl #[.slice Ao14 t103.length co14, .slice Ao15 t107.length co15] rfl (by (try simp only [List.map_toArray, List.map_cons, List.map_nil]); first | done | rfl | (simp only [List.length_drop, List.length_take]; rfl)) ?_; (with_reducible refine (hanaperref05_SameAll.calls k _ _ t103 _ _ t107 true _ ?side1 ?side2 ?side3 ?side4 A6.out).mono ?_); (case side1 => repeat (first | exact (Kd.N_reads' HO105.out).2.2 | (with_reducible refine Kd.C_alloc ?_ _) | (with_reducible refine Kd.C_drewN ?_ _) | (with_reducible refine Kd.C_drew ?_))); (case side2 => exact (Kd.N_reads' HO105.out).2.1); (case side3 => repeat (first | exact (Kd.N_reads' HO109.out).2.2 | (with_reducible refine Kd.C_alloc ?_ _) | (with_reducible refine Kd.C_drewN ?_ _) | (with_reducible refine Kd.C_drew ?_))); (case side4 => exact (Kd.N_reads' HO109.out).2.1); rintro e w16 ⟨rfl, hb⟩; refine ⟨_, rfl, ?_⟩; have n0_ := Aside0.mk (Kd.N_below (by (with_reducible repeat (first | apply Kd.N_alloc | apply Kd.N_drewN | apply Kd.N_drew)); exact HO105.out) hb); have n1_ := Aside0.mk (Kd.N_below (by (with_reducible repeat (first | apply Kd.N_alloc | apply Kd.N_drewN | apply Kd.N_drew)); exact HO109.out) hb); have n2_ := Aside0.mk (below_step (by repeat (first | (with_reducible first | exact HB.out | apply below_alloc | apply pw_below_drewN | apply below_drew1) | exact HB.out)) hb); clear HO105; clear HO109; clear HB; have HO105 := n0_; have HO109 := n1_; have HB := n2_; clear n0_ n1_ n2_; (try clear hb); (try clear hb2); (try clear hk); (try clear hi)) | (go_at_call 28; (with_reducible refine (hanaperlaw06_num.calls t106 t112 _ A8.out).mono ?_); rintro e w' ⟨rfl, ⟨nd, rfl⟩⟩) | (go_at_call 24; (with_reducible refine (hanaperlaw06_live.calls  t113 _ A10.out).mono ?_); rintro e w17 ⟨rfl, hb⟩; have n0_ := Aside0.mk (Kd.N_below (by (with_reducible repeat (first | apply Kd.N_alloc | apply Kd.N_drewN | apply Kd.N_drew)); exact HO105.out) hb); have n1_ := Aside0.mk (Kd.N_below (by (with_reducible repeat (first | apply Kd.N_alloc | apply Kd.N_drewN | apply Kd.N_drew)); exact HO109.out) hb); have n2_ := Aside0.mk (below_step (by repeat (first | (with_reducible first | exact HB.out | apply below_alloc | apply pw_below_drewN | apply below_drew1) | exact HB.out)) hb); clear HO105; clear HO109; clear HB; have HO105 := n0_; have HO109 := n1_; have HB := n2_; clear n0_ n1_ n2_; (try clear hb); (try clear hb2); (try clear hk); (try clear hi)))
    go_ret
    exact ⟨by first | rfl | (simp [errW_none, errW_some] <;> rfl) | (simp [*, errW_none, errW_some] <;> rfl), by repeat (first | (with_reducible first | exact HB.out | apply below_alloc | apply pw_below_drewN | apply below_drew1) | exact HB.out)⟩
   ·rw [if_neg c9] at H
    have c9b0 : (t112 == t110) = false := beq_eq_false_iff_ne.mpr c9
    have c9b1 : (t112 != t110) = true := bne_iff_ne.mpr c9
    obtain rfl := Option.some.inj H
    go_enter Try.func6, Try.ntmps6
    go_wp2_with (first | ((with_reducible refine gate_callee (f := 23) rfl ?_); refine goesL_ (some 8) rfl rfl Try.func23 (by kernel_rfl) rfl #[.slice A0 l0.length c0] rfl (by (try simp only [List.map_toArray, List.map_cons, List.map_nil]); first | done | rfl | (simp only [List.length_drop, List.length_take]; rfl)) ?_; (with_reducible refine (hanaperlaw06_Small.calls k _ _ l0 true _ ?side1 ?side2 A2.out).mono ?_); (case side1 => repeat (first | exact HR0.out | (with_reducible refine Kd.C_alloc ?_ _) | (with_reducible refine Kd.C_drewN ?_ _) | (with_reducible refine Kd.C_drew ?_))); (case side2 => exact HC0.out); rintro e w18 ⟨rfl, hb⟩; refine ⟨_, rfl, ?_⟩; have n0_ := Aside0.mk (below_step (by repeat (first | (with_reducible first | exact HB.out | apply below_alloc | apply pw_below_drewN | apply below_drew1) | exact HB.out)) hb); clear HB; have HB := n0_; clear n0_; (try clear hb); (try clear hb2); (try clear hk); (try clear hi)) | ((with_reducible refine gate_callee (f := 25) rfl ?_); refine goesL_ (some 13) rfl rfl Try.func25 (by kernel_rfl) rfl #[.slice A0 l0.length c0] rfl (by (try simp only [List.map_toArray, List.map_cons, List.map_nil]); first | done | rfl | (simp only [List.length_drop, List.length_take]; rfl)) ?_; (with_reducible refine (derive_Closure.calls (fun k_ => k_ < w.heap.size) _ _ l0 t103 t106 _ ?side1 A4.out).mono ?_); (case side1 => exact Kd.V_mk HC0.out (Kd.F_below (Kd.C_F k26_heap HR0.out) (by repeat (first | (with_reducible first | exact HB.out | apply below_alloc | apply pw_below_drewN | apply below_drew1) | exact HB.out)))); rintro e w19 ⟨v104, rfl, ho0, hb⟩; refine ⟨_, rfl, ?_⟩; have n0_ := Aside0.mk (Kd.N_lower (Kd.N_mono (ok' := fun k_ => True) ho0 (fun k_ hk_ => trivial)) (below_size (by repeat (first | (with_reducible first | exact HB.out | apply below_alloc | apply pw_below_drewN | apply below_drew1) | exact HB.out)))); have n1_ := Aside0.mk (below_step (by repeat (first | (with_reducible first | exact HB.out | apply below_alloc | apply pw_below_drewN | apply below_drew1) | exact HB.out)) hb); clear HB; have HO105 := n0_; have HB := n1_; clear n0_ n1_; (try clear hb); (try clear hb2); (try clear hk); (try clear hi); (try clear ho0)) | ((with_reducible refine gate_callee (f := 26) rfl ?_); refine goesL_ (some 18) rfl rfl Try.func26 (by kernel_rfl) rfl #[.slice A0 l0.length c0] rfl (by (try simp only [List.map_toArray, List.map_cons, List.map_nil]); first | done | rfl | (simp only [List.length_drop, List.length_take]; rfl)) ?_; (with_reducible refine (hanaperref06_Closure.calls k (fun k_ => k_ < w.heap.size) _ _ l0 t107 t110 _ ?side1 A5.out).mono ?_); (case side1 => exact Kd.V_mk HC0.out (Kd.F_below (Kd.C_F k26_heap HR0.out) (by repeat (first | (with_reducible first | exact HB.out | apply below_alloc | apply pw_below_drewN | apply below_drew1) | exact HB.out)))); rintro e w20 ⟨v108, rfl, ho0, hb⟩; refine ⟨_, rfl, ?_⟩; have n0_ := Aside0.mk (Kd.N_elder' (by (with_reducible repeat (first | apply Kd.N_alloc | apply Kd.N_drewN | apply Kd.N_drew)); exact HO105.out) (Kd.N_base ho0) hb); have n1_ := Aside0.mk (Kd.N_lower (Kd.N_mono (ok' := fun k_ => some k_ ≠ (v104 : Value).ownBlock) ho0 (fun k_ hk_ => Or.elim hk_ (fun hs_ => fun e_ => Nat.not_le.2 hs_ (Kd.N_base HO105.out k_ e_.symm)) (fun hn_ => (Kd.fresh' (Kd.N_lt (by (with_reducible repeat (first | apply Kd.N_alloc | apply Kd.N_drewN | apply Kd.N_drew)); exact HO105.out)) k_ hn_)))) (below_size (by repeat (first | (with_reducible first | exact HB.out | apply below_alloc | apply pw_below_drewN | apply below_drew1) | exact HB.out)))); have n2_ := Aside0.mk (below_step (by repeat (first | (with_reducible first | exact HB.out | apply below_alloc | apply pw_below_drewN | apply below_drew1) | exact HB.out)) hb); clear HO105; clear HB; have HO105 := n0_; have HO109 := n1_; have HB := n2_; clear n0_ n1_ n2_; (try clear hb); (try clear hb2); (try clear hk); (try clear hi); (try clear ho0); obtain ⟨Ao21, co21, eo21⟩ := Kd.N_slice HO105.out; subst eo21; obtain ⟨Ao22, co22, eo22⟩ := Kd.N_slice HO109.out; subst eo22) | ((with_reducible refine gate_callee (f := 27) rfl ?_); refine goesL_ (some 23) rfl rfl Try.func27 (by kernel_rfl) rfl #[.slice Ao21 t103.length co21, .slice Ao22 t107.length co22] rfl (by (try simp only [List.map_toArray, List.map_cons, List.map_nil]); first | done | rfl | (simp only [List.length_drop, List.length_take]; rfl)) ?_; (with_reducible refine (hanaperref05_SameAll.calls k _ _ t103 _ _ t107 true _ ?side1 ?side2 ?side3 ?side4 A6.out).mono ?_); (case side1 => repeat (first | exact (Kd.N_reads' HO105.out).2.2 | (with_reducible refine Kd.C_alloc ?_ _) | (with_reducible refine Kd.C_drewN ?_ _) | (with_reducible refine Kd.C_drew ?_))); (case side2 => exact (Kd.N_reads' HO105.out).2.1); (case side3 => repeat (first | exact (Kd.N_reads' HO109.out).2.2 | (with_reducible refine Kd.C_alloc ?_ _) | (with_reducible refine Kd.C_drewN ?_ _) | (with_reducible refine Kd.C_drew ?_))); (case side4 => exact (Kd.N_reads' HO109.out).2.1); rintro e w23 ⟨rfl, hb⟩; refine ⟨_, rfl, ?_⟩; have n0_ := Aside0.mk (Kd.N_below (by (with_reducible repeat (first | apply Kd.N_alloc | apply Kd.N_drewN | apply Kd.N_drew)); exact HO105.out) hb); have n1_ := Aside0.mk (Kd.N_below (by (with_reducible repeat (first | apply Kd.N_alloc | apply Kd.N_drewN | apply Kd.N_drew)); exact HO109.out) hb); have n2_ := Aside0.mk (below_step (by repeat (first | (with_reducible first | exact HB.out | apply below_alloc | apply pw_below_drewN | apply below_drew1) | exact HB.out)) hb); clear HO105; clear HO109; clear HB; have HO105 := n0_; have HO109 := n1_; have HB := n2_; clear n0_ n1_ n2_; (try clear hb); (try clear hb2); (try clear hk); (try clear hi)) | (go_at_call 28; (with_reducible refine (hanaperlaw06_num.calls t106 t112 _ A8.out).mono ?_); rintro e w' ⟨rfl, ⟨nd, rfl⟩⟩))
    go_ret
    exact ⟨by first | rfl | (simp [errW_none, errW_some] <;> rfl) | (simp [*, errW_none, errW_some] <;> rfl), by repeat (first | (with_reducible first | exact HB.out | apply below_alloc | apply pw_below_drewN | apply below_drew1) | exact HB.out)⟩
  ·replace c7 := Bool.eq_false_iff.mpr c7
   subst c7
   have H1 : (some false) = some r := by rw [if_neg (show ¬ (false = true) by decide)] at H; exact H
   clear H
   have H := H1
   clear H1
   obtain rfl := Option.some.inj H
   go_enter Try.func6, Try.ntmps6
   go_wp2_with (first | ((with_reducible refine gate_callee (f := 23) rfl ?_); refine goesL_ (some 8) rfl rfl Try.func23 (by kernel_rfl) rfl #[.slice A0 l0.length c0] rfl (by (try simp only [List.map_toArray, List.map_cons, List.map_nil]); first | done | rfl | (simp only [List.length_drop, List.length_take]; rfl)) ?_; (with_reducible refine (hanaperlaw06_Small.calls k _ _ l0 true _ ?side1 ?side2 A2.out).mono ?_); (case side1 => repeat (first | exact HR0.out | (with_reducible refine Kd.C_alloc ?_ _) | (with_reducible refine Kd.C_drewN ?_ _) | (with_reducible refine Kd.C_drew ?_))); (case side2 => exact HC0.out); rintro e w24 ⟨rfl, hb⟩; refine ⟨_, rfl, ?_⟩; have n0_ := Aside0.mk (below_step (by repeat (first | (with_reducible first | exact HB.out | apply below_alloc | apply pw_below_drewN | apply below_drew1) | exact HB.out)) hb); clear HB; have HB := n0_; clear n0_; (try clear hb); (try clear hb2); (try clear hk); (try clear hi)) | ((with_reducible refine gate_callee (f := 25) rfl ?_); refine goesL_ (some 13) rfl rfl Try.func25 (by kernel_rfl) rfl #[.slice A0 l0.length c0] rfl (by (try simp only [List.map_toArray, List.map_cons, List.map_nil]); first | done | rfl | (simp only [List.length_drop, List.length_take]; rfl)) ?_; (with_reducible refine (derive_Closure.calls (fun k_ => k_ < w.heap.size) _ _ l0 t103 t106 _ ?side1 A4.out).mono ?_); (case side1 => exact Kd.V_mk HC0.out (Kd.F_below (Kd.C_F k26_heap HR0.out) (by repeat (first | (with_reducible first | exact HB.out | apply below_alloc | apply pw_below_drewN | apply below_drew1) | exact HB.out)))); rintro e w25 ⟨v104, rfl, ho0, hb⟩; refine ⟨_, rfl, ?_⟩; have n0_ := Aside0.mk (Kd.N_lower (Kd.N_mono (ok' := fun k_ => True) ho0 (fun k_ hk_ => trivial)) (below_size (by repeat (first | (with_reducible first | exact HB.out | apply below_alloc | apply pw_below_drewN | apply below_drew1) | exact HB.out)))); have n1_ := Aside0.mk (below_step (by repeat (first | (with_reducible first | exact HB.out | apply below_alloc | apply pw_below_drewN | apply below_drew1) | exact HB.out)) hb); clear HB; have HO105 := n0_; have HB := n1_; clear n0_ n1_; (try clear hb); (try clear hb2); (try clear hk); (try clear hi); (try clear ho0)) | ((with_reducible refine gate_callee (f := 26) rfl ?_); refine goesL_ (some 18) rfl rfl Try.func26 (by kernel_rfl) rfl #[.slice A0 l0.length c0] rfl (by (try simp only [List.map_toArray, List.map_cons, List.map_nil]); first | done | rfl | (simp only [List.length_drop, List.length_take]; rfl)) ?_; (with_reducible refine (hanaperref06_Closure.calls k (fun k_ => k_ < w.heap.size) _ _ l0 t107 t110 _ ?side1 A5.out).mono ?_); (case side1 => exact Kd.V_mk HC0.out (Kd.F_below (Kd.C_F k26_heap HR0.out) (by repeat (first | (with_reducible first | exact HB.out | apply below_alloc | apply pw_below_drewN | apply below_drew1) | exact HB.out)))); rintro e w26 ⟨v108, rfl, ho0, hb⟩; refine ⟨_, rfl, ?_⟩; have n0_ := Aside0.mk (Kd.N_elder' (by (with_reducible repeat (first | apply Kd.N_alloc | apply Kd.N_drewN | apply Kd.N_drew)); exact HO105.out) (Kd.N_base ho0) hb); have n1_ := Aside0.mk (Kd.N_lower (Kd.N_mono (ok' := fun k_ => some k_ ≠ (v104 : Value).ownBlock) ho0 (fun k_ hk_ => Or.elim hk_ (fun hs_ => fun e_ => Nat.not_le.2 hs_ (Kd.N_base HO105.out k_ e_.symm)) (fun hn_ => (Kd.fresh' (Kd.N_lt (by (with_reducible repeat (first | apply Kd.N_alloc | apply Kd.N_drewN | apply Kd.N_drew)); exact HO105.out)) k_ hn_)))) (below_size (by repeat (first | (with_reducible first | exact HB.out | apply below_alloc | apply pw_below_drewN | apply below_drew1) | exact HB.out)))); have n2_ := Aside0.mk (below_step (by repeat (first | (with_reducible first | exact HB.out | apply below_alloc | apply pw_below_drewN | apply below_drew1) | exact HB.out)) hb); clear HO105; clear HB; have HO105 := n0_; have HO109 := n1_; have HB := n2_; clear n0_ n1_ n2_; (try clear hb); (try clear hb2); (try clear hk); (try clear hi); (try clear ho0); obtain ⟨Ao27, co27, eo27⟩ := Kd.N_slice HO105.out; subst eo27; obtain ⟨Ao28, co28, eo28⟩ := Kd.N_slice HO109.out; subst eo28) | ((with_reducible refine gate_callee (f := 27) rfl ?_); refine goesL_ (some 23) rfl rfl Try.func27 (by kernel_rfl) rfl #[.slice Ao27 t103.length co27, .slice Ao28 t107.length co28] rfl (by (try simp only [List.map_toArray, List.map_cons, List.map_nil]); first | done | rfl | (simp only [List.length_drop, List.length_take]; rfl)) ?_; (with_reducible refine (hanaperref05_SameAll.calls k _ _ t103 _ _ t107 false _ ?side1 ?side2 ?side3 ?side4 A6.out).mono ?_); (case side1 => repeat (first | exact (Kd.N_reads' HO105.out).2.2 | (with_reducible refine Kd.C_alloc ?_ _) | (with_reducible refine Kd.C_drewN ?_ _) | (with_reducible refine Kd.C_drew ?_))); (case side2 => exact (Kd.N_reads' HO105.out).2.1); (case side3 => repeat (first | exact (Kd.N_reads' HO109.out).2.2 | (with_reducible refine Kd.C_alloc ?_ _) | (with_reducible refine Kd.C_drewN ?_ _) | (with_reducible refine Kd.C_drew ?_))); (case side4 => exact (Kd.N_reads' HO109.out).2.1); rintro e w29 ⟨rfl, hb⟩; refine ⟨_, rfl, ?_⟩; have n0_ := Aside0.mk (Kd.N_below (by (with_reducible repeat (first | apply Kd.N_alloc | apply Kd.N_drewN | apply Kd.N_drew)); exact HO105.out) hb); have n1_ := Aside0.mk (Kd.N_below (by (with_reducible repeat (first | apply Kd.N_alloc | apply Kd.N_drewN | apply Kd.N_drew)); exact HO109.out) hb); have n2_ := Aside0.mk (below_step (by repeat (first | (with_reducible first | exact HB.out | apply below_alloc | apply pw_below_drewN | apply below_drew1) | exact HB.out)) hb); clear HO105; clear HO109; clear HB; have HO105 := n0_; have HO109 := n1_; have HB := n2_; clear n0_ n1_ n2_; (try clear hb); (try clear hb2); (try clear hk); (try clear hi)))
   go_ret
   exact ⟨by first | rfl | (simp [errW_none, errW_some] <;> rfl) | (simp [*, errW_none, errW_some] <;> rfl), by repeat (first | (with_reducible first | exact HB.out | apply below_alloc | apply pw_below_drewN | apply below_drew1) | exact HB.out)⟩
 ·replace c3 := Bool.eq_false_iff.mpr c3
  subst c3
  have H1 : ((hanaperlaw06_live.f).bind fun t102 => (some t102)) = some r := by rw [if_neg (show ¬ (false = true) by decide)] at H; exact H
  clear H
  have H := H1
  clear H1
  replace H := Option.bind_eq_some_iff.mp H
  obtain ⟨t102, A300, H⟩ := H
  replace H : (some t102) = some r := H
  have A30 := Aside0.mk A300
  clear A300
  obtain rfl := Option.some.inj H
  go_enter Try.func6, Try.ntmps6
  go_wp2_with (first | ((with_reducible refine gate_callee (f := 23) rfl ?_); refine goesL_ (some 8) rfl rfl Try.func23 (by kernel_rfl) rfl #[.slice A0 l0.length c0] rfl (by (try simp only [List.map_toArray, List.map_cons, List.map_nil]); first | done | rfl | (simp only [List.length_drop, List.length_take]; rfl)) ?_; (with_reducible refine (hanaperlaw06_Small.calls k _ _ l0 false _ ?side1 ?side2 A2.out).mono ?_); (case side1 => repeat (first | exact HR0.out | (with_reducible refine Kd.C_alloc ?_ _) | (with_reducible refine Kd.C_drewN ?_ _) | (with_reducible refine Kd.C_drew ?_))); (case side2 => exact HC0.out); rintro e w31 ⟨rfl, hb⟩; refine ⟨_, rfl, ?_⟩; have n0_ := Aside0.mk (below_step (by repeat (first | (with_reducible first | exact HB.out | apply below_alloc | apply pw_below_drewN | apply below_drew1) | exact HB.out)) hb); clear HB; have HB := n0_; clear n0_; (try clear hb); (try clear hb2); (try clear hk); (try clear hi)) | ((with_reducible refine gate_callee (f := 24) rfl ?_); refine goesL_ (some 10) rfl rfl Try.func24 (by kernel_rfl) rfl #[] rfl (by (try simp only [List.map_toArray, List.map_cons, List.map_nil]); first | done | rfl | (simp only [List.length_drop, List.length_take]; rfl)) ?_; (with_reducible refine (hanaperlaw06_live.calls  t102 _ A30.out).mono ?_); rintro e w32 ⟨rfl, hb⟩; refine ⟨_, rfl, ?_⟩; have n0_ := Aside0.mk (below_step (by repeat (first | (with_reducible first | exact HB.out | apply below_alloc | apply pw_below_drewN | apply below_drew1) | exact HB.out)) hb); clear HB; have HB := n0_; clear n0_; (try clear hb); (try clear hb2); (try clear hk); (try clear hi)))
  go_ret
  exact ⟨by first | rfl | (simp [errW_none, errW_some] <;> rfl) | (simp [*, errW_none, errW_some] <;> rfl), by repeat (first | (with_reducible first | exact HB.out | apply below_alloc | apply pw_below_drewN | apply below_drew1) | exact HB.out)⟩

end Go.Proofs.Ytgohmganimamcaa.PZ
/- The law DeriveCloses. -/
namespace Go.Proofs.Ytgohmganimamcaa.Term
set_option linter.unusedVariables false
set_option linter.unusedSimpArgs false
open Go.RowKit Go.Proofs.Ytgohmganimamcaa.Base Go.Proofs.Ytgohmganimamcaa.TlvPlain Go.Proofs.Ytgohmganimamcaa.Lo Go.Proofs.Ytgohmganimamcaa.RdPlain Go.Proofs.Ytgohmganimamcaa.Aid Go.Proofs.Ytgohmganimamcaa.PZ Go.Proofs.YtgohmganimamcaaW.PrintWords Go.Proofs.YtgohmganimamcaaW.PrintLast Go.Proofs.YtgohmganimamcaaW.PrintMore
theorem chas_ev {l : List ST} (t : ST) (hl : l.length ≤ 1000000) (hx : ∀ x ∈ l, lenT x) : Ev (fun k => hanaperref06_Has.f k l t.f0 t.f1 t.f2 t.f3) (l.any (fun x => eqT x t)) := by
  unfold hanaperref06_Has.f
  have loop : ∀ (n i : Nat), i + n = l.length → Ev (fun k => hanaperref06_Has.l0 k l (i : Int) t.f0 t.f1 t.f2 t.f3) ((l.drop i).any (fun x => eqT x t)) := by
    intro n
    induction n with
    | zero =>
      intro i hi
      rw [List.drop_of_length_le (by omega)]
      exact Ev.step (fun k => by simp only [hanaperref06_Has.l0]; rfl) (neg (by omega) (now rfl))
    | succ n ih =>
      intro i hi
      have hlt : i < l.length := by omega
      rw [drop_cons _ _ hlt, List.any_cons]
      refine Ev.step (fun k => by simp only [hanaperref06_Has.l0]; rfl) (pos (by omega) (pos (by omega) ?_))
      rw [rd_at l i hlt]
      refine evBind (rsame_ev _ l[i] t (Nat.lt_succ_self _) (hx _ (List.getElem_mem hlt))) ?_
      cases eqT l[i] t with
      | true => exact pos rfl (now rfl)
      | false =>
        refine neg Bool.false_ne_true ?_
        rw [inc hlt (by omega)]
        exact ih (i + 1) (by omega)
  exact loop l.length 0 (by omega)
/-- A universe of small terms. -/
def SmU (U : List ST) : Prop := UnivD U ∧ U.length ≤ 2000 ∧ ∀ y ∈ U, lenT y
theorem DI.sm {U xs : List ST} (hU : SmU U) (h : DI U xs) : xs.length ≤ 2000 ∧ ∀ y ∈ xs, lenT y := ⟨Nat.le_trans (nodup_le _ _ h.1 h.2) hU.2.1, fun y hy => hU.2.2 y (h.2 y hy)⟩
theorem gives_ev {U xs : List ST} (hU : SmU U) (h : DI U xs) {t : ST} (h5 : t.f0 = 5 → 2 ≤ t.f3.length) : Ev (fun k => hanaperref06_gives.f k xs t.f0 t.f1 t.f2 t.f3) (giveL xs t) := by
  obtain ⟨n1, n2⟩ := h.sm hU
  unfold hanaperref06_gives.f
  by_cases c4 : t.f0 = 4
  · have hg : giveL xs t = t.f3 := by unfold giveL; rw [if_pos c4]
    rw [hg]
    exact pos c4 (now rfl)
  · refine neg c4 ?_
    by_cases c5 : t.f0 = 5
    · have hl := h5 c5
      refine pos c5 (pos (by omega) ?_)
      rw [show (1 : Int) = ((1 : Nat) : Int) from rfl, rd_at t.f3 1 (by omega)]
      have hgd : t.f3.getD 1 z_T = t.f3[1] := by simp [List.getD_eq_getElem?_getD, List.getElem?_eq_getElem (show 1 < t.f3.length by omega)]
      have hg : giveL xs t = if xs.any (fun y => eqT y t.f3[1]) = true then t.f3.take 1 else [] := by
        unfold giveL
        rw [if_neg c4, hgd]
        cases xs.any (fun y => eqT y t.f3[1]) <;> simp [c5]
      rw [hg]
      refine evBind (chas_ev t.f3[1] (by omega) n2) ?_
      cases hb : xs.any (fun y => eqT y t.f3[1]) with
      | true => exact pos rfl (pos (by omega) (now rfl))
      | false => exact neg Bool.false_ne_true (now rfl)
    · have hg : giveL xs t = [] := by unfold giveL; rw [if_neg c4, if_neg (fun h => c5 h.1)]
      rw [hg]
      exact neg c5 (now rfl)
theorem foldl_at (gl : List ST) (j : Nat) (h : j < gl.length) (a : List ST) : (gl.drop j).foldl putD a = (gl.drop (j + 1)).foldl putD (putD a gl[j]) := by
  rw [drop_cons _ _ h]
  rfl
/-- What an element gives, put. -/
theorem l5_ev {U : List ST} (hU : SmU U) (gl : List ST) (hg : ∀ t ∈ gl, t ∈ U) (hgl : gl.length ≤ 1000000) (m i : Nat) (hi : i < 1000000) (v : List ST × Int) : ∀ (n j : Nat) (xs : List ST), j + n = gl.length → DI U xs →
    Ev (fun k => hanaperref06_Closure.l4 k ((gl.drop j).foldl putD xs) (m : Int) ((i + 1 : Nat) : Int)) v → Ev (fun k => hanaperref06_Closure.l5 k xs (m : Int) (i : Int) gl (j : Int)) v := by
  intro n
  induction n with
  | zero =>
    intro j xs hj hd h
    rw [List.drop_of_length_le (by omega)] at h
    refine Ev.step (fun k => by simp only [hanaperref06_Closure.l5]; rfl) (neg (by omega) ?_)
    rw [show wrap64 ((i : Int) + 1) = ((i + 1 : Nat) : Int) from by rw [Aid.w64 (by omega) (by omega)]; omega]
    exact h
  | succ n ih =>
    intro j xs hj hd h
    have hlt : j < gl.length := by omega
    rw [foldl_at gl j hlt] at h
    have hin := hg _ (List.getElem_mem hlt)
    have hd2 := putD_di hd hin
    obtain ⟨n1, n2⟩ := hd.sm hU
    refine Ev.step (fun k => by simp only [hanaperref06_Closure.l5]; rfl) (pos (by omega) (pos (by omega) ?_))
    rw [rd_at gl j hlt]
    refine evBind (chas_ev gl[j] (by omega) n2) ?_
    have hp : putD xs gl[j] = if (xs.any (fun y => eqT y gl[j])) = true then xs else xs ++ [gl[j]] := rfl
    cases hb : xs.any (fun y => eqT y gl[j]) with
    | true =>
      rw [hb, if_pos rfl] at hp
      rw [hp] at h
      refine pos rfl ?_
      rw [inc hlt (by omega)]
      exact ih (j + 1) xs (by omega) hd h
    | false =>
      rw [hb, if_neg Bool.false_ne_true] at hp
      rw [hp] at h hd2
      refine neg Bool.false_ne_true (pos (by omega) ?_)
      rw [inc hlt (by omega), eta_T]
      exact ih (j + 1) _ (by omega) hd2 h
theorem range_drop (n i : Nat) (h : i < n) (f : List ST → Nat → List ST) (a : List ST) : ((List.range n).drop i).foldl f a = ((List.range n).drop (i + 1)).foldl f (f a i) := by
  rw [List.drop_eq_getElem_cons (by simpa using h)]
  simp
/-- A pass. -/
theorem l4_ev {U : List ST} (hU : SmU U) (m : Nat) (hm : m ≤ 2000) (v : List ST × Int) : ∀ (n i : Nat) (xs : List ST), i + n = m → m ≤ xs.length → DI U xs →
    (∀ ys, ys = ((List.range m).drop i).foldl stepD xs → DI U ys → Ev (fun k => if (ys.length : Int) = (m : Int) then some (ys, 0) else hanaperref06_Closure.l3 k ys) v) → Ev (fun k => hanaperref06_Closure.l4 k xs (m : Int) (i : Int)) v := by
  intro n
  induction n with
  | zero =>
    intro i xs hi hl hd h
    refine Ev.step (fun k => by simp only [hanaperref06_Closure.l4]; rfl) (neg (by omega) ?_)
    exact h xs (by rw [List.drop_of_length_le (by simp; omega)]; rfl) hd
  | succ n ih =>
    intro i xs hi hl hd h
    have hlt : i < xs.length := by omega
    obtain ⟨n1, n2⟩ := hd.sm hU
    have hin := hd.2 _ (List.getElem_mem hlt)
    have hu := hU.1 _ hin
    refine Ev.step (fun k => by simp only [hanaperref06_Closure.l4]; rfl) (pos (by omega) (pos (by omega) (pos (by omega) ?_)))
    rw [rd_at xs i hlt]
    refine evBind (gives_ev hU hd hu.2.1) ?_
    have hgU : ∀ t ∈ giveL xs xs[i], t ∈ U := fun t ht => hu.2.2 t (give_mem ht)
    have hgl : (giveL xs xs[i]).length ≤ 1000000 := by
      have h1 := ((lenT_eq _).1 (n2 _ (List.getElem_mem hlt))).2.1
      have h2 : (giveL xs xs[i]).length ≤ xs[i].f3.length := by
        unfold giveL
        split
        · exact Nat.le_refl _
        · split
          · rw [List.length_take]; omega
          · exact Nat.zero_le _
      omega
    have hst : stepD xs i = (giveL xs xs[i]).foldl putD xs := by
      unfold stepD
      rw [show xs.getD i z_T = xs[i] from by simp [List.getD_eq_getElem?_getD, List.getElem?_eq_getElem hlt]]
    refine l5_ev hU _ hgU hgl m i (by omega) v (giveL xs xs[i]).length 0 xs (by omega) hd ?_
    rw [List.drop_zero, ← hst]
    obtain ⟨r, hr⟩ := step_pre xs i
    refine ih (i + 1) (stepD xs i) (by omega) (by rw [hr, List.length_append]; omega) (step_di hU.1 hlt hd) (fun ys hys hd2 => h ys ?_ hd2)
    rw [hys, range_drop m i (by omega)]
theorem l3_ev {U : List ST} (hU : SmU U) : ∀ (n : Nat) (xs : List ST), DI U xs → U.length < xs.length + n → Ev (fun k => hanaperref06_Closure.l3 k xs) (closeN n xs, 0)
  | 0, xs, h, hn => absurd (nodup_le xs U h.1 h.2) (by omega)
  | n + 1, xs, h, hn => by
    obtain ⟨n1, _⟩ := h.sm hU
    refine Ev.step (fun k => by simp only [hanaperref06_Closure.l3]; rfl) ?_
    refine l4_ev hU xs.length n1 _ xs.length 0 xs (by omega) (Nat.le_refl _) h (fun ys hys hd => ?_)
    have hys : ys = passD xs := by rw [hys, List.drop_zero]; rfl
    subst hys
    obtain ⟨_, r, hr⟩ := passD_di hU.1 h
    rw [closeN]
    by_cases hg : (passD xs).length > xs.length
    · rw [if_pos hg]
      exact neg (by omega) (l3_ev hU n (passD xs) hd (by omega))
    · rw [if_neg hg]
      have : xs.length ≤ (passD xs).length := by rw [hr, List.length_append]; omega
      exact pos (by omega) (now rfl)
/-- The terms put, one by one. -/
theorem l2_ev {U : List ST} (hU : SmU U) (l : List ST) (hl : ∀ t ∈ l, t ∈ U) (hn : l.length ≤ 1000000) (v : List ST × Int) : ∀ (n i : Nat) (xs : List ST), i + n = l.length → DI U xs →
    Ev (fun k => hanaperref06_Closure.l3 k ((l.drop i).foldl putD xs)) v → Ev (fun k => hanaperref06_Closure.l2 k l xs (i : Int)) v := by
  intro n
  induction n with
  | zero =>
    intro i xs hi hd h
    rw [List.drop_of_length_le (by omega)] at h
    exact Ev.step (fun k => by simp only [hanaperref06_Closure.l2]; rfl) (neg (by omega) h)
  | succ n ih =>
    intro i xs hi hd h
    have hlt : i < l.length := by omega
    rw [foldl_at l i hlt] at h
    have hin := hl _ (List.getElem_mem hlt)
    have hd2 := putD_di hd hin
    obtain ⟨n1, n2⟩ := hd.sm hU
    refine Ev.step (fun k => by simp only [hanaperref06_Closure.l2]; rfl) (pos (by omega) (pos (by omega) ?_))
    rw [rd_at l i hlt]
    refine evBind (chas_ev l[i] (by omega) n2) ?_
    have hp : putD xs l[i] = if (xs.any (fun y => eqT y l[i])) = true then xs else xs ++ [l[i]] := rfl
    cases hb : xs.any (fun y => eqT y l[i]) with
    | true =>
      rw [hb, if_pos rfl] at hp
      rw [hp] at h
      refine pos rfl ?_
      rw [inc hlt (by omega)]
      exact ih (i + 1) xs (by omega) hd h
    | false =>
      rw [hb, if_neg Bool.false_ne_true] at hp
      rw [hp] at h hd2
      refine neg Bool.false_ne_true (pos (by omega) ?_)
      rw [inc hlt (by omega), eta_T]
      exact ih (i + 1) _ (by omega) hd2 h
/-- How many parts there are. -/
theorem l1_ev (l : List ST) (hm : ∀ x ∈ l, mayT 8 x = true) (hlen : ∀ x ∈ l, lenT x) (hn : l.length ≤ 1000000) (v : List ST × Int) (hj : ∀ s : Nat, (s > 2000 ↔ (univT l).length > 2000) → Ev (fun k => hanaperref06_Closure.j2 k l (s : Int)) v) :
    ∀ (n i : Nat), i + n = l.length → Ev (fun k => hanaperref06_Closure.l1 k l (((univT (l.take i)).length : Nat) : Int) (i : Int)) v := by
  have hall : ∀ i, (univT (l.take i)).length ≤ (univT l).length := fun i => by
    have h : univT l = univT (l.take i) ++ univT (l.drop i) := by unfold univT; rw [← List.flatten_append, ← List.map_append, List.take_append_drop]
    rw [h, List.length_append]; omega
  intro n
  induction n with
  | zero =>
    intro i hi
    refine Ev.step (fun k => by simp only [hanaperref06_Closure.l1]; rfl) (neg (by omega) (hj _ ?_))
    rw [List.take_of_length_le (by omega)]
  | succ n ih =>
    intro i hi
    have hlt : i < l.length := by omega
    refine Ev.step (fun k => by simp only [hanaperref06_Closure.l1]; rfl) (pos (by omega) ?_)
    by_cases hs : (univT (l.take i)).length ≤ 2000
    · refine pos (by omega) (pos (by omega) ?_)
      rw [rd_at l i hlt]
      refine evBind (rparts_ev 8 l[i] (Nat.le_refl _) (hm _ (List.getElem_mem hlt))) ?_
      have hp : (partsT l[i]).length ≤ 1000000 := by
        have h := partsV_len l[i]
        unfold partsV at h
        rw [if_pos (hm _ (List.getElem_mem hlt))] at h
        exact h
      have hu : univT (l.take (i + 1)) = univT (l.take i) ++ partsT l[i] := by
        unfold univT
        rw [take_snoc l i hlt, List.map_append, List.flatten_append]
        simp
      rw [inc hlt (by omega), show wrap64 (((univT (l.take i)).length : Int) + ((partsT l[i]).length : Int)) = (((univT (l.take (i + 1))).length : Nat) : Int) from by rw [Aid.w64 (by omega) (by omega), hu, List.length_append]; omega]
      exact ih (i + 1) (by omega)
    · refine neg (by omega) (hj _ ⟨fun _ => by have := hall i; omega, fun _ => by omega⟩)
theorem rclo_ev {l : List ST} (hw : ∀ x ∈ l, wfT x) (hlen : ∀ x ∈ l, lenT x) (hn : l.length ≤ 24) : Ev (fun k => hanaperref06_Closure.f k l) (cloV l) := by
  unfold hanaperref06_Closure.f
  have loop : ∀ (n i : Nat), i + n = l.length → (∀ x ∈ l.take i, mayT 8 x = true) → Ev (fun k => hanaperref06_Closure.l0 k l (i : Int)) (cloV l) := by
    intro n
    induction n with
    | zero =>
      intro i hi hm
      rw [List.take_of_length_le (by omega)] at hm
      refine Ev.step (fun k => by simp only [hanaperref06_Closure.l0]; rfl) (neg (by omega) ?_)
      have ha : l.all (fun x => mayT 8 x) = true := List.all_eq_true.2 hm
      have h := l1_ev l hm hlen (by omega) (cloV l) (fun s hs => ?_) l.length 0 (by omega)
      · rw [List.take_zero] at h
        exact h
      · refine Ev.step (fun k => by simp only [hanaperref06_Closure.j2]; rfl) (neg (by omega) (Ev.step (fun k => by simp only [hanaperref06_Closure.j3]; rfl) ?_))
        by_cases hu : (univT l).length > 2000
        · refine pos (decide_eq_true (by have := hs.2 hu; omega)) (now ?_)
          have hr : rightV l = 4 := by unfold rightV; rw [if_pos ha, if_pos hu]
          unfold cloV
          rw [hr, if_neg (by decide)]
        · have hr : rightV l = 0 := by unfold rightV; rw [if_pos ha, if_neg hu, if_neg (by omega)]
          have hU : SmU (univT l) := ⟨univ_ok hm hw, by omega, fun y hy => by
            obtain ⟨x, hx, hp⟩ := univ_mem.1 hy
            exact parts_lenT x (hlen x hx) y hp⟩
          have hc : cloV l = (closeN 2001 (l.foldl putD []), 0) := by unfold cloV; rw [if_pos hr]; rfl
          rw [hc]
          refine neg (by simp only [decide_eq_true_eq]; intro h; exact hu (hs.1 (by omega))) ?_
          have h0 : DI (univT l) [] := ⟨List.nodup_nil, fun x hx => by cases hx⟩
          refine l2_ev hU l univ_self (by omega) _ l.length 0 [] (by omega) h0 ?_
          rw [List.drop_zero]
          exact l3_ev hU 2001 _ (fold_di l [] h0 univ_self) (by have := hU.2.1; omega)
    | succ n ih =>
      intro i hi hm
      have hlt : i < l.length := by omega
      refine Ev.step (fun k => by simp only [hanaperref06_Closure.l0]; rfl) (pos (by omega) (pos (by omega) ?_))
      rw [rd_at l i hlt]
      refine evBind (rMay_ev l[i]) ?_
      cases hb : mayT 8 l[i] with
      | true =>
        refine pos rfl ?_
        rw [inc hlt (by omega)]
        refine ih (i + 1) (by omega) (fun x hx => ?_)
        rw [take_snoc l i hlt, List.mem_append] at hx
        rcases hx with hx | hx
        · exact hm x hx
        · simp only [List.mem_singleton] at hx
          rw [hx]; exact hb
      | false =>
        refine neg Bool.false_ne_true (now ?_)
        have hr : rightV l = 1 := by
          unfold rightV
          rw [if_neg (by
            intro h
            have := List.all_eq_true.1 h l[i] (List.getElem_mem hlt)
            rw [hb] at this
            cases this)]
        unfold cloV
        rw [hr, if_neg (by decide)]
  exact loop l.length 0 (by omega) (fun x hx => by simp at hx)
theorem closes_ev {l : List ST} (hw : ∀ x ∈ l, wfT x) (l1 : l.length ≤ 9223372036854775807) : Ev (fun k => hanaperlaw06_DeriveCloses.f k l) true := by
  unfold hanaperlaw06_DeriveCloses.f
  obtain ⟨b1, e1, g1⟩ := small6_ev l l1
  refine evBind e1 ?_
  cases b1 with
  | false => exact neg Bool.false_ne_true (bindSome rfl (now rfl))
  | true =>
    obtain ⟨n1, hlen⟩ := g1 rfl
    have hcf : derive_Closure.f l = some (cloV l) := by
      unfold derive_Closure.f
      rw [if_pos ((wfBs_iff l).2 (wfTs_of hw))]
    have hsm : (cloV l).1.length ≤ 1000000 ∧ ∀ p ∈ (cloV l).1, lenT p := by
      unfold cloV
      by_cases h0 : rightV l = 0
      · rw [if_pos h0]
        exact ⟨Nat.le_trans (close_univ hw h0).2 (by omega), close_lenT hw h0 hlen⟩
      · rw [if_neg h0]
        exact ⟨Nat.zero_le _, fun p hp => by cases hp⟩
    exact pos rfl (bindSome hcf (evBind (rclo_ev hw hlen n1) (evBind (sameall_ev _ hsm.1 hsm.2) (pos rfl (bindSome (a := (cloV l).2) rfl (pos rfl (bindSome rfl (now rfl))))))))
theorem closesWalk (w : World) (A : Option Addr) (c : Nat) (l : List ST) (hA : Kd.C k26 w A l.length l) (hl : l.length ≤ c) (okl : ∀ k ∈ l, wfT k) :
    Calls Try.prog 6 #[.slice A l.length c] w fun e w' => e = .returned (.bool true) ∧ Below w.heap.size w w' := by
  obtain ⟨k, h⟩ := (closes_ev okl hA.2.1).rounds
  exact hanaperlaw06_DeriveCloses.calls k A c l true w hA hl h
end Go.Proofs.Ytgohmganimamcaa.Term
