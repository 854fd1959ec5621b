/- Own and printed texts, laid together. -/
import Derived.Test.YtgdpabedlghiaaaHdFA
import Derived.Test.YtgdpabedlghiaaaHdFC
import Derived.Test.YtgdpabedlghiaaaHdFB
-- printed for this claim by a program (pall.sh)
namespace Go.Proofs.Ytgdpabedlghiaaa.PZ
open Go.RowKit Go.Proofs.YtgdpabedlghiaaaW.PrintWords Go.Proofs.YtgdpabedlghiaaaW.PrintLast Go.Proofs.YtgdpabedlghiaaaW.PrintMore
attribute [local go_sem] max2_int min2_int max_two min_two max_three min_three max_four min_four   -- for this text's walks alone
set_option linter.unusedVariables false
set_option linter.unusedSimpArgs false

/-! ### hanaperref22_Small: function 32 -/
mutual
def hanaperref22_Small.l0 : Nat → List (S52) → Int → Option (Bool)
  | 0, _, _ => none
  | k + 1, x0, x3 => if x3 < (x0.length : Int) then (hanaperref22_Small.j1 k x0 x3 (decide (x3 < 40))) else (hanaperref22_Small.j1 k x0 x3 false)
def hanaperref22_Small.j1 : Nat → List (S52) → Int → Bool → Option (Bool)
  | 0, _, _, _ => none
  | k + 1, x0, x3, x11 => if x11 = true then (if 0 ≤ x3 then (if x3 < (x0.length : Int) then (if (((rd_T52 x0 x3).f0).size : Int) > 100 then (some false) else ((hanaperref20_Small.f k ((rd_T52 x0 x3).f1.f0) ((rd_T52 x0 x3).f1.f1) ((rd_T52 x0 x3).f1.f2) ((rd_T52 x0 x3).f1.f3) ((rd_T52 x0 x3).f1.f4)).bind fun t361 => (if t361 = true then (hanaperref22_Small.l0 k x0 (wrap64 (x3 + 1))) else (some false)))) else (none)) else (none)) else (some (decide ((x0.length : Int) ≤ 30)))
end
def hanaperref22_Small.f (k : Nat) (l0 : List (S52)) : Option (Bool) := hanaperref22_Small.l0 k l0 0
theorem hanaperref22_Small.mono_l : ∀ k, (∀ y0 y1, LeO (hanaperref22_Small.l0 k y0 y1) (hanaperref22_Small.l0 (k + 1) y0 y1)) ∧ (∀ y0 y1 y2, LeO (hanaperref22_Small.j1 k y0 y1 y2) (hanaperref22_Small.j1 (k + 1) y0 y1 y2))
  | 0 => ⟨fun _ _ r h => by simp [hanaperref22_Small.l0] at h, fun _ _ _ r h => by simp [hanaperref22_Small.j1] at h⟩
  | k + 1 => by
    obtain ⟨ih0, ih1⟩ := hanaperref22_Small.mono_l k
    refine ⟨?_, ?_⟩
    · intro y0 y1
      unfold hanaperref22_Small.l0
      repeat' first
      | (with_reducible exact ih0 _ _)
      | (with_reducible exact ih1 _ _ _)
      | (with_reducible exact hanaperref20_Small.mono _ _ _ _ _ _)
      | (with_reducible exact LeO.refl _)
      | (with_reducible exact LeO.none _)
      | (with_reducible refine LeO.ite ?_ ?_)
      | (with_reducible refine LeO.bind ?_ (fun _ => ?_))
      | exact ih0 _ _
      | exact ih1 _ _ _
      | exact hanaperref20_Small.mono _ _ _ _ _ _
      | exact LeO.none _
      | refine LeO.ite ?_ ?_
      | refine LeO.bind ?_ (fun _ => ?_)
    · intro y0 y1 y2
      unfold hanaperref22_Small.j1
      repeat' first
      | (with_reducible exact ih0 _ _)
      | (with_reducible exact ih1 _ _ _)
      | (with_reducible exact hanaperref20_Small.mono _ _ _ _ _ _)
      | (with_reducible exact LeO.refl _)
      | (with_reducible exact LeO.none _)
      | (with_reducible refine LeO.ite ?_ ?_)
      | (with_reducible refine LeO.bind ?_ (fun _ => ?_))
      | exact ih0 _ _
      | exact ih1 _ _ _
      | exact hanaperref20_Small.mono _ _ _ _ _ _
      | exact LeO.none _
      | refine LeO.ite ?_ ?_
      | refine LeO.bind ?_ (fun _ => ?_)
theorem hanaperref22_Small.mono : ∀ a0 k, LeO (hanaperref22_Small.f k a0) (hanaperref22_Small.f (k + 1) a0) := by
  intro a0 k
  obtain ⟨ih0, ih1⟩ := hanaperref22_Small.mono_l k
  unfold hanaperref22_Small.f
  repeat' first
      | (with_reducible exact ih0 _ _)
      | (with_reducible exact ih1 _ _ _)
      | (with_reducible exact hanaperref20_Small.mono _ _ _ _ _ _)
      | (with_reducible exact LeO.refl _)
      | (with_reducible exact LeO.none _)
      | (with_reducible refine LeO.ite ?_ ?_)
      | (with_reducible refine LeO.bind ?_ (fun _ => ?_))
      | exact ih0 _ _
      | exact ih1 _ _ _
      | exact hanaperref20_Small.mono _ _ _ _ _ _
      | exact LeO.none _
      | refine LeO.ite ?_ ?_
      | refine LeO.bind ?_ (fun _ => ?_)
set_option maxHeartbeats 8000000 in
set_option maxRecDepth 100000 in
theorem hanaperref22_Small.calls (k : Nat) (A0 : Option Addr) (c0 : Nat) (l0 : List (S52)) (r : Bool) (w : World) (hr0 : Kd.C k52 w A0 l0.length l0) (hc0 : l0.length ≤ c0) (h : hanaperref22_Small.f k l0 = some r) :
    Calls Try.prog 32 #[.slice A0 l0.length c0] w fun e w' => e = .returned (.bool r) ∧ Below w.heap.size w w' := by
  have hu40 := Try.underlying40
  have HR0 := Aside0.mk hr0
  have HC0 := Aside0.mk hc0
  clear hr0 hc0
  have HB := Aside0.mk (Below.refl w.heap.size w)
  have H : (hanaperref22_Small.l0 k l0 0) = some r := h
  clear h
  have H' := Aside0.mk H
  clear H
  go_enter Try.func32, Try.ntmps32
  go_wp2
  go_loopg [3] k (fun kq v3 w' => ∃ (x3_1 : Int), v3 = .int .i64 x3_1 ∧ Aside0 (hanaperref22_Small.l0 kq l0 x3_1 = some r) ∧ Aside0 (kq ≤ k) ∧ Aside0 (Below w.heap.size w w'))
  case atStart => exact ⟨(0), (by first | rfl | (simp; done) | (simp [*]; done)), H', ⟨Nat.le_refl _⟩, ⟨by repeat (first | (with_reducible first | exact HB.out | apply below_alloc | apply pw_below_drewN | apply below_drew1) | exact HB.out)⟩⟩
  case round =>
    clear H'
    obtain ⟨x3_1, rfl, HA, HK1, HB⟩ := hrel
    cases gk with
    | zero => exact absurd HA.out (by simp [hanaperref22_Small.l0])
    | succ k1 =>
      have H := HA.out
      clear HA
      simp only [hanaperref22_Small.l0] at H
      have HC2 := Aside0.mk H
      clear H
      go_upto_region 2 with (fail)
      go_cut [11] (fun v11 wc => ∃ (kq : Nat) (x11_1 : Bool), v11 = .bool x11_1 ∧ Aside0 (hanaperref22_Small.j1 kq l0 x3_1 x11_1 = some r) ∧ Aside0 (kq ≤ k1) ∧ Aside0 (Below w.heap.size w wc))
      case first =>
        have H := HC2.out
        clear HC2
        by_cases c3 : x3_1 < (l0.length : Int)
        · rw [if_pos c3] at H
          have c3b0 : decide (x3_1 < (l0.length : Int)) = true := decide_eq_true c3
          clear c3
          (first | rw [c3b0] | (simp only [i64_w, i32_w]; rw [c3b0]) | skip)
          have H' := Aside0.mk H
          clear H
          go_wp2
          go_meet
          case rel => exact ⟨_, (decide (x3_1 < 40)), (by first | rfl | (simp; done) | (simp [*]; done)), H', ⟨by have := HK1.out; first | omega | exact Nat.le_refl _⟩, ⟨by repeat (first | (with_reducible first | exact HB.out | apply below_alloc | apply pw_below_drewN | apply below_drew1) | exact HB.out)⟩⟩
        · rw [if_neg c3] at H
          have c3b0 : decide (x3_1 < (l0.length : Int)) = false := decide_eq_false c3
          clear c3
          (first | rw [c3b0] | (simp only [i64_w, i32_w]; rw [c3b0]) | skip)
          have H' := Aside0.mk H
          clear H
          go_wp2
          go_meet
          case rel => exact ⟨_, (false), (by first | rfl | (simp; done) | (simp [*]; done)), H', ⟨by have := HK1.out; first | omega | exact Nat.le_refl _⟩, ⟨by repeat (first | (with_reducible first | exact HB.out | apply below_alloc | apply pw_below_drewN | apply below_drew1) | exact HB.out)⟩⟩
      case rest =>
        clear HC2
        try clear p2
        try clear c3
        try clear c3b0
        obtain ⟨kq, x11_1, rfl, HA, HJ1, HB⟩ := hcut
        cases kq with
        | zero => exact absurd HA.out (by simp [hanaperref22_Small.j1])
        | succ kj1 =>
          have H := HA.out
          clear HA
          simp only [hanaperref22_Small.j1] at H
          by_cases c4 : x11_1 = true
          · subst c4
            have H1 : (if 0 ≤ x3_1 then (if x3_1 < (l0.length : Int) then (if (((rd_T52 l0 x3_1).f0).size : Int) > 100 then (some false) else ((hanaperref20_Small.f kj1 ((rd_T52 l0 x3_1).f1.f0) ((rd_T52 l0 x3_1).f1.f1) ((rd_T52 l0 x3_1).f1.f2) ((rd_T52 l0 x3_1).f1.f3) ((rd_T52 l0 x3_1).f1.f4)).bind fun t361 => (if t361 = true then (hanaperref22_Small.l0 kj1 l0 (wrap64 (x3_1 + 1))) else (some false)))) else (none)) else (none)) = some r := by rw [if_pos rfl] at H; exact H
            clear H
            have H := H1
            clear H1
            by_cases c5 : 0 ≤ x3_1
            · rw [if_pos c5] at H
              have c5b0 : decide (0 ≤ x3_1) = true := decide_eq_true c5
              clear c5
              by_cases c6 : x3_1 < (l0.length : Int)
              · rw [if_pos c6] at H
                have c6b0 : decide (x3_1 < (l0.length : Int)) = true := decide_eq_true c6
                clear c6
                by_cases c7 : (((rd_T52 l0 x3_1).f0).size : Int) > 100
                · rw [if_pos c7] at H
                  have c7b0 : decide (100 < (((rd_T52 l0 x3_1).f0).size : Int)) = true := decide_eq_true c7
                  have c7b1 : decide (100 < ((rd_T52 l0 x3_1).f0).size) = true := decide_eq_true (by omega)
                  clear c7
                  obtain rfl := Option.some.inj H
                  have p359 : 0 ≤ (x3_1 : Int) := of_decide_eq_true (by first | (with_reducible assumption) | assumption)
                  have q359 : x3_1 < (l0.length : Int) := of_decide_eq_true (by first | (with_reducible assumption) | assumption)
                  obtain ⟨ad359, A359_5, c359_5, e359, hx359_0, hx359_1, hx359_2, hx359_3, hx359_4, hx359_5, hx359_6, hl359_5, hi359_5⟩ := at_T52 HR0.out x3_1 p359 q359
                  cases e359
                  replace hx359_0 := (HB.out.cell (World.block_lt_of_cell? w _ hx359_0)).trans hx359_0
                  replace hx359_1 := (HB.out.cell (World.block_lt_of_cell? w _ hx359_1)).trans hx359_1
                  replace hx359_2 := (HB.out.cell (World.block_lt_of_cell? w _ hx359_2)).trans hx359_2
                  replace hx359_3 := (HB.out.cell (World.block_lt_of_cell? w _ hx359_3)).trans hx359_3
                  replace hx359_4 := (HB.out.cell (World.block_lt_of_cell? w _ hx359_4)).trans hx359_4
                  replace hx359_5 := (HB.out.cell (World.block_lt_of_cell? w _ hx359_5)).trans hx359_5
                  replace hx359_6 := (HB.out.cell (World.block_lt_of_cell? w _ hx359_6)).trans hx359_6
                  have HR359_5 := Aside0.mk hi359_5
                  have HC359_5 := Aside0.mk hl359_5
                  clear hi359_5 hl359_5
                  replace p359 := eq_true p359
                  replace q359 := eq_true q359
                  go_wp2
                  go_ret
                  exact ⟨by first | rfl | (simp [errW_none, errW_some] <;> rfl) | (simp [*, errW_none, errW_some] <;> rfl), by repeat (first | (with_reducible first | exact HB.out | apply below_alloc | apply pw_below_drewN | apply below_drew1) | exact HB.out)⟩
                · rw [if_neg c7] at H
                  have c7b0 : decide (100 < (((rd_T52 l0 x3_1).f0).size : Int)) = false := decide_eq_false c7
                  have c7b1 : decide (100 < ((rd_T52 l0 x3_1).f0).size) = false := decide_eq_false (by omega)
                  clear c7
                  replace H := Option.bind_eq_some_iff.mp H
                  obtain ⟨t361, A80, H⟩ := H
                  replace H : (if t361 = true then (hanaperref22_Small.l0 kj1 l0 (wrap64 (x3_1 + 1))) else (some false)) = some r := H
                  have A8 := Aside0.mk A80
                  clear A80
                  by_cases c9 : t361 = true
                  · subst c9
                    have H1 : (hanaperref22_Small.l0 kj1 l0 (wrap64 (x3_1 + 1))) = some r := by rw [if_pos rfl] at H; exact H
                    clear H
                    have H := H1
                    clear H1
                    have H' := Aside0.mk H
                    clear H
                    have p359 : 0 ≤ (x3_1 : Int) := of_decide_eq_true (by first | (with_reducible assumption) | assumption)
                    have q359 : x3_1 < (l0.length : Int) := of_decide_eq_true (by first | (with_reducible assumption) | assumption)
                    obtain ⟨ad359, A359_5, c359_5, e359, hx359_0, hx359_1, hx359_2, hx359_3, hx359_4, hx359_5, hx359_6, hl359_5, hi359_5⟩ := at_T52 HR0.out x3_1 p359 q359
                    cases e359
                    replace hx359_0 := (HB.out.cell (World.block_lt_of_cell? w _ hx359_0)).trans hx359_0
                    replace hx359_1 := (HB.out.cell (World.block_lt_of_cell? w _ hx359_1)).trans hx359_1
                    replace hx359_2 := (HB.out.cell (World.block_lt_of_cell? w _ hx359_2)).trans hx359_2
                    replace hx359_3 := (HB.out.cell (World.block_lt_of_cell? w _ hx359_3)).trans hx359_3
                    replace hx359_4 := (HB.out.cell (World.block_lt_of_cell? w _ hx359_4)).trans hx359_4
                    replace hx359_5 := (HB.out.cell (World.block_lt_of_cell? w _ hx359_5)).trans hx359_5
                    replace hx359_6 := (HB.out.cell (World.block_lt_of_cell? w _ hx359_6)).trans hx359_6
                    have HR359_5 := Aside0.mk hi359_5
                    have HC359_5 := Aside0.mk hl359_5
                    clear hi359_5 hl359_5
                    replace p359 := eq_true p359
                    replace q359 := eq_true q359
                    have p360 : 0 ≤ (x3_1 : Int) := of_decide_eq_true (by first | (with_reducible assumption) | assumption)
                    have q360 : x3_1 < (l0.length : Int) := of_decide_eq_true (by first | (with_reducible assumption) | assumption)
                    obtain ⟨ad360, A360_5, c360_5, e360, hx360_0, hx360_1, hx360_2, hx360_3, hx360_4, hx360_5, hx360_6, hl360_5, hi360_5⟩ := at_T52 HR0.out x3_1 p360 q360
                    obtain rfl : ad359 = ad360 := (by injection e360)
                    replace hx360_0 := (HB.out.cell (World.block_lt_of_cell? w _ hx360_0)).trans hx360_0
                    replace hx360_1 := (HB.out.cell (World.block_lt_of_cell? w _ hx360_1)).trans hx360_1
                    replace hx360_2 := (HB.out.cell (World.block_lt_of_cell? w _ hx360_2)).trans hx360_2
                    replace hx360_3 := (HB.out.cell (World.block_lt_of_cell? w _ hx360_3)).trans hx360_3
                    replace hx360_4 := (HB.out.cell (World.block_lt_of_cell? w _ hx360_4)).trans hx360_4
                    replace hx360_5 := (HB.out.cell (World.block_lt_of_cell? w _ hx360_5)).trans hx360_5
                    replace hx360_6 := (HB.out.cell (World.block_lt_of_cell? w _ hx360_6)).trans hx360_6
                    have HR360_5 := Aside0.mk hi360_5
                    have HC360_5 := Aside0.mk hl360_5
                    clear hi360_5 hl360_5
                    replace p360 := eq_true p360
                    replace q360 := eq_true q360
                    have ea_ := Option.some.inj (hx359_5.symm.trans hx360_5)
                    injection ea_ with ea_ en_ ec_
                    subst ea_
                    subst ec_
                    clear en_
                    go_wp2_with (first | (go_at_call 23; (with_reducible refine (hanaperref20_Small.calls kj1 ((rd_T52 l0 x3_1).f1.f0) ((rd_T52 l0 x3_1).f1.f1) ((rd_T52 l0 x3_1).f1.f2) ((rd_T52 l0 x3_1).f1.f3) _ _ ((rd_T52 l0 x3_1).f1.f4) true _ ?side1 ?side2 A8.out).mono ?_); (case side1 => repeat (first | exact (Kd.C_below HR360_5.out HB.out) | (with_reducible refine Kd.C_alloc ?_ _) | (with_reducible refine Kd.C_drewN ?_ _) | (with_reducible refine Kd.C_drew ?_))); (case side2 => exact HC360_5.out); rintro e w10 ⟨rfl, hb⟩; have n0_ := Aside0.mk (below_step (by repeat (first | (with_reducible first | exact HB.out | apply below_alloc | apply pw_below_drewN | apply below_drew1) | exact HB.out)) hb); clear HB; have HB := n0_; clear n0_; (try clear hb); (try clear hb2); (try clear hk); (try clear hi)))
                    go_roundg kj1
                    case measure => have := HK1.out; have := HJ1.out; omega
                    case rel => exact ⟨(wrap64 (x3_1 + 1)), (by first | rfl | (simp; done) | (simp [*]; done)), H', ⟨by have := HK1.out; have := HJ1.out; omega⟩, ⟨by repeat (first | (with_reducible first | exact HB.out | apply below_alloc | apply pw_below_drewN | apply below_drew1) | exact HB.out)⟩⟩
                  · replace c9 := Bool.eq_false_iff.mpr c9
                    subst c9
                    have H1 : (some false) = some r := by rw [if_neg (show ¬ (false = true) by decide)] at H; exact H
                    clear H
                    have H := H1
                    clear H1
                    obtain rfl := Option.some.inj H
                    have p359 : 0 ≤ (x3_1 : Int) := of_decide_eq_true (by first | (with_reducible assumption) | assumption)
                    have q359 : x3_1 < (l0.length : Int) := of_decide_eq_true (by first | (with_reducible assumption) | assumption)
                    obtain ⟨ad359, A359_5, c359_5, e359, hx359_0, hx359_1, hx359_2, hx359_3, hx359_4, hx359_5, hx359_6, hl359_5, hi359_5⟩ := at_T52 HR0.out x3_1 p359 q359
                    cases e359
                    replace hx359_0 := (HB.out.cell (World.block_lt_of_cell? w _ hx359_0)).trans hx359_0
                    replace hx359_1 := (HB.out.cell (World.block_lt_of_cell? w _ hx359_1)).trans hx359_1
                    replace hx359_2 := (HB.out.cell (World.block_lt_of_cell? w _ hx359_2)).trans hx359_2
                    replace hx359_3 := (HB.out.cell (World.block_lt_of_cell? w _ hx359_3)).trans hx359_3
                    replace hx359_4 := (HB.out.cell (World.block_lt_of_cell? w _ hx359_4)).trans hx359_4
                    replace hx359_5 := (HB.out.cell (World.block_lt_of_cell? w _ hx359_5)).trans hx359_5
                    replace hx359_6 := (HB.out.cell (World.block_lt_of_cell? w _ hx359_6)).trans hx359_6
                    have HR359_5 := Aside0.mk hi359_5
                    have HC359_5 := Aside0.mk hl359_5
                    clear hi359_5 hl359_5
                    replace p359 := eq_true p359
                    replace q359 := eq_true q359
                    have p360 : 0 ≤ (x3_1 : Int) := of_decide_eq_true (by first | (with_reducible assumption) | assumption)
                    have q360 : x3_1 < (l0.length : Int) := of_decide_eq_true (by first | (with_reducible assumption) | assumption)
                    obtain ⟨ad360, A360_5, c360_5, e360, hx360_0, hx360_1, hx360_2, hx360_3, hx360_4, hx360_5, hx360_6, hl360_5, hi360_5⟩ := at_T52 HR0.out x3_1 p360 q360
                    obtain rfl : ad359 = ad360 := (by injection e360)
                    replace hx360_0 := (HB.out.cell (World.block_lt_of_cell? w _ hx360_0)).trans hx360_0
                    replace hx360_1 := (HB.out.cell (World.block_lt_of_cell? w _ hx360_1)).trans hx360_1
                    replace hx360_2 := (HB.out.cell (World.block_lt_of_cell? w _ hx360_2)).trans hx360_2
                    replace hx360_3 := (HB.out.cell (World.block_lt_of_cell? w _ hx360_3)).trans hx360_3
                    replace hx360_4 := (HB.out.cell (World.block_lt_of_cell? w _ hx360_4)).trans hx360_4
                    replace hx360_5 := (HB.out.cell (World.block_lt_of_cell? w _ hx360_5)).trans hx360_5
                    replace hx360_6 := (HB.out.cell (World.block_lt_of_cell? w _ hx360_6)).trans hx360_6
                    have HR360_5 := Aside0.mk hi360_5
                    have HC360_5 := Aside0.mk hl360_5
                    clear hi360_5 hl360_5
                    replace p360 := eq_true p360
                    replace q360 := eq_true q360
                    have ea_ := Option.some.inj (hx359_5.symm.trans hx360_5)
                    injection ea_ with ea_ en_ ec_
                    subst ea_
                    subst ec_
                    clear en_
                    go_wp2_with (first | (go_at_call 23; (with_reducible refine (hanaperref20_Small.calls kj1 ((rd_T52 l0 x3_1).f1.f0) ((rd_T52 l0 x3_1).f1.f1) ((rd_T52 l0 x3_1).f1.f2) ((rd_T52 l0 x3_1).f1.f3) _ _ ((rd_T52 l0 x3_1).f1.f4) false _ ?side1 ?side2 A8.out).mono ?_); (case side1 => repeat (first | exact (Kd.C_below HR360_5.out HB.out) | (with_reducible refine Kd.C_alloc ?_ _) | (with_reducible refine Kd.C_drewN ?_ _) | (with_reducible refine Kd.C_drew ?_))); (case side2 => exact HC360_5.out); rintro e w11 ⟨rfl, hb⟩; have n0_ := Aside0.mk (below_step (by repeat (first | (with_reducible first | exact HB.out | apply below_alloc | apply pw_below_drewN | apply below_drew1) | exact HB.out)) hb); clear HB; have HB := n0_; clear n0_; (try clear hb); (try clear hb2); (try clear hk); (try clear hi)))
                    go_ret
                    exact ⟨by first | rfl | (simp [errW_none, errW_some] <;> rfl) | (simp [*, errW_none, errW_some] <;> rfl), by repeat (first | (with_reducible first | exact HB.out | apply below_alloc | apply pw_below_drewN | apply below_drew1) | exact HB.out)⟩
              · rw [if_neg c6] at H
                exact absurd H (by simp)
            · rw [if_neg c5] at H
              exact absurd H (by simp)
          · replace c4 := Bool.eq_false_iff.mpr c4
            subst c4
            have H1 : (some (decide ((l0.length : Int) ≤ 30))) = some r := by rw [if_neg (show ¬ (false = true) by decide)] at H; exact H
            clear H
            have H := H1
            clear H1
            obtain rfl := Option.some.inj H
            go_wp2
            go_ret
            exact ⟨by first | rfl | (simp [errW_none, errW_some] <;> rfl) | (simp [*, errW_none, errW_some] <;> rfl), by repeat (first | (with_reducible first | exact HB.out | apply below_alloc | apply pw_below_drewN | apply below_drew1) | exact HB.out)⟩

end Go.Proofs.Ytgdpabedlghiaaa.PZ
-- printed for this claim by a program (pall.sh)
namespace Go.Proofs.Ytgdpabedlghiaaa.PZ
open Go.RowKit Go.Proofs.YtgdpabedlghiaaaW.PrintWords Go.Proofs.YtgdpabedlghiaaaW.PrintLast Go.Proofs.YtgdpabedlghiaaaW.PrintMore
attribute [local go_sem] max2_int min2_int max_two min_two max_three min_three max_four min_four   -- for this text's walks alone
set_option linter.unusedVariables false
set_option linter.unusedSimpArgs false

/-! ### hanaperlaw22_num: function 36 -/
def hanaperlaw22_num.f (a0 : Int) : Option (Int) := some a0
set_option maxHeartbeats 8000000 in
set_option maxRecDepth 100000 in
theorem hanaperlaw22_num.calls (a0 : Int) (r : Int) (w : World) (h : hanaperlaw22_num.f a0 = some r) :
    Calls Try.prog 36 #[.int .i64 a0] w fun e w' => e = .returned (.int .i64 r) ∧ Drawn0 w w' := by
  have H : (some a0) = some r := h
  clear h
  obtain rfl := Option.some.inj H
  go_enter Try.func36, Try.ntmps36
  go_wp2
  go_ret
  exact ⟨by first | rfl | (simp; done) | (simp [*]; done), by repeat (first | exact Drawn0.refl _ | apply Drawn0.step)⟩

end Go.Proofs.Ytgdpabedlghiaaa.PZ
/- Small holds; an argument that is a hold; num. -/
namespace Go.Proofs.Ytgdpabedlghiaaa.Scope
set_option linter.unusedVariables false
set_option linter.unusedSimpArgs false
open Go.RowKit Go.Proofs.YtgdpabedlghiaaaW.PrintWords Go.Proofs.YtgdpabedlghiaaaW.PrintLast Go.Proofs.YtgdpabedlghiaaaW.PrintMore Go.Proofs.Ytgdpabedlghiaaa.PZ Go.Proofs.Ytgdpabedlghiaaa.Aid
theorem rdT_nat (l : List S52) (i : Nat) (h : i < l.length) : rd_T52 l (i : Int) = l[i] := by simp [rd_T52, List.getD_eq_getElem?_getD, List.getElem?_eq_getElem h]
/-- A hold that is small. -/
def smallH (h : S52) : Prop := h.f0.size ≤ 100 ∧ short h.f1 ∧ nodes h.f1 ≤ 60
theorem hsmall_from (l : List S52) : ∀ (d i : Nat), i + d = l.length → i ≤ 40 → ∃ b, Ev (fun k => hanaperref22_Small.l0 k l (i : Int)) b ∧ (b = true → l.length ≤ 30 ∧ ∀ (j : Nat) (h : S52), i ≤ j → l[j]? = some h → smallH h) := by
  intro d
  induction d with
  | zero =>
    intro i hi h40
    refine ⟨decide ((l.length : Int) ≤ 30), ?_, fun hb => ⟨by have := of_decide_eq_true hb; omega, fun j h hj hh => by have := (List.getElem?_eq_some_iff.1 hh).1; omega⟩⟩
    refine Ev.step (fun k => by simp only [hanaperref22_Small.l0]; rfl) (neg (by omega) ?_)
    exact Ev.step (fun k => by simp only [hanaperref22_Small.j1]; rfl) (neg (by decide) (now rfl))
  | succ d ih =>
    intro i hi h40
    by_cases c0 : i = 40
    · subst c0
      refine ⟨decide ((l.length : Int) ≤ 30), ?_, fun hb => by have := of_decide_eq_true hb; omega⟩
      refine Ev.step (fun k => by simp only [hanaperref22_Small.l0]; rfl) (pos (by omega) ?_)
      exact Ev.step (fun k => by simp only [hanaperref22_Small.j1]; rfl) (neg (by decide) (now rfl))
    · have hlt : i < l.length := by omega
      have e40 : decide ((i : Int) < 40) = true := decide_eq_true (by omega)
      have hw : wrap64 ((i : Int) + 1) = ((i + 1 : Nat) : Int) := by rw [w64 (by omega) (by omega)]; omega
      have start : ∀ {b : Bool}, Ev (fun k => (if ((((l[i]).f0).size : Nat) : Int) > 100 then (some false) else ((hanaperref20_Small.f k (l[i]).f1.f0 (l[i]).f1.f1 (l[i]).f1.f2 (l[i]).f1.f3 (l[i]).f1.f4).bind fun t361 => (if t361 = true then (hanaperref22_Small.l0 k l ((i + 1 : Nat) : Int)) else (some false))))) b → Ev (fun k => hanaperref22_Small.l0 k l (i : Int)) b := fun h => by
        refine Ev.step (fun k => by simp only [hanaperref22_Small.l0]; rfl) (pos (by omega) ?_)
        rw [e40]
        refine Ev.step (fun k => by simp only [hanaperref22_Small.j1]; rfl) (pos (show true = true from rfl) (pos (by omega) (pos (by omega) ?_)))
        rw [rdT_nat l i hlt, hw]
        exact h
      by_cases c1 : ((((l[i]).f0).size : Nat) : Int) > 100
      · exact ⟨false, start (pos c1 (now rfl)), fun h => by cases h⟩
      · obtain ⟨b, hb, hs⟩ := Small_ev (l[i]).f1
        cases b with
        | false => exact ⟨false, start (neg c1 (evBind hb (neg (by decide) (now rfl)))), fun h => by cases h⟩
        | true =>
          obtain ⟨b2, hb2, hs2⟩ := ih (i + 1) (by omega) (by omega)
          refine ⟨b2, start (neg c1 (evBind hb (pos rfl hb2))), fun h => ?_⟩
          obtain ⟨a1, a2⟩ := hs2 h
          refine ⟨a1, fun j x hj hx => ?_⟩
          by_cases hij : i = j
          · subst hij
            rw [List.getElem?_eq_getElem hlt] at hx
            obtain rfl := Option.some.inj hx
            exact ⟨by omega, hs rfl⟩
          · exact a2 j x (by omega) hx
/-- Small, whatever the holds. -/
theorem hsmall_c (l : List S52) : ∃ b : Bool, (∀ A c w, Kd.C k52 w A l.length l → l.length ≤ c → Calls Try.prog 32 #[.slice A l.length c] w fun e w' => e = .returned (.bool b) ∧ Below w.heap.size w w') ∧ (b = true → l.length ≤ 30 ∧ ∀ h ∈ l, smallH h) := by
  obtain ⟨b, hb, hs⟩ := hsmall_from l l.length 0 (by omega) (by omega)
  obtain ⟨k, hk⟩ := (show Ev (fun k => hanaperref22_Small.f k l) b from hb).rounds
  refine ⟨b, fun A c w hr hc => hanaperref22_Small.calls k A c l b w hr hc hk, fun h => ⟨(hs h).1, fun x hx => ?_⟩⟩
  obtain ⟨j, hj, rfl⟩ := List.getElem_of_mem hx
  exact (hs h).2 j _ (by omega) (List.getElem?_eq_getElem hj)
theorem scsmall_c (x : S40) : ∃ b : Bool, (∀ (A : Option Addr) (c : Nat) (w : World), Kd.C k40 w A x.f4.length x.f4 → x.f4.length ≤ c → Calls Try.prog 23 #[.agg #[.int .i64 x.f0, .string x.f1, .int .i64 x.f2, .int .i64 x.f3, .slice A x.f4.length c]] w fun e w' => e = .returned (.bool b) ∧ Below w.heap.size w w') ∧ (b = true → short x ∧ nodes x ≤ 60) := by
  obtain ⟨b, hb, hs⟩ := Small_ev x
  obtain ⟨k, h⟩ := hb.rounds
  exact ⟨b, fun A c w hr hc => hanaperref20_Small.calls k x.f0 x.f1 x.f2 x.f3 A c x.f4 b w hr hc h, hs⟩
theorem num22_c (a : Int) (w : World) : Calls Try.prog 36 #[.int .i64 a] w fun e w' => e = .returned (.int .i64 a) ∧ Below w.heap.size w w' := by
  refine (hanaperlaw22_num.calls a a w rfl).mono ?_
  rintro e w' ⟨rfl, ⟨n, rfl⟩⟩
  exact ⟨rfl, pw_below_drewN (Below.refl _ _) n⟩
/-- An argument that is a hold, opened. -/
theorem opens_hold : Open.Opens Try.prog 52 k52 (fun _ => True) := by
  intro n
  cases n with
  | zero => intro H enc w base held cs x h; simp [DataW.trod] at h
  | succ n =>
    intro H enc w base held cs x h
    obtain ⟨⟨id, sc, act⟩, ⟨_, _, e0, rfl, c1, _, rfl, hsc, rfl⟩, _⟩ := Open.opensN_struct Try.underlying52 (by kernel_rfl) (Open.opensF_cons rfl (by kernel_rfl) (Open.opens_string Try.underlying9 n) (Open.opensF_cons rfl (by kernel_rfl) (opens_scope n) (Open.opensF_one rfl (by kernel_rfl) (Open.opens_bool Try.underlying4 n)))) H enc w base held cs x h
    obtain ⟨A, c, rfl, hc, hr⟩ := k40_open hsc
    rw [e0]
    exact ⟨⟨id, sc, act⟩, k52_mk w ⟨id, sc, act⟩ hc hr, trivial⟩
theorem opens_holds : Open.Opens Try.prog 50 (Kd.slice 52 k52) (fun _ => True) := by
  intro n H enc w base held cs x h
  obtain ⟨v, hv, _⟩ := Open.opens_slice Try.underlying50 (by kernel_rfl) opens_hold n H enc w base held cs x h
  exact ⟨v, hv, trivial⟩
end Go.Proofs.Ytgdpabedlghiaaa.Scope
/- The example of layer 22. -/
namespace Go.Proofs.Ytgdpabedlghiaaa.Scope
set_option linter.unusedVariables false
set_option linter.unusedSimpArgs false
open Go.RowKit Go.Proofs.YtgdpabedlghiaaaW.PrintWords Go.Proofs.YtgdpabedlghiaaaW.PrintLast Go.Proofs.YtgdpabedlghiaaaW.PrintMore Go.Proofs.Ytgdpabedlghiaaa.PZ Go.Proofs.Ytgdpabedlghiaaa.Aid
def allS : S40 := ⟨1, ⟨#[]⟩, 0, 0, []⟩
def holdA (b : Bool) : S52 := ⟨⟨#[97]⟩, allS, b⟩
theorem place_live : placeB [] ⟨#[97]⟩ allS = ([holdA true], 0) := by
  have h1 : Name.nameB ⟨#[97]⟩ = true := by decide +kernel
  have h2 : mayB allS = true := by decide +kernel
  unfold placeB
  rw [if_neg (by rw [h1]; decide), if_neg (by rw [h2]; decide), if_neg (by decide +kernel), if_neg (by decide)]
  rfl
theorem rel_live : relB [holdA true] ⟨#[97]⟩ = ([holdA false], 0) :=
  turnB_ok offH [holdA true] ⟨#[97]⟩ (by decide +kernel) (i := 0) (by decide +kernel) (x := holdA true) rfl rfl
theorem held_live1 : [holdA true].any (holdsB ⟨#[]⟩ ⟨#[]⟩ ⟨#[]⟩ 0) = true := by decide +kernel
theorem held_live2 : [holdA false].any (holdsB ⟨#[]⟩ ⟨#[]⟩ ⟨#[]⟩ 0) = false := by decide +kernel
set_option maxHeartbeats 4000000 in
set_option maxRecDepth 100000 in
theorem live22_c (w : World) : Calls Try.prog 33 #[] w fun e w' => e = .returned (.bool true) ∧ Below w.heap.size w w' := by
  have HP := Aside0.mk (place_c [] ⟨#[97]⟩ allS none 0 none 0 w (Kd.C_nil _ _) (Nat.le_refl _) (Kd.C_nil _ _) (Nat.le_refl _))
  rw [place_live] at HP
  have HREL := Aside0.mk (fun A c W (h : Kd.C k52 W A 1 [holdA true]) (hc : 1 ≤ c) => release_c [holdA true] ⟨#[97]⟩ A c W h (by decide) hc)
  rw [rel_live] at HREL
  have HH1 := Aside0.mk (fun A c W (h : Kd.C k52 W A 1 [holdA true]) => held_c [holdA true] ⟨#[]⟩ ⟨#[]⟩ ⟨#[]⟩ ⟨#[]⟩ 0 0 A c W h)
  rw [held_live1] at HH1
  have HH2 := Aside0.mk (fun A c W (h : Kd.C k52 W A 1 [holdA false]) => held_c [holdA false] ⟨#[]⟩ ⟨#[]⟩ ⟨#[]⟩ ⟨#[]⟩ 0 0 A c W h)
  rw [held_live2] at HH2
  have hu50 := Try.underlying50
  have hu46 := Try.underlying46
  have hu40 := Try.underlying40
  go_enter Try.func33, Try.ntmps33
  go_wp2_with (first
    | (go_at_call 35; refine HP.out.mono ?_; rintro e w1 ⟨D, m, rfl, h1, h2, h3⟩; have HD := Aside0.mk h2; have HM := Aside0.mk h1; have HB := Aside0.mk h3; clear h1 h2 h3)
    | (go_at_call 37; refine (HREL.out D m w1 HD.out HM.out).mono ?_; rintro e w2 ⟨E, n, rfl, h1, h2, h3⟩; have HD2 := Aside0.mk (Kd.C_below HD.out h3); have HE2 := Aside0.mk h2; have HB2 := Aside0.mk (below_step HB.out h3); clear h1 h2 h3)
    | (go_at_call 36; (first | (refine (num22_c 0 w2).mono ?_; rintro e w3 ⟨rfl, h3⟩; have HD3 := Aside0.mk (Kd.C_below HD2.out h3); have HE3 := Aside0.mk (Kd.C_below HE2.out h3); have HB3 := Aside0.mk (below_step HB2.out h3); clear h3) | (refine (num22_c 0 w3).mono ?_; rintro e w4 ⟨rfl, h3⟩; have HD4 := Aside0.mk (Kd.C_below HD3.out h3); have HE4 := Aside0.mk (Kd.C_below HE3.out h3); have HB4 := Aside0.mk (below_step HB3.out h3); clear h3)))
    | (go_at_call 34; (first | (refine (HH1.out D m w4 HD4.out).mono ?_; rintro e w5 ⟨rfl, h3⟩; have HE5 := Aside0.mk (Kd.C_below HE4.out h3); have HB5 := Aside0.mk (below_step HB4.out h3); clear h3) | (refine (HH2.out E n w5 HE5.out).mono ?_; rintro e w6 ⟨rfl, h3⟩; have HB6 := Aside0.mk (below_step HB5.out h3); clear h3))))
  go_ret
  exact ⟨rfl, HB6.out⟩
end Go.Proofs.Ytgdpabedlghiaaa.Scope
/- HoldFrees: the law's walk (printed by gen_frees.py). -/
namespace Go.Proofs.Ytgdpabedlghiaaa.Scope
set_option linter.unusedVariables false
set_option linter.unusedSimpArgs false
open Go.RowKit Go.Proofs.YtgdpabedlghiaaaW.PrintWords Go.Proofs.YtgdpabedlghiaaaW.PrintLast Go.Proofs.YtgdpabedlghiaaaW.PrintMore Go.Proofs.Ytgdpabedlghiaaa.PZ Go.Proofs.Ytgdpabedlghiaaa.Aid
theorem runIdx_snoc (step : S52 → Unit → Bool × Unit) (x : S52) (hx : (step x ()).1 = true) : ∀ (l : List S52) (i : Nat), (runIdx step l i ()).1 < 0 → (runIdx step (l ++ [x]) i ()).1 = ((i + l.length : Nat) : Int)
  | [], i, _ => by
    show (runIdx step [x] i ()).1 = _
    unfold runIdx
    rw [if_pos hx]
    simp
  | y :: l, i, h => by
    rw [List.cons_append]
    unfold runIdx at h ⊢
    by_cases c : (step y ()).1 = true
    · rw [if_pos c] at h
      simp at h
      omega
    · rw [if_neg c] at h ⊢
      have := runIdx_snoc step x hx l (i + 1) h
      rw [this, List.length_cons]
      congr 1
      omega
theorem find_snoc (l : List S52) (x : S52) (id : ByteArray) (hx : x.f0 = id) (h : findB l id < 0) : findB (l ++ [x]) id = (l.length : Int) := by
  unfold findB at h ⊢
  have := runIdx_snoc (fun (h : S52) (_ : Unit) => (h.f0.toList == id.toList, ())) x (by subst hx; simp) l 0 h
  simpa using this
/-- What Place answers: an error, or the holds with one more. -/
theorem place_cases (l : List S52) (id : ByteArray) (x : S40) : (placeB l id x).2 ≠ 0 ∨ (Name.nameB id = true ∧ mayB x = true ∧ findB l id < 0 ∧ l.length < 12 ∧ placeB l id x = (l ++ [⟨id, x, true⟩], 0)) := by
  unfold placeB
  by_cases c1 : Name.nameB id = false
  · rw [if_pos c1]; exact .inl (by decide)
  rw [if_neg c1]
  by_cases c2 : mayB x = false
  · rw [if_pos c2]; exact .inl (by decide)
  rw [if_neg c2]
  by_cases c3 : findB l id ≥ 0
  · rw [if_pos c3]; exact .inl (by decide)
  rw [if_neg c3]
  by_cases c4 : (l.length : Int) ≥ 12
  · rw [if_pos c4]; exact .inl (by decide)
  rw [if_neg c4]
  exact .inr ⟨by simpa using c1, by simpa using c2, by omega, by omega, rfl⟩
theorem rel_placed (l : List S52) (id : ByteArray) (x : S40) (h1 : Name.nameB id = true) (h2 : findB l id < 0) : relB (l ++ [⟨id, x, true⟩]) id = (l ++ [⟨id, x, false⟩], 0) := by
  have h := turnB_ok offH (l ++ [⟨id, x, true⟩]) id h1 (i := l.length) (find_snoc l ⟨id, x, true⟩ id rfl h2) (x := ⟨id, x, true⟩) (by simp) rfl
  rw [show relB (l ++ [⟨id, x, true⟩]) id = _ from h]
  simp [offH]
theorem any_more (f : S52 → Bool) (l : List S52) (x : S52) : (l ++ [x]).any f = (l.any f || f x) := by simp
set_option maxHeartbeats 16000000 in
set_option maxRecDepth 100000 in
theorem frees_walk (w : World) (l : List S52) (A : Option Addr) (c : Nat) (hr : Kd.C k52 w A l.length l) (hc : l.length ≤ c) (h : S52) (B : Option Addr) (d : Nat) (hx : Kd.C k40 w B h.f1.f4.length h.f1.f4) (hd : h.f1.f4.length ≤ d) (q0 q1 q2 q3 : ByteArray) (t u : Int) :
    Calls Try.prog 7 #[.slice A l.length c, .agg #[.string h.f0, .int .i64 h.f1.f0, .string h.f1.f1, .int .i64 h.f1.f2, .int .i64 h.f1.f3, .slice B h.f1.f4.length d, .bool h.f2], .agg #[.string q0, .string q1, .string q2, .string q3, .int .i64 t, .int .i64 u]] w fun e w' => e = .returned (.bool true) ∧ Below w.heap.size w w' := by
  obtain ⟨b, hsm, _⟩ := hsmall_c l
  obtain ⟨b2, hsc, _⟩ := scsmall_c h.f1
  have HSM := Aside0.mk (fun W hh => hsm A c W hh hc)
  have HSC := Aside0.mk (fun W hh => hsc B d W hh hd)
  have HR := Aside0.mk hr
  have HX := Aside0.mk hx
  have H0 := Aside0.mk (show Blk ((w.alloc (.cells #[.string h.f0, .int .i64 h.f1.f0, .string h.f1.f1, .int .i64 h.f1.f2, .int .i64 h.f1.f3, .slice B h.f1.f4.length d, .bool h.f2] 52)).alloc (.cells #[.string q0, .string q1, .string q2, .string q3, .int .i64 t, .int .i64 u] 46)) w.heap.size 52 #[.string h.f0, .int .i64 h.f1.f0, .string h.f1.f1, .int .i64 h.f1.f2, .int .i64 h.f1.f3, .slice B h.f1.f4.length d, .bool h.f2] from blk1 w (.cells #[.string h.f0, .int .i64 h.f1.f0, .string h.f1.f1, .int .i64 h.f1.f2, .int .i64 h.f1.f3, .slice B h.f1.f4.length d, .bool h.f2] 52) (.cells #[.string q0, .string q1, .string q2, .string q3, .int .i64 t, .int .i64 u] 46))
  have H1 := Aside0.mk (show Blk ((w.alloc (.cells #[.string h.f0, .int .i64 h.f1.f0, .string h.f1.f1, .int .i64 h.f1.f2, .int .i64 h.f1.f3, .slice B h.f1.f4.length d, .bool h.f2] 52)).alloc (.cells #[.string q0, .string q1, .string q2, .string q3, .int .i64 t, .int .i64 u] 46)) (w.heap.size + 1) 46 #[.string q0, .string q1, .string q2, .string q3, .int .i64 t, .int .i64 u] from blk2 w (.cells #[.string h.f0, .int .i64 h.f1.f0, .string h.f1.f1, .int .i64 h.f1.f2, .int .i64 h.f1.f3, .slice B h.f1.f4.length d, .bool h.f2] 52) (.cells #[.string q0, .string q1, .string q2, .string q3, .int .i64 t, .int .i64 u] 46))
  have HB := Aside0.mk (show Below w.heap.size w ((w.alloc (.cells #[.string h.f0, .int .i64 h.f1.f0, .string h.f1.f1, .int .i64 h.f1.f2, .int .i64 h.f1.f3, .slice B h.f1.f4.length d, .bool h.f2] 52)).alloc (.cells #[.string q0, .string q1, .string q2, .string q3, .int .i64 t, .int .i64 u] 46)) from below_alloc (below_alloc (Below.refl _ _) _) _)
  have HH1 := Aside0.mk (fun W (hh : Kd.C k52 W A l.length l) => held_c l q0 q1 q2 q3 t u A c W hh)
  have HPL := Aside0.mk (fun W (hh : Kd.C k52 W A l.length l) (hk : Kd.C k40 W B h.f1.f4.length h.f1.f4) => place_c l h.f0 h.f1 A c B d W hh hc hk hd)
  have hu52 := Try.underlying52
  have hu50 := Try.underlying50
  have hu46 := Try.underlying46
  have hu40 := Try.underlying40
  have e0 := H0.out.cell 0
  have e1 := H0.out.cell 1
  have e2 := H0.out.cell 2
  have e3 := H0.out.cell 3
  have e4 := H0.out.cell 4
  have e5 := H0.out.cell 5
  have r0 := H1.out.cell 0
  have r1 := H1.out.cell 1
  have r2 := H1.out.cell 2
  have r3 := H1.out.cell 3
  have r4 := H1.out.cell 4
  have r5 := H1.out.cell 5
  simp only [List.getElem?_toArray, List.getElem?_cons_zero, List.getElem?_cons_succ] at e0 e1 e2 e3 e4 e5 r0 r1 r2 r3 r4 r5
  have hmax : h.f0.size ≤ 100 ∨ ¬ h.f0.size ≤ 100 := Decidable.em _
  clear hsm hsc hr hx
  cases b with
  | false =>
    go_enter Try.func7, Try.ntmps7
    go_wp2_with (first
      | (go_at_call 32; refine (HSM.out _ (Kd.C_below HR.out HB.out)).mono ?_; rintro e w1 ⟨rfl, hb⟩; have H0n := Aside0.mk (H0.out.below hb); have H1n := Aside0.mk (H1.out.below hb); have HBn := Aside0.mk (below_step HB.out hb); (try (have HDn := Aside0.mk (Kd.C_below HD.out hb); clear HD; have HD := HDn; clear HDn)); (try (have HEn := Aside0.mk (Kd.C_below HE.out hb); clear HE; have HE := HEn; clear HEn)); clear H0 H1 HB e0 e1 e2 e3 e4 e5 r0 r1 r2 r3 r4 r5; have H0 := H0n; have H1 := H1n; have HB := HBn; clear H0n H1n HBn; have e0 := H0.out.cell 0; have e1 := H0.out.cell 1; have e2 := H0.out.cell 2; have e3 := H0.out.cell 3; have e4 := H0.out.cell 4; have e5 := H0.out.cell 5; have r0 := H1.out.cell 0; have r1 := H1.out.cell 1; have r2 := H1.out.cell 2; have r3 := H1.out.cell 3; have r4 := H1.out.cell 4; have r5 := H1.out.cell 5; simp only [List.getElem?_toArray, List.getElem?_cons_zero, List.getElem?_cons_succ] at e0 e1 e2 e3 e4 e5 r0 r1 r2 r3 r4 r5; clear hb)
      | (go_at_call 33; refine (live22_c _).mono ?_; rintro e w1 ⟨rfl, hb⟩; have H0n := Aside0.mk (H0.out.below hb); have H1n := Aside0.mk (H1.out.below hb); have HBn := Aside0.mk (below_step HB.out hb); (try (have HDn := Aside0.mk (Kd.C_below HD.out hb); clear HD; have HD := HDn; clear HDn)); (try (have HEn := Aside0.mk (Kd.C_below HE.out hb); clear HE; have HE := HEn; clear HEn)); clear H0 H1 HB e0 e1 e2 e3 e4 e5 r0 r1 r2 r3 r4 r5; have H0 := H0n; have H1 := H1n; have HB := HBn; clear H0n H1n HBn; have e0 := H0.out.cell 0; have e1 := H0.out.cell 1; have e2 := H0.out.cell 2; have e3 := H0.out.cell 3; have e4 := H0.out.cell 4; have e5 := H0.out.cell 5; have r0 := H1.out.cell 0; have r1 := H1.out.cell 1; have r2 := H1.out.cell 2; have r3 := H1.out.cell 3; have r4 := H1.out.cell 4; have r5 := H1.out.cell 5; simp only [List.getElem?_toArray, List.getElem?_cons_zero, List.getElem?_cons_succ] at e0 e1 e2 e3 e4 e5 r0 r1 r2 r3 r4 r5; clear hb))
    go_ret
    exact ⟨rfl, HB.out⟩
  | true =>
  by_cases c2 : (h.f0.size : Int) > 100
  · have z2 : decide (100 < (h.f0.size : Int)) = true := decide_eq_true c2
    have z3 : (100 < h.f0.size) = True := eq_true (by omega)
    go_enter Try.func7, Try.ntmps7
    go_wp2_with (first
      | (go_at_call 32; refine (HSM.out _ (Kd.C_below HR.out HB.out)).mono ?_; rintro e w1 ⟨rfl, hb⟩; have H0n := Aside0.mk (H0.out.below hb); have H1n := Aside0.mk (H1.out.below hb); have HBn := Aside0.mk (below_step HB.out hb); (try (have HDn := Aside0.mk (Kd.C_below HD.out hb); clear HD; have HD := HDn; clear HDn)); (try (have HEn := Aside0.mk (Kd.C_below HE.out hb); clear HE; have HE := HEn; clear HEn)); clear H0 H1 HB e0 e1 e2 e3 e4 e5 r0 r1 r2 r3 r4 r5; have H0 := H0n; have H1 := H1n; have HB := HBn; clear H0n H1n HBn; have e0 := H0.out.cell 0; have e1 := H0.out.cell 1; have e2 := H0.out.cell 2; have e3 := H0.out.cell 3; have e4 := H0.out.cell 4; have e5 := H0.out.cell 5; have r0 := H1.out.cell 0; have r1 := H1.out.cell 1; have r2 := H1.out.cell 2; have r3 := H1.out.cell 3; have r4 := H1.out.cell 4; have r5 := H1.out.cell 5; simp only [List.getElem?_toArray, List.getElem?_cons_zero, List.getElem?_cons_succ] at e0 e1 e2 e3 e4 e5 r0 r1 r2 r3 r4 r5; clear hb)
      | (go_at_call 33; refine (live22_c _).mono ?_; rintro e w1 ⟨rfl, hb⟩; have H0n := Aside0.mk (H0.out.below hb); have H1n := Aside0.mk (H1.out.below hb); have HBn := Aside0.mk (below_step HB.out hb); (try (have HDn := Aside0.mk (Kd.C_below HD.out hb); clear HD; have HD := HDn; clear HDn)); (try (have HEn := Aside0.mk (Kd.C_below HE.out hb); clear HE; have HE := HEn; clear HEn)); clear H0 H1 HB e0 e1 e2 e3 e4 e5 r0 r1 r2 r3 r4 r5; have H0 := H0n; have H1 := H1n; have HB := HBn; clear H0n H1n HBn; have e0 := H0.out.cell 0; have e1 := H0.out.cell 1; have e2 := H0.out.cell 2; have e3 := H0.out.cell 3; have e4 := H0.out.cell 4; have e5 := H0.out.cell 5; have r0 := H1.out.cell 0; have r1 := H1.out.cell 1; have r2 := H1.out.cell 2; have r3 := H1.out.cell 3; have r4 := H1.out.cell 4; have r5 := H1.out.cell 5; simp only [List.getElem?_toArray, List.getElem?_cons_zero, List.getElem?_cons_succ] at e0 e1 e2 e3 e4 e5 r0 r1 r2 r3 r4 r5; clear hb))
    go_ret
    exact ⟨rfl, HB.out⟩
  have z2 : decide (100 < (h.f0.size : Int)) = false := decide_eq_false c2
  have z3 : (100 < h.f0.size) = False := eq_false (by omega)
  clear c2 hmax
  cases b2 with
  | false =>
    go_enter Try.func7, Try.ntmps7
    go_wp2_with (first
      | (go_at_call 32; refine (HSM.out _ (Kd.C_below HR.out HB.out)).mono ?_; rintro e w1 ⟨rfl, hb⟩; have H0n := Aside0.mk (H0.out.below hb); have H1n := Aside0.mk (H1.out.below hb); have HBn := Aside0.mk (below_step HB.out hb); (try (have HDn := Aside0.mk (Kd.C_below HD.out hb); clear HD; have HD := HDn; clear HDn)); (try (have HEn := Aside0.mk (Kd.C_below HE.out hb); clear HE; have HE := HEn; clear HEn)); clear H0 H1 HB e0 e1 e2 e3 e4 e5 r0 r1 r2 r3 r4 r5; have H0 := H0n; have H1 := H1n; have HB := HBn; clear H0n H1n HBn; have e0 := H0.out.cell 0; have e1 := H0.out.cell 1; have e2 := H0.out.cell 2; have e3 := H0.out.cell 3; have e4 := H0.out.cell 4; have e5 := H0.out.cell 5; have r0 := H1.out.cell 0; have r1 := H1.out.cell 1; have r2 := H1.out.cell 2; have r3 := H1.out.cell 3; have r4 := H1.out.cell 4; have r5 := H1.out.cell 5; simp only [List.getElem?_toArray, List.getElem?_cons_zero, List.getElem?_cons_succ] at e0 e1 e2 e3 e4 e5 r0 r1 r2 r3 r4 r5; clear hb)
      | (go_at_call 23; refine (HSC.out _ (Kd.C_below HX.out HB.out)).mono ?_; rintro e w1 ⟨rfl, hb⟩; have H0n := Aside0.mk (H0.out.below hb); have H1n := Aside0.mk (H1.out.below hb); have HBn := Aside0.mk (below_step HB.out hb); (try (have HDn := Aside0.mk (Kd.C_below HD.out hb); clear HD; have HD := HDn; clear HDn)); (try (have HEn := Aside0.mk (Kd.C_below HE.out hb); clear HE; have HE := HEn; clear HEn)); clear H0 H1 HB e0 e1 e2 e3 e4 e5 r0 r1 r2 r3 r4 r5; have H0 := H0n; have H1 := H1n; have HB := HBn; clear H0n H1n HBn; have e0 := H0.out.cell 0; have e1 := H0.out.cell 1; have e2 := H0.out.cell 2; have e3 := H0.out.cell 3; have e4 := H0.out.cell 4; have e5 := H0.out.cell 5; have r0 := H1.out.cell 0; have r1 := H1.out.cell 1; have r2 := H1.out.cell 2; have r3 := H1.out.cell 3; have r4 := H1.out.cell 4; have r5 := H1.out.cell 5; simp only [List.getElem?_toArray, List.getElem?_cons_zero, List.getElem?_cons_succ] at e0 e1 e2 e3 e4 e5 r0 r1 r2 r3 r4 r5; clear hb)
      | (go_at_call 33; refine (live22_c _).mono ?_; rintro e w1 ⟨rfl, hb⟩; have H0n := Aside0.mk (H0.out.below hb); have H1n := Aside0.mk (H1.out.below hb); have HBn := Aside0.mk (below_step HB.out hb); (try (have HDn := Aside0.mk (Kd.C_below HD.out hb); clear HD; have HD := HDn; clear HDn)); (try (have HEn := Aside0.mk (Kd.C_below HE.out hb); clear HE; have HE := HEn; clear HEn)); clear H0 H1 HB e0 e1 e2 e3 e4 e5 r0 r1 r2 r3 r4 r5; have H0 := H0n; have H1 := H1n; have HB := HBn; clear H0n H1n HBn; have e0 := H0.out.cell 0; have e1 := H0.out.cell 1; have e2 := H0.out.cell 2; have e3 := H0.out.cell 3; have e4 := H0.out.cell 4; have e5 := H0.out.cell 5; have r0 := H1.out.cell 0; have r1 := H1.out.cell 1; have r2 := H1.out.cell 2; have r3 := H1.out.cell 3; have r4 := H1.out.cell 4; have r5 := H1.out.cell 5; simp only [List.getElem?_toArray, List.getElem?_cons_zero, List.getElem?_cons_succ] at e0 e1 e2 e3 e4 e5 r0 r1 r2 r3 r4 r5; clear hb))
    go_ret
    exact ⟨rfl, HB.out⟩
  | true =>
  rcases place_cases l h.f0 h.f1 with hp | ⟨p1, p2, p3, p4, hp⟩
  · obtain ⟨r, hr_⟩ : ∃ r, placeB l h.f0 h.f1 = r := ⟨_, rfl⟩
    rw [hr_] at HPL hp
    obtain ⟨la, ee⟩ := r
    dsimp only at HPL hp
    have z4 : decide (ee = 0) = false := decide_eq_false hp
    have z5 : (ee = 0) = False := eq_false hp
    have z6 : (ee != 0) = true := bne_iff_ne.mpr hp
    obtain ⟨v, hv⟩ : ∃ v, l.any (holdsB q1 q2 q3 t) = v := ⟨_, rfl⟩
    rw [hv] at HH1
    clear hr_ hp hv
    go_enter Try.func7, Try.ntmps7
    go_wp2_with (first
      | (go_at_call 32; refine (HSM.out _ (Kd.C_below HR.out HB.out)).mono ?_; rintro e w1 ⟨rfl, hb⟩; have H0n := Aside0.mk (H0.out.below hb); have H1n := Aside0.mk (H1.out.below hb); have HBn := Aside0.mk (below_step HB.out hb); (try (have HDn := Aside0.mk (Kd.C_below HD.out hb); clear HD; have HD := HDn; clear HDn)); (try (have HEn := Aside0.mk (Kd.C_below HE.out hb); clear HE; have HE := HEn; clear HEn)); clear H0 H1 HB e0 e1 e2 e3 e4 e5 r0 r1 r2 r3 r4 r5; have H0 := H0n; have H1 := H1n; have HB := HBn; clear H0n H1n HBn; have e0 := H0.out.cell 0; have e1 := H0.out.cell 1; have e2 := H0.out.cell 2; have e3 := H0.out.cell 3; have e4 := H0.out.cell 4; have e5 := H0.out.cell 5; have r0 := H1.out.cell 0; have r1 := H1.out.cell 1; have r2 := H1.out.cell 2; have r3 := H1.out.cell 3; have r4 := H1.out.cell 4; have r5 := H1.out.cell 5; simp only [List.getElem?_toArray, List.getElem?_cons_zero, List.getElem?_cons_succ] at e0 e1 e2 e3 e4 e5 r0 r1 r2 r3 r4 r5; clear hb)
      | (go_at_call 23; refine (HSC.out _ (Kd.C_below HX.out HB.out)).mono ?_; rintro e w1 ⟨rfl, hb⟩; have H0n := Aside0.mk (H0.out.below hb); have H1n := Aside0.mk (H1.out.below hb); have HBn := Aside0.mk (below_step HB.out hb); (try (have HDn := Aside0.mk (Kd.C_below HD.out hb); clear HD; have HD := HDn; clear HDn)); (try (have HEn := Aside0.mk (Kd.C_below HE.out hb); clear HE; have HE := HEn; clear HEn)); clear H0 H1 HB e0 e1 e2 e3 e4 e5 r0 r1 r2 r3 r4 r5; have H0 := H0n; have H1 := H1n; have HB := HBn; clear H0n H1n HBn; have e0 := H0.out.cell 0; have e1 := H0.out.cell 1; have e2 := H0.out.cell 2; have e3 := H0.out.cell 3; have e4 := H0.out.cell 4; have e5 := H0.out.cell 5; have r0 := H1.out.cell 0; have r1 := H1.out.cell 1; have r2 := H1.out.cell 2; have r3 := H1.out.cell 3; have r4 := H1.out.cell 4; have r5 := H1.out.cell 5; simp only [List.getElem?_toArray, List.getElem?_cons_zero, List.getElem?_cons_succ] at e0 e1 e2 e3 e4 e5 r0 r1 r2 r3 r4 r5; clear hb)
      | (go_at_call 33; refine (live22_c _).mono ?_; rintro e w1 ⟨rfl, hb⟩; have H0n := Aside0.mk (H0.out.below hb); have H1n := Aside0.mk (H1.out.below hb); have HBn := Aside0.mk (below_step HB.out hb); (try (have HDn := Aside0.mk (Kd.C_below HD.out hb); clear HD; have HD := HDn; clear HDn)); (try (have HEn := Aside0.mk (Kd.C_below HE.out hb); clear HE; have HE := HEn; clear HEn)); clear H0 H1 HB e0 e1 e2 e3 e4 e5 r0 r1 r2 r3 r4 r5; have H0 := H0n; have H1 := H1n; have HB := HBn; clear H0n H1n HBn; have e0 := H0.out.cell 0; have e1 := H0.out.cell 1; have e2 := H0.out.cell 2; have e3 := H0.out.cell 3; have e4 := H0.out.cell 4; have e5 := H0.out.cell 5; have r0 := H1.out.cell 0; have r1 := H1.out.cell 1; have r2 := H1.out.cell 2; have r3 := H1.out.cell 3; have r4 := H1.out.cell 4; have r5 := H1.out.cell 5; simp only [List.getElem?_toArray, List.getElem?_cons_zero, List.getElem?_cons_succ] at e0 e1 e2 e3 e4 e5 r0 r1 r2 r3 r4 r5; clear hb)
      | (go_at_call 34; refine (HH1.out _ (Kd.C_below HR.out HB.out)).mono ?_; rintro e w1 ⟨rfl, hb⟩; have H0n := Aside0.mk (H0.out.below hb); have H1n := Aside0.mk (H1.out.below hb); have HBn := Aside0.mk (below_step HB.out hb); (try (have HDn := Aside0.mk (Kd.C_below HD.out hb); clear HD; have HD := HDn; clear HDn)); (try (have HEn := Aside0.mk (Kd.C_below HE.out hb); clear HE; have HE := HEn; clear HEn)); clear H0 H1 HB e0 e1 e2 e3 e4 e5 r0 r1 r2 r3 r4 r5; have H0 := H0n; have H1 := H1n; have HB := HBn; clear H0n H1n HBn; have e0 := H0.out.cell 0; have e1 := H0.out.cell 1; have e2 := H0.out.cell 2; have e3 := H0.out.cell 3; have e4 := H0.out.cell 4; have e5 := H0.out.cell 5; have r0 := H1.out.cell 0; have r1 := H1.out.cell 1; have r2 := H1.out.cell 2; have r3 := H1.out.cell 3; have r4 := H1.out.cell 4; have r5 := H1.out.cell 5; simp only [List.getElem?_toArray, List.getElem?_cons_zero, List.getElem?_cons_succ] at e0 e1 e2 e3 e4 e5 r0 r1 r2 r3 r4 r5; clear hb)
      | (go_at_call 35; refine (HPL.out _ (Kd.C_below HR.out HB.out) (Kd.C_below HX.out HB.out)).mono ?_; rintro e w1 ⟨D, m, rfl, hm, hq, hb⟩; have HDs := Aside0.mk hq; have HM := Aside0.mk hm; clear hq hm; have H0n := Aside0.mk (H0.out.below hb); have H1n := Aside0.mk (H1.out.below hb); have HBn := Aside0.mk (below_step HB.out hb); (try (have HDn := Aside0.mk (Kd.C_below HD.out hb); clear HD; have HD := HDn; clear HDn)); (try (have HEn := Aside0.mk (Kd.C_below HE.out hb); clear HE; have HE := HEn; clear HEn)); clear H0 H1 HB e0 e1 e2 e3 e4 e5 r0 r1 r2 r3 r4 r5; have H0 := H0n; have H1 := H1n; have HB := HBn; clear H0n H1n HBn; have e0 := H0.out.cell 0; have e1 := H0.out.cell 1; have e2 := H0.out.cell 2; have e3 := H0.out.cell 3; have e4 := H0.out.cell 4; have e5 := H0.out.cell 5; have r0 := H1.out.cell 0; have r1 := H1.out.cell 1; have r2 := H1.out.cell 2; have r3 := H1.out.cell 3; have r4 := H1.out.cell 4; have r5 := H1.out.cell 5; simp only [List.getElem?_toArray, List.getElem?_cons_zero, List.getElem?_cons_succ] at e0 e1 e2 e3 e4 e5 r0 r1 r2 r3 r4 r5; clear hb; have HD := HDs; clear HDs)
      | (go_at_call 36; refine (num22_c _ _).mono ?_; rintro e w1 ⟨rfl, hb⟩; have H0n := Aside0.mk (H0.out.below hb); have H1n := Aside0.mk (H1.out.below hb); have HBn := Aside0.mk (below_step HB.out hb); (try (have HDn := Aside0.mk (Kd.C_below HD.out hb); clear HD; have HD := HDn; clear HDn)); (try (have HEn := Aside0.mk (Kd.C_below HE.out hb); clear HE; have HE := HEn; clear HEn)); clear H0 H1 HB e0 e1 e2 e3 e4 e5 r0 r1 r2 r3 r4 r5; have H0 := H0n; have H1 := H1n; have HB := HBn; clear H0n H1n HBn; have e0 := H0.out.cell 0; have e1 := H0.out.cell 1; have e2 := H0.out.cell 2; have e3 := H0.out.cell 3; have e4 := H0.out.cell 4; have e5 := H0.out.cell 5; have r0 := H1.out.cell 0; have r1 := H1.out.cell 1; have r2 := H1.out.cell 2; have r3 := H1.out.cell 3; have r4 := H1.out.cell 4; have r5 := H1.out.cell 5; simp only [List.getElem?_toArray, List.getElem?_cons_zero, List.getElem?_cons_succ] at e0 e1 e2 e3 e4 e5 r0 r1 r2 r3 r4 r5; clear hb))
    go_ret
    exact ⟨rfl, HB.out⟩
  rw [hp] at HPL
  have HREL := Aside0.mk (fun D m W (hh : Kd.C k52 W D (l ++ [⟨h.f0, h.f1, true⟩] : List S52).length (l ++ [⟨h.f0, h.f1, true⟩])) (hm : (l ++ [⟨h.f0, h.f1, true⟩] : List S52).length ≤ m) => release_c (l ++ [⟨h.f0, h.f1, true⟩]) h.f0 D m W hh (by simp; omega) hm)
  rw [rel_placed l h.f0 h.f1 p1 p3] at HREL
  have HH2 := Aside0.mk (fun D m W (hh : Kd.C k52 W D (l ++ [⟨h.f0, h.f1, true⟩] : List S52).length (l ++ [⟨h.f0, h.f1, true⟩])) => held_c (l ++ [⟨h.f0, h.f1, true⟩]) q0 q1 q2 q3 t u D m W hh)
  have HH3 := Aside0.mk (fun D m W (hh : Kd.C k52 W D (l ++ [⟨h.f0, h.f1, false⟩] : List S52).length (l ++ [⟨h.f0, h.f1, false⟩])) => held_c (l ++ [⟨h.f0, h.f1, false⟩]) q0 q1 q2 q3 t u D m W hh)
  rw [any_more] at HH2 HH3
  rw [show holdsB q1 q2 q3 t ⟨h.f0, h.f1, false⟩ = false from rfl, Bool.or_false] at HH3
  obtain ⟨l2, hl2⟩ : ∃ l2 : List S52, l ++ [⟨h.f0, h.f1, true⟩] = l2 := ⟨_, rfl⟩
  obtain ⟨l3, hl3⟩ : ∃ l3 : List S52, l ++ [⟨h.f0, h.f1, false⟩] = l3 := ⟨_, rfl⟩
  obtain ⟨v, hv⟩ : ∃ v, l.any (holdsB q1 q2 q3 t) = v := ⟨_, rfl⟩
  rw [hv] at HH1 HH2 HH3
  rw [hl2] at HPL HREL HH2
  rw [hl3] at HREL HH3
  clear hl2 hl3 hv hp p1 p2 p3 p4
  dsimp only at HPL HREL
  cases v with
  | false =>
    rw [Bool.false_or] at HH2
    go_enter Try.func7, Try.ntmps7
    go_wp2_with (first
      | (go_at_call 32; refine (HSM.out _ (Kd.C_below HR.out HB.out)).mono ?_; rintro e w1 ⟨rfl, hb⟩; have H0n := Aside0.mk (H0.out.below hb); have H1n := Aside0.mk (H1.out.below hb); have HBn := Aside0.mk (below_step HB.out hb); (try (have HDn := Aside0.mk (Kd.C_below HD.out hb); clear HD; have HD := HDn; clear HDn)); (try (have HEn := Aside0.mk (Kd.C_below HE.out hb); clear HE; have HE := HEn; clear HEn)); clear H0 H1 HB e0 e1 e2 e3 e4 e5 r0 r1 r2 r3 r4 r5; have H0 := H0n; have H1 := H1n; have HB := HBn; clear H0n H1n HBn; have e0 := H0.out.cell 0; have e1 := H0.out.cell 1; have e2 := H0.out.cell 2; have e3 := H0.out.cell 3; have e4 := H0.out.cell 4; have e5 := H0.out.cell 5; have r0 := H1.out.cell 0; have r1 := H1.out.cell 1; have r2 := H1.out.cell 2; have r3 := H1.out.cell 3; have r4 := H1.out.cell 4; have r5 := H1.out.cell 5; simp only [List.getElem?_toArray, List.getElem?_cons_zero, List.getElem?_cons_succ] at e0 e1 e2 e3 e4 e5 r0 r1 r2 r3 r4 r5; clear hb)
      | (go_at_call 23; refine (HSC.out _ (Kd.C_below HX.out HB.out)).mono ?_; rintro e w1 ⟨rfl, hb⟩; have H0n := Aside0.mk (H0.out.below hb); have H1n := Aside0.mk (H1.out.below hb); have HBn := Aside0.mk (below_step HB.out hb); (try (have HDn := Aside0.mk (Kd.C_below HD.out hb); clear HD; have HD := HDn; clear HDn)); (try (have HEn := Aside0.mk (Kd.C_below HE.out hb); clear HE; have HE := HEn; clear HEn)); clear H0 H1 HB e0 e1 e2 e3 e4 e5 r0 r1 r2 r3 r4 r5; have H0 := H0n; have H1 := H1n; have HB := HBn; clear H0n H1n HBn; have e0 := H0.out.cell 0; have e1 := H0.out.cell 1; have e2 := H0.out.cell 2; have e3 := H0.out.cell 3; have e4 := H0.out.cell 4; have e5 := H0.out.cell 5; have r0 := H1.out.cell 0; have r1 := H1.out.cell 1; have r2 := H1.out.cell 2; have r3 := H1.out.cell 3; have r4 := H1.out.cell 4; have r5 := H1.out.cell 5; simp only [List.getElem?_toArray, List.getElem?_cons_zero, List.getElem?_cons_succ] at e0 e1 e2 e3 e4 e5 r0 r1 r2 r3 r4 r5; clear hb)
      | (go_at_call 33; refine (live22_c _).mono ?_; rintro e w1 ⟨rfl, hb⟩; have H0n := Aside0.mk (H0.out.below hb); have H1n := Aside0.mk (H1.out.below hb); have HBn := Aside0.mk (below_step HB.out hb); (try (have HDn := Aside0.mk (Kd.C_below HD.out hb); clear HD; have HD := HDn; clear HDn)); (try (have HEn := Aside0.mk (Kd.C_below HE.out hb); clear HE; have HE := HEn; clear HEn)); clear H0 H1 HB e0 e1 e2 e3 e4 e5 r0 r1 r2 r3 r4 r5; have H0 := H0n; have H1 := H1n; have HB := HBn; clear H0n H1n HBn; have e0 := H0.out.cell 0; have e1 := H0.out.cell 1; have e2 := H0.out.cell 2; have e3 := H0.out.cell 3; have e4 := H0.out.cell 4; have e5 := H0.out.cell 5; have r0 := H1.out.cell 0; have r1 := H1.out.cell 1; have r2 := H1.out.cell 2; have r3 := H1.out.cell 3; have r4 := H1.out.cell 4; have r5 := H1.out.cell 5; simp only [List.getElem?_toArray, List.getElem?_cons_zero, List.getElem?_cons_succ] at e0 e1 e2 e3 e4 e5 r0 r1 r2 r3 r4 r5; clear hb)
      | (go_at_call 34; refine (HH1.out _ (Kd.C_below HR.out HB.out)).mono ?_; rintro e w1 ⟨rfl, hb⟩; have H0n := Aside0.mk (H0.out.below hb); have H1n := Aside0.mk (H1.out.below hb); have HBn := Aside0.mk (below_step HB.out hb); (try (have HDn := Aside0.mk (Kd.C_below HD.out hb); clear HD; have HD := HDn; clear HDn)); (try (have HEn := Aside0.mk (Kd.C_below HE.out hb); clear HE; have HE := HEn; clear HEn)); clear H0 H1 HB e0 e1 e2 e3 e4 e5 r0 r1 r2 r3 r4 r5; have H0 := H0n; have H1 := H1n; have HB := HBn; clear H0n H1n HBn; have e0 := H0.out.cell 0; have e1 := H0.out.cell 1; have e2 := H0.out.cell 2; have e3 := H0.out.cell 3; have e4 := H0.out.cell 4; have e5 := H0.out.cell 5; have r0 := H1.out.cell 0; have r1 := H1.out.cell 1; have r2 := H1.out.cell 2; have r3 := H1.out.cell 3; have r4 := H1.out.cell 4; have r5 := H1.out.cell 5; simp only [List.getElem?_toArray, List.getElem?_cons_zero, List.getElem?_cons_succ] at e0 e1 e2 e3 e4 e5 r0 r1 r2 r3 r4 r5; clear hb)
      | (go_at_call 35; refine (HPL.out _ (Kd.C_below HR.out HB.out) (Kd.C_below HX.out HB.out)).mono ?_; rintro e w1 ⟨D, m, rfl, hm, hq, hb⟩; have HDs := Aside0.mk hq; have HM := Aside0.mk hm; clear hq hm; have H0n := Aside0.mk (H0.out.below hb); have H1n := Aside0.mk (H1.out.below hb); have HBn := Aside0.mk (below_step HB.out hb); (try (have HDn := Aside0.mk (Kd.C_below HD.out hb); clear HD; have HD := HDn; clear HDn)); (try (have HEn := Aside0.mk (Kd.C_below HE.out hb); clear HE; have HE := HEn; clear HEn)); clear H0 H1 HB e0 e1 e2 e3 e4 e5 r0 r1 r2 r3 r4 r5; have H0 := H0n; have H1 := H1n; have HB := HBn; clear H0n H1n HBn; have e0 := H0.out.cell 0; have e1 := H0.out.cell 1; have e2 := H0.out.cell 2; have e3 := H0.out.cell 3; have e4 := H0.out.cell 4; have e5 := H0.out.cell 5; have r0 := H1.out.cell 0; have r1 := H1.out.cell 1; have r2 := H1.out.cell 2; have r3 := H1.out.cell 3; have r4 := H1.out.cell 4; have r5 := H1.out.cell 5; simp only [List.getElem?_toArray, List.getElem?_cons_zero, List.getElem?_cons_succ] at e0 e1 e2 e3 e4 e5 r0 r1 r2 r3 r4 r5; clear hb; have HD := HDs; clear HDs)
      | (go_at_call 36; refine (num22_c _ _).mono ?_; rintro e w1 ⟨rfl, hb⟩; have H0n := Aside0.mk (H0.out.below hb); have H1n := Aside0.mk (H1.out.below hb); have HBn := Aside0.mk (below_step HB.out hb); (try (have HDn := Aside0.mk (Kd.C_below HD.out hb); clear HD; have HD := HDn; clear HDn)); (try (have HEn := Aside0.mk (Kd.C_below HE.out hb); clear HE; have HE := HEn; clear HEn)); clear H0 H1 HB e0 e1 e2 e3 e4 e5 r0 r1 r2 r3 r4 r5; have H0 := H0n; have H1 := H1n; have HB := HBn; clear H0n H1n HBn; have e0 := H0.out.cell 0; have e1 := H0.out.cell 1; have e2 := H0.out.cell 2; have e3 := H0.out.cell 3; have e4 := H0.out.cell 4; have e5 := H0.out.cell 5; have r0 := H1.out.cell 0; have r1 := H1.out.cell 1; have r2 := H1.out.cell 2; have r3 := H1.out.cell 3; have r4 := H1.out.cell 4; have r5 := H1.out.cell 5; simp only [List.getElem?_toArray, List.getElem?_cons_zero, List.getElem?_cons_succ] at e0 e1 e2 e3 e4 e5 r0 r1 r2 r3 r4 r5; clear hb)
      | (go_at_call 34; refine (HH2.out D m _ HD.out).mono ?_; rintro e w1 ⟨rfl, hb⟩; have H0n := Aside0.mk (H0.out.below hb); have H1n := Aside0.mk (H1.out.below hb); have HBn := Aside0.mk (below_step HB.out hb); (try (have HDn := Aside0.mk (Kd.C_below HD.out hb); clear HD; have HD := HDn; clear HDn)); (try (have HEn := Aside0.mk (Kd.C_below HE.out hb); clear HE; have HE := HEn; clear HEn)); clear H0 H1 HB e0 e1 e2 e3 e4 e5 r0 r1 r2 r3 r4 r5; have H0 := H0n; have H1 := H1n; have HB := HBn; clear H0n H1n HBn; have e0 := H0.out.cell 0; have e1 := H0.out.cell 1; have e2 := H0.out.cell 2; have e3 := H0.out.cell 3; have e4 := H0.out.cell 4; have e5 := H0.out.cell 5; have r0 := H1.out.cell 0; have r1 := H1.out.cell 1; have r2 := H1.out.cell 2; have r3 := H1.out.cell 3; have r4 := H1.out.cell 4; have r5 := H1.out.cell 5; simp only [List.getElem?_toArray, List.getElem?_cons_zero, List.getElem?_cons_succ] at e0 e1 e2 e3 e4 e5 r0 r1 r2 r3 r4 r5; clear hb)
      | (go_at_call 37; refine (HREL.out D m _ HD.out HM.out).mono ?_; rintro e w1 ⟨E, n, rfl, hm, hq, hb⟩; have HEs := Aside0.mk hq; clear hq hm; have H0n := Aside0.mk (H0.out.below hb); have H1n := Aside0.mk (H1.out.below hb); have HBn := Aside0.mk (below_step HB.out hb); (try (have HDn := Aside0.mk (Kd.C_below HD.out hb); clear HD; have HD := HDn; clear HDn)); (try (have HEn := Aside0.mk (Kd.C_below HE.out hb); clear HE; have HE := HEn; clear HEn)); clear H0 H1 HB e0 e1 e2 e3 e4 e5 r0 r1 r2 r3 r4 r5; have H0 := H0n; have H1 := H1n; have HB := HBn; clear H0n H1n HBn; have e0 := H0.out.cell 0; have e1 := H0.out.cell 1; have e2 := H0.out.cell 2; have e3 := H0.out.cell 3; have e4 := H0.out.cell 4; have e5 := H0.out.cell 5; have r0 := H1.out.cell 0; have r1 := H1.out.cell 1; have r2 := H1.out.cell 2; have r3 := H1.out.cell 3; have r4 := H1.out.cell 4; have r5 := H1.out.cell 5; simp only [List.getElem?_toArray, List.getElem?_cons_zero, List.getElem?_cons_succ] at e0 e1 e2 e3 e4 e5 r0 r1 r2 r3 r4 r5; clear hb; have HE := HEs; clear HEs)
      | (go_at_call 34; refine (HH3.out E n _ HE.out).mono ?_; rintro e w1 ⟨rfl, hb⟩; have H0n := Aside0.mk (H0.out.below hb); have H1n := Aside0.mk (H1.out.below hb); have HBn := Aside0.mk (below_step HB.out hb); (try (have HDn := Aside0.mk (Kd.C_below HD.out hb); clear HD; have HD := HDn; clear HDn)); (try (have HEn := Aside0.mk (Kd.C_below HE.out hb); clear HE; have HE := HEn; clear HEn)); clear H0 H1 HB e0 e1 e2 e3 e4 e5 r0 r1 r2 r3 r4 r5; have H0 := H0n; have H1 := H1n; have HB := HBn; clear H0n H1n HBn; have e0 := H0.out.cell 0; have e1 := H0.out.cell 1; have e2 := H0.out.cell 2; have e3 := H0.out.cell 3; have e4 := H0.out.cell 4; have e5 := H0.out.cell 5; have r0 := H1.out.cell 0; have r1 := H1.out.cell 1; have r2 := H1.out.cell 2; have r3 := H1.out.cell 3; have r4 := H1.out.cell 4; have r5 := H1.out.cell 5; simp only [List.getElem?_toArray, List.getElem?_cons_zero, List.getElem?_cons_succ] at e0 e1 e2 e3 e4 e5 r0 r1 r2 r3 r4 r5; clear hb))
    go_ret
    exact ⟨rfl, HB.out⟩
  | true =>
    rw [Bool.true_or] at HH2
    go_enter Try.func7, Try.ntmps7
    go_wp2_with (first
      | (go_at_call 32; refine (HSM.out _ (Kd.C_below HR.out HB.out)).mono ?_; rintro e w1 ⟨rfl, hb⟩; have H0n := Aside0.mk (H0.out.below hb); have H1n := Aside0.mk (H1.out.below hb); have HBn := Aside0.mk (below_step HB.out hb); (try (have HDn := Aside0.mk (Kd.C_below HD.out hb); clear HD; have HD := HDn; clear HDn)); (try (have HEn := Aside0.mk (Kd.C_below HE.out hb); clear HE; have HE := HEn; clear HEn)); clear H0 H1 HB e0 e1 e2 e3 e4 e5 r0 r1 r2 r3 r4 r5; have H0 := H0n; have H1 := H1n; have HB := HBn; clear H0n H1n HBn; have e0 := H0.out.cell 0; have e1 := H0.out.cell 1; have e2 := H0.out.cell 2; have e3 := H0.out.cell 3; have e4 := H0.out.cell 4; have e5 := H0.out.cell 5; have r0 := H1.out.cell 0; have r1 := H1.out.cell 1; have r2 := H1.out.cell 2; have r3 := H1.out.cell 3; have r4 := H1.out.cell 4; have r5 := H1.out.cell 5; simp only [List.getElem?_toArray, List.getElem?_cons_zero, List.getElem?_cons_succ] at e0 e1 e2 e3 e4 e5 r0 r1 r2 r3 r4 r5; clear hb)
      | (go_at_call 23; refine (HSC.out _ (Kd.C_below HX.out HB.out)).mono ?_; rintro e w1 ⟨rfl, hb⟩; have H0n := Aside0.mk (H0.out.below hb); have H1n := Aside0.mk (H1.out.below hb); have HBn := Aside0.mk (below_step HB.out hb); (try (have HDn := Aside0.mk (Kd.C_below HD.out hb); clear HD; have HD := HDn; clear HDn)); (try (have HEn := Aside0.mk (Kd.C_below HE.out hb); clear HE; have HE := HEn; clear HEn)); clear H0 H1 HB e0 e1 e2 e3 e4 e5 r0 r1 r2 r3 r4 r5; have H0 := H0n; have H1 := H1n; have HB := HBn; clear H0n H1n HBn; have e0 := H0.out.cell 0; have e1 := H0.out.cell 1; have e2 := H0.out.cell 2; have e3 := H0.out.cell 3; have e4 := H0.out.cell 4; have e5 := H0.out.cell 5; have r0 := H1.out.cell 0; have r1 := H1.out.cell 1; have r2 := H1.out.cell 2; have r3 := H1.out.cell 3; have r4 := H1.out.cell 4; have r5 := H1.out.cell 5; simp only [List.getElem?_toArray, List.getElem?_cons_zero, List.getElem?_cons_succ] at e0 e1 e2 e3 e4 e5 r0 r1 r2 r3 r4 r5; clear hb)
      | (go_at_call 33; refine (live22_c _).mono ?_; rintro e w1 ⟨rfl, hb⟩; have H0n := Aside0.mk (H0.out.below hb); have H1n := Aside0.mk (H1.out.below hb); have HBn := Aside0.mk (below_step HB.out hb); (try (have HDn := Aside0.mk (Kd.C_below HD.out hb); clear HD; have HD := HDn; clear HDn)); (try (have HEn := Aside0.mk (Kd.C_below HE.out hb); clear HE; have HE := HEn; clear HEn)); clear H0 H1 HB e0 e1 e2 e3 e4 e5 r0 r1 r2 r3 r4 r5; have H0 := H0n; have H1 := H1n; have HB := HBn; clear H0n H1n HBn; have e0 := H0.out.cell 0; have e1 := H0.out.cell 1; have e2 := H0.out.cell 2; have e3 := H0.out.cell 3; have e4 := H0.out.cell 4; have e5 := H0.out.cell 5; have r0 := H1.out.cell 0; have r1 := H1.out.cell 1; have r2 := H1.out.cell 2; have r3 := H1.out.cell 3; have r4 := H1.out.cell 4; have r5 := H1.out.cell 5; simp only [List.getElem?_toArray, List.getElem?_cons_zero, List.getElem?_cons_succ] at e0 e1 e2 e3 e4 e5 r0 r1 r2 r3 r4 r5; clear hb)
      | (go_at_call 34; refine (HH1.out _ (Kd.C_below HR.out HB.out)).mono ?_; rintro e w1 ⟨rfl, hb⟩; have H0n := Aside0.mk (H0.out.below hb); have H1n := Aside0.mk (H1.out.below hb); have HBn := Aside0.mk (below_step HB.out hb); (try (have HDn := Aside0.mk (Kd.C_below HD.out hb); clear HD; have HD := HDn; clear HDn)); (try (have HEn := Aside0.mk (Kd.C_below HE.out hb); clear HE; have HE := HEn; clear HEn)); clear H0 H1 HB e0 e1 e2 e3 e4 e5 r0 r1 r2 r3 r4 r5; have H0 := H0n; have H1 := H1n; have HB := HBn; clear H0n H1n HBn; have e0 := H0.out.cell 0; have e1 := H0.out.cell 1; have e2 := H0.out.cell 2; have e3 := H0.out.cell 3; have e4 := H0.out.cell 4; have e5 := H0.out.cell 5; have r0 := H1.out.cell 0; have r1 := H1.out.cell 1; have r2 := H1.out.cell 2; have r3 := H1.out.cell 3; have r4 := H1.out.cell 4; have r5 := H1.out.cell 5; simp only [List.getElem?_toArray, List.getElem?_cons_zero, List.getElem?_cons_succ] at e0 e1 e2 e3 e4 e5 r0 r1 r2 r3 r4 r5; clear hb)
      | (go_at_call 35; refine (HPL.out _ (Kd.C_below HR.out HB.out) (Kd.C_below HX.out HB.out)).mono ?_; rintro e w1 ⟨D, m, rfl, hm, hq, hb⟩; have HDs := Aside0.mk hq; have HM := Aside0.mk hm; clear hq hm; have H0n := Aside0.mk (H0.out.below hb); have H1n := Aside0.mk (H1.out.below hb); have HBn := Aside0.mk (below_step HB.out hb); (try (have HDn := Aside0.mk (Kd.C_below HD.out hb); clear HD; have HD := HDn; clear HDn)); (try (have HEn := Aside0.mk (Kd.C_below HE.out hb); clear HE; have HE := HEn; clear HEn)); clear H0 H1 HB e0 e1 e2 e3 e4 e5 r0 r1 r2 r3 r4 r5; have H0 := H0n; have H1 := H1n; have HB := HBn; clear H0n H1n HBn; have e0 := H0.out.cell 0; have e1 := H0.out.cell 1; have e2 := H0.out.cell 2; have e3 := H0.out.cell 3; have e4 := H0.out.cell 4; have e5 := H0.out.cell 5; have r0 := H1.out.cell 0; have r1 := H1.out.cell 1; have r2 := H1.out.cell 2; have r3 := H1.out.cell 3; have r4 := H1.out.cell 4; have r5 := H1.out.cell 5; simp only [List.getElem?_toArray, List.getElem?_cons_zero, List.getElem?_cons_succ] at e0 e1 e2 e3 e4 e5 r0 r1 r2 r3 r4 r5; clear hb; have HD := HDs; clear HDs)
      | (go_at_call 36; refine (num22_c _ _).mono ?_; rintro e w1 ⟨rfl, hb⟩; have H0n := Aside0.mk (H0.out.below hb); have H1n := Aside0.mk (H1.out.below hb); have HBn := Aside0.mk (below_step HB.out hb); (try (have HDn := Aside0.mk (Kd.C_below HD.out hb); clear HD; have HD := HDn; clear HDn)); (try (have HEn := Aside0.mk (Kd.C_below HE.out hb); clear HE; have HE := HEn; clear HEn)); clear H0 H1 HB e0 e1 e2 e3 e4 e5 r0 r1 r2 r3 r4 r5; have H0 := H0n; have H1 := H1n; have HB := HBn; clear H0n H1n HBn; have e0 := H0.out.cell 0; have e1 := H0.out.cell 1; have e2 := H0.out.cell 2; have e3 := H0.out.cell 3; have e4 := H0.out.cell 4; have e5 := H0.out.cell 5; have r0 := H1.out.cell 0; have r1 := H1.out.cell 1; have r2 := H1.out.cell 2; have r3 := H1.out.cell 3; have r4 := H1.out.cell 4; have r5 := H1.out.cell 5; simp only [List.getElem?_toArray, List.getElem?_cons_zero, List.getElem?_cons_succ] at e0 e1 e2 e3 e4 e5 r0 r1 r2 r3 r4 r5; clear hb)
      | (go_at_call 34; refine (HH2.out D m _ HD.out).mono ?_; rintro e w1 ⟨rfl, hb⟩; have H0n := Aside0.mk (H0.out.below hb); have H1n := Aside0.mk (H1.out.below hb); have HBn := Aside0.mk (below_step HB.out hb); (try (have HDn := Aside0.mk (Kd.C_below HD.out hb); clear HD; have HD := HDn; clear HDn)); (try (have HEn := Aside0.mk (Kd.C_below HE.out hb); clear HE; have HE := HEn; clear HEn)); clear H0 H1 HB e0 e1 e2 e3 e4 e5 r0 r1 r2 r3 r4 r5; have H0 := H0n; have H1 := H1n; have HB := HBn; clear H0n H1n HBn; have e0 := H0.out.cell 0; have e1 := H0.out.cell 1; have e2 := H0.out.cell 2; have e3 := H0.out.cell 3; have e4 := H0.out.cell 4; have e5 := H0.out.cell 5; have r0 := H1.out.cell 0; have r1 := H1.out.cell 1; have r2 := H1.out.cell 2; have r3 := H1.out.cell 3; have r4 := H1.out.cell 4; have r5 := H1.out.cell 5; simp only [List.getElem?_toArray, List.getElem?_cons_zero, List.getElem?_cons_succ] at e0 e1 e2 e3 e4 e5 r0 r1 r2 r3 r4 r5; clear hb)
      | (go_at_call 37; refine (HREL.out D m _ HD.out HM.out).mono ?_; rintro e w1 ⟨E, n, rfl, hm, hq, hb⟩; have HEs := Aside0.mk hq; clear hq hm; have H0n := Aside0.mk (H0.out.below hb); have H1n := Aside0.mk (H1.out.below hb); have HBn := Aside0.mk (below_step HB.out hb); (try (have HDn := Aside0.mk (Kd.C_below HD.out hb); clear HD; have HD := HDn; clear HDn)); (try (have HEn := Aside0.mk (Kd.C_below HE.out hb); clear HE; have HE := HEn; clear HEn)); clear H0 H1 HB e0 e1 e2 e3 e4 e5 r0 r1 r2 r3 r4 r5; have H0 := H0n; have H1 := H1n; have HB := HBn; clear H0n H1n HBn; have e0 := H0.out.cell 0; have e1 := H0.out.cell 1; have e2 := H0.out.cell 2; have e3 := H0.out.cell 3; have e4 := H0.out.cell 4; have e5 := H0.out.cell 5; have r0 := H1.out.cell 0; have r1 := H1.out.cell 1; have r2 := H1.out.cell 2; have r3 := H1.out.cell 3; have r4 := H1.out.cell 4; have r5 := H1.out.cell 5; simp only [List.getElem?_toArray, List.getElem?_cons_zero, List.getElem?_cons_succ] at e0 e1 e2 e3 e4 e5 r0 r1 r2 r3 r4 r5; clear hb; have HE := HEs; clear HEs)
      | (go_at_call 34; refine (HH3.out E n _ HE.out).mono ?_; rintro e w1 ⟨rfl, hb⟩; have H0n := Aside0.mk (H0.out.below hb); have H1n := Aside0.mk (H1.out.below hb); have HBn := Aside0.mk (below_step HB.out hb); (try (have HDn := Aside0.mk (Kd.C_below HD.out hb); clear HD; have HD := HDn; clear HDn)); (try (have HEn := Aside0.mk (Kd.C_below HE.out hb); clear HE; have HE := HEn; clear HEn)); clear H0 H1 HB e0 e1 e2 e3 e4 e5 r0 r1 r2 r3 r4 r5; have H0 := H0n; have H1 := H1n; have HB := HBn; clear H0n H1n HBn; have e0 := H0.out.cell 0; have e1 := H0.out.cell 1; have e2 := H0.out.cell 2; have e3 := H0.out.cell 3; have e4 := H0.out.cell 4; have e5 := H0.out.cell 5; have r0 := H1.out.cell 0; have r1 := H1.out.cell 1; have r2 := H1.out.cell 2; have r3 := H1.out.cell 3; have r4 := H1.out.cell 4; have r5 := H1.out.cell 5; simp only [List.getElem?_toArray, List.getElem?_cons_zero, List.getElem?_cons_succ] at e0 e1 e2 e3 e4 e5 r0 r1 r2 r3 r4 r5; clear hb))
    go_ret
    exact ⟨rfl, HB.out⟩
end Go.Proofs.Ytgdpabedlghiaaa.Scope
/- The law HoldFrees. -/
namespace Go.Proofs.Ytgdpabedlghiaaa.Scope
set_option linter.unusedVariables false
open Go.RowKit Go.Proofs.YtgdpabedlghiaaaW.PrintWords Go.Proofs.Ytgdpabedlghiaaa.PZ
abbrev DRecH : Kd (ByteArray × ByteArray × ByteArray × ByteArray × Int × Int) := Kd.pair Kd.string (Kd.pair Kd.string (Kd.pair Kd.string (Kd.pair Kd.string (Kd.pair (Kd.int .i64) (Kd.int .i64)))))
theorem freesWalk (w : World) (A : Option Addr) (c : Nat) (l : List S52) (hr : Kd.C k52 w A l.length l) (hc : l.length ≤ c) (_ : True) (y : S52) (cy : Array Value) (hL : k52.K w y cy.toList) (_ : True) (r : ByteArray × ByteArray × ByteArray × ByteArray × Int × Int) (cr : Array Value) (hR : DRecH.K w r cr.toList)
    (_ : r.1.size ≤ maxLen ∧ r.2.1.size ≤ maxLen ∧ r.2.2.1.size ≤ maxLen ∧ r.2.2.2.1.size ≤ maxLen ∧ (Lit.int .i64 r.2.2.2.2.1).wf = true ∧ (Lit.int .i64 r.2.2.2.2.2).wf = true) :
    Calls Try.prog 7 #[.slice A l.length c, .agg cy, .agg cr] w fun e w' => e = .returned (.bool true) ∧ Below w.heap.size w w' := by
  obtain ⟨B, d, f0, hd, hs⟩ := k52_open hL
  have e1 : cy = #[.string y.f0, .int .i64 y.f1.f0, .string y.f1.f1, .int .i64 y.f1.f2, .int .i64 y.f1.f3, .slice B y.f1.f4.length d, .bool y.f2] := Array.toList_inj.1 f0
  subst e1
  obtain ⟨q0, q1, q2, q3, t, u⟩ := r
  obtain ⟨_, _, f0, rfl, _, _, f1, rfl, _, _, f2, rfl, _, _, f3, rfl, _, _, f4, rfl, rfl⟩ := hR
  subst f4 f3 f2 f1
  have e2 : cr = #[.string q0, .string q1, .string q2, .string q3, .int .i64 t, .int .i64 u] := Array.toList_inj.1 f0
  subst e2
  exact frees_walk w l A c hr hc y B d hs hd q0 q1 q2 q3 t u
end Go.Proofs.Ytgdpabedlghiaaa.Scope
