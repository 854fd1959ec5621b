/- Own and printed texts, laid together. -/
import Derived.Test.YtgohmganimamcaaTpGA
import Derived.Test.YtgohmganimamcaaTpGB
import Derived.Laws.EntriesVeiled
import Derived.Deep.RegionLaw
import Derived.Deep.DeepCutAuto
-- printed for this claim by a program (pall.sh)
-- mended by fixpz.py
namespace Go.Proofs.Ytgohmganimamcaa.PZ
open Go.RowKit Go.Proofs.YtgohmganimamcaaW.PrintWords Go.Proofs.YtgohmganimamcaaW.PrintLast Go.Proofs.YtgohmganimamcaaW.PrintMore
attribute [local go_sem] max2_int min2_int max_two min_two max_three min_three max_four min_four   -- for this text's walks alone
set_option linter.unusedVariables false
set_option linter.unusedSimpArgs false

/-! ### hanaperref05_may: function 48 -/
mutual
def hanaperref05_may.j0 : Nat → Int → Bool → Int → Int → List Int → List (S26) → Option (Bool)
  | 0, _, _, _, _, _, _ => none
  | k + 1, x1, x33, x102000, x102001, x102002, x102003 => if x33 = true then (some false) else (if x102000 = 3 then (hanaperref05_may.j1 k x1 (decide ((x102002.length : Int) > 100)) x102000 x102001 x102002 x102003) else (if (x102002.length : Int) > 0 then (hanaperref05_may.j1 k x1 true x102000 x102001 x102002 x102003) else (hanaperref05_may.j1 k x1 (decide ((x102002.length : Int) > 100)) x102000 x102001 x102002 x102003)))
def hanaperref05_may.j1 : Nat → Int → Bool → Int → Int → List Int → List (S26) → Option (Bool)
  | 0, _, _, _, _, _, _ => none
  | k + 1, x1, x48, x102000, x102001, x102002, x102003 => if x48 = true then (some false) else (hanaperref05_may.l0 k x1 0 x102000 x102001 x102002 x102003)
def hanaperref05_may.l0 : Nat → Int → Int → Int → Int → List Int → List (S26) → Option (Bool)
  | 0, _, _, _, _, _, _ => none
  | k + 1, x1, x5, x102000, x102001, x102002, x102003 => if x5 < (x102003.length : Int) then (if 0 ≤ x5 then ((hanaperref05_may.f k ((rd_T26 x102003 x5).f0) ((rd_T26 x102003 x5).f1) ((rd_T26 x102003 x5).f2) ((rd_T26 x102003 x5).f3) (wrap64 (x1 - 1))).bind fun t106 => (if t106 = true then (hanaperref05_may.l0 k x1 (wrap64 (x5 + 1)) x102000 x102001 x102002 x102003) else (some false))) else (none)) else (if x102000 = 5 then (if 1 < (x102003.length : Int) then (some (((rd_T26 x102003 1).f0) == 2)) else (none)) else (some true))
def hanaperref05_may.f : Nat → Int → Int → List Int → List (S26) → Int → Option (Bool)
  | 0, _, _, _, _, _ => none
  | k + 1, a0_0, a0_1, l0_2, l0_3, a1 => if a1 < 1 then (hanaperref05_may.j0 k a1 true a0_0 a0_1 l0_2 l0_3) else ((hanaperref05_kids.f k a0_0).bind fun t102 => (if t102 < 0 then (hanaperref05_may.j0 k a1 true a0_0 a0_1 l0_2 l0_3) else ((hanaperref05_kids.f k a0_0).bind fun t103 => (if (l0_3.length : Int) = t103 then ((hanaperref05_number.f a0_0).bind fun t104 => (if t104 = true then (hanaperref05_may.j0 k a1 false a0_0 a0_1 l0_2 l0_3) else (hanaperref05_may.j0 k a1 (a0_1 != 0) a0_0 a0_1 l0_2 l0_3))) else (hanaperref05_may.j0 k a1 true a0_0 a0_1 l0_2 l0_3)))))
end
theorem hanaperref05_may.mono_l : ∀ k, (∀ y0 y1 y2 y3 y4, LeO (hanaperref05_may.f k y0 y1 y2 y3 y4) (hanaperref05_may.f (k + 1) y0 y1 y2 y3 y4)) ∧ (∀ y0 y1 y2 y3 y4 y5, LeO (hanaperref05_may.j0 k y0 y1 y2 y3 y4 y5) (hanaperref05_may.j0 (k + 1) y0 y1 y2 y3 y4 y5)) ∧ (∀ y0 y1 y2 y3 y4 y5, LeO (hanaperref05_may.j1 k y0 y1 y2 y3 y4 y5) (hanaperref05_may.j1 (k + 1) y0 y1 y2 y3 y4 y5)) ∧ (∀ y0 y1 y2 y3 y4 y5, LeO (hanaperref05_may.l0 k y0 y1 y2 y3 y4 y5) (hanaperref05_may.l0 (k + 1) y0 y1 y2 y3 y4 y5))
  | 0 => ⟨fun _ _ _ _ _ r h => by simp [hanaperref05_may.f] at h, fun _ _ _ _ _ _ r h => by simp [hanaperref05_may.j0] at h, fun _ _ _ _ _ _ r h => by simp [hanaperref05_may.j1] at h, fun _ _ _ _ _ _ r h => by simp [hanaperref05_may.l0] at h⟩
  | k + 1 => by
    obtain ⟨ih0, ih1, ih2, ih3⟩ := hanaperref05_may.mono_l k
    refine ⟨?_, ?_, ?_, ?_⟩
    · intro y0 y1 y2 y3 y4
      unfold hanaperref05_may.f
      repeat' first
      | (with_reducible exact ih0 _ _ _ _ _)
      | (with_reducible exact ih1 _ _ _ _ _ _)
      | (with_reducible exact ih2 _ _ _ _ _ _)
      | (with_reducible exact ih3 _ _ _ _ _ _)
      | (with_reducible exact hanaperref05_kids.mono _ _)
      | (with_reducible exact LeO.refl _)
      | (with_reducible exact LeO.none _)
      | (with_reducible refine LeO.ite ?_ ?_)
      | (with_reducible refine LeO.bind ?_ (fun _ => ?_))
      | exact ih0 _ _ _ _ _
      | exact ih1 _ _ _ _ _ _
      | exact ih2 _ _ _ _ _ _
      | exact ih3 _ _ _ _ _ _
      | exact hanaperref05_kids.mono _ _
      | exact LeO.none _
      | refine LeO.ite ?_ ?_
      | refine LeO.bind ?_ (fun _ => ?_)
    · intro y0 y1 y2 y3 y4 y5
      unfold hanaperref05_may.j0
      repeat' first
      | (with_reducible exact ih0 _ _ _ _ _)
      | (with_reducible exact ih1 _ _ _ _ _ _)
      | (with_reducible exact ih2 _ _ _ _ _ _)
      | (with_reducible exact ih3 _ _ _ _ _ _)
      | (with_reducible exact hanaperref05_kids.mono _ _)
      | (with_reducible exact LeO.refl _)
      | (with_reducible exact LeO.none _)
      | (with_reducible refine LeO.ite ?_ ?_)
      | (with_reducible refine LeO.bind ?_ (fun _ => ?_))
      | exact ih0 _ _ _ _ _
      | exact ih1 _ _ _ _ _ _
      | exact ih2 _ _ _ _ _ _
      | exact ih3 _ _ _ _ _ _
      | exact hanaperref05_kids.mono _ _
      | exact LeO.none _
      | refine LeO.ite ?_ ?_
      | refine LeO.bind ?_ (fun _ => ?_)
    · intro y0 y1 y2 y3 y4 y5
      unfold hanaperref05_may.j1
      repeat' first
      | (with_reducible exact ih0 _ _ _ _ _)
      | (with_reducible exact ih1 _ _ _ _ _ _)
      | (with_reducible exact ih2 _ _ _ _ _ _)
      | (with_reducible exact ih3 _ _ _ _ _ _)
      | (with_reducible exact hanaperref05_kids.mono _ _)
      | (with_reducible exact LeO.refl _)
      | (with_reducible exact LeO.none _)
      | (with_reducible refine LeO.ite ?_ ?_)
      | (with_reducible refine LeO.bind ?_ (fun _ => ?_))
      | exact ih0 _ _ _ _ _
      | exact ih1 _ _ _ _ _ _
      | exact ih2 _ _ _ _ _ _
      | exact ih3 _ _ _ _ _ _
      | exact hanaperref05_kids.mono _ _
      | exact LeO.none _
      | refine LeO.ite ?_ ?_
      | refine LeO.bind ?_ (fun _ => ?_)
    · intro y0 y1 y2 y3 y4 y5
      unfold hanaperref05_may.l0
      repeat' first
      | (with_reducible exact ih0 _ _ _ _ _)
      | (with_reducible exact ih1 _ _ _ _ _ _)
      | (with_reducible exact ih2 _ _ _ _ _ _)
      | (with_reducible exact ih3 _ _ _ _ _ _)
      | (with_reducible exact hanaperref05_kids.mono _ _)
      | (with_reducible exact LeO.refl _)
      | (with_reducible exact LeO.none _)
      | (with_reducible refine LeO.ite ?_ ?_)
      | (with_reducible refine LeO.bind ?_ (fun _ => ?_))
      | exact ih0 _ _ _ _ _
      | exact ih1 _ _ _ _ _ _
      | exact ih2 _ _ _ _ _ _
      | exact ih3 _ _ _ _ _ _
      | exact hanaperref05_kids.mono _ _
      | exact LeO.none _
      | refine LeO.ite ?_ ?_
      | refine LeO.bind ?_ (fun _ => ?_)
theorem hanaperref05_may.mono : ∀ a0 a1 a2 a3 a4 k, LeO (hanaperref05_may.f k a0 a1 a2 a3 a4) (hanaperref05_may.f (k + 1) a0 a1 a2 a3 a4) := by
  intro a0 a1 a2 a3 a4 k
  obtain ⟨ih0, ih1, ih2, ih3⟩ := hanaperref05_may.mono_l k
  exact ih0 a0 a1 a2 a3 a4
set_option maxHeartbeats 8000000 in
set_option maxRecDepth 100000 in
theorem hanaperref05_may.calls (k : Nat) : ∀ (a0_0 : Int) (a0_1 : Int) (A0_2 : Option Addr) (c0_2 : Nat) (l0_2 : List Int) (A0_3 : Option Addr) (c0_3 : Nat) (l0_3 : List (S26)) (a1 : Int) (r : Bool) (w : World) (hr0_2 : Kd.C (Kd.int .u8) w A0_2 l0_2.length l0_2) (hc0_2 : l0_2.length ≤ c0_2) (hr0_3 : Kd.C k26 w A0_3 l0_3.length l0_3) (hc0_3 : l0_3.length ≤ c0_3) (h : hanaperref05_may.f k a0_0 a0_1 l0_2 l0_3 a1 = some r),
    Calls Try.prog 48 #[.agg #[.int .i64 a0_0, .int .u64 a0_1, .slice A0_2 l0_2.length c0_2, .slice A0_3 l0_3.length c0_3], .int .i64 a1] w fun e w' => e = .returned (.bool r) ∧ Below w.heap.size w w' := by
  induction k using Nat.strongRecOn with
  | _ k ih =>
  intro a0_0 a0_1 A0_2 c0_2 l0_2 A0_3 c0_3 l0_3 a1 r w hr0_2 hc0_2 hr0_3 hc0_3 h
  cases k with
  | zero => exact absurd h (by simp [hanaperref05_may.f])
  | succ k =>
  simp only [hanaperref05_may.f] at h
  have hu26 := Try.underlying26
  have HR0_2 := Aside0.mk hr0_2
  have HC0_2 := Aside0.mk hc0_2
  clear hr0_2 hc0_2
  have HR0_3 := Aside0.mk hr0_3
  have HC0_3 := Aside0.mk hc0_3
  clear hr0_3 hc0_3
  have HB := Aside0.mk (Below.refl w.heap.size w)
  have H : (if a1 < 1 then (hanaperref05_may.j0 k a1 true a0_0 a0_1 l0_2 l0_3) else ((hanaperref05_kids.f k a0_0).bind fun t102 => (if t102 < 0 then (hanaperref05_may.j0 k a1 true a0_0 a0_1 l0_2 l0_3) else ((hanaperref05_kids.f k a0_0).bind fun t103 => (if (l0_3.length : Int) = t103 then ((hanaperref05_number.f a0_0).bind fun t104 => (if t104 = true then (hanaperref05_may.j0 k a1 false a0_0 a0_1 l0_2 l0_3) else (hanaperref05_may.j0 k a1 (a0_1 != 0) a0_0 a0_1 l0_2 l0_3))) else (hanaperref05_may.j0 k a1 true a0_0 a0_1 l0_2 l0_3)))))) = some r := h
  clear h
  have HC3 := Aside0.mk H
  clear H
  go_enter Try.func48, Try.ntmps48
  go_upto_region 1 with (first | ((with_reducible refine gate_dst (N := 2) rfl ?_); (try (refine gate_guard (by rfl) ?_; dsimp only)); refine box_event ?hg (N := 2) ?hd (cs := #[.int .i64 a0_0, .int .u64 a0_1, .slice A0_2 l0_2.length c0_2, .slice A0_3 l0_3.length c0_3]) (t := 26) ?hr ?_; (case hd => rfl); (case hg => rfl); (case hr => first | (go_simp; done) | (go_simp; rfl)); intro gb101 hg w4 hbox hb; have n0_ := Aside0.mk (below_step (by repeat (first | (with_reducible first | exact HB.out | apply below_alloc | apply pw_below_drewN | apply below_drew1) | exact HB.out)) hb); have n1_ := Aside0.mk (hbox); have n2_ := Aside0.mk ((by rw [hg]; exact (below_size (by repeat (first | (with_reducible first | exact HB.out | apply below_alloc | apply pw_below_drewN | apply below_drew1) | exact HB.out))) : w.heap.size ≤ gb101)); have n3_ := Aside0.mk ((by rw [hg]; exact (below_size (by repeat (first | (with_reducible first | exact HB.out | apply below_alloc | apply pw_below_drewN | apply below_drew1) | exact HB.out))) : w.heap.size ≤ gb101)); clear HB; have HB := n0_; have BK101 := n1_; have GW101 := n2_; have GE101 := n3_; clear n0_ n1_ n2_ n3_; clear hb hbox hg))
  repeat (go_quiet (first | ((with_reducible refine gate_dst (N := 2) rfl ?_); (try (refine gate_guard (by rfl) ?_; dsimp only)); refine box_event ?hg (N := 2) ?hd (cs := #[.int .i64 a0_0, .int .u64 a0_1, .slice A0_2 l0_2.length c0_2, .slice A0_3 l0_3.length c0_3]) (t := 26) ?hr ?_; (case hd => rfl); (case hg => rfl); (case hr => first | (go_simp; done) | (go_simp; rfl)); intro gb101 hg w4 hbox hb; have n0_ := Aside0.mk (below_step (by repeat (first | (with_reducible first | exact HB.out | apply below_alloc | apply pw_below_drewN | apply below_drew1) | exact HB.out)) hb); have n1_ := Aside0.mk (hbox); have n2_ := Aside0.mk ((by rw [hg]; exact (below_size (by repeat (first | (with_reducible first | exact HB.out | apply below_alloc | apply pw_below_drewN | apply below_drew1) | exact HB.out))) : w.heap.size ≤ gb101)); have n3_ := Aside0.mk ((by rw [hg]; exact (below_size (by repeat (first | (with_reducible first | exact HB.out | apply below_alloc | apply pw_below_drewN | apply below_drew1) | exact HB.out))) : w.heap.size ≤ gb101)); clear HB; have HB := n0_; have BK101 := n1_; have GW101 := n2_; have GE101 := n3_; clear n0_ n1_ n2_ n3_; clear hb hbox hg)); go_upto_region 1 with (first | ((with_reducible refine gate_dst (N := 2) rfl ?_); (try (refine gate_guard (by rfl) ?_; dsimp only)); refine box_event ?hg (N := 2) ?hd (cs := #[.int .i64 a0_0, .int .u64 a0_1, .slice A0_2 l0_2.length c0_2, .slice A0_3 l0_3.length c0_3]) (t := 26) ?hr ?_; (case hd => rfl); (case hg => rfl); (case hr => first | (go_simp; done) | (go_simp; rfl)); intro gb101 hg w4 hbox hb; have n0_ := Aside0.mk (below_step (by repeat (first | (with_reducible first | exact HB.out | apply below_alloc | apply pw_below_drewN | apply below_drew1) | exact HB.out)) hb); have n1_ := Aside0.mk (hbox); have n2_ := Aside0.mk ((by rw [hg]; exact (below_size (by repeat (first | (with_reducible first | exact HB.out | apply below_alloc | apply pw_below_drewN | apply below_drew1) | exact HB.out))) : w.heap.size ≤ gb101)); have n3_ := Aside0.mk ((by rw [hg]; exact (below_size (by repeat (first | (with_reducible first | exact HB.out | apply below_alloc | apply pw_below_drewN | apply below_drew1) | exact HB.out))) : w.heap.size ≤ gb101)); clear HB; have HB := n0_; have BK101 := n1_; have GW101 := n2_; have GE101 := n3_; clear n0_ n1_ n2_ n3_; clear hb hbox hg)))
  (try simp only [Act.put, List.setIfInBounds_toArray, List.set_cons_zero, List.set_cons_succ])
  go_cut [33] (fun v33 wc => ∃ (kq : Nat) (x33_2 : Bool), v33 = .bool x33_2 ∧ Aside0 (hanaperref05_may.j0 kq a1 x33_2 a0_0 a0_1 l0_2 l0_3 = some r) ∧ Aside0 (kq ≤ k) ∧ Aside0 (wc.heap[gb101]? = some (.cells #[.int .i64 a0_0, .int .u64 a0_1, (.slice A0_2 l0_2.length c0_2), (.slice A0_3 l0_3.length c0_3)] 26 (0, 0))) ∧ Aside0 (Below w.heap.size w wc))
  case first =>
    have H := HC3.out
    clear HC3
    by_cases c5 : a1 < 1
    · rw [if_pos c5] at H
      have c5b0 : decide (a1 < 1) = true := decide_eq_true c5
      clear c5
      (first | rw [c5b0] | (simp only [i64_w, i32_w]; rw [c5b0]) | skip)
      have H' := Aside0.mk H
      clear H
      go_wp2
      repeat (go_quiet (fail); try go_wp2)
      go_meet
      case rel => exact ⟨_, (true), (by first | rfl | (simp; done) | (simp [*]; done)), H', ⟨by first | omega | exact Nat.le_refl _⟩, ⟨by (with_reducible repeat (first | refine blk_drewN ?_ _ | refine blk_drew ?_ | refine blk_alloc ?_ _)); exact BK101.out⟩, ⟨by repeat (first | (with_reducible first | exact HB.out | apply below_alloc | apply pw_below_drewN | apply below_drew1 | refine below_set ?_ GE101.out) | exact HB.out)⟩⟩
    · rw [if_neg c5] at H
      have c5b0 : decide (a1 < 1) = false := decide_eq_false c5
      clear c5
      (first | rw [c5b0] | (simp only [i64_w, i32_w]; rw [c5b0]) | skip)
      replace H := Option.bind_eq_some_iff.mp H
      obtain ⟨t102, A60, H⟩ := H
      replace H : (if t102 < 0 then (hanaperref05_may.j0 k a1 true a0_0 a0_1 l0_2 l0_3) else ((hanaperref05_kids.f k a0_0).bind fun t103 => (if (l0_3.length : Int) = t103 then ((hanaperref05_number.f a0_0).bind fun t104 => (if t104 = true then (hanaperref05_may.j0 k a1 false a0_0 a0_1 l0_2 l0_3) else (hanaperref05_may.j0 k a1 (a0_1 != 0) a0_0 a0_1 l0_2 l0_3))) else (hanaperref05_may.j0 k a1 true a0_0 a0_1 l0_2 l0_3)))) = some r := H
      have A6 := Aside0.mk A60
      clear A60
      by_cases c7 : t102 < 0
      · rw [if_pos c7] at H
        have c7b0 : decide (t102 < 0) = true := decide_eq_true c7
        clear c7
        have H' := Aside0.mk H
        clear H
        have hcz8_0 : w4.cell? ⟨gb101, 0, none⟩ = some (.int .i64 a0_0) := (blk_cell BK101.out 0).trans rfl
        have hcz8_1 : w4.cell? ⟨gb101, 1, none⟩ = some (.int .u64 a0_1) := (blk_cell BK101.out 1).trans rfl
        have hcz8_2 : w4.cell? ⟨gb101, 2, none⟩ = some (.slice A0_2 l0_2.length c0_2) := (blk_cell BK101.out 2).trans rfl
        have hcz8_3 : w4.cell? ⟨gb101, 3, none⟩ = some (.slice A0_3 l0_3.length c0_3) := (blk_cell BK101.out 3).trans rfl
        have hfz8_0 := blk_frozen BK101.out 0
        have hfz8_1 := blk_frozen BK101.out 1
        have hfz8_2 := blk_frozen BK101.out 2
        have hfz8_3 := blk_frozen BK101.out 3
        go_wp2_with (first | (go_at_call 68; (with_reducible refine (hanaperref05_kids.calls k a0_0 t102 _ A6.out).mono ?_); rintro e w' ⟨rfl, ⟨nd, rfl⟩⟩; (try first | exact ⟨rfl, _, World.drewN_drewN _ _ _⟩ | exact ⟨rfl, _, Eq.trans (World.drewN_drewN _ _ _) (congrArg (World.drewN _) (Nat.add_assoc _ _ _))⟩)))
        repeat (go_quiet (first | (go_at_call 68; (with_reducible refine (hanaperref05_kids.calls k a0_0 t102 _ A6.out).mono ?_); rintro e w' ⟨rfl, ⟨nd, rfl⟩⟩; (try first | exact ⟨rfl, _, World.drewN_drewN _ _ _⟩ | exact ⟨rfl, _, Eq.trans (World.drewN_drewN _ _ _) (congrArg (World.drewN _) (Nat.add_assoc _ _ _))⟩))); try go_wp2_with (first | (go_at_call 68; (with_reducible refine (hanaperref05_kids.calls k a0_0 t102 _ A6.out).mono ?_); rintro e w' ⟨rfl, ⟨nd, rfl⟩⟩; (try first | exact ⟨rfl, _, World.drewN_drewN _ _ _⟩ | exact ⟨rfl, _, Eq.trans (World.drewN_drewN _ _ _) (congrArg (World.drewN _) (Nat.add_assoc _ _ _))⟩))))
        go_meet
        case rel => exact ⟨_, (true), (by first | rfl | (simp; done) | (simp [*]; done)), H', ⟨by first | omega | exact Nat.le_refl _⟩, ⟨by (with_reducible repeat (first | refine blk_drewN ?_ _ | refine blk_drew ?_ | refine blk_alloc ?_ _)); exact BK101.out⟩, ⟨by repeat (first | (with_reducible first | exact HB.out | apply below_alloc | apply pw_below_drewN | apply below_drew1 | refine below_set ?_ GE101.out) | exact HB.out)⟩⟩
      · rw [if_neg c7] at H
        have c7b0 : decide (t102 < 0) = false := decide_eq_false c7
        clear c7
        replace H := Option.bind_eq_some_iff.mp H
        obtain ⟨t103, A90, H⟩ := H
        replace H : (if (l0_3.length : Int) = t103 then ((hanaperref05_number.f a0_0).bind fun t104 => (if t104 = true then (hanaperref05_may.j0 k a1 false a0_0 a0_1 l0_2 l0_3) else (hanaperref05_may.j0 k a1 (a0_1 != 0) a0_0 a0_1 l0_2 l0_3))) else (hanaperref05_may.j0 k a1 true a0_0 a0_1 l0_2 l0_3)) = some r := H
        have A9 := Aside0.mk A90
        clear A90
        by_cases c10 : (l0_3.length : Int) = t103
        · rw [if_pos c10] at H
          have c10b0 : ((l0_3.length : Int) == t103) = true := beq_iff_eq.mpr c10
          have c10b1 : ((l0_3.length : Int) != t103) = false := bne_eq_false_iff_eq.mpr c10
          clear c10
          replace H := Option.bind_eq_some_iff.mp H
          obtain ⟨t104, A110, H⟩ := H
          replace H : (if t104 = true then (hanaperref05_may.j0 k a1 false a0_0 a0_1 l0_2 l0_3) else (hanaperref05_may.j0 k a1 (a0_1 != 0) a0_0 a0_1 l0_2 l0_3)) = some r := H
          have A11 := Aside0.mk A110
          clear A110
          by_cases c12 : t104 = true
          · subst c12
            have H1 : (hanaperref05_may.j0 k a1 false a0_0 a0_1 l0_2 l0_3) = some r := by rw [if_pos rfl] at H; exact H
            clear H
            have H := H1
            clear H1
            have H' := Aside0.mk H
            clear H
            have hcz13_0 : w4.cell? ⟨gb101, 0, none⟩ = some (.int .i64 a0_0) := (blk_cell BK101.out 0).trans rfl
            have hcz13_1 : w4.cell? ⟨gb101, 1, none⟩ = some (.int .u64 a0_1) := (blk_cell BK101.out 1).trans rfl
            have hcz13_2 : w4.cell? ⟨gb101, 2, none⟩ = some (.slice A0_2 l0_2.length c0_2) := (blk_cell BK101.out 2).trans rfl
            have hcz13_3 : w4.cell? ⟨gb101, 3, none⟩ = some (.slice A0_3 l0_3.length c0_3) := (blk_cell BK101.out 3).trans rfl
            have hfz13_0 := blk_frozen BK101.out 0
            have hfz13_1 := blk_frozen BK101.out 1
            have hfz13_2 := blk_frozen BK101.out 2
            have hfz13_3 := blk_frozen BK101.out 3
            obtain rfl : t102 = t103 := Option.some.inj (A6.out.symm.trans A9.out)
            go_wp2_with (first | (go_at_call 68; (with_reducible refine (hanaperref05_kids.calls k a0_0 t102 _ A6.out).mono ?_); rintro e w' ⟨rfl, ⟨nd, rfl⟩⟩; (try first | exact ⟨rfl, _, World.drewN_drewN _ _ _⟩ | exact ⟨rfl, _, Eq.trans (World.drewN_drewN _ _ _) (congrArg (World.drewN _) (Nat.add_assoc _ _ _))⟩)) | (go_at_call 68; (with_reducible refine (hanaperref05_kids.calls k a0_0 t103 _ A9.out).mono ?_); rintro e w' ⟨rfl, ⟨nd, rfl⟩⟩; (try first | exact ⟨rfl, _, World.drewN_drewN _ _ _⟩ | exact ⟨rfl, _, Eq.trans (World.drewN_drewN _ _ _) (congrArg (World.drewN _) (Nat.add_assoc _ _ _))⟩)) | (go_at_call 65; (with_reducible refine (hanaperref05_number.calls a0_0 true _ A11.out).mono ?_); rintro e w' ⟨rfl, ⟨nd, rfl⟩⟩; (try first | exact ⟨rfl, _, World.drewN_drewN _ _ _⟩ | exact ⟨rfl, _, Eq.trans (World.drewN_drewN _ _ _) (congrArg (World.drewN _) (Nat.add_assoc _ _ _))⟩)))
            repeat (go_quiet (first | (go_at_call 68; (with_reducible refine (hanaperref05_kids.calls k a0_0 t102 _ A6.out).mono ?_); rintro e w' ⟨rfl, ⟨nd, rfl⟩⟩; (try first | exact ⟨rfl, _, World.drewN_drewN _ _ _⟩ | exact ⟨rfl, _, Eq.trans (World.drewN_drewN _ _ _) (congrArg (World.drewN _) (Nat.add_assoc _ _ _))⟩)) | (go_at_call 68; (with_reducible refine (hanaperref05_kids.calls k a0_0 t103 _ A9.out).mono ?_); rintro e w' ⟨rfl, ⟨nd, rfl⟩⟩; (try first | exact ⟨rfl, _, World.drewN_drewN _ _ _⟩ | exact ⟨rfl, _, Eq.trans (World.drewN_drewN _ _ _) (congrArg (World.drewN _) (Nat.add_assoc _ _ _))⟩)) | (go_at_call 65; (with_reducible refine (hanaperref05_number.calls a0_0 true _ A11.out).mono ?_); rintro e w' ⟨rfl, ⟨nd, rfl⟩⟩; (try first | exact ⟨rfl, _, World.drewN_drewN _ _ _⟩ | exact ⟨rfl, _, Eq.trans (World.drewN_drewN _ _ _) (congrArg (World.drewN _) (Nat.add_assoc _ _ _))⟩))); try go_wp2_with (first | (go_at_call 68; (with_reducible refine (hanaperref05_kids.calls k a0_0 t102 _ A6.out).mono ?_); rintro e w' ⟨rfl, ⟨nd, rfl⟩⟩; (try first | exact ⟨rfl, _, World.drewN_drewN _ _ _⟩ | exact ⟨rfl, _, Eq.trans (World.drewN_drewN _ _ _) (congrArg (World.drewN _) (Nat.add_assoc _ _ _))⟩)) | (go_at_call 68; (with_reducible refine (hanaperref05_kids.calls k a0_0 t103 _ A9.out).mono ?_); rintro e w' ⟨rfl, ⟨nd, rfl⟩⟩; (try first | exact ⟨rfl, _, World.drewN_drewN _ _ _⟩ | exact ⟨rfl, _, Eq.trans (World.drewN_drewN _ _ _) (congrArg (World.drewN _) (Nat.add_assoc _ _ _))⟩)) | (go_at_call 65; (with_reducible refine (hanaperref05_number.calls a0_0 true _ A11.out).mono ?_); rintro e w' ⟨rfl, ⟨nd, rfl⟩⟩; (try first | exact ⟨rfl, _, World.drewN_drewN _ _ _⟩ | exact ⟨rfl, _, Eq.trans (World.drewN_drewN _ _ _) (congrArg (World.drewN _) (Nat.add_assoc _ _ _))⟩))))
            go_meet
            case rel => exact ⟨_, (false), (by first | rfl | (simp; done) | (simp [*]; done)), H', ⟨by first | omega | exact Nat.le_refl _⟩, ⟨by (with_reducible repeat (first | refine blk_drewN ?_ _ | refine blk_drew ?_ | refine blk_alloc ?_ _)); exact BK101.out⟩, ⟨by repeat (first | (with_reducible first | exact HB.out | apply below_alloc | apply pw_below_drewN | apply below_drew1 | refine below_set ?_ GE101.out) | exact HB.out)⟩⟩
          · replace c12 := Bool.eq_false_iff.mpr c12
            subst c12
            have H1 : (hanaperref05_may.j0 k a1 (a0_1 != 0) a0_0 a0_1 l0_2 l0_3) = some r := by rw [if_neg (show ¬ (false = true) by decide)] at H; exact H
            clear H
            have H := H1
            clear H1
            have H' := Aside0.mk H
            clear H
            have hcz14_0 : w4.cell? ⟨gb101, 0, none⟩ = some (.int .i64 a0_0) := (blk_cell BK101.out 0).trans rfl
            have hcz14_1 : w4.cell? ⟨gb101, 1, none⟩ = some (.int .u64 a0_1) := (blk_cell BK101.out 1).trans rfl
            have hcz14_2 : w4.cell? ⟨gb101, 2, none⟩ = some (.slice A0_2 l0_2.length c0_2) := (blk_cell BK101.out 2).trans rfl
            have hcz14_3 : w4.cell? ⟨gb101, 3, none⟩ = some (.slice A0_3 l0_3.length c0_3) := (blk_cell BK101.out 3).trans rfl
            have hfz14_0 := blk_frozen BK101.out 0
            have hfz14_1 := blk_frozen BK101.out 1
            have hfz14_2 := blk_frozen BK101.out 2
            have hfz14_3 := blk_frozen BK101.out 3
            obtain rfl : t102 = t103 := Option.some.inj (A6.out.symm.trans A9.out)
            go_wp2_with (first | (go_at_call 68; (with_reducible refine (hanaperref05_kids.calls k a0_0 t102 _ A6.out).mono ?_); rintro e w' ⟨rfl, ⟨nd, rfl⟩⟩; (try first | exact ⟨rfl, _, World.drewN_drewN _ _ _⟩ | exact ⟨rfl, _, Eq.trans (World.drewN_drewN _ _ _) (congrArg (World.drewN _) (Nat.add_assoc _ _ _))⟩)) | (go_at_call 68; (with_reducible refine (hanaperref05_kids.calls k a0_0 t103 _ A9.out).mono ?_); rintro e w' ⟨rfl, ⟨nd, rfl⟩⟩; (try first | exact ⟨rfl, _, World.drewN_drewN _ _ _⟩ | exact ⟨rfl, _, Eq.trans (World.drewN_drewN _ _ _) (congrArg (World.drewN _) (Nat.add_assoc _ _ _))⟩)) | (go_at_call 65; (with_reducible refine (hanaperref05_number.calls a0_0 false _ A11.out).mono ?_); rintro e w' ⟨rfl, ⟨nd, rfl⟩⟩; (try first | exact ⟨rfl, _, World.drewN_drewN _ _ _⟩ | exact ⟨rfl, _, Eq.trans (World.drewN_drewN _ _ _) (congrArg (World.drewN _) (Nat.add_assoc _ _ _))⟩)))
            repeat (go_quiet (first | (go_at_call 68; (with_reducible refine (hanaperref05_kids.calls k a0_0 t102 _ A6.out).mono ?_); rintro e w' ⟨rfl, ⟨nd, rfl⟩⟩; (try first | exact ⟨rfl, _, World.drewN_drewN _ _ _⟩ | exact ⟨rfl, _, Eq.trans (World.drewN_drewN _ _ _) (congrArg (World.drewN _) (Nat.add_assoc _ _ _))⟩)) | (go_at_call 68; (with_reducible refine (hanaperref05_kids.calls k a0_0 t103 _ A9.out).mono ?_); rintro e w' ⟨rfl, ⟨nd, rfl⟩⟩; (try first | exact ⟨rfl, _, World.drewN_drewN _ _ _⟩ | exact ⟨rfl, _, Eq.trans (World.drewN_drewN _ _ _) (congrArg (World.drewN _) (Nat.add_assoc _ _ _))⟩)) | (go_at_call 65; (with_reducible refine (hanaperref05_number.calls a0_0 false _ A11.out).mono ?_); rintro e w' ⟨rfl, ⟨nd, rfl⟩⟩; (try first | exact ⟨rfl, _, World.drewN_drewN _ _ _⟩ | exact ⟨rfl, _, Eq.trans (World.drewN_drewN _ _ _) (congrArg (World.drewN _) (Nat.add_assoc _ _ _))⟩))); try go_wp2_with (first | (go_at_call 68; (with_reducible refine (hanaperref05_kids.calls k a0_0 t102 _ A6.out).mono ?_); rintro e w' ⟨rfl, ⟨nd, rfl⟩⟩; (try first | exact ⟨rfl, _, World.drewN_drewN _ _ _⟩ | exact ⟨rfl, _, Eq.trans (World.drewN_drewN _ _ _) (congrArg (World.drewN _) (Nat.add_assoc _ _ _))⟩)) | (go_at_call 68; (with_reducible refine (hanaperref05_kids.calls k a0_0 t103 _ A9.out).mono ?_); rintro e w' ⟨rfl, ⟨nd, rfl⟩⟩; (try first | exact ⟨rfl, _, World.drewN_drewN _ _ _⟩ | exact ⟨rfl, _, Eq.trans (World.drewN_drewN _ _ _) (congrArg (World.drewN _) (Nat.add_assoc _ _ _))⟩)) | (go_at_call 65; (with_reducible refine (hanaperref05_number.calls a0_0 false _ A11.out).mono ?_); rintro e w' ⟨rfl, ⟨nd, rfl⟩⟩; (try first | exact ⟨rfl, _, World.drewN_drewN _ _ _⟩ | exact ⟨rfl, _, Eq.trans (World.drewN_drewN _ _ _) (congrArg (World.drewN _) (Nat.add_assoc _ _ _))⟩))))
            go_meet
            case rel => exact ⟨_, ((a0_1 != 0)), (by first | rfl | (simp; done) | (simp [*]; done)), H', ⟨by first | omega | exact Nat.le_refl _⟩, ⟨by (with_reducible repeat (first | refine blk_drewN ?_ _ | refine blk_drew ?_ | refine blk_alloc ?_ _)); exact BK101.out⟩, ⟨by repeat (first | (with_reducible first | exact HB.out | apply below_alloc | apply pw_below_drewN | apply below_drew1 | refine below_set ?_ GE101.out) | exact HB.out)⟩⟩
        · rw [if_neg c10] at H
          have c10b0 : ((l0_3.length : Int) == t103) = false := beq_eq_false_iff_ne.mpr c10
          have c10b1 : ((l0_3.length : Int) != t103) = true := bne_iff_ne.mpr c10
          have H' := Aside0.mk H
          clear H
          have hcz15_0 : w4.cell? ⟨gb101, 0, none⟩ = some (.int .i64 a0_0) := (blk_cell BK101.out 0).trans rfl
          have hcz15_1 : w4.cell? ⟨gb101, 1, none⟩ = some (.int .u64 a0_1) := (blk_cell BK101.out 1).trans rfl
          have hcz15_2 : w4.cell? ⟨gb101, 2, none⟩ = some (.slice A0_2 l0_2.length c0_2) := (blk_cell BK101.out 2).trans rfl
          have hcz15_3 : w4.cell? ⟨gb101, 3, none⟩ = some (.slice A0_3 l0_3.length c0_3) := (blk_cell BK101.out 3).trans rfl
          have hfz15_0 := blk_frozen BK101.out 0
          have hfz15_1 := blk_frozen BK101.out 1
          have hfz15_2 := blk_frozen BK101.out 2
          have hfz15_3 := blk_frozen BK101.out 3
          obtain rfl : t102 = t103 := Option.some.inj (A6.out.symm.trans A9.out)
          go_wp2_with (first | (go_at_call 68; (with_reducible refine (hanaperref05_kids.calls k a0_0 t102 _ A6.out).mono ?_); rintro e w' ⟨rfl, ⟨nd, rfl⟩⟩; (try first | exact ⟨rfl, _, World.drewN_drewN _ _ _⟩ | exact ⟨rfl, _, Eq.trans (World.drewN_drewN _ _ _) (congrArg (World.drewN _) (Nat.add_assoc _ _ _))⟩)) | (go_at_call 68; (with_reducible refine (hanaperref05_kids.calls k a0_0 t103 _ A9.out).mono ?_); rintro e w' ⟨rfl, ⟨nd, rfl⟩⟩; (try first | exact ⟨rfl, _, World.drewN_drewN _ _ _⟩ | exact ⟨rfl, _, Eq.trans (World.drewN_drewN _ _ _) (congrArg (World.drewN _) (Nat.add_assoc _ _ _))⟩)))
          repeat (go_quiet (first | (go_at_call 68; (with_reducible refine (hanaperref05_kids.calls k a0_0 t102 _ A6.out).mono ?_); rintro e w' ⟨rfl, ⟨nd, rfl⟩⟩; (try first | exact ⟨rfl, _, World.drewN_drewN _ _ _⟩ | exact ⟨rfl, _, Eq.trans (World.drewN_drewN _ _ _) (congrArg (World.drewN _) (Nat.add_assoc _ _ _))⟩)) | (go_at_call 68; (with_reducible refine (hanaperref05_kids.calls k a0_0 t103 _ A9.out).mono ?_); rintro e w' ⟨rfl, ⟨nd, rfl⟩⟩; (try first | exact ⟨rfl, _, World.drewN_drewN _ _ _⟩ | exact ⟨rfl, _, Eq.trans (World.drewN_drewN _ _ _) (congrArg (World.drewN _) (Nat.add_assoc _ _ _))⟩))); try go_wp2_with (first | (go_at_call 68; (with_reducible refine (hanaperref05_kids.calls k a0_0 t102 _ A6.out).mono ?_); rintro e w' ⟨rfl, ⟨nd, rfl⟩⟩; (try first | exact ⟨rfl, _, World.drewN_drewN _ _ _⟩ | exact ⟨rfl, _, Eq.trans (World.drewN_drewN _ _ _) (congrArg (World.drewN _) (Nat.add_assoc _ _ _))⟩)) | (go_at_call 68; (with_reducible refine (hanaperref05_kids.calls k a0_0 t103 _ A9.out).mono ?_); rintro e w' ⟨rfl, ⟨nd, rfl⟩⟩; (try first | exact ⟨rfl, _, World.drewN_drewN _ _ _⟩ | exact ⟨rfl, _, Eq.trans (World.drewN_drewN _ _ _) (congrArg (World.drewN _) (Nat.add_assoc _ _ _))⟩))))
          go_meet
          case rel => exact ⟨_, (true), (by first | rfl | (simp; done) | (simp [*]; done)), H', ⟨by first | omega | exact Nat.le_refl _⟩, ⟨by (with_reducible repeat (first | refine blk_drewN ?_ _ | refine blk_drew ?_ | refine blk_alloc ?_ _)); exact BK101.out⟩, ⟨by repeat (first | (with_reducible first | exact HB.out | apply below_alloc | apply pw_below_drewN | apply below_drew1 | refine below_set ?_ GE101.out) | exact HB.out)⟩⟩
  case rest =>
    clear HC3
    try clear c1
    try clear p2
    try clear c4
    try clear c5
    try clear c5b0
    try clear c7
    try clear c7b0
    try clear c10
    try clear c10b0
    try clear c10b1
    try clear c12
    try clear hcz13_0
    try clear hcz13_1
    try clear hcz13_2
    try clear hcz13_3
    try clear hcz14_0
    try clear hcz14_1
    try clear hcz14_2
    try clear hcz14_3
    try clear hcz15_0
    try clear hcz15_1
    try clear hcz15_2
    try clear hcz15_3
    try clear hcz8_0
    try clear hcz8_1
    try clear hcz8_2
    try clear hcz8_3
    try clear hfz13_0
    try clear hfz13_1
    try clear hfz13_2
    try clear hfz13_3
    try clear hfz14_0
    try clear hfz14_1
    try clear hfz14_2
    try clear hfz14_3
    try clear hfz15_0
    try clear hfz15_1
    try clear hfz15_2
    try clear hfz15_3
    try clear hfz8_0
    try clear hfz8_1
    try clear hfz8_2
    try clear hfz8_3
    obtain ⟨kq, x33_2, rfl, HA, HJ2, BK101, HB⟩ := hcut
    cases kq with
    | zero => exact absurd HA.out (by simp [hanaperref05_may.j0])
    | succ kj2 =>
      have H := HA.out
      clear HA
      simp only [hanaperref05_may.j0] at H
      by_cases c16 : x33_2 = true
      · subst c16
        have H1 : (some false) = some r := by rw [if_pos rfl] at H; exact H
        clear H
        have H := H1
        clear H1
        obtain rfl := Option.some.inj H
        go_wp2
        repeat (go_quiet (fail); try go_wp2)
        go_ret
        exact ⟨by first | rfl | (simp [errW_none, errW_some] <;> rfl) | (simp [*, errW_none, errW_some] <;> rfl), by repeat (first | (with_reducible first | exact HB.out | apply below_alloc | apply pw_below_drewN | apply below_drew1 | refine below_set ?_ GE101.out) | exact HB.out)⟩
      · replace c16 := Bool.eq_false_iff.mpr c16
        subst c16
        have H1 : (if a0_0 = 3 then (hanaperref05_may.j1 kj2 a1 (decide ((l0_2.length : Int) > 100)) a0_0 a0_1 l0_2 l0_3) else (if (l0_2.length : Int) > 0 then (hanaperref05_may.j1 kj2 a1 true a0_0 a0_1 l0_2 l0_3) else (hanaperref05_may.j1 kj2 a1 (decide ((l0_2.length : Int) > 100)) a0_0 a0_1 l0_2 l0_3))) = some r := by rw [if_neg (show ¬ (false = true) by decide)] at H; exact H
        clear H
        have H := H1
        clear H1
        have HC17 := Aside0.mk H
        clear H
        go_upto_region 3 with (fail)
        repeat (go_quiet (fail); go_upto_region 3 with (fail))
        go_cut [48] (fun v48 wc => ∃ (kq : Nat) (x48_16 : Bool), v48 = .bool x48_16 ∧ Aside0 (hanaperref05_may.j1 kq a1 x48_16 a0_0 a0_1 l0_2 l0_3 = some r) ∧ Aside0 (kq ≤ kj2) ∧ Aside0 (wc.heap[gb101]? = some (.cells #[.int .i64 a0_0, .int .u64 a0_1, (.slice A0_2 l0_2.length c0_2), (.slice A0_3 l0_3.length c0_3)] 26 (0, 0))) ∧ Aside0 (Below w.heap.size w wc))
        case first =>
          have H := HC17.out
          clear HC17
          by_cases c18 : a0_0 = 3
          · rw [if_pos c18] at H
            have c18b0 : (a0_0 == 3) = true := beq_iff_eq.mpr c18
            have c18b1 : (a0_0 != 3) = false := bne_eq_false_iff_eq.mpr c18
            clear c18
            (first | rw [c18b0] | (simp only [i64_w, i32_w]; rw [c18b0]) | skip)
            have H' := Aside0.mk H
            clear H
            have hcz19_0 : wc.cell? ⟨gb101, 0, none⟩ = some (.int .i64 a0_0) := (blk_cell BK101.out 0).trans rfl
            have hcz19_1 : wc.cell? ⟨gb101, 1, none⟩ = some (.int .u64 a0_1) := (blk_cell BK101.out 1).trans rfl
            have hcz19_2 : wc.cell? ⟨gb101, 2, none⟩ = some (.slice A0_2 l0_2.length c0_2) := (blk_cell BK101.out 2).trans rfl
            have hcz19_3 : wc.cell? ⟨gb101, 3, none⟩ = some (.slice A0_3 l0_3.length c0_3) := (blk_cell BK101.out 3).trans rfl
            have hfz19_0 := blk_frozen BK101.out 0
            have hfz19_1 := blk_frozen BK101.out 1
            have hfz19_2 := blk_frozen BK101.out 2
            have hfz19_3 := blk_frozen BK101.out 3
            go_wp2
            repeat (go_quiet (fail); try go_wp2)
            go_meet
            case rel => exact ⟨_, (decide ((l0_2.length : Int) > 100)), (by first | rfl | (simp; done) | (simp [*]; done)), H', ⟨by have := HJ2.out; first | omega | exact Nat.le_refl _⟩, ⟨by (with_reducible repeat (first | refine blk_drewN ?_ _ | refine blk_drew ?_ | refine blk_alloc ?_ _)); exact BK101.out⟩, ⟨by repeat (first | (with_reducible first | exact HB.out | apply below_alloc | apply pw_below_drewN | apply below_drew1 | refine below_set ?_ GE101.out) | exact HB.out)⟩⟩
          · rw [if_neg c18] at H
            have c18b0 : (a0_0 == 3) = false := beq_eq_false_iff_ne.mpr c18
            have c18b1 : (a0_0 != 3) = true := bne_iff_ne.mpr c18
            (first | rw [c18b0] | (simp only [i64_w, i32_w]; rw [c18b0]) | skip)
            by_cases c20 : (l0_2.length : Int) > 0
            · rw [if_pos c20] at H
              have c20b0 : decide (0 < (l0_2.length : Int)) = true := decide_eq_true c20
              have c20b1 : decide (0 < l0_2.length) = true := decide_eq_true (by omega)
              clear c20
              have H' := Aside0.mk H
              clear H
              have hcz21_0 : wc.cell? ⟨gb101, 0, none⟩ = some (.int .i64 a0_0) := (blk_cell BK101.out 0).trans rfl
              have hcz21_1 : wc.cell? ⟨gb101, 1, none⟩ = some (.int .u64 a0_1) := (blk_cell BK101.out 1).trans rfl
              have hcz21_2 : wc.cell? ⟨gb101, 2, none⟩ = some (.slice A0_2 l0_2.length c0_2) := (blk_cell BK101.out 2).trans rfl
              have hcz21_3 : wc.cell? ⟨gb101, 3, none⟩ = some (.slice A0_3 l0_3.length c0_3) := (blk_cell BK101.out 3).trans rfl
              have hfz21_0 := blk_frozen BK101.out 0
              have hfz21_1 := blk_frozen BK101.out 1
              have hfz21_2 := blk_frozen BK101.out 2
              have hfz21_3 := blk_frozen BK101.out 3
              go_wp2
              repeat (go_quiet (fail); try go_wp2)
              go_meet
              case rel => exact ⟨_, (true), (by first | rfl | (simp; done) | (simp [*]; done)), H', ⟨by have := HJ2.out; first | omega | exact Nat.le_refl _⟩, ⟨by (with_reducible repeat (first | refine blk_drewN ?_ _ | refine blk_drew ?_ | refine blk_alloc ?_ _)); exact BK101.out⟩, ⟨by repeat (first | (with_reducible first | exact HB.out | apply below_alloc | apply pw_below_drewN | apply below_drew1 | refine below_set ?_ GE101.out) | exact HB.out)⟩⟩
            · rw [if_neg c20] at H
              have c20b0 : decide (0 < (l0_2.length : Int)) = false := decide_eq_false c20
              have c20b1 : decide (0 < l0_2.length) = false := decide_eq_false (by omega)
              clear c20
              have H' := Aside0.mk H
              clear H
              have hcz22_0 : wc.cell? ⟨gb101, 0, none⟩ = some (.int .i64 a0_0) := (blk_cell BK101.out 0).trans rfl
              have hcz22_1 : wc.cell? ⟨gb101, 1, none⟩ = some (.int .u64 a0_1) := (blk_cell BK101.out 1).trans rfl
              have hcz22_2 : wc.cell? ⟨gb101, 2, none⟩ = some (.slice A0_2 l0_2.length c0_2) := (blk_cell BK101.out 2).trans rfl
              have hcz22_3 : wc.cell? ⟨gb101, 3, none⟩ = some (.slice A0_3 l0_3.length c0_3) := (blk_cell BK101.out 3).trans rfl
              have hfz22_0 := blk_frozen BK101.out 0
              have hfz22_1 := blk_frozen BK101.out 1
              have hfz22_2 := blk_frozen BK101.out 2
              have hfz22_3 := blk_frozen BK101.out 3
              go_wp2
              repeat (go_quiet (fail); try go_wp2)
              go_meet
              case rel => exact ⟨_, (decide ((l0_2.length : Int) > 100)), (by first | rfl | (simp; done) | (simp [*]; done)), H', ⟨by have := HJ2.out; first | omega | exact Nat.le_refl _⟩, ⟨by (with_reducible repeat (first | refine blk_drewN ?_ _ | refine blk_drew ?_ | refine blk_alloc ?_ _)); exact BK101.out⟩, ⟨by repeat (first | (with_reducible first | exact HB.out | apply below_alloc | apply pw_below_drewN | apply below_drew1 | refine below_set ?_ GE101.out) | exact HB.out)⟩⟩
        case rest =>
          clear HC17
          try clear c1
          try clear c2
          try clear p2
          try clear c4
          try clear c5
          try clear c5b0
          try clear c7
          try clear c7b0
          try clear c10
          try clear c10b0
          try clear c10b1
          try clear c12
          try clear c16
          try clear c18
          try clear c18b0
          try clear c18b1
          try clear c20
          try clear c20b0
          try clear c20b1
          try clear hcz13_0
          try clear hcz13_1
          try clear hcz13_2
          try clear hcz13_3
          try clear hcz14_0
          try clear hcz14_1
          try clear hcz14_2
          try clear hcz14_3
          try clear hcz15_0
          try clear hcz15_1
          try clear hcz15_2
          try clear hcz15_3
          try clear hcz19_0
          try clear hcz19_1
          try clear hcz19_2
          try clear hcz19_3
          try clear hcz21_0
          try clear hcz21_1
          try clear hcz21_2
          try clear hcz21_3
          try clear hcz22_0
          try clear hcz22_1
          try clear hcz22_2
          try clear hcz22_3
          try clear hcz8_0
          try clear hcz8_1
          try clear hcz8_2
          try clear hcz8_3
          try clear hfz13_0
          try clear hfz13_1
          try clear hfz13_2
          try clear hfz13_3
          try clear hfz14_0
          try clear hfz14_1
          try clear hfz14_2
          try clear hfz14_3
          try clear hfz15_0
          try clear hfz15_1
          try clear hfz15_2
          try clear hfz15_3
          try clear hfz19_0
          try clear hfz19_1
          try clear hfz19_2
          try clear hfz19_3
          try clear hfz21_0
          try clear hfz21_1
          try clear hfz21_2
          try clear hfz21_3
          try clear hfz22_0
          try clear hfz22_1
          try clear hfz22_2
          try clear hfz22_3
          try clear hfz8_0
          try clear hfz8_1
          try clear hfz8_2
          try clear hfz8_3
          try clear p2
          obtain ⟨kq, x48_16, rfl, HA, HJ16, BK101, HB⟩ := hcut
          cases kq with
          | zero => exact absurd HA.out (by simp [hanaperref05_may.j1])
          | succ kj16 =>
            have H := HA.out
            clear HA
            simp only [hanaperref05_may.j1] at H
            by_cases c23 : x48_16 = true
            · subst c23
              have H1 : (some false) = some r := by rw [if_pos rfl] at H; exact H
              clear H
              have H := H1
              clear H1
              obtain rfl := Option.some.inj H
              go_wp2
              repeat (go_quiet (fail); try go_wp2)
              go_ret
              exact ⟨by first | rfl | (simp [errW_none, errW_some] <;> rfl) | (simp [*, errW_none, errW_some] <;> rfl), by repeat (first | (with_reducible first | exact HB.out | apply below_alloc | apply pw_below_drewN | apply below_drew1 | refine below_set ?_ GE101.out) | exact HB.out)⟩
            · replace c23 := Bool.eq_false_iff.mpr c23
              subst c23
              have H1 : (hanaperref05_may.l0 kj16 a1 0 a0_0 a0_1 l0_2 l0_3) = some r := by rw [if_neg (show ¬ (false = true) by decide)] at H; exact H
              clear H
              have H := H1
              clear H1
              have H' := Aside0.mk H
              clear H
              go_wp2
              repeat (go_quiet (fail); try go_wp2)
              go_loopg [5] kj16 (fun kq v5 w' => ∃ (x5_3 : Int), v5 = .int .i64 x5_3 ∧ Aside0 (hanaperref05_may.l0 kq a1 x5_3 a0_0 a0_1 l0_2 l0_3 = some r) ∧ Aside0 (kq ≤ kj16) ∧ Aside0 (w'.heap[gb101]? = some (.cells #[.int .i64 a0_0, .int .u64 a0_1, (.slice A0_2 l0_2.length c0_2), (.slice A0_3 l0_3.length c0_3)] 26 (0, 0))) ∧ Aside0 (Below w.heap.size w w'))
              case atStart => exact ⟨(0), (by first | rfl | (simp; done) | (simp [*]; done)), H', ⟨Nat.le_refl _⟩, ⟨by (with_reducible repeat (first | refine blk_drewN ?_ _ | refine blk_drew ?_ | refine blk_alloc ?_ _)); exact BK101.out⟩, ⟨by repeat (first | (with_reducible first | exact HB.out | apply below_alloc | apply pw_below_drewN | apply below_drew1 | refine below_set ?_ GE101.out) | exact HB.out)⟩⟩
              case round =>
                clear H'
                try clear c1
                try clear c2
                try clear p2
                try clear c4
                try clear c5
                try clear c5b0
                try clear c7
                try clear c7b0
                try clear c10
                try clear c10b0
                try clear c10b1
                try clear c12
                try clear c16
                try clear c18
                try clear c18b0
                try clear c18b1
                try clear c20
                try clear c20b0
                try clear c20b1
                try clear c23
                try clear hcz13_0
                try clear hcz13_1
                try clear hcz13_2
                try clear hcz13_3
                try clear hcz14_0
                try clear hcz14_1
                try clear hcz14_2
                try clear hcz14_3
                try clear hcz15_0
                try clear hcz15_1
                try clear hcz15_2
                try clear hcz15_3
                try clear hcz19_0
                try clear hcz19_1
                try clear hcz19_2
                try clear hcz19_3
                try clear hcz21_0
                try clear hcz21_1
                try clear hcz21_2
                try clear hcz21_3
                try clear hcz22_0
                try clear hcz22_1
                try clear hcz22_2
                try clear hcz22_3
                try clear hcz8_0
                try clear hcz8_1
                try clear hcz8_2
                try clear hcz8_3
                try clear hfz13_0
                try clear hfz13_1
                try clear hfz13_2
                try clear hfz13_3
                try clear hfz14_0
                try clear hfz14_1
                try clear hfz14_2
                try clear hfz14_3
                try clear hfz15_0
                try clear hfz15_1
                try clear hfz15_2
                try clear hfz15_3
                try clear hfz19_0
                try clear hfz19_1
                try clear hfz19_2
                try clear hfz19_3
                try clear hfz21_0
                try clear hfz21_1
                try clear hfz21_2
                try clear hfz21_3
                try clear hfz22_0
                try clear hfz22_1
                try clear hfz22_2
                try clear hfz22_3
                try clear hfz8_0
                try clear hfz8_1
                try clear hfz8_2
                try clear hfz8_3
                try clear p2
                obtain ⟨x5_3, rfl, HA, HK3, BK101, HB⟩ := hrel
                cases gk with
                | zero => exact absurd HA.out (by simp [hanaperref05_may.l0])
                | succ k3 =>
                  have H := HA.out
                  clear HA
                  simp only [hanaperref05_may.l0] at H
                  by_cases c24 : x5_3 < (l0_3.length : Int)
                  · rw [if_pos c24] at H
                    have c24b0 : decide (x5_3 < (l0_3.length : Int)) = true := decide_eq_true c24
                    clear c24
                    by_cases c25 : 0 ≤ x5_3
                    · rw [if_pos c25] at H
                      have c25b0 : decide (0 ≤ x5_3) = true := decide_eq_true c25
                      clear c25
                      replace H := Option.bind_eq_some_iff.mp H
                      obtain ⟨t106, A260, H⟩ := H
                      replace H : (if t106 = true then (hanaperref05_may.l0 k3 a1 (wrap64 (x5_3 + 1)) a0_0 a0_1 l0_2 l0_3) else (some false)) = some r := H
                      have A26 := Aside0.mk A260
                      clear A260
                      by_cases c27 : t106 = true
                      · subst c27
                        have H1 : (hanaperref05_may.l0 k3 a1 (wrap64 (x5_3 + 1)) a0_0 a0_1 l0_2 l0_3) = some r := by rw [if_pos rfl] at H; exact H
                        clear H
                        have H := H1
                        clear H1
                        have H' := Aside0.mk H
                        clear H
                        have hcz28_0 : wr.cell? ⟨gb101, 0, none⟩ = some (.int .i64 a0_0) := (blk_cell BK101.out 0).trans rfl
                        have hcz28_1 : wr.cell? ⟨gb101, 1, none⟩ = some (.int .u64 a0_1) := (blk_cell BK101.out 1).trans rfl
                        have hcz28_2 : wr.cell? ⟨gb101, 2, none⟩ = some (.slice A0_2 l0_2.length c0_2) := (blk_cell BK101.out 2).trans rfl
                        have hcz28_3 : wr.cell? ⟨gb101, 3, none⟩ = some (.slice A0_3 l0_3.length c0_3) := (blk_cell BK101.out 3).trans rfl
                        have hfz28_0 := blk_frozen BK101.out 0
                        have hfz28_1 := blk_frozen BK101.out 1
                        have hfz28_2 := blk_frozen BK101.out 2
                        have hfz28_3 := blk_frozen BK101.out 3
                        have p105 : 0 ≤ (x5_3 : Int) := of_decide_eq_true (by first | (with_reducible assumption) | assumption)
                        have q105 : x5_3 < (l0_3.length : Int) := of_decide_eq_true (by first | (with_reducible assumption) | assumption)
                        obtain ⟨ad105, A105_2, c105_2, A105_3, c105_3, e105, hx105_0, hx105_1, hx105_2, hx105_3, hl105_2, hi105_2, hl105_3, hi105_3⟩ := at_T26 HR0_3.out x5_3 p105 q105
                        cases e105
                        replace hx105_0 := (HB.out.cell (World.block_lt_of_cell? w _ hx105_0)).trans hx105_0
                        replace hx105_1 := (HB.out.cell (World.block_lt_of_cell? w _ hx105_1)).trans hx105_1
                        replace hx105_2 := (HB.out.cell (World.block_lt_of_cell? w _ hx105_2)).trans hx105_2
                        replace hx105_3 := (HB.out.cell (World.block_lt_of_cell? w _ hx105_3)).trans hx105_3
                        have HR105_2 := Aside0.mk hi105_2
                        have HC105_2 := Aside0.mk hl105_2
                        clear hi105_2 hl105_2
                        have HR105_3 := Aside0.mk hi105_3
                        have HC105_3 := Aside0.mk hl105_3
                        clear hi105_3 hl105_3
                        replace p105 := eq_true p105
                        replace q105 := eq_true q105
                        go_wp2_with (first | (go_at_call 48; (with_reducible refine (ih k3 (by have := HJ2.out; have := HJ16.out; have := HK3.out; omega) ((rd_T26 l0_3 x5_3).f0) ((rd_T26 l0_3 x5_3).f1) _ _ ((rd_T26 l0_3 x5_3).f2) _ _ ((rd_T26 l0_3 x5_3).f3) (wrap64 (a1 - 1)) true _ ?side1 ?side2 ?side3 ?side4 A26.out).mono ?_); (case side1 => repeat (first | exact (Kd.C_below HR105_2.out HB.out) | (with_reducible refine Kd.C_alloc ?_ _) | (with_reducible refine Kd.C_drewN ?_ _) | (with_reducible refine Kd.C_drew ?_))); (case side2 => exact HC105_2.out); (case side3 => repeat (first | exact (Kd.C_below HR105_3.out HB.out) | (with_reducible refine Kd.C_alloc ?_ _) | (with_reducible refine Kd.C_drewN ?_ _) | (with_reducible refine Kd.C_drew ?_))); (case side4 => exact HC105_3.out); rintro e w29 ⟨rfl, hb⟩; have n0_ := Aside0.mk (blk_below (g := gb101) (o := .cells #[.int .i64 a0_0, .int .u64 a0_1, .slice A0_2 l0_2.length c0_2, .slice (some ad105) l0_3.length c0_3] 26 (0, 0)) (by (with_reducible repeat (first | refine blk_drewN ?_ _ | refine blk_drew ?_ | refine blk_alloc ?_ _)); exact BK101.out) hb); have n1_ := Aside0.mk (below_step (by repeat (first | (with_reducible first | exact HB.out | apply below_alloc | apply pw_below_drewN | apply below_drew1 | refine below_set ?_ GE101.out) | exact HB.out)) hb); clear BK101; clear HB; have BK101 := n0_; have HB := n1_; clear n0_ n1_; (try clear hb); (try clear hb2); (try clear hk); (try clear hi)))
                        repeat (go_quiet (first | (go_at_call 48; (with_reducible refine (ih k3 (by have := HJ2.out; have := HJ16.out; have := HK3.out; omega) ((rd_T26 l0_3 x5_3).f0) ((rd_T26 l0_3 x5_3).f1) _ _ ((rd_T26 l0_3 x5_3).f2) _ _ ((rd_T26 l0_3 x5_3).f3) (wrap64 (a1 - 1)) true _ ?side1 ?side2 ?side3 ?side4 A26.out).mono ?_); (case side1 => repeat (first | exact (Kd.C_below HR105_2.out HB.out) | (with_reducible refine Kd.C_alloc ?_ _) | (with_reducible refine Kd.C_drewN ?_ _) | (with_reducible refine Kd.C_drew ?_))); (case side2 => exact HC105_2.out); (case side3 => repeat (first | exact (Kd.C_below HR105_3.out HB.out) | (with_reducible refine Kd.C_alloc ?_ _) | (with_reducible refine Kd.C_drewN ?_ _) | (with_reducible refine Kd.C_drew ?_))); (case side4 => exact HC105_3.out); rintro e w29 ⟨rfl, hb⟩; have n0_ := Aside0.mk (blk_below (g := gb101) (o := .cells #[.int .i64 a0_0, .int .u64 a0_1, .slice A0_2 l0_2.length c0_2, .slice (some ad105) l0_3.length c0_3] 26 (0, 0)) (by (with_reducible repeat (first | refine blk_drewN ?_ _ | refine blk_drew ?_ | refine blk_alloc ?_ _)); exact BK101.out) hb); have n1_ := Aside0.mk (below_step (by repeat (first | (with_reducible first | exact HB.out | apply below_alloc | apply pw_below_drewN | apply below_drew1 | refine below_set ?_ GE101.out) | exact HB.out)) hb); clear BK101; clear HB; have BK101 := n0_; have HB := n1_; clear n0_ n1_; (try clear hb); (try clear hb2); (try clear hk); (try clear hi))); try go_wp2_with (first | (go_at_call 48; (with_reducible refine (ih k3 (by have := HJ2.out; have := HJ16.out; have := HK3.out; omega) ((rd_T26 l0_3 x5_3).f0) ((rd_T26 l0_3 x5_3).f1) _ _ ((rd_T26 l0_3 x5_3).f2) _ _ ((rd_T26 l0_3 x5_3).f3) (wrap64 (a1 - 1)) true _ ?side1 ?side2 ?side3 ?side4 A26.out).mono ?_); (case side1 => repeat (first | exact (Kd.C_below HR105_2.out HB.out) | (with_reducible refine Kd.C_alloc ?_ _) | (with_reducible refine Kd.C_drewN ?_ _) | (with_reducible refine Kd.C_drew ?_))); (case side2 => exact HC105_2.out); (case side3 => repeat (first | exact (Kd.C_below HR105_3.out HB.out) | (with_reducible refine Kd.C_alloc ?_ _) | (with_reducible refine Kd.C_drewN ?_ _) | (with_reducible refine Kd.C_drew ?_))); (case side4 => exact HC105_3.out); rintro e w29 ⟨rfl, hb⟩; have n0_ := Aside0.mk (blk_below (g := gb101) (o := .cells #[.int .i64 a0_0, .int .u64 a0_1, .slice A0_2 l0_2.length c0_2, .slice (some ad105) l0_3.length c0_3] 26 (0, 0)) (by (with_reducible repeat (first | refine blk_drewN ?_ _ | refine blk_drew ?_ | refine blk_alloc ?_ _)); exact BK101.out) hb); have n1_ := Aside0.mk (below_step (by repeat (first | (with_reducible first | exact HB.out | apply below_alloc | apply pw_below_drewN | apply below_drew1 | refine below_set ?_ GE101.out) | exact HB.out)) hb); clear BK101; clear HB; have BK101 := n0_; have HB := n1_; clear n0_ n1_; (try clear hb); (try clear hb2); (try clear hk); (try clear hi))))
                        go_roundg k3
                        case measure => have := HJ2.out; have := HJ16.out; have := HK3.out; omega
                        case rel => exact ⟨(wrap64 (x5_3 + 1)), (by first | rfl | (simp; done) | (simp [*]; done)), H', ⟨by have := HJ2.out; have := HJ16.out; have := HK3.out; omega⟩, ⟨by (with_reducible repeat (first | refine blk_drewN ?_ _ | refine blk_drew ?_ | refine blk_alloc ?_ _)); exact BK101.out⟩, ⟨by repeat (first | (with_reducible first | exact HB.out | apply below_alloc | apply pw_below_drewN | apply below_drew1 | refine below_set ?_ GE101.out) | exact HB.out)⟩⟩
                      · replace c27 := Bool.eq_false_iff.mpr c27
                        subst c27
                        have H1 : (some false) = some r := by rw [if_neg (show ¬ (false = true) by decide)] at H; exact H
                        clear H
                        have H := H1
                        clear H1
                        obtain rfl := Option.some.inj H
                        have hcz30_0 : wr.cell? ⟨gb101, 0, none⟩ = some (.int .i64 a0_0) := (blk_cell BK101.out 0).trans rfl
                        have hcz30_1 : wr.cell? ⟨gb101, 1, none⟩ = some (.int .u64 a0_1) := (blk_cell BK101.out 1).trans rfl
                        have hcz30_2 : wr.cell? ⟨gb101, 2, none⟩ = some (.slice A0_2 l0_2.length c0_2) := (blk_cell BK101.out 2).trans rfl
                        have hcz30_3 : wr.cell? ⟨gb101, 3, none⟩ = some (.slice A0_3 l0_3.length c0_3) := (blk_cell BK101.out 3).trans rfl
                        have hfz30_0 := blk_frozen BK101.out 0
                        have hfz30_1 := blk_frozen BK101.out 1
                        have hfz30_2 := blk_frozen BK101.out 2
                        have hfz30_3 := blk_frozen BK101.out 3
                        have p105 : 0 ≤ (x5_3 : Int) := of_decide_eq_true (by first | (with_reducible assumption) | assumption)
                        have q105 : x5_3 < (l0_3.length : Int) := of_decide_eq_true (by first | (with_reducible assumption) | assumption)
                        obtain ⟨ad105, A105_2, c105_2, A105_3, c105_3, e105, hx105_0, hx105_1, hx105_2, hx105_3, hl105_2, hi105_2, hl105_3, hi105_3⟩ := at_T26 HR0_3.out x5_3 p105 q105
                        cases e105
                        replace hx105_0 := (HB.out.cell (World.block_lt_of_cell? w _ hx105_0)).trans hx105_0
                        replace hx105_1 := (HB.out.cell (World.block_lt_of_cell? w _ hx105_1)).trans hx105_1
                        replace hx105_2 := (HB.out.cell (World.block_lt_of_cell? w _ hx105_2)).trans hx105_2
                        replace hx105_3 := (HB.out.cell (World.block_lt_of_cell? w _ hx105_3)).trans hx105_3
                        have HR105_2 := Aside0.mk hi105_2
                        have HC105_2 := Aside0.mk hl105_2
                        clear hi105_2 hl105_2
                        have HR105_3 := Aside0.mk hi105_3
                        have HC105_3 := Aside0.mk hl105_3
                        clear hi105_3 hl105_3
                        replace p105 := eq_true p105
                        replace q105 := eq_true q105
                        go_wp2_with (first | (go_at_call 48; (with_reducible refine (ih k3 (by have := HJ2.out; have := HJ16.out; have := HK3.out; omega) ((rd_T26 l0_3 x5_3).f0) ((rd_T26 l0_3 x5_3).f1) _ _ ((rd_T26 l0_3 x5_3).f2) _ _ ((rd_T26 l0_3 x5_3).f3) (wrap64 (a1 - 1)) false _ ?side1 ?side2 ?side3 ?side4 A26.out).mono ?_); (case side1 => repeat (first | exact (Kd.C_below HR105_2.out HB.out) | (with_reducible refine Kd.C_alloc ?_ _) | (with_reducible refine Kd.C_drewN ?_ _) | (with_reducible refine Kd.C_drew ?_))); (case side2 => exact HC105_2.out); (case side3 => repeat (first | exact (Kd.C_below HR105_3.out HB.out) | (with_reducible refine Kd.C_alloc ?_ _) | (with_reducible refine Kd.C_drewN ?_ _) | (with_reducible refine Kd.C_drew ?_))); (case side4 => exact HC105_3.out); rintro e w31 ⟨rfl, hb⟩; have n0_ := Aside0.mk (blk_below (g := gb101) (o := .cells #[.int .i64 a0_0, .int .u64 a0_1, .slice A0_2 l0_2.length c0_2, .slice (some ad105) l0_3.length c0_3] 26 (0, 0)) (by (with_reducible repeat (first | refine blk_drewN ?_ _ | refine blk_drew ?_ | refine blk_alloc ?_ _)); exact BK101.out) hb); have n1_ := Aside0.mk (below_step (by repeat (first | (with_reducible first | exact HB.out | apply below_alloc | apply pw_below_drewN | apply below_drew1 | refine below_set ?_ GE101.out) | exact HB.out)) hb); clear BK101; clear HB; have BK101 := n0_; have HB := n1_; clear n0_ n1_; (try clear hb); (try clear hb2); (try clear hk); (try clear hi)))
                        repeat (go_quiet (first | (go_at_call 48; (with_reducible refine (ih k3 (by have := HJ2.out; have := HJ16.out; have := HK3.out; omega) ((rd_T26 l0_3 x5_3).f0) ((rd_T26 l0_3 x5_3).f1) _ _ ((rd_T26 l0_3 x5_3).f2) _ _ ((rd_T26 l0_3 x5_3).f3) (wrap64 (a1 - 1)) false _ ?side1 ?side2 ?side3 ?side4 A26.out).mono ?_); (case side1 => repeat (first | exact (Kd.C_below HR105_2.out HB.out) | (with_reducible refine Kd.C_alloc ?_ _) | (with_reducible refine Kd.C_drewN ?_ _) | (with_reducible refine Kd.C_drew ?_))); (case side2 => exact HC105_2.out); (case side3 => repeat (first | exact (Kd.C_below HR105_3.out HB.out) | (with_reducible refine Kd.C_alloc ?_ _) | (with_reducible refine Kd.C_drewN ?_ _) | (with_reducible refine Kd.C_drew ?_))); (case side4 => exact HC105_3.out); rintro e w31 ⟨rfl, hb⟩; have n0_ := Aside0.mk (blk_below (g := gb101) (o := .cells #[.int .i64 a0_0, .int .u64 a0_1, .slice A0_2 l0_2.length c0_2, .slice (some ad105) l0_3.length c0_3] 26 (0, 0)) (by (with_reducible repeat (first | refine blk_drewN ?_ _ | refine blk_drew ?_ | refine blk_alloc ?_ _)); exact BK101.out) hb); have n1_ := Aside0.mk (below_step (by repeat (first | (with_reducible first | exact HB.out | apply below_alloc | apply pw_below_drewN | apply below_drew1 | refine below_set ?_ GE101.out) | exact HB.out)) hb); clear BK101; clear HB; have BK101 := n0_; have HB := n1_; clear n0_ n1_; (try clear hb); (try clear hb2); (try clear hk); (try clear hi))); try go_wp2_with (first | (go_at_call 48; (with_reducible refine (ih k3 (by have := HJ2.out; have := HJ16.out; have := HK3.out; omega) ((rd_T26 l0_3 x5_3).f0) ((rd_T26 l0_3 x5_3).f1) _ _ ((rd_T26 l0_3 x5_3).f2) _ _ ((rd_T26 l0_3 x5_3).f3) (wrap64 (a1 - 1)) false _ ?side1 ?side2 ?side3 ?side4 A26.out).mono ?_); (case side1 => repeat (first | exact (Kd.C_below HR105_2.out HB.out) | (with_reducible refine Kd.C_alloc ?_ _) | (with_reducible refine Kd.C_drewN ?_ _) | (with_reducible refine Kd.C_drew ?_))); (case side2 => exact HC105_2.out); (case side3 => repeat (first | exact (Kd.C_below HR105_3.out HB.out) | (with_reducible refine Kd.C_alloc ?_ _) | (with_reducible refine Kd.C_drewN ?_ _) | (with_reducible refine Kd.C_drew ?_))); (case side4 => exact HC105_3.out); rintro e w31 ⟨rfl, hb⟩; have n0_ := Aside0.mk (blk_below (g := gb101) (o := .cells #[.int .i64 a0_0, .int .u64 a0_1, .slice A0_2 l0_2.length c0_2, .slice (some ad105) l0_3.length c0_3] 26 (0, 0)) (by (with_reducible repeat (first | refine blk_drewN ?_ _ | refine blk_drew ?_ | refine blk_alloc ?_ _)); exact BK101.out) hb); have n1_ := Aside0.mk (below_step (by repeat (first | (with_reducible first | exact HB.out | apply below_alloc | apply pw_below_drewN | apply below_drew1 | refine below_set ?_ GE101.out) | exact HB.out)) hb); clear BK101; clear HB; have BK101 := n0_; have HB := n1_; clear n0_ n1_; (try clear hb); (try clear hb2); (try clear hk); (try clear hi))))
                        go_ret
                        exact ⟨by first | rfl | (simp [errW_none, errW_some] <;> rfl) | (simp [*, errW_none, errW_some] <;> rfl), by repeat (first | (with_reducible first | exact HB.out | apply below_alloc | apply pw_below_drewN | apply below_drew1 | refine below_set ?_ GE101.out) | exact HB.out)⟩
                    · rw [if_neg c25] at H
                      exact absurd H (by simp)
                  · rw [if_neg c24] at H
                    have c24b0 : decide (x5_3 < (l0_3.length : Int)) = false := decide_eq_false c24
                    clear c24
                    by_cases c32 : a0_0 = 5
                    · rw [if_pos c32] at H
                      have c32b0 : (a0_0 == 5) = true := beq_iff_eq.mpr c32
                      have c32b1 : (a0_0 != 5) = false := bne_eq_false_iff_eq.mpr c32
                      clear c32
                      by_cases c33 : 1 < (l0_3.length : Int)
                      · rw [if_pos c33] at H
                        have c33b0 : decide (1 < (l0_3.length : Int)) = true := decide_eq_true c33
                        have c33b1 : decide (1 < l0_3.length) = true := decide_eq_true (by omega)
                        clear c33
                        obtain rfl := Option.some.inj H
                        have hcz34_0 : wr.cell? ⟨gb101, 0, none⟩ = some (.int .i64 a0_0) := (blk_cell BK101.out 0).trans rfl
                        have hcz34_1 : wr.cell? ⟨gb101, 1, none⟩ = some (.int .u64 a0_1) := (blk_cell BK101.out 1).trans rfl
                        have hcz34_2 : wr.cell? ⟨gb101, 2, none⟩ = some (.slice A0_2 l0_2.length c0_2) := (blk_cell BK101.out 2).trans rfl
                        have hcz34_3 : wr.cell? ⟨gb101, 3, none⟩ = some (.slice A0_3 l0_3.length c0_3) := (blk_cell BK101.out 3).trans rfl
                        have hfz34_0 := blk_frozen BK101.out 0
                        have hfz34_1 := blk_frozen BK101.out 1
                        have hfz34_2 := blk_frozen BK101.out 2
                        have hfz34_3 := blk_frozen BK101.out 3
                        have p107 : 0 ≤ (1 : Int) := (by omega)
                        have q107 : 1 < (l0_3.length : Int) := of_decide_eq_true (by first | (with_reducible assumption) | assumption)
                        obtain ⟨ad107, A107_2, c107_2, A107_3, c107_3, e107, hx107_0, hx107_1, hx107_2, hx107_3, hl107_2, hi107_2, hl107_3, hi107_3⟩ := at_T26 HR0_3.out 1 p107 q107
                        cases e107
                        (try simp only [show (1 : Int).toNat = 1 from rfl, Nat.reduceMul, Nat.reduceEqDiff, Go.Addr.add, ↓reduceIte] at hx107_0)
                        (try simp only [show (1 : Int).toNat = 1 from rfl, Nat.reduceMul, Nat.reduceEqDiff, Go.Addr.add, ↓reduceIte] at hx107_1)
                        (try simp only [show (1 : Int).toNat = 1 from rfl, Nat.reduceMul, Nat.reduceEqDiff, Go.Addr.add, ↓reduceIte] at hx107_2)
                        (try simp only [show (1 : Int).toNat = 1 from rfl, Nat.reduceMul, Nat.reduceEqDiff, Go.Addr.add, ↓reduceIte] at hx107_3)
                        have qi107 : (1 < l0_3.length) = True := eq_true (by omega)
                        (try rw [show ((1 : Int)).toNat = 1 from rfl] at hx107_0)
                        (try rw [show 1 * 4 = 4 from rfl] at hx107_0)
                        (try rw [show ((1 : Int)).toNat = 1 from rfl] at hx107_1)
                        (try rw [show 1 * 4 = 4 from rfl] at hx107_1)
                        (try rw [show ((1 : Int)).toNat = 1 from rfl] at hx107_2)
                        (try rw [show 1 * 4 = 4 from rfl] at hx107_2)
                        (try rw [show ((1 : Int)).toNat = 1 from rfl] at hx107_3)
                        (try rw [show 1 * 4 = 4 from rfl] at hx107_3)
                        replace hx107_0 := (HB.out.cell (World.block_lt_of_cell? w _ hx107_0)).trans hx107_0
                        replace hx107_1 := (HB.out.cell (World.block_lt_of_cell? w _ hx107_1)).trans hx107_1
                        replace hx107_2 := (HB.out.cell (World.block_lt_of_cell? w _ hx107_2)).trans hx107_2
                        replace hx107_3 := (HB.out.cell (World.block_lt_of_cell? w _ hx107_3)).trans hx107_3
                        have HR107_2 := Aside0.mk hi107_2
                        have HC107_2 := Aside0.mk hl107_2
                        clear hi107_2 hl107_2
                        have HR107_3 := Aside0.mk hi107_3
                        have HC107_3 := Aside0.mk hl107_3
                        clear hi107_3 hl107_3
                        replace p107 := eq_true p107
                        replace q107 := eq_true q107
                        go_wp2
                        repeat (go_quiet (fail); try go_wp2)
                        go_ret
                        exact ⟨by first | rfl | (simp [errW_none, errW_some] <;> rfl) | (simp [*, errW_none, errW_some] <;> rfl), by repeat (first | (with_reducible first | exact HB.out | apply below_alloc | apply pw_below_drewN | apply below_drew1 | refine below_set ?_ GE101.out) | exact HB.out)⟩
                      · rw [if_neg c33] at H
                        exact absurd H (by simp)
                    · rw [if_neg c32] at H
                      have c32b0 : (a0_0 == 5) = false := beq_eq_false_iff_ne.mpr c32
                      have c32b1 : (a0_0 != 5) = true := bne_iff_ne.mpr c32
                      obtain rfl := Option.some.inj H
                      have hcz35_0 : wr.cell? ⟨gb101, 0, none⟩ = some (.int .i64 a0_0) := (blk_cell BK101.out 0).trans rfl
                      have hcz35_1 : wr.cell? ⟨gb101, 1, none⟩ = some (.int .u64 a0_1) := (blk_cell BK101.out 1).trans rfl
                      have hcz35_2 : wr.cell? ⟨gb101, 2, none⟩ = some (.slice A0_2 l0_2.length c0_2) := (blk_cell BK101.out 2).trans rfl
                      have hcz35_3 : wr.cell? ⟨gb101, 3, none⟩ = some (.slice A0_3 l0_3.length c0_3) := (blk_cell BK101.out 3).trans rfl
                      have hfz35_0 := blk_frozen BK101.out 0
                      have hfz35_1 := blk_frozen BK101.out 1
                      have hfz35_2 := blk_frozen BK101.out 2
                      have hfz35_3 := blk_frozen BK101.out 3
                      go_wp2
                      repeat (go_quiet (fail); try go_wp2)
                      go_ret
                      exact ⟨by first | rfl | (simp [errW_none, errW_some] <;> rfl) | (simp [*, errW_none, errW_some] <;> rfl), by repeat (first | (with_reducible first | exact HB.out | apply below_alloc | apply pw_below_drewN | apply below_drew1 | refine below_set ?_ GE101.out) | exact HB.out)⟩

end Go.Proofs.Ytgohmganimamcaa.PZ
-- printed for this claim by a program (pall.sh)
-- mended by fixpz.py
namespace Go.Proofs.Ytgohmganimamcaa.PZ
open Go.RowKit Go.Proofs.YtgohmganimamcaaW.PrintWords Go.Proofs.YtgohmganimamcaaW.PrintLast Go.Proofs.YtgohmganimamcaaW.PrintMore
attribute [local go_sem] max2_int min2_int max_two min_two max_three min_three max_four min_four   -- for this text's walks alone
set_option linter.unusedVariables false
set_option linter.unusedSimpArgs false

/-! ### hanaperref05_May: function 17 -/
def hanaperref05_May.f (k : Nat) (a0_0 : Int) (a0_1 : Int) (l0_2 : List Int) (l0_3 : List (S26)) : Option (Bool) := (hanaperref05_may.f k a0_0 a0_1 l0_2 l0_3 8).bind fun t102 => (some t102)
theorem hanaperref05_May.mono : ∀ a0 a1 a2 a3 k, LeO (hanaperref05_May.f k a0 a1 a2 a3) (hanaperref05_May.f (k + 1) a0 a1 a2 a3) := by
  intro a0 a1 a2 a3 k
  unfold hanaperref05_May.f
  repeat' first
      | (with_reducible exact hanaperref05_may.mono _ _ _ _ _ _)
      | (with_reducible exact LeO.refl _)
      | (with_reducible exact LeO.none _)
      | (with_reducible refine LeO.ite ?_ ?_)
      | (with_reducible refine LeO.bind ?_ (fun _ => ?_))
      | exact hanaperref05_may.mono _ _ _ _ _ _
      | exact LeO.none _
      | refine LeO.ite ?_ ?_
      | refine LeO.bind ?_ (fun _ => ?_)
set_option maxHeartbeats 8000000 in
set_option maxRecDepth 100000 in
theorem hanaperref05_May.calls (k : Nat) (a0_0 : Int) (a0_1 : Int) (A0_2 : Option Addr) (c0_2 : Nat) (l0_2 : List Int) (A0_3 : Option Addr) (c0_3 : Nat) (l0_3 : List (S26)) (r : Bool) (w : World) (hr0_2 : Kd.C (Kd.int .u8) w A0_2 l0_2.length l0_2) (hc0_2 : l0_2.length ≤ c0_2) (hr0_3 : Kd.C k26 w A0_3 l0_3.length l0_3) (hc0_3 : l0_3.length ≤ c0_3) (h : hanaperref05_May.f k a0_0 a0_1 l0_2 l0_3 = some r) :
    Calls Try.prog 17 #[.agg #[.int .i64 a0_0, .int .u64 a0_1, .slice A0_2 l0_2.length c0_2, .slice A0_3 l0_3.length c0_3]] w fun e w' => e = .returned (.bool r) ∧ Below w.heap.size w w' := by
  have hu26 := Try.underlying26
  have HR0_2 := Aside0.mk hr0_2
  have HC0_2 := Aside0.mk hc0_2
  clear hr0_2 hc0_2
  have HR0_3 := Aside0.mk hr0_3
  have HC0_3 := Aside0.mk hc0_3
  clear hr0_3 hc0_3
  have HB := Aside0.mk (Below.refl w.heap.size w)
  have H : ((hanaperref05_may.f k a0_0 a0_1 l0_2 l0_3 8).bind fun t102 => (some t102)) = some r := h
  clear h
  replace H := Option.bind_eq_some_iff.mp H
  obtain ⟨t102, A20, H⟩ := H
  replace H : (some t102) = some r := H
  have A2 := Aside0.mk A20
  clear A20
  obtain rfl := Option.some.inj H
  go_enter Try.func17, Try.ntmps17
  go_wp2_with (first | ((with_reducible refine gate_dst (N := 1) rfl ?_); refine box_event ?hg (N := 1) ?hd (cs := #[.int .i64 a0_0, .int .u64 a0_1, .slice A0_2 l0_2.length c0_2, .slice A0_3 l0_3.length c0_3]) (t := 26) ?hr ?_; (case hd => rfl); (case hg => rfl); (case hr => first | (go_simp; done) | (go_simp; rfl)); intro gb101 hg w3 hbox hb; have n0_ := Aside0.mk (below_step (by repeat (first | (with_reducible first | exact HB.out | apply below_alloc | apply pw_below_drewN | apply below_drew1) | exact HB.out)) hb); have n1_ := Aside0.mk (hbox); have n2_ := Aside0.mk ((by rw [hg]; exact (below_size (by repeat (first | (with_reducible first | exact HB.out | apply below_alloc | apply pw_below_drewN | apply below_drew1) | exact HB.out))) : w.heap.size ≤ gb101)); have n3_ := Aside0.mk ((by rw [hg]; exact (below_size (by repeat (first | (with_reducible first | exact HB.out | apply below_alloc | apply pw_below_drewN | apply below_drew1) | exact HB.out))) : w.heap.size ≤ gb101)); clear HB; have HB := n0_; have BK101 := n1_; have GW101 := n2_; have GE101 := n3_; clear n0_ n1_ n2_ n3_; clear hb hbox hg; have hcz4_0 : w3.cell? ⟨gb101, 0, none⟩ = some (.int .i64 a0_0) := (blk_cell BK101.out 0).trans rfl; have hcz4_1 : w3.cell? ⟨gb101, 1, none⟩ = some (.int .u64 a0_1) := (blk_cell BK101.out 1).trans rfl; have hcz4_2 : w3.cell? ⟨gb101, 2, none⟩ = some (.slice A0_2 l0_2.length c0_2) := (blk_cell BK101.out 2).trans rfl; have hcz4_3 : w3.cell? ⟨gb101, 3, none⟩ = some (.slice A0_3 l0_3.length c0_3) := (blk_cell BK101.out 3).trans rfl; have hfz4_0 := blk_frozen BK101.out 0; have hfz4_1 := blk_frozen BK101.out 1; have hfz4_2 := blk_frozen BK101.out 2; have hfz4_3 := blk_frozen BK101.out 3) | ((with_reducible refine gate_callee (f := 48) rfl ?_); refine goesL_ (some 4) rfl rfl Try.func48 (by kernel_rfl) rfl #[.agg #[.int .i64 a0_0, .int .u64 a0_1, .slice A0_2 l0_2.length c0_2, .slice A0_3 l0_3.length c0_3], .int .i64 8] rfl (by (try simp only [List.map_toArray, List.map_cons, List.map_nil]); first | done | rfl | (simp only [List.length_drop, List.length_take]; rfl)) ?_; (with_reducible refine (hanaperref05_may.calls k a0_0 a0_1 _ _ l0_2 _ _ l0_3 8 t102 _ ?side1 ?side2 ?side3 ?side4 A2.out).mono ?_); (case side1 => repeat (first | exact (Kd.C_below HR0_2.out HB.out) | (with_reducible refine Kd.C_alloc ?_ _) | (with_reducible refine Kd.C_drewN ?_ _) | (with_reducible refine Kd.C_drew ?_))); (case side2 => exact HC0_2.out); (case side3 => repeat (first | exact (Kd.C_below HR0_3.out HB.out) | (with_reducible refine Kd.C_alloc ?_ _) | (with_reducible refine Kd.C_drewN ?_ _) | (with_reducible refine Kd.C_drew ?_))); (case side4 => exact HC0_3.out); rintro e w5 ⟨rfl, hb⟩; refine ⟨_, rfl, ?_⟩; have n0_ := Aside0.mk (blk_below (g := gb101) (o := .cells #[.int .i64 a0_0, .int .u64 a0_1, .slice A0_2 l0_2.length c0_2, .slice A0_3 l0_3.length c0_3] 26 (0, 0)) (by (with_reducible repeat (first | refine blk_drewN ?_ _ | refine blk_drew ?_ | refine blk_alloc ?_ _)); exact BK101.out) hb); have n1_ := Aside0.mk (below_step (by repeat (first | (with_reducible first | exact HB.out | apply below_alloc | apply pw_below_drewN | apply below_drew1 | refine below_set ?_ GE101.out) | exact HB.out)) hb); clear BK101; clear HB; have BK101 := n0_; have HB := n1_; clear n0_ n1_; (try clear hb); (try clear hb2); (try clear hk); (try clear hi)))
  go_ret
  exact ⟨by first | rfl | (simp [errW_none, errW_some] <;> rfl) | (simp [*, errW_none, errW_some] <;> rfl), by repeat (first | (with_reducible first | exact HB.out | apply below_alloc | apply pw_below_drewN | apply below_drew1 | refine below_set ?_ GE101.out) | exact HB.out)⟩

end Go.Proofs.Ytgohmganimamcaa.PZ
/- Which terms may be: both answer alike. -/
namespace Go.Proofs.Ytgohmganimamcaa.Term
set_option linter.unusedVariables false
set_option linter.unusedSimpArgs false
open Go.RowKit Go.Proofs.Ytgohmganimamcaa.Base Go.Proofs.Ytgohmganimamcaa.TlvPlain Go.Proofs.Ytgohmganimamcaa.Lo Go.Proofs.Ytgohmganimamcaa.RdPlain Go.Proofs.Ytgohmganimamcaa.Aid Go.Proofs.Ytgohmganimamcaa.PZ Go.Proofs.YtgohmganimamcaaW.PrintWords Go.Proofs.YtgohmganimamcaaW.PrintLast Go.Proofs.YtgohmganimamcaaW.PrintMore
theorem rd_at (xs : List ST) (i : Nat) (h : i < xs.length) : rd_T26 xs (i : Int) = xs[i] := by simp [rd_T26, List.getD_eq_getElem?_getD, List.getElem?_eq_getElem h]
theorem shape_v (k : Int) : term_shapeOf.f k = some (thereB k, numT k, datT k, (kidT k : Int)) := rfl
theorem kid_len (k : Int) : kidT k ≤ 2 := by unfold kidT; split <;> (try split) <;> omega
theorem dec_i {d : Nat} (h : d ≤ 8) : wrap64 (((d + 1 : Nat) : Int) - 1) = (d : Int) := by rw [w64 (by omega) (by omega)]; omega
theorem may_no1 {d : Nat} {x : ST} (h : ¬ thereB x.f0 = true) : mayT (d + 1) x = false := by rw [mayT]; simp [h]
theorem may_no2 {d : Nat} {x : ST} (h : ¬ x.f3.length = kidT x.f0) : mayT (d + 1) x = false := by rw [mayT]; simp [h]
theorem may_no3 {d : Nat} {x : ST} (h : ¬ numT x.f0 = true) (h2 : ¬ x.f1 = 0) : mayT (d + 1) x = false := by rw [mayT]; simp [h, h2]
theorem may_no4 {d : Nat} {x : ST} (h : ¬ datT x.f0 = true) (h2 : ¬ x.f2.length = 0) : mayT (d + 1) x = false := by
  rw [mayT]
  have : ¬ x.f2 = [] := fun e => h2 (by rw [e]; rfl)
  simp [h, this]
theorem may_no5 {d : Nat} {x : ST} (h : ¬ x.f2.length ≤ 100) : mayT (d + 1) x = false := by rw [mayT]; simp [h]
theorem may_no6 {d : Nat} {x : ST} (h : x.f0 = 5) (h2 : ¬ kid1 x = 2) : mayT (d + 1) x = false := by rw [mayT]; simp [h, h2]
theorem may_yes {d : Nat} {x : ST} (h1 : thereB x.f0 = true) (h2 : x.f3.length = kidT x.f0) (h3 : numT x.f0 = true ∨ x.f1 = 0) (h4 : datT x.f0 = true ∨ x.f2.length = 0) (h5 : x.f2.length ≤ 100) (h6 : ¬ (x.f0 = 5 ∧ ¬ kid1 x = 2)) : mayT (d + 1) x = x.f3.all (mayT d) := by
  rw [mayT]
  have e3 : (numT x.f0 || decide (x.f1 = 0)) = true := by rcases h3 with h | h <;> simp [h]
  have e4 : (datT x.f0 || decide (x.f2.length = 0)) = true := by rcases h4 with h | h <;> simp [h]
  have e6 : (!(decide (x.f0 = 5) && !decide (kid1 x = 2))) = true := by
    by_cases a : x.f0 = 5
    · by_cases b : kid1 x = 2
      · simp [b]
      · exact absurd ⟨a, b⟩ h6
    · simp [a]
  rw [h1, decide_eq_true h2, e3, e4, decide_eq_true h5, e6]
  simp
theorem all_drop (p : ST → Bool) (l : List ST) (i : Nat) (h : i < l.length) : (l.drop i).all p = (p l[i] && (l.drop (i + 1)).all p) := by rw [List.drop_eq_getElem_cons h, List.all_cons]
theorem may_ev : ∀ (d : Nat) (x : ST), d ≤ 8 → Ev (fun k => term_may.f k x.f0 x.f1 x.f2 x.f3 (d : Int)) (mayT d x) := by
  intro d
  induction d with
  | zero =>
    intro x _
    rw [mayT]
    refine Ev.step (fun k => by simp only [term_may.f]; rfl) (bindSome (shape_v x.f0) ?_)
    refine pos rfl ?_
    exact Ev.step (fun k => by simp only [term_may.j0]; rfl) (pos (show true = true from rfl) (now rfl))
  | succ d ih =>
    intro x hd
    have loop : ∀ (m i : Nat), i + m = x.f3.length → x.f3.length ≤ 2 → Ev (fun k => term_may.l0 k ((d + 1 : Nat) : Int) x.f3 (x.f3.length : Int) (i : Int)) ((x.f3.drop i).all (mayT d)) := by
      intro m
      induction m with
      | zero =>
        intro i hi hl
        rw [List.drop_of_length_le (by omega)]
        exact Ev.step (fun k => by simp only [term_may.l0]; rfl) (neg (by omega) (now rfl))
      | succ m ihm =>
        intro i hi hl
        have hlt : i < x.f3.length := by omega
        refine Ev.step (fun k => by simp only [term_may.l0]; rfl) (pos (by omega) (pos (by omega) (pos (by omega) ?_)))
        rw [rd_at x.f3 i hlt, dec_i (by omega), all_drop _ _ i hlt]
        refine evBind (ih x.f3[i] (by omega)) ?_
        cases mayT d x.f3[i] with
        | false => exact neg (by decide) (now (by simp))
        | true =>
          rw [Bool.true_and, inc hlt (by omega)]
          exact pos rfl (ihm (i + 1) (by omega) hl)
    have j3 : x.f3.length ≤ 2 → Ev (fun k => term_may.j3 k ((d + 1 : Nat) : Int) x.f0 x.f1 x.f2 x.f3) (x.f3.all (mayT d)) := fun hl => Ev.step (fun k => by simp only [term_may.j3]; rfl) (loop x.f3.length 0 (by omega) hl)
    have j2t : Ev (fun k => term_may.j2 k ((d + 1 : Nat) : Int) true x.f0 x.f1 x.f2 x.f3) false := Ev.step (fun k => by simp only [term_may.j2]; rfl) (pos (show true = true from rfl) (now rfl))
    have j0t : ∀ b1 b2 b3 k4, Ev (fun k => term_may.j0 k ((d + 1 : Nat) : Int) true x.f0 x.f1 x.f2 x.f3 b1 b2 b3 k4) false := fun b1 b2 b3 k4 => Ev.step (fun k => by simp only [term_may.j0]; rfl) (pos (show true = true from rfl) (now rfl))
    refine Ev.step (fun k => by simp only [term_may.f]; rfl) (bindSome (shape_v x.f0) ?_)
    refine neg (by omega) ?_
    dsimp only
    by_cases h1 : thereB x.f0 = true
    · refine pos h1 ?_
      by_cases h2 : x.f3.length = kidT x.f0
      · have hl : x.f3.length ≤ 2 := by have := kid_len x.f0; omega
        rw [show ((x.f3.length : Int) != (kidT x.f0 : Int)) = false by rw [h2]; simp]
        have j2 : (numT x.f0 = true ∨ x.f1 = 0) → (datT x.f0 = true ∨ x.f2.length = 0) → Ev (fun k => term_may.j2 k ((d + 1 : Nat) : Int) (decide ((x.f2.length : Int) > 100)) x.f0 x.f1 x.f2 x.f3) (mayT (d + 1) x) := by
          intro h3 h4
          by_cases h5 : x.f2.length ≤ 100
          · rw [decide_eq_false (show ¬ (x.f2.length : Int) > 100 by omega)]
            refine Ev.step (fun k => by simp only [term_may.j2]; rfl) (neg (by decide) ?_)
            by_cases h6 : x.f0 = 5
            · have hk : x.f3.length = 2 := by rw [h2]; unfold kidT; rw [if_pos (by omega)]
              have e1 : rd_T26 x.f3 1 = x.f3.getD 1 z26 := rfl
              refine pos h6 (pos (by omega) ?_)
              rw [e1]
              by_cases h7 : kid1 x = 2
              · rw [may_yes h1 h2 h3 h4 h5 (fun h => h.2 h7)]
                exact pos h7 (j3 hl)
              · rw [may_no6 h6 h7]
                exact neg h7 (now rfl)
            · rw [may_yes h1 h2 h3 h4 h5 (fun h => h6 h.1)]
              exact neg h6 (j3 hl)
          · rw [decide_eq_true (show (x.f2.length : Int) > 100 by omega), may_no5 h5]
            exact j2t
        have j1 : (numT x.f0 = true ∨ x.f1 = 0) → Ev (fun k => term_may.j1 k ((d + 1 : Nat) : Int) false x.f0 x.f1 x.f2 x.f3 (thereB x.f0) (numT x.f0) (datT x.f0) (kidT x.f0 : Int)) (mayT (d + 1) x) := by
          intro h3
          refine Ev.step (fun k => by simp only [term_may.j1]; rfl) (neg (by decide) ?_)
          by_cases h4 : datT x.f0 = true
          · exact pos h4 (j2 h3 (.inl h4))
          · refine neg h4 ?_
            by_cases h5 : x.f2.length = 0
            · exact neg (by omega) (j2 h3 (.inr h5))
            · refine pos (by omega) ?_
              rw [decide_eq_true (show (x.f2.length : Int) > 0 by omega), may_no4 h4 h5]
              exact j2t
        refine Ev.step (fun k => by simp only [term_may.j0]; rfl) (neg (by decide) ?_)
        by_cases h3 : numT x.f0 = true
        · exact pos h3 (j1 (.inl h3))
        · refine neg h3 ?_
          by_cases h4 : x.f1 = 0
          · rw [show (x.f1 != 0) = false by simp [h4]]
            exact j1 (.inr h4)
          · rw [show (x.f1 != 0) = true by simp [h4], may_no3 h3 h4]
            exact Ev.step (fun k => by simp only [term_may.j1]; rfl) (pos (show true = true from rfl) j2t)
      · rw [show ((x.f3.length : Int) != (kidT x.f0 : Int)) = true by simp; omega, may_no2 h2]
        exact j0t _ _ _ _
    · rw [may_no1 h1]
      exact neg h1 (j0t _ _ _ _)
theorem check_ev (x : ST) : Ev (fun k => term_Check.f k x.f0 x.f1 x.f2 x.f3) (if mayT 8 x = true then 0 else 1) := by
  unfold term_Check.f
  refine evBind (may_ev 8 x (by omega)) ?_
  cases mayT 8 x with
  | false => exact neg (by decide) (now rfl)
  | true => exact pos rfl (now rfl)
theorem check_c (x : ST) (A2 : Option Addr) (c2 : Nat) (A3 : Option Addr) (c3 : Nat) (w : World) (h : RowsT w x A2 c2 A3 c3) :
    Calls Try.prog 16 #[.agg #[.int .i64 x.f0, .int .u64 x.f1, .slice A2 x.f2.length c2, .slice A3 x.f3.length c3]] w fun e w' => e = .returned (.int .i64 (if mayT 8 x = true then 0 else 1)) ∧ Below w.heap.size w w' := by
  obtain ⟨k, hk⟩ := (check_ev x).rounds
  exact term_Check.calls k x.f0 x.f1 A2 c2 x.f2 A3 c3 x.f3 _ w h.1.2 h.1.1 h.2.2 h.2.1 hk
theorem kids_v (k : Int) : Ev (fun n => hanaperref05_kids.f n k) (if thereB k = true then (kidT k : Int) else -1) := by
  have ht : ∀ k : Int, thereB k = decide (1 ≤ k ∧ k ≤ 6) := fun _ => rfl
  have yes : ∀ k : Int, Ev (fun n => hanaperref05_kids.j0 n k true) 0 := fun k => Ev.step (fun k => by simp only [hanaperref05_kids.j0]; rfl) (pos (show true = true from rfl) (now rfl))
  unfold hanaperref05_kids.f
  by_cases h1 : k = 1
  · subst h1; exact pos rfl (yes 1)
  · refine neg h1 ?_
    by_cases h2 : k = 2
    · subst h2; exact pos rfl (yes 2)
    · refine neg h2 ?_
      by_cases h3 : k = 3
      · subst h3; exact yes 3
      · rw [show (k == 3) = false by simpa using h3]
        refine Ev.step (fun k => by simp only [hanaperref05_kids.j0]; rfl) (neg (by decide) ?_)
        by_cases h6 : k = 6
        · subst h6; exact pos rfl (now rfl)
        · refine neg h6 ?_
          by_cases h4 : k = 4
          · subst h4; exact pos rfl (now rfl)
          · refine neg h4 ?_
            by_cases h5 : k = 5
            · subst h5; exact pos rfl (now rfl)
            · refine neg h5 (now ?_)
              rw [ht, decide_eq_false (by omega)]
              rfl
theorem number_v (k : Int) : hanaperref05_number.f k = some (numT k) := by
  unfold hanaperref05_number.f numT
  by_cases h1 : k = 1
  · rw [if_pos h1]; simp [h1]
  · rw [if_neg h1]
    by_cases h2 : k = 2
    · rw [if_pos h2]; simp [h2]
    · rw [if_neg h2]
      congr 1
      by_cases h5 : k = 5
      · simp [h5]
      · simp [h1, h2, h5]
/-- The document's answer. -/
theorem rmay_ev : ∀ (d : Nat) (x : ST), d ≤ 8 → Ev (fun k => hanaperref05_may.f k x.f0 x.f1 x.f2 x.f3 (d : Int)) (mayT d x) := by
  intro d
  induction d with
  | zero =>
    intro x _
    rw [mayT]
    refine Ev.step (fun k => by simp only [hanaperref05_may.f]; rfl) (pos (by omega) ?_)
    exact Ev.step (fun k => by simp only [hanaperref05_may.j0]; rfl) (pos (show true = true from rfl) (now rfl))
  | succ d ih =>
    intro x hd
    have j0t : Ev (fun k => hanaperref05_may.j0 k ((d + 1 : Nat) : Int) true x.f0 x.f1 x.f2 x.f3) false := Ev.step (fun k => by simp only [hanaperref05_may.j0]; rfl) (pos (show true = true from rfl) (now rfl))
    have j1t : Ev (fun k => hanaperref05_may.j1 k ((d + 1 : Nat) : Int) true x.f0 x.f1 x.f2 x.f3) false := Ev.step (fun k => by simp only [hanaperref05_may.j1]; rfl) (pos (show true = true from rfl) (now rfl))
    have loop : ∀ (m i : Nat), i + m = x.f3.length → x.f3.length = kidT x.f0 → Ev (fun k => hanaperref05_may.l0 k ((d + 1 : Nat) : Int) (i : Int) x.f0 x.f1 x.f2 x.f3) ((x.f3.drop i).all (mayT d) && !(decide (x.f0 = 5) && !decide (kid1 x = 2))) := by
      intro m
      induction m with
      | zero =>
        intro i hi hl
        rw [List.drop_of_length_le (by omega)]
        refine Ev.step (fun k => by simp only [hanaperref05_may.l0]; rfl) (neg (by omega) ?_)
        by_cases h5 : x.f0 = 5
        · have hk : x.f3.length = 2 := by rw [hl]; unfold kidT; rw [if_pos (by omega)]
          refine pos h5 (pos (by omega) (now ?_))
          have e1 : rd_T26 x.f3 1 = x.f3.getD 1 z26 := rfl
          rw [e1]
          show ((kid1 x) == 2) = _
          by_cases h7 : kid1 x = 2
          · simp [h7]
          · simp [h7, h5]
        · exact neg h5 (now (by simp [h5]))
      | succ m ihm =>
        intro i hi hl
        have hlt : i < x.f3.length := by omega
        have hk2 := kid_len x.f0
        refine Ev.step (fun k => by simp only [hanaperref05_may.l0]; rfl) (pos (by omega) (pos (by omega) ?_))
        rw [rd_at x.f3 i hlt, dec_i (by omega), all_drop _ _ i hlt]
        refine evBind (ih x.f3[i] (by omega)) ?_
        cases mayT d x.f3[i] with
        | false => exact neg (by decide) (now (by simp))
        | true =>
          rw [Bool.true_and, inc hlt (by omega)]
          exact pos rfl (ihm (i + 1) (by omega) hl)
    have full : thereB x.f0 = true → x.f3.length = kidT x.f0 → (numT x.f0 = true ∨ x.f1 = 0) → (datT x.f0 = true ∨ x.f2.length = 0) → x.f2.length ≤ 100 → Ev (fun k => hanaperref05_may.j1 k ((d + 1 : Nat) : Int) false x.f0 x.f1 x.f2 x.f3) (mayT (d + 1) x) := by
      intro h1 h2 h3 h4 h5
      refine Ev.step (fun k => by simp only [hanaperref05_may.j1]; rfl) (neg (by decide) ?_)
      have h := loop x.f3.length 0 (by omega) h2
      by_cases h6 : x.f0 = 5 ∧ ¬ kid1 x = 2
      · rw [may_no6 h6.1 h6.2]
        rw [show ((x.f3.drop 0).all (mayT d) && !(decide (x.f0 = 5) && !decide (kid1 x = 2))) = false by simp [h6.1, h6.2]] at h
        exact h
      · rw [may_yes h1 h2 h3 h4 h5 h6]
        have e : (!(decide (x.f0 = 5) && !decide (kid1 x = 2))) = true := by
          by_cases a : x.f0 = 5
          · by_cases b : kid1 x = 2
            · simp [b]
            · exact absurd ⟨a, b⟩ h6
          · simp [a]
        rw [e, Bool.and_true] at h
        exact h
    have j0 : thereB x.f0 = true → x.f3.length = kidT x.f0 → (numT x.f0 = true ∨ x.f1 = 0) → Ev (fun k => hanaperref05_may.j0 k ((d + 1 : Nat) : Int) false x.f0 x.f1 x.f2 x.f3) (mayT (d + 1) x) := by
      intro h1 h2 h3
      refine Ev.step (fun k => by simp only [hanaperref05_may.j0]; rfl) (neg (by decide) ?_)
      have lng : (datT x.f0 = true ∨ x.f2.length = 0) → Ev (fun k => hanaperref05_may.j1 k ((d + 1 : Nat) : Int) (decide ((x.f2.length : Int) > 100)) x.f0 x.f1 x.f2 x.f3) (mayT (d + 1) x) := by
        intro h4
        by_cases h5 : x.f2.length ≤ 100
        · rw [decide_eq_false (show ¬ (x.f2.length : Int) > 100 by omega)]
          exact full h1 h2 h3 h4 h5
        · rw [decide_eq_true (show (x.f2.length : Int) > 100 by omega), may_no5 h5]
          exact j1t
      by_cases h4 : x.f0 = 3
      · exact pos h4 (lng (.inl (decide_eq_true h4)))
      · refine neg h4 ?_
        by_cases h5 : x.f2.length = 0
        · exact neg (by omega) (lng (.inr h5))
        · refine pos (by omega) ?_
          rw [may_no4 (fun h => h4 (of_decide_eq_true h)) h5]
          exact j1t
    refine Ev.step (fun k => by simp only [hanaperref05_may.f]; rfl) (neg (by omega) (evBind (kids_v x.f0) ?_))
    by_cases h1 : thereB x.f0 = true
    · rw [if_pos h1]
      have hk := kids_v x.f0
      rw [if_pos h1] at hk
      refine neg (by omega) (evBind hk ?_)
      by_cases h2 : x.f3.length = kidT x.f0
      · refine pos (by omega) (bindSome (number_v x.f0) ?_)
        by_cases h3 : numT x.f0 = true
        · exact pos h3 (j0 h1 h2 (.inl h3))
        · refine neg h3 ?_
          by_cases h4 : x.f1 = 0
          · rw [show (x.f1 != 0) = false by simp [h4]]
            exact j0 h1 h2 (.inr h4)
          · rw [show (x.f1 != 0) = true by simp [h4], may_no3 h3 h4]
            exact j0t
      · rw [may_no2 h2]
        exact neg (by omega) j0t
    · rw [if_neg h1, may_no1 h1]
      exact pos (by decide) j0t
theorem rMay_ev (x : ST) : Ev (fun k => hanaperref05_May.f k x.f0 x.f1 x.f2 x.f3) (mayT 8 x) := by
  unfold hanaperref05_May.f
  have h := rmay_ev 8 x (by omega)
  first | exact h | exact evBind h (now rfl)
end Go.Proofs.Ytgohmganimamcaa.Term
/- term.Put walked. -/
namespace Go.Proofs.Ytgohmganimamcaa.Term
set_option linter.unusedVariables false
set_option linter.unusedSimpArgs false
open Go.RowKit Go.Proofs.Ytgohmganimamcaa.Base Go.Proofs.Ytgohmganimamcaa.TlvPlain Go.Proofs.Ytgohmganimamcaa.Lo Go.Proofs.Ytgohmganimamcaa.RdPlain Go.Proofs.Ytgohmganimamcaa.Aid Go.Proofs.Ytgohmganimamcaa.PZ Go.Proofs.YtgohmganimamcaaW.PrintWords Go.Proofs.YtgohmganimamcaaW.PrintLast Go.Proofs.YtgohmganimamcaaW.PrintMore
theorem head_len (x : ST) (hn : x.f1 ≤ 18446744073709551615) (hd : x.f2.length ≤ 100) : (headT x).length ≤ 118 := by
  unfold headT
  have h1 : (if numT x.f0 = true then numB x.f1 else []).length ≤ 9 := by
    split
    · exact numB_len hn
    · simp
  have h2 : (if datT x.f0 = true then textB x.f2 else []).length ≤ 109 := by
    split
    · unfold textB
      have := numB_len (n := (x.f2.length : Int)) (by omega)
      rw [List.length_append]; omega
    · simp
  rw [List.length_append]; omega
theorem two_len (f : ST → List Int) (b : Nat) : ∀ (l : List ST), l.length ≤ 2 → (∀ k ∈ l, (f k).length ≤ b) → ((l.map f).flatten).length ≤ 2 * b
  | [], _, _ => by simp
  | [a], _, h => by have := h a (by simp); simp; omega
  | [a, c], _, h => by have h1 := h a (by simp); have h2 := h c (by simp); simp; omega
  | _ :: _ :: _ :: _, hl, _ => by simp at hl
theorem put_len : ∀ (d : Nat) (x : ST), mayT d x = true → wfT x → (putT x).length ≤ 119 * (2 ^ d - 1) := by
  intro d
  induction d with
  | zero => intro x h; rw [mayT] at h; cases h
  | succ d ih =>
    intro x h hw
    obtain ⟨_, h2, _, _, h5, _, h7⟩ := may_parts h
    obtain ⟨w1, _, w3⟩ := (wfT_eq x).1 hw
    have hk := two_len putT (119 * (2 ^ d - 1)) x.f3 (by have := kid_len x.f0; omega) (fun k hk => ih k (h7 k hk) (w3 k hk))
    have hh := head_len x w1.2 h5
    rw [putT_eq, List.length_cons, List.length_append]
    have e : 2 ^ (d + 1) = 2 * 2 ^ d := by rw [Nat.pow_succ]; omega
    have : 0 < 2 ^ d := Nat.two_pow_pos d
    rw [e]
    omega
set_option maxHeartbeats 4000000 in
set_option maxRecDepth 100000 in
theorem put_c (x : ST) (hw : wfT x) (A2 : Option Addr) (c2 : Nat) (A3 : Option Addr) (c3 : Nat) (w : World) (hx : RowsT w x A2 c2 A3 c3) :
    Calls Try.prog 12 #[.agg #[.int .i64 x.f0, .int .u64 x.f1, .slice A2 x.f2.length c2, .slice A3 x.f3.length c3]] w fun e w' => ∃ v, e = .returned (.tuple #[v, .int .i64 (putV x).2]) ∧ Ob w' w.heap.size v (putV x).1 ∧ Below w.heap.size w w' := by
  have hb0 := below_alloc (Below.refl w.heap.size w) (.cells #[.int .i64 x.f0, .int .u64 x.f1, .slice A2 x.f2.length c2, .slice A3 x.f3.length c3] 26)
  have H0 := Aside0.mk (show Blk (w.alloc (.cells #[.int .i64 x.f0, .int .u64 x.f1, .slice A2 x.f2.length c2, .slice A3 x.f3.length c3] 26)) w.heap.size 26 #[.int .i64 x.f0, .int .u64 x.f1, .slice A2 x.f2.length c2, .slice A3 x.f3.length c3] from blk_new _ _)
  have HB := Aside0.mk hb0
  have HX := Aside0.mk hx
  have HC := Aside0.mk (check_c x A2 c2 A3 c3 _ (hx.below hb0))
  have hu26 := Try.underlying26
  have hu23 := Try.underlying23
  unfold putV
  cases hm : mayT 8 x with
  | false =>
    rw [hm, if_neg (by decide)] at HC
    rw [if_neg (by decide)]
    clear hm hx hb0 hw
    go_enter Try.func12, Try.ntmps12
    go_wp2_with (go_at_call 16; refine HC.out.mono ?_; rintro e w1 ⟨rfl, hb⟩; have HB1 := Aside0.mk (below_step HB.out hb); clear hb)
    go_ret2
    exact ⟨_, rfl, Kd.R_nil _ _ _ _ _, HB1.out⟩
  | true =>
    rw [hm, if_pos rfl] at HC
    rw [if_pos rfl]
    have hpl := put_len 8 x hm hw
    have HW := Aside0.mk (walk_put 8 x hm hw)
    obtain ⟨L, hL⟩ : ∃ L, putT x = L := ⟨_, rfl⟩
    have HW2 := Aside0.mk (fun (g5 : Nat) (W : World) (h : InvP w g5 W []) => HW.out w g5 A2 c2 A3 c3 W [] h HX.out (by simp; omega))
    simp only [List.nil_append] at HW2
    rw [hL] at HW2 ⊢
    have HLL := Aside0.mk (show L.length ≤ 1000000 by rw [← hL]; omega)
    clear hm hx hb0 hw hpl hL HW
    by_cases c : (L.length : Int) > 400
    · have z1 : decide (400 < (L.length : Int)) = true := decide_eq_true c
      have z2 : decide (400 < L.length) = true := decide_eq_true (by omega)
      rw [if_pos c]
      clear c
      go_enter Try.func12, Try.ntmps12
      go_wp2_with (first
        | (go_at_call 16; refine HC.out.mono ?_; rintro e w1 ⟨rfl, hb⟩; have HB1 := Aside0.mk (below_step HB.out hb); have h0 := fun o => ((H0.out.below hb).alloc o).cell 0; have h1 := fun o => ((H0.out.below hb).alloc o).cell 1; have h2 := fun o => ((H0.out.below hb).alloc o).cell 2; have h3 := fun o => ((H0.out.below hb).alloc o).cell 3; simp only [List.getElem?_toArray, List.getElem?_cons_zero, List.getElem?_cons_succ] at h0 h1 h2 h3; clear hb)
        | (go_at_call 41; refine (HW2.out w1.heap.size _ ⟨HB1.out.size, below_alloc HB1.out _, .slice none 0 0, blk_new _ _, Kd.R_nil _ _ _ _ _⟩).mono ?_; rintro e w2 ⟨rfl, hi⟩; obtain ⟨_, hB, v, h5, hO⟩ := hi; obtain ⟨A9, c9, rfl⟩ := Kd.R_slice hO; have HB2 := Aside0.mk hB; have HO2 := Aside0.mk hO; have p5 := h5.cell 0; simp only [List.getElem?_toArray, List.getElem?_cons_zero, List.getElem?_cons_succ] at p5; clear hB h5 hO h0 h1 h2 h3))
      go_ret2
      exact ⟨_, rfl, Kd.R_nil _ _ _ _ _, HB2.out⟩
    · have z1 : decide (400 < (L.length : Int)) = false := decide_eq_false c
      have z2 : decide (400 < L.length) = false := decide_eq_false (by omega)
      rw [if_neg c]
      clear c
      go_enter Try.func12, Try.ntmps12
      go_wp2_with (first
        | (go_at_call 16; refine HC.out.mono ?_; rintro e w1 ⟨rfl, hb⟩; have HB1 := Aside0.mk (below_step HB.out hb); have h0 := fun o => ((H0.out.below hb).alloc o).cell 0; have h1 := fun o => ((H0.out.below hb).alloc o).cell 1; have h2 := fun o => ((H0.out.below hb).alloc o).cell 2; have h3 := fun o => ((H0.out.below hb).alloc o).cell 3; simp only [List.getElem?_toArray, List.getElem?_cons_zero, List.getElem?_cons_succ] at h0 h1 h2 h3; clear hb)
        | (go_at_call 41; refine (HW2.out w1.heap.size _ ⟨HB1.out.size, below_alloc HB1.out _, .slice none 0 0, blk_new _ _, Kd.R_nil _ _ _ _ _⟩).mono ?_; rintro e w2 ⟨rfl, hi⟩; obtain ⟨_, hB, v, h5, hO⟩ := hi; obtain ⟨A9, c9, rfl⟩ := Kd.R_slice hO; have HB2 := Aside0.mk hB; have HO2 := Aside0.mk hO; have p5 := h5.cell 0; simp only [List.getElem?_toArray, List.getElem?_cons_zero, List.getElem?_cons_succ] at p5; clear hB h5 hO h0 h1 h2 h3))
      go_ret2
      exact ⟨_, rfl, HO2.out, HB2.out⟩
end Go.Proofs.Ytgohmganimamcaa.Term
/- The walks of a reader's Num, Count and Text. -/
namespace Go.Proofs.Ytgohmganimamcaa.Tlv
open Go.Proofs.Ytgohmganimamcaa.Base Go.Proofs.Ytgohmganimamcaa.TlvPlain Go.RowKit Go.Proofs.YtgohmganimamcaaW.PrintWords Go.Proofs.YtgohmganimamcaaW.PrintLast Go.Proofs.YtgohmganimamcaaW.PrintMore

theorem take1_cons (x : Int) (r : List Int) : takeO (some (x :: r)) 1 = ([x], some r) := by
  simp only [takeO]
  rw [if_pos (by rw [List.length_cons]; omega)]
  rfl
set_option maxHeartbeats 1600000 in
set_option maxRecDepth 100000 in
theorem num_none (w0 w : World) (g : Nat) (st : Option (List Int)) (h : RdO w0 w g st) (hB : Below w0.heap.size w0 w) (hst : takeO st 1 = ([], none)) :
    Calls Try.prog 71 #[.pointer (some ⟨g, 0, none⟩)] w fun e w' => e = .returned (.int .u64 0) ∧ Left w0 w w' g none := by
  have HS := Aside0.mk h
  have HB := Aside0.mk hB
  have E1 := Aside0.mk hst
  clear h hB hst
  go_enter Try.func71, Try.ntmps71
  go_wp2_with (first
    | (go_at_call 69; refine (takeO_ _ _ _ _ _ HS.out HB.out).mono ?_; rintro e w1 ⟨v, rfl, ho, hl⟩; rw [E1.out] at ho hl; have HL := Aside0.mk hl; clear ho hl)
    | (go_at_call 70; refine (okO _ _ _ _ HL.out.1).mono ?_; rintro e w' ⟨rfl, rfl⟩)
    | (go_at_call 80; refine (failO _ _ _ _ HL.out.1 HL.out.2.1).mono ?_; rintro e w2 ⟨rfl, hf⟩; have HF := Aside0.mk hf; clear hf))
  go_ret
  exact ⟨rfl, HL.out.trans HF.out⟩

set_option maxHeartbeats 1600000 in
set_option maxRecDepth 100000 in
theorem num_wide (w0 w : World) (g : Nat) (x : Int) (r : List Int) (h : RdO w0 w g (some (x :: r))) (hB : Below w0.heap.size w0 w) (hx : 8 < x) :
    Calls Try.prog 71 #[.pointer (some ⟨g, 0, none⟩)] w fun e w' => e = .returned (.int .u64 0) ∧ Left w0 w w' g none := by
  have HS := Aside0.mk h
  have HB := Aside0.mk hB
  have E1 := Aside0.mk (take1_cons x r)
  have hd : decide (8 < x) = true := decide_eq_true hx
  clear h hB hx
  go_enter Try.func71, Try.ntmps71
  go_wp2_with (first
    | (go_at_call 69; refine (takeO_ _ _ _ _ _ HS.out HB.out).mono ?_; rintro e w1 ⟨v, rfl, ho, hl⟩; rw [E1.out] at ho hl; have HL := Aside0.mk hl; obtain ⟨A, c, rfl, hlc, hrd⟩ := Ob.reads ho; obtain ⟨ad, rfl, hc0⟩ := Rb.at0 hrd; clear ho hl hrd hlc)
    | (go_at_call 70; refine (okO _ _ _ _ HL.out.1).mono ?_; rintro e w' ⟨rfl, rfl⟩)
    | (go_at_call 80; refine (failO _ _ _ _ HL.out.1 HL.out.2.1).mono ?_; rintro e w2 ⟨rfl, hf⟩; have HF := Aside0.mk hf; clear hf))
  go_ret
  exact ⟨rfl, HL.out.trans HF.out⟩

set_option maxHeartbeats 1600000 in
set_option maxRecDepth 100000 in
theorem num_short (w0 w : World) (g : Nat) (x : Int) (r : List Int) (h : RdO w0 w g (some (x :: r))) (hB : Below w0.heap.size w0 w) (hx0 : 0 ≤ x) (hx : x ≤ 8) (hl : (r.length : Int) < x) :
    Calls Try.prog 71 #[.pointer (some ⟨g, 0, none⟩)] w fun e w' => e = .returned (.int .u64 0) ∧ Left w0 w w' g none := by
  have HS := Aside0.mk h
  have HB := Aside0.mk hB
  have E1 := Aside0.mk (take1_cons x r)
  have E2 := Aside0.mk (show takeO (some r) x = ([], none) by simp only [takeO]; rw [if_neg (by omega)])
  have hd : decide (8 < x) = false := decide_eq_false (by omega)
  clear h hB hl
  go_enter Try.func71, Try.ntmps71
  go_wp2_with (fail)
  refine (takeO_ _ _ _ _ _ HS.out HB.out).mono ?_; rintro e w1 ⟨v, rfl, ho, hl⟩; rw [E1.out] at ho hl; have HL := Aside0.mk hl; obtain ⟨A, c, rfl, hlc, hrd⟩ := Ob.reads ho; obtain ⟨ad, rfl, hc0⟩ := Rb.at0 hrd; clear ho hl hrd hlc
  go_wp2_with (first
    | (go_at_call 70; refine (okO _ _ _ _ HL.out.1).mono ?_; rintro e w' ⟨rfl, rfl⟩)
    | (go_at_call 80; refine (failO _ _ _ _ HL.out.1 HL.out.2.1).mono ?_; rintro e w2 ⟨rfl, hf⟩; have HF := Aside0.mk hf; clear hf))
  refine (takeO_ _ _ _ _ _ HL.out.1 HL.out.2.1).mono ?_; rintro e w2 ⟨v, rfl, ho, hl⟩; rw [E2.out] at ho hl; have HL2 := Aside0.mk (HL.out.trans hl); clear HL ho hl
  go_wp2_with (first
    | (go_at_call 70; refine (okO _ _ _ _ HL2.out.1).mono ?_; rintro e w' ⟨rfl, rfl⟩)
    | (go_at_call 80; refine (failO _ _ _ _ HL2.out.1 HL2.out.2.1).mono ?_; rintro e w2 ⟨rfl, hf⟩; have HF := Aside0.mk hf; clear hf))
  go_ret
  exact ⟨rfl, HL2.out.trans HF.out⟩

set_option maxHeartbeats 1600000 in
set_option maxRecDepth 100000 in
theorem num_zero (w0 w : World) (g : Nat) (x y : Int) (r : List Int) (h : RdO w0 w g (some (x :: y :: r))) (hB : Below w0.heap.size w0 w) (hx0 : 0 < x) (hx : x ≤ 8) (hl : x ≤ (r.length : Int) + 1) (hy : y = 0) :
    Calls Try.prog 71 #[.pointer (some ⟨g, 0, none⟩)] w fun e w' => e = .returned (.int .u64 0) ∧ Left w0 w w' g none := by
  subst hy
  have HS := Aside0.mk h
  have HB := Aside0.mk hB
  have E1 := Aside0.mk (take1_cons x (0 :: r))
  have E2 := Aside0.mk (show takeO (some (0 :: r)) x = (0 :: r.take (x.toNat - 1), some ((0 :: r).drop x.toNat)) by
    simp only [takeO]
    rw [if_pos (by rw [List.length_cons]; omega)]
    obtain ⟨m, hm⟩ : ∃ m, x.toNat = m + 1 := ⟨x.toNat - 1, by omega⟩
    rw [hm]; rfl)
  have hd : decide (8 < x) = false := decide_eq_false (by omega)
  clear h hB hl
  go_enter Try.func71, Try.ntmps71
  go_wp2_with (fail)
  refine (takeO_ _ _ _ _ _ HS.out HB.out).mono ?_; rintro e w1 ⟨v, rfl, ho, hl⟩; rw [E1.out] at ho hl; have HL := Aside0.mk hl; obtain ⟨A, c, rfl, hlc, hrd⟩ := Ob.reads ho; obtain ⟨ad, rfl, hc0⟩ := Rb.at0 hrd; clear ho hl hrd hlc
  go_wp2_with (first
    | (go_at_call 70; refine (okO _ _ _ _ HL.out.1).mono ?_; rintro e w' ⟨rfl, rfl⟩))
  refine (takeO_ _ _ _ _ _ HL.out.1 HL.out.2.1).mono ?_; rintro e w2 ⟨v, rfl, ho, hl⟩; rw [E2.out] at ho hl; have HL2 := Aside0.mk (HL.out.trans hl); obtain ⟨A2, c2, rfl, hlc, hrd⟩ := Ob.reads ho; obtain ⟨ad2, rfl, hc2⟩ := Rb.at0 hrd; clear HL ho hl hlc hrd
  have hl0 : decide (0 < (0 :: r.take (x.toNat - 1)).length) = true := decide_eq_true (by simp)
  generalize (0 :: r.take (x.toNat - 1)).length = nn at hl0 ⊢
  have hl2 : 0 < nn := of_decide_eq_true hl0
  have hl1 : decide (0 < (nn : Int)) = true := decide_eq_true (by omega)
  go_wp2_with (first
    | (go_at_call 70; refine (okO _ _ _ _ HL2.out.1).mono ?_; rintro e w' ⟨rfl, rfl⟩)
    | (go_at_call 80; refine (failO _ _ _ _ HL2.out.1 HL2.out.2.1).mono ?_; rintro e w2 ⟨rfl, hf⟩; have HF := Aside0.mk hf; clear hf))
  go_ret
  exact ⟨rfl, HL2.out.trans HF.out⟩

/-- One round more: the value of one byte more. -/
theorem value_step {l : List Int} (hu : U8 l) (h8 : l.length ≤ 8) (i : Nat) (hi : i < l.length) :
    Go.bits .or .u64 (IntKind.u64.wrap (valueB (l.take i) * 256)) (IntKind.u64.wrap (rd l (i : Int))) = valueB (l.take (i + 1)) := by
  have h1 := valueB_range (hu.take i)
  rw [List.length_take, Nat.min_eq_left (by omega)] at h1
  have h2 := valueB_u64 (hu.take (i + 1)) (by rw [List.length_take]; omega)
  have hx := hu _ (List.getElem_mem hi)
  rw [rd_nat' l i hi, List.take_succ_eq_append_getElem hi, valueB_snoc]
  rw [List.take_succ_eq_append_getElem hi, valueB_snoc] at h2
  have hb : valueB (l.take i) * 256 + 255 ≤ 18446744073709551615 := by
    have key : ∀ n : Nat, n ≤ 7 → (256 : Int) ^ n ≤ 72057594037927936 := by
      intro n hn
      have : n = 0 ∨ n = 1 ∨ n = 2 ∨ n = 3 ∨ n = 4 ∨ n = 5 ∨ n = 6 ∨ n = 7 := by omega
      rcases this with rfl | rfl | rfl | rfl | rfl | rfl | rfl | rfl <;> decide +kernel
    have := key i (by omega)
    omega
  rw [IntWalk.u64_in (valueB (l.take i) * 256) (by omega), IntWalk.u64_in l[i] (by omega)]
  exact or_byte _ _ h1.1 hb hx.1 hx.2

set_option maxHeartbeats 3200000 in
set_option maxRecDepth 100000 in
theorem num_good (w0 w : World) (g : Nat) (x : Int) (r : List Int) (h : RdO w0 w g (some (x :: r))) (hB : Below w0.heap.size w0 w) (hx0 : 0 ≤ x) (hx : x ≤ 8) (hl : x ≤ (r.length : Int)) (hy : ¬ (0 < x ∧ r.getD 0 0 = 0)) :
    Calls Try.prog 71 #[.pointer (some ⟨g, 0, none⟩)] w fun e w' => e = .returned (.int .u64 (valueB (r.take x.toNat))) ∧ Left w0 w w' g (some (r.drop x.toNat)) := by
  have HS := Aside0.mk h
  have HB := Aside0.mk hB
  have HU := Aside0.mk ((h.u8.1.tail).take x.toNat)
  have E1 := Aside0.mk (take1_cons x r)
  have E2 := Aside0.mk (show takeO (some r) x = (r.take x.toNat, some (r.drop x.toNat)) by simp only [takeO]; rw [if_pos ⟨hx0, hl⟩])
  obtain ⟨l, hL⟩ : ∃ l, l = r.take x.toNat := ⟨_, rfl⟩
  have hlen : l.length = x.toNat := by rw [hL, List.length_take]; omega
  have hb : (decide (0 < l.length) && (rd l 0 == 0)) = false := by
    rw [Bool.and_eq_false_iff]
    by_cases h0 : 0 < x
    · right
      rw [beq_eq_false_iff_ne]
      intro e
      apply hy
      refine ⟨h0, ?_⟩
      rw [hL] at e
      obtain ⟨m, hm⟩ : ∃ m, x.toNat = m + 1 := ⟨x.toNat - 1, by omega⟩
      cases r with
      | nil => simp at hl; omega
      | cons y r => simpa [rd, hm] using e
    · left
      exact decide_eq_false (by omega)
  rw [← hL] at HU E2 ⊢
  have h8 : l.length ≤ 8 := by omega
  have hd : decide (8 < x) = false := decide_eq_false (by omega)
  clear h hB hl hy hL hlen
  go_enter Try.func71, Try.ntmps71
  go_wp2_with (fail)
  refine (takeO_ _ _ _ _ _ HS.out HB.out).mono ?_; rintro e w1 ⟨v, rfl, ho, hl⟩; rw [E1.out] at ho hl; have HL := Aside0.mk hl; obtain ⟨A, c, rfl, hlc, hrd⟩ := Ob.reads ho; obtain ⟨ad, rfl, hc0⟩ := Rb.at0 hrd; clear ho hl hrd hlc
  go_wp2_with (first
    | (go_at_call 70; refine (okO _ _ _ _ HL.out.1).mono ?_; rintro e w' ⟨rfl, rfl⟩))
  refine (takeO_ _ _ _ _ _ HL.out.1 HL.out.2.1).mono ?_; rintro e w2 ⟨v, rfl, ho, hl⟩; rw [E2.out] at ho hl; have HL2 := Aside0.mk (HL.out.trans hl); obtain ⟨A2, c2, rfl, hlc, hrd⟩ := Ob.reads ho; have HRD := Aside0.mk hrd; clear HL ho hl hlc hrd hx0
  by_cases hz : 0 < l.length
  · have hzi : (0 : Int) < (l.length : Int) := by omega
    obtain ⟨ad2, hA2, hc2⟩ := Kd.at_int HRD.out 0 (Int.le_refl _) hzi
    subst hA2
    have hz0 : decide (0 < l.length) = true := decide_eq_true hz
    have hz1 : decide (0 < (l.length : Int)) = true := decide_eq_true (by omega)
    have hb1 : (rd l 0 == 0) = false := by rw [hz0, Bool.true_and] at hb; exact hb
    have hc3 : w2.cell? ad2 = some (.int .u8 (rd l 0)) := by simpa [Addr.add] using hc2
    clear hb hc2
    go_wp2_with (first
      | (go_at_call 70; refine (okO _ _ _ _ HL2.out.1).mono ?_; rintro e w' ⟨rfl, rfl⟩))
    clear hz0 hz1 hb1 hc3 hzi
    go_loop [5, 45] (fun n i => ∃ k : Nat, k ≤ l.length ∧ i = .int .i64 k ∧ n = .int .u64 (valueB (l.take k))) (fun _ i => l.length - (intOf i).toNat)
    case atStart => exact ⟨0, Nat.zero_le _, rfl, rfl⟩
    case round =>
      obtain ⟨k, hk, rfl, rfl⟩ := hrel
      by_cases hlt : k < l.length
      · obtain ⟨ad3, hA3, hc3⟩ := Kd.at_int HRD.out (k : Int) (Int.natCast_nonneg k) (by omega)
        injection hA3 with hA3
        subst hA3
        rw [Int.toNat_natCast] at hc3
        have HV := Aside0.mk (value_step HU.out h8 k hlt)
        go_wp2
        go_round
        case rel => exact ⟨k + 1, by omega, by go_num, by rw [← HV.out]⟩
        case measure => simp [intOf]; omega
      · go_wp2
        go_ret
        have hkl : k = l.length := by omega
        exact ⟨by rw [hkl, List.take_length]; rfl, HL2.out⟩
  · have hz0 : decide (0 < l.length) = false := decide_eq_false hz
    have hl0 : l = [] := List.length_eq_zero_iff.1 (by omega)
    subst hl0
    clear hb hz hz0 h8
    have hf0 : decide ((0 : Int) < 0) = false := rfl
    go_wp2_with (first
      | (go_at_call 70; refine (okO _ _ _ _ HL2.out.1).mono ?_; rintro e w' ⟨rfl, rfl⟩))
    go_loop [5, 45] (fun n i => i = .int .i64 0 ∧ n = .int .u64 0) (fun _ _ => 0)
    case atStart => exact ⟨rfl, rfl⟩
    case round =>
      obtain ⟨rfl, rfl⟩ := hrel
      go_wp2
      go_ret
      exact ⟨rfl, HL2.out⟩

set_option maxHeartbeats 800000 in
theorem num_nil (w : World) : Calls Try.prog 71 #[.pointer none] w fun e w' => e = .returned (.int .u64 0) ∧ w = w' := by
  go_enter Try.func71, Try.ntmps71
  go_wp2_with (first
    | (go_at_call 69; refine (take_nil _ _).mono ?_; rintro e w' ⟨rfl, rfl⟩)
    | (go_at_call 70; refine (ok_nil _).mono ?_; rintro e w' ⟨rfl, rfl⟩)
    | (go_at_call 80; refine (fail_nil _).mono ?_; rintro e w' ⟨rfl, rfl⟩))
  go_ret
  exact ⟨rfl, rfl⟩
theorem numO_ (w0 w : World) (g : Nat) (st : Option (List Int)) (h : RdO w0 w g st) (hB : Below w0.heap.size w0 w) :
    Calls Try.prog 71 #[.pointer (some ⟨g, 0, none⟩)] w fun e w' => e = .returned (.int .u64 (numO st).1) ∧ Left w0 w w' g (numO st).2 := by
  match st, h with
  | none, h => exact num_none w0 w g none h hB rfl
  | some [], h => exact num_none w0 w g (some []) h hB rfl
  | some (x :: r), h =>
    have hx0 := h.u8.1.head.1
    simp only [numO]
    by_cases h1 : x > 8
    · rw [if_pos h1]; exact num_wide w0 w g x r h hB h1
    · rw [if_neg h1]
      by_cases h2 : (r.length : Int) < x
      · rw [if_pos h2]; exact num_short w0 w g x r h hB hx0 (by omega) h2
      · rw [if_neg h2]
        by_cases h3 : 0 < x ∧ r.getD 0 0 = 0
        · rw [if_pos h3]
          cases r with
          | nil => simp at h2; omega
          | cons y r => exact num_zero w0 w g x y r h hB h3.1 (by omega) (by simp at h2; omega) (by simpa using h3.2)
        · rw [if_neg h3]; exact num_good w0 w g x r h hB hx0 (by omega) (by omega) h3


set_option maxHeartbeats 1600000 in
set_option maxRecDepth 100000 in
theorem countO_ (w0 w : World) (g : Nat) (st : Option (List Int)) (most : Int) (h : RdO w0 w g st) (hB : Below w0.heap.size w0 w) (hm : most ≤ 9223372036854775807) :
    Calls Try.prog 81 #[.pointer (some ⟨g, 0, none⟩), .int .i64 most] w fun e w' => e = .returned (.int .i64 (countO st most).1) ∧ Left w0 w w' g (countO st most).2 := by
  have HS := Aside0.mk h
  have HB := Aside0.mk hB
  have hr := numO_range (st := st) (fun bs e => by subst e; exact h.u8.1)
  unfold countO
  obtain ⟨nv, hnv⟩ : ∃ nv, nv = (numO st).1 := ⟨_, rfl⟩
  rw [← hnv] at hr ⊢
  have HN := Aside0.mk hnv
  have HR := Aside0.mk hr
  have HM := Aside0.mk hm
  clear hm
  clear hr hnv h hB
  by_cases h1 : most < 0
  · rw [if_pos (Or.inl h1)]
    have hd : decide (most < 0) = true := decide_eq_true h1
    clear h1
    go_enter Try.func81, Try.ntmps81
    go_wp2_with (first
      | (go_at_call 71; refine (numO_ _ _ _ _ HS.out HB.out).mono ?_; rintro e w1 ⟨rfl, hl⟩; rw [← HN.out]; have HL := Aside0.mk hl; clear hl)
      | (go_at_call 80; refine (failO _ _ _ _ HL.out.1 HL.out.2.1).mono ?_; rintro e w2 ⟨rfl, hf⟩; have HF := Aside0.mk hf; clear hf))
    go_ret
    exact ⟨rfl, HL.out.trans HF.out⟩
  · have hd : decide (most < 0) = false := decide_eq_false h1
    have hw : IntKind.u64.wrap most = most := IntWalk.u64_in _ (by have := HM.out; omega)
    by_cases h2 : nv > most
    · rw [if_pos (Or.inr h2)]
      have hd2 : decide (most < nv) = true := decide_eq_true h2
      clear h1 h2
      go_enter Try.func81, Try.ntmps81
      go_wp2_with (first
        | (go_at_call 71; refine (numO_ _ _ _ _ HS.out HB.out).mono ?_; rintro e w1 ⟨rfl, hl⟩; rw [← HN.out]; have HL := Aside0.mk hl; clear hl)
        | (go_at_call 80; refine (failO _ _ _ _ HL.out.1 HL.out.2.1).mono ?_; rintro e w2 ⟨rfl, hf⟩; have HF := Aside0.mk hf; clear hf))
      go_ret
      exact ⟨rfl, HL.out.trans HF.out⟩
    · rw [if_neg (by omega)]
      have hd2 : decide (most < nv) = false := decide_eq_false h2
      have hv : wrap64 nv = nv := IntWalk.wrap64_in _ (by have := HM.out; have := HR.out; omega)
      clear h1 h2
      go_enter Try.func81, Try.ntmps81
      go_wp2_with (first
        | (go_at_call 71; refine (numO_ _ _ _ _ HS.out HB.out).mono ?_; rintro e w1 ⟨rfl, hl⟩; rw [← HN.out]; have HL := Aside0.mk hl; clear hl))
      go_ret
      exact ⟨by rw [← HN.out, hv]; rfl, HL.out⟩

set_option maxHeartbeats 800000 in
theorem textO_ (w0 w : World) (g : Nat) (st : Option (List Int)) (most : Int) (h : RdO w0 w g st) (hB : Below w0.heap.size w0 w) (hm : most ≤ 9223372036854775807) :
    Calls Try.prog 72 #[.pointer (some ⟨g, 0, none⟩), .int .i64 most] w fun e w' => ∃ v, e = .returned v ∧ Ob w' w.heap.size v (textO st most).1 ∧ Left w0 w w' g (textO st most).2 := by
  have HS := Aside0.mk h
  have HB := Aside0.mk hB
  have HM := Aside0.mk hm
  clear hm h hB
  go_enter Try.func72, Try.ntmps72
  go_wp2_with (first
    | (go_at_call 81; refine (countO_ _ _ _ _ _ HS.out HB.out HM.out).mono ?_; rintro e w1 ⟨rfl, hl⟩; have HL := Aside0.mk hl; clear hl)
    | (go_at_call 69; refine (takeO_ _ _ _ _ _ HL.out.1 HL.out.2.1).mono ?_; rintro e w2 ⟨v, rfl, ho, hl⟩; have HO := Aside0.mk ho; have HT := Aside0.mk hl; clear hl ho))
  go_ret
  exact ⟨_, rfl, Kd.R_lower HO.out HL.out.2.2.1, HL.out.trans HT.out⟩
end Go.Proofs.Ytgohmganimamcaa.Tlv
/- term.read walked: the next term of a reader. -/
namespace Go.Proofs.Ytgohmganimamcaa.Term
set_option linter.unusedVariables false
set_option linter.unusedSimpArgs false
open Go.RowKit Go.Proofs.Ytgohmganimamcaa.Base Go.Proofs.Ytgohmganimamcaa.TlvPlain Go.Proofs.Ytgohmganimamcaa.Lo Go.Proofs.Ytgohmganimamcaa.RdPlain Go.Proofs.Ytgohmganimamcaa.Aid Go.Proofs.Ytgohmganimamcaa.PZ Go.Proofs.YtgohmganimamcaaW.PrintWords Go.Proofs.YtgohmganimamcaaW.PrintLast Go.Proofs.YtgohmganimamcaaW.PrintMore
open Tlv (RdO takeO_ okO numO_ textO_)
theorem Blk.keep {w w' : World} {k g T : Nat} {cs : Array Value} (h : Blk w k T cs) (hk : KeepBut w w' g none) (hne : k ≠ g) : Blk w' k T cs := hk.blk h hne (by simp)
def NoU8 (v : Value) : Prop := ∀ n, v ≠ .int .u8 n
theorem no_u8_4 {a b c d : Value} (ha : NoU8 a) (hb : NoU8 b) (hc : NoU8 c) (hd : NoU8 d) (i : Nat) (v : Value) (h : (#[a, b, c, d] : Array Value)[i]? = some v) (n : Int) : v ≠ .int .u8 n := by
  match i, h with
  | 0, h => cases h; exact ha n
  | 1, h => cases h; exact hb n
  | 2, h => cases h; exact hc n
  | 3, h => cases h; exact hd n
theorem set4 {w : World} {g T : Nat} {a b c d : Value} (h : Blk w g T #[a, b, c, d]) (a' b' c' d' : Value) : Blk ((((w.setCell ⟨g, 0, none⟩ a').setCell ⟨g, 1, none⟩ b').setCell ⟨g, 2, none⟩ c').setCell ⟨g, 3, none⟩ d') g T #[a', b', c', d'] := by
  have h4 := blk_set (blk_set (blk_set (blk_set h 0 a') 1 b') 2 c') 3 d'
  simpa [Blk] using h4
theorem left_set4 {w0 w W : World} {g q T : Nat} {s : Option (List Int)} {a b c d : Value} (h : Tlv.Left w0 w W g s) (hq : Blk W q T #[a, b, c, d]) (ha : NoU8 a) (hb : NoU8 b) (hc : NoU8 c) (hd : NoU8 d) (hne : g ≠ q) (h0 : w0.heap.size ≤ q) (hw : w.heap.size ≤ q) (a' b' c' d' : Value) :
    Tlv.Left w0 w ((((W.setCell ⟨q, 0, none⟩ a').setCell ⟨q, 1, none⟩ b').setCell ⟨q, 2, none⟩ c').setCell ⟨q, 3, none⟩ d') g s :=
  ⟨h.1.keep (((((KeepBut.refl W q none).set_ 0 _).set_ 1 _).set_ 2 _).set_ 3 _) hne hq (no_u8_4 ha hb hc hd), below_set (below_set (below_set (below_set h.2.1 h0) h0) h0) h0, keep_far (keep_far (keep_far (keep_far h.2.2 hw _) hw _) hw _) hw _⟩
theorem left_set1 {w0 w W : World} {g q T j : Nat} {s : Option (List Int)} {a b c d : Value} (h : Tlv.Left w0 w W g s) (hq : Blk W q T #[a, b, c, d]) (ha : NoU8 a) (hb : NoU8 b) (hc : NoU8 c) (hd : NoU8 d) (hne : g ≠ q) (h0 : w0.heap.size ≤ q) (hw : w.heap.size ≤ q) (v : Value) :
    Tlv.Left w0 w (W.setCell ⟨q, j, none⟩ v) g s :=
  ⟨h.1.keep ((KeepBut.refl W q none).set_ j _) hne hq (no_u8_4 ha hb hc hd), below_set h.2.1 h0, keep_far h.2.2 hw _⟩
theorem left_below {w0 w W W1 : World} {g : Nat} {s : Option (List Int)} (h : Tlv.Left w0 w W g s) (hb : Below W.heap.size W W1) : Tlv.Left w0 w W1 g s := ⟨h.1.below hb, below_step h.2.1 hb, h.2.2.trans (KeepBut.of_below hb g none) (.inl rfl)⟩
/-- What a reading of a term leaves. -/
def ReadQ (w0 w : World) (g : Nat) (r : Option (ST × List Int)) (e : Ending) (w' : World) : Prop :=
  match r with
  | some (x, s) => ∃ v2 v3, e = .returned (.tuple #[.agg #[.int .i64 x.f0, .int .u64 x.f1, v2, v3], .bool true]) ∧ Ob w' w.heap.size v2 x.f2 ∧ Kd.R k26 26 w' w.heap.size (fun k => some k ≠ v2.ownBlock) v3 x.f3 ∧ Tlv.Left w0 w w' g (some s)
  | none => ∃ (y0 y1 : Int) (A2 : Option Addr) (n2 c2 : Nat) (A3 : Option Addr) (n3 c3 : Nat) (s : Option (List Int)), e = .returned (.tuple #[.agg #[.int .i64 y0, .int .u64 y1, .slice A2 n2 c2, .slice A3 n3 c3], .bool false]) ∧ Tlv.Left w0 w w' g s
theorem take1 (c : Int) (r : List Int) : takeO (some (c :: r)) 1 = ([c], some r) := by
  simp only [takeO]
  rw [if_pos (by rw [List.length_cons]; omega)]
  rfl
set_option maxHeartbeats 4000000 in
set_option maxRecDepth 100000 in
theorem read_fail (d : Nat) (hd : d ≤ 8) (w0 w : World) (g : Nat) (st : Option (List Int)) (h : RdO w0 w g st) (hB : Below w0.heap.size w0 w) (hst : takeO st 1 = ([], none)) :
    Calls Try.prog 50 #[.pointer (some ⟨g, 0, none⟩), .int .i64 (d : Int)] w (ReadQ w0 w g (readT d st)) := by
  have HE := Aside0.mk (show readT d st = none by
    cases d with
    | zero => rfl
    | succ d => rw [readT, hst])
  have HB := Aside0.mk (below_step hB (below_alloc (Below.refl w.heap.size w) (.cells #[.int .i64 0, .int .u64 0, .slice none 0 0, .slice none 0 0] 26)))
  have HS := Aside0.mk (h.below (below_alloc (Below.refl w.heap.size w) (.cells #[.int .i64 0, .int .u64 0, .slice none 0 0, .slice none 0 0] 26)))
  have H0 := Aside0.mk (show Blk (w.alloc (.cells #[.int .i64 0, .int .u64 0, .slice none 0 0, .slice none 0 0] 26)) w.heap.size 26 #[.int .i64 0, .int .u64 0, .slice none 0 0, .slice none 0 0] from blk_new _ _)
  have HG := Aside0.mk (show w0.heap.size ≤ w.heap.size ∧ g < w.heap.size from ⟨hB.size, h.blk.2.1⟩)
  have HKW := Aside0.mk (KeepBut.of_below (below_alloc (Below.refl w.heap.size w) (.cells #[.int .i64 0, .int .u64 0, .slice none 0 0, .slice none 0 0] 26)) g none)
  have hu26 := Try.underlying26
  have hu69 := Try.underlying69
  have H1 := Aside0.mk hst
  clear h hB hst hd
  go_enter Try.func50, Try.ntmps50
  go_wp2_with (first
    | (go_at_call 69; refine (takeO_ w0 _ g st 1 HS.out HB.out).mono ?_; rintro e w1 ⟨v, rfl, ho, hl⟩; rw [H1.out] at ho hl; obtain ⟨A5, c5, rfl, _, _⟩ := Ob.reads ho; have HL := Aside0.mk hl; have H01 := Aside0.mk (H0.out.keep hl.2.2 (by have := HG.out; omega)); have y0 := blk_frozen H01.out 0; have y1 := blk_frozen H01.out 1; have y2 := blk_frozen H01.out 2; have y3 := blk_frozen H01.out 3; have z0 := H01.out.cell 0; have z1 := H01.out.cell 1; have z2 := H01.out.cell 2; have z3 := H01.out.cell 3; simp only [List.getElem?_toArray, List.getElem?_cons_zero, List.getElem?_cons_succ] at z0 z1 z2 z3; clear ho hl)
    | (go_at_call 70; refine (okO w0 _ g none HL.out.1).mono ?_; rintro e w2 ⟨rfl, rfl⟩))
  refine bodyPost_ret (results_ct rfl _ _ w.heap.size 26 #[.int .i64 0, .int .u64 0, .slice none 0 0, .slice none 0 0] (0, 0) _ rfl (set4 H01.out _ _ _ _) Try.underlying26 rfl (by kernel_rfl)) rfl ?_
  rw [HE.out]
  exact ⟨0, 0, none, 0, 0, none, 0, 0, _, rfl, left_set4 ⟨HL.out.1, HL.out.2.1, HKW.out.trans HL.out.2.2 (.inl rfl)⟩ H01.out (by simp [NoU8]) (by simp [NoU8]) (by simp [NoU8]) (by simp [NoU8]) (by have := HG.out; omega) HG.out.1 (Nat.le_refl _) _ _ _ _⟩
set_option maxHeartbeats 4000000 in
set_option maxRecDepth 100000 in
theorem read_zero (w0 w : World) (g : Nat) (c : Int) (r : List Int) (h : RdO w0 w g (some (c :: r))) (hB : Below w0.heap.size w0 w) :
    Calls Try.prog 50 #[.pointer (some ⟨g, 0, none⟩), .int .i64 0] w (ReadQ w0 w g (readT 0 (some (c :: r)))) := by
  have HB := Aside0.mk (below_step hB (below_alloc (Below.refl w.heap.size w) (.cells #[.int .i64 0, .int .u64 0, .slice none 0 0, .slice none 0 0] 26)))
  have HS := Aside0.mk (h.below (below_alloc (Below.refl w.heap.size w) (.cells #[.int .i64 0, .int .u64 0, .slice none 0 0, .slice none 0 0] 26)))
  have H0 := Aside0.mk (show Blk (w.alloc (.cells #[.int .i64 0, .int .u64 0, .slice none 0 0, .slice none 0 0] 26)) w.heap.size 26 #[.int .i64 0, .int .u64 0, .slice none 0 0, .slice none 0 0] from blk_new _ _)
  have HG := Aside0.mk (show w0.heap.size ≤ w.heap.size ∧ g < w.heap.size from ⟨hB.size, h.blk.2.1⟩)
  have HKW := Aside0.mk (KeepBut.of_below (below_alloc (Below.refl w.heap.size w) (.cells #[.int .i64 0, .int .u64 0, .slice none 0 0, .slice none 0 0] 26)) g none)
  have hu26 := Try.underlying26
  have hu69 := Try.underlying69
  clear h hB
  go_enter Try.func50, Try.ntmps50
  go_wp2_with (first
    | (go_at_call 69; refine (takeO_ w0 _ g (some (c :: r)) 1 HS.out HB.out).mono ?_; rintro e w1 ⟨v, rfl, ho, hl⟩; rw [take1] at ho hl; obtain ⟨A5, c5, rfl, hl5, hr5⟩ := Ob.reads ho; obtain ⟨ad5, rfl, hc5⟩ := Rb.at0 hr5; have HL := Aside0.mk (show Tlv.Left w0 w w1 g (some r) from ⟨hl.1, hl.2.1, HKW.out.trans hl.2.2 (.inl rfl)⟩); have H01 := Aside0.mk (H0.out.keep hl.2.2 (by have := HG.out; omega)); have y0 := blk_frozen H01.out 0; have y1 := blk_frozen H01.out 1; have y2 := blk_frozen H01.out 2; have y3 := blk_frozen H01.out 3; have z0 := H01.out.cell 0; have z1 := H01.out.cell 1; have z2 := H01.out.cell 2; have z3 := H01.out.cell 3; simp only [List.getElem?_toArray, List.getElem?_cons_zero, List.getElem?_cons_succ] at z0 z1 z2 z3; clear ho hl hl5 hr5)
    | (go_at_call 70; refine (okO w0 _ g (some r) HL.out.1).mono ?_; rintro e w2 ⟨rfl, rfl⟩))
  refine bodyPost_ret (results_ct rfl _ _ w.heap.size 26 #[.int .i64 0, .int .u64 0, .slice none 0 0, .slice none 0 0] (0, 0) _ rfl (set4 H01.out _ _ _ _) Try.underlying26 rfl (by kernel_rfl)) rfl ?_
  rw [readT]
  exact ⟨0, 0, none, 0, 0, none, 0, 0, _, rfl, left_set4 HL.out H01.out (by simp [NoU8]) (by simp [NoU8]) (by simp [NoU8]) (by simp [NoU8]) (by have := HG.out; omega) HG.out.1 (Nat.le_refl _) _ _ _ _⟩
set_option maxHeartbeats 4000000 in
set_option maxRecDepth 100000 in
theorem read_no (d : Nat) (hd : d + 1 ≤ 8) (w0 w : World) (g : Nat) (c : Int) (r : List Int) (h : RdO w0 w g (some (c :: r))) (hB : Below w0.heap.size w0 w) (ht : thereB c = false) :
    Calls Try.prog 50 #[.pointer (some ⟨g, 0, none⟩), .int .i64 ((d + 1 : Nat) : Int)] w (ReadQ w0 w g (readT (d + 1) (some (c :: r)))) := by
  have HE := Aside0.mk (show readT (d + 1) (some (c :: r)) = none by
    rw [readT, take1]
    simp only [List.getD_cons_zero]
    rw [if_neg (by rw [ht]; decide)])
  have hsh := shape_c c
  simp only [shapeV] at hsh
  rw [ht] at hsh
  have HSH := Aside0.mk hsh
  have hc0 := (show 0 ≤ c ∧ c ≤ 255 from h.u8.1.head).1
  have hc1 := (show 0 ≤ c ∧ c ≤ 255 from h.u8.1.head).2
  have z9 : (((d + 1 : Nat) : Int) == 0) = false := by rw [beq_eq_false_iff_ne]; omega
  have HB := Aside0.mk (below_step hB (below_alloc (Below.refl w.heap.size w) (.cells #[.int .i64 0, .int .u64 0, .slice none 0 0, .slice none 0 0] 26)))
  have HS := Aside0.mk (h.below (below_alloc (Below.refl w.heap.size w) (.cells #[.int .i64 0, .int .u64 0, .slice none 0 0, .slice none 0 0] 26)))
  have H0 := Aside0.mk (show Blk (w.alloc (.cells #[.int .i64 0, .int .u64 0, .slice none 0 0, .slice none 0 0] 26)) w.heap.size 26 #[.int .i64 0, .int .u64 0, .slice none 0 0, .slice none 0 0] from blk_new _ _)
  have HG := Aside0.mk (show w0.heap.size ≤ w.heap.size ∧ g < w.heap.size from ⟨hB.size, h.blk.2.1⟩)
  have HKW := Aside0.mk (KeepBut.of_below (below_alloc (Below.refl w.heap.size w) (.cells #[.int .i64 0, .int .u64 0, .slice none 0 0, .slice none 0 0] 26)) g none)
  have hu26 := Try.underlying26
  have hu69 := Try.underlying69
  obtain ⟨D, hD⟩ : ∃ D : Int, ((d + 1 : Nat) : Int) = D := ⟨_, rfl⟩
  rw [hD] at z9 ⊢
  clear h hB ht hd hsh hD
  go_enter Try.func50, Try.ntmps50
  go_wp2_with (first
    | (go_at_call 69; refine (takeO_ w0 _ g (some (c :: r)) 1 HS.out HB.out).mono ?_; rintro e w1 ⟨v, rfl, ho, hl⟩; rw [take1] at ho hl; obtain ⟨A5, c5, rfl, hl5, hr5⟩ := Ob.reads ho; obtain ⟨ad5, rfl, hc5⟩ := Rb.at0 hr5; have HL := Aside0.mk (show Tlv.Left w0 w w1 g (some r) from ⟨hl.1, hl.2.1, HKW.out.trans hl.2.2 (.inl rfl)⟩); have H01 := Aside0.mk (H0.out.keep hl.2.2 (by have := HG.out; omega)); clear ho hl hl5 hr5)
    | (go_at_call 70; refine (okO w0 _ g (some r) HL.out.1).mono ?_; rintro e w2 ⟨rfl, rfl⟩)
    | (go_at_call 43; go_must (refine (HSH.out _).mono ?_; rintro e w3 ⟨rfl, hb⟩; have HL3 := Aside0.mk (left_below (left_below HL.out (below_alloc (Below.refl _ _) _)) hb); have H03 := Aside0.mk ((H01.out.alloc (.cells #[.int .i64 c, .int .u64 0, .slice none 0 0, .slice none 0 0] 26)).below hb); have HT3 := Aside0.mk ((show Blk (w1.alloc (.cells #[.int .i64 c, .int .u64 0, .slice none 0 0, .slice none 0 0] 26)) w1.heap.size 26 #[.int .i64 c, .int .u64 0, .slice none 0 0, .slice none 0 0] from blk_new _ _).below hb); have HZ3 := Aside0.mk (show w1.heap.size < w3.heap.size by have := hb.size; simp at this; omega); have y0 := fun o => blk_frozen (H03.out.alloc o) 0; have y1 := fun o => blk_frozen (H03.out.alloc o) 1; have y2 := fun o => blk_frozen (H03.out.alloc o) 2; have y3 := fun o => blk_frozen (H03.out.alloc o) 3; have z0 := fun o => (H03.out.alloc o).cell 0; have z1 := fun o => (H03.out.alloc o).cell 1; have z2 := fun o => (H03.out.alloc o).cell 2; have z3 := fun o => (H03.out.alloc o).cell 3; simp only [List.getElem?_toArray, List.getElem?_cons_zero, List.getElem?_cons_succ] at z0 z1 z2 z3; clear hb)))
  refine bodyPost_ret (results_ct rfl _ _ w.heap.size 26 #[.int .i64 0, .int .u64 0, .slice none 0 0, .slice none 0 0] (0, 0) _ rfl (set4 (H03.out.alloc _) _ _ _ _) Try.underlying26 rfl (by kernel_rfl)) rfl ?_
  rw [HE.out]
  exact ⟨0, 0, none, 0, 0, none, 0, 0, _, rfl, left_set4 (left_below HL3.out (below_alloc (Below.refl _ _) _)) (H03.out.alloc _) (by simp [NoU8]) (by simp [NoU8]) (by simp [NoU8]) (by simp [NoU8]) (by have := HG.out; omega) HG.out.1 (Nat.le_refl _) _ _ _ _⟩
/-- What the loop over a term's kids keeps. -/
def Kids (w0 w W : World) (g gt : Nat) (c n : Int) (dt : List Int) (ks : List ST) (s : Option (List Int)) (b1 : Nat) : Prop :=
  ∃ v2 v3, (∃ A2 n2 c2, v2 = .slice A2 n2 c2) ∧ (∃ A3 n3 c3, v3 = .slice A3 n3 c3) ∧ Blk W gt 26 #[.int .i64 c, .int .u64 n, v2, v3] ∧ Ob W b1 v2 dt ∧ Kd.R k26 26 W b1 (fun k => (k ≠ g ∧ k ≠ gt) ∧ some k ≠ v2.ownBlock) v3 ks ∧ Tlv.Left w0 w W g s ∧ Blk W w.heap.size 26 #[.int .i64 0, .int .u64 0, .slice none 0 0, .slice none 0 0]
theorem rd_blk {w0 W : World} {g : Nat} {s : Option (List Int)} (h : RdO w0 W g s) : ∃ cs, W.heap[g]? = some (.cells cs 93 (0, 0)) := by
  obtain ⟨_, _, cs, h1, _⟩ := h.blk
  exact ⟨cs, h1⟩
theorem left_grown {w0 w W W1 : World} {g : Nat} {s : Option (List Int)} {row : Option Nat} (h : Tlv.Left w0 w W g s) (hb : Below w.heap.size W W1) (hg : W.grownBy W1 row) (hr : ∀ b, row = some b → g < b ∧ w0.heap.size ≤ b) (h0 : w0.heap.size ≤ w.heap.size) : Tlv.Left w0 w W1 g s :=
  ⟨h.1.grown hg (fun b e => (hr b e).1), h.2.1.trans (hb.mono h0), Nat.le_trans h.2.2.1 hb.size, fun i hi h1 h2 => (hb.block i hi).trans (h.2.2.2 i hi h1 h2)⟩
/-- What is left to be read of the kids. -/
def Rest (d N : Nat) (s2 : Option (List Int)) (i : Nat) (ks : List ST) (s : Option (List Int)) : Prop :=
  (match readK (readT d) (N - i) s with
    | some (l, s') => some (ks ++ l, s')
    | none => none) = readK (readT d) N s2
theorem rest_none {d N i : Nat} {s2 s : Option (List Int)} {ks : List ST} (h : Rest d N s2 i ks s) (hi : i < N) (hr : readT d s = none) : readK (readT d) N s2 = none := by
  unfold Rest at h
  rw [← h, show N - i = (N - (i + 1)) + 1 by omega, readK, hr]
theorem rest_some {d N i : Nat} {s2 s : Option (List Int)} {ks : List ST} {x : ST} {r : List Int} (h : Rest d N s2 i ks s) (hi : i < N) (hr : readT d s = some (x, r)) : Rest d N s2 (i + 1) (ks ++ [x]) (some r) := by
  unfold Rest at h ⊢
  rw [← h, show N - i = (N - (i + 1)) + 1 by omega, readK, hr]
  dsimp only
  cases readK (readT d) (N - (i + 1)) (some r) with
  | none => rfl
  | some p => obtain ⟨l, s'⟩ := p; simp
theorem rest_end {d N i : Nat} {s2 s : Option (List Int)} {ks : List ST} (h : Rest d N s2 i ks s) (hi : N ≤ i) : readK (readT d) N s2 = some (ks, s) := by
  unfold Rest at h
  rw [← h, show N - i = 0 by omega, readK]
  simp
theorem info_t : (Try.prog.info? 26).map (fun i => (i.zero, i.size, i.bytes)) = some (some (.agg #[.int .i64 0, .int .u64 0, .slice none 0 0, .slice none 0 0]), 4, 64) := by kernel_rfl
theorem row_g {w0 W : World} {g : Nat} {s : Option (List Int)} {b : Nat} {v : Value} {xs : List Int} (h : RdO w0 W g s) (ho : Ob W b v xs) : Kd.R (Kd.int .u8) 5 W b (fun k => True ∧ k ≠ g) v xs := by
  obtain ⟨cs, h1⟩ := rd_blk h
  exact Kd.R_types ho h1 (by decide)
theorem row_keep {w0 W W1 : World} {g : Nat} {s : Option (List Int)} {b : Nat} {v : Value} {xs : List Int} (h : RdO w0 W g s) (ho : Ob W b v xs) (hk : KeepBut W W1 g none) : Ob W1 b v xs :=
  Kd.R_mono (Kd.R_keep (row_g h ho) hk (fun _ h => h.2)) (fun _ _ => trivial)
theorem ob_grown {W W1 : World} {b1 b2 : Nat} {v2 v3 : Value} {xs : List Int} {ks : List ST} {ok : Nat → Prop} (h2 : Ob W b1 v2 xs) (h3 : Kd.R k26 26 W b2 ok v3 ks) (hg : W.grownBy W1 v3.ownBlock) : Ob W1 b1 v2 xs := by
  cases hv : v3.ownBlock with
  | none => rw [hv] at hg; exact Kd.R_grown h2 hg (by simp)
  | some b =>
    obtain ⟨inner, ho⟩ := Kd.R_own h3
    obtain ⟨cells, hc⟩ := own_typed ho b hv
    exact Kd.R_mono (Kd.R_grown (Kd.R_types h2 hc (by decide)) hg (by rintro k ⟨_, hk⟩ e; rw [hv] at e; exact hk (Option.some.inj e))) (fun _ h => h.1)
theorem blk_step {W W1 : World} {g T b : Nat} {cs : Array Value} (h : Blk W g T cs) (hb : Below b W W1) (hg : g < b) : Blk W1 g T cs := (hb.block g hg).trans h
theorem kids_more {w0 w W w1 : World} {g gt : Nat} {c n : Int} {dt : List Int} {ks : List ST} {x : ST} {s : Option (List Int)} {v1 : Value} {A2 A3 : Option Addr} {n2 c2 n3 c3 : Nat} {ok : Nat → Prop}
    (hT : Blk W gt 26 #[.int .i64 c, .int .u64 n, .slice A2 n2 c2, .slice A3 n3 c3]) (hO : Ob W (gt + 1) (.slice A2 n2 c2) dt) (hR : Kd.R k26 26 W (gt + 1) ok (.slice A3 n3 c3) ks) (hL : Tlv.Left w0 w W g s) (h0 : Blk W w.heap.size 26 #[.int .i64 0, .int .u64 0, .slice none 0 0, .slice none 0 0])
    (hR1 : Kd.R k26 26 w1 (gt + 1) (fun k => (k ≠ g ∧ k ≠ gt) ∧ some k ≠ (Value.slice A2 n2 c2).ownBlock) v1 (ks ++ [x])) (hb : Below (gt + 1) W w1) (hg : W.grownBy w1 (Value.slice A3 n3 c3).ownBlock) (hw : w0.heap.size ≤ w.heap.size ∧ g < w.heap.size) (hgt : w.heap.size < gt) :
    Blk w1 gt 26 #[.int .i64 c, .int .u64 n, .slice A2 n2 c2, .slice A3 n3 c3] ∧ Kids w0 w (w1.setCell ⟨gt, 3, none⟩ v1) g gt c n dt (ks ++ [x]) s (gt + 1) := by
  have hT1 := blk_step hT hb (by omega)
  have hL1 : Tlv.Left w0 w w1 g s := left_grown hL (hb.mono (by omega)) hg (fun b e => by have := Kd.R_base hR b e; exact ⟨by omega, by omega⟩) hw.1
  refine ⟨hT1, .slice A2 n2 c2, v1, ⟨_, _, _, rfl⟩, ?_, ?_, ?_, ?_, ?_, ?_⟩
  · obtain ⟨A, c, e⟩ := Kd.R_slice hR1
    exact ⟨_, _, _, e⟩
  · have h := blk_set hT1 3 v1
    simpa [Blk] using h
  · exact Kd.R_set (ob_grown hO hR hg) hT1 (by decide) 3 _
  · exact Kd.R_far hR1 (fun _ hk => hk.1.2) _
  · exact left_set1 hL1 hT1 (by simp [NoU8]) (by simp [NoU8]) (by simp [NoU8]) (by simp [NoU8]) (by omega) (by omega) (by omega) _
  · exact blk_far (blk_step h0 hb (by omega)) (by dsimp only; omega) _
theorem kids_out {w0 w W : World} {g gt : Nat} {dt : List Int} {ks : List ST} {s : Option (List Int)} {v2 v3 : Value} {ok : Nat → Prop}
    (hO : Ob W (gt + 1) v2 dt) (hR : Kd.R k26 26 W (gt + 1) ok v3 ks) (hok : ∀ k, ok k → some k ≠ v2.ownBlock) (hL : Tlv.Left w0 w W g s) (h0 : Blk W w.heap.size 26 #[.int .i64 0, .int .u64 0, .slice none 0 0, .slice none 0 0]) (hw : w0.heap.size ≤ w.heap.size ∧ g < w.heap.size) (hgt : w.heap.size < gt) (a b c d : Value) :
    Ob ((((W.setCell ⟨w.heap.size, 0, none⟩ a).setCell ⟨w.heap.size, 1, none⟩ b).setCell ⟨w.heap.size, 2, none⟩ c).setCell ⟨w.heap.size, 3, none⟩ d) w.heap.size v2 dt
    ∧ Kd.R k26 26 ((((W.setCell ⟨w.heap.size, 0, none⟩ a).setCell ⟨w.heap.size, 1, none⟩ b).setCell ⟨w.heap.size, 2, none⟩ c).setCell ⟨w.heap.size, 3, none⟩ d) w.heap.size (fun k => some k ≠ v2.ownBlock) v3 ks
    ∧ Tlv.Left w0 w ((((W.setCell ⟨w.heap.size, 0, none⟩ a).setCell ⟨w.heap.size, 1, none⟩ b).setCell ⟨w.heap.size, 2, none⟩ c).setCell ⟨w.heap.size, 3, none⟩ d) g s := by
  have hk := ((((KeepBut.refl W w.heap.size none).set_ 0 a).set_ 1 b).set_ 2 c).set_ 3 d
  refine ⟨Kd.R_mono (Kd.R_lower (Kd.R_keep (Kd.R_bound hO) hk (fun k hk => ?_)) (by omega)) (fun _ _ => trivial), Kd.R_mono (Kd.R_lower (Kd.R_keep (Kd.R_bound hR) hk (fun k hk => ?_)) (by omega)) (fun k h => hok k h.1), left_set4 hL h0 (by simp [NoU8]) (by simp [NoU8]) (by simp [NoU8]) (by simp [NoU8]) (by omega) (by omega) (Nat.le_refl _) _ _ _ _⟩
  · have := hk.2.1; omega
  · have := hk.2.1; omega
set_option maxHeartbeats 8000000 in
set_option maxRecDepth 100000 in
theorem read_num (d : Nat) (hd : d + 1 ≤ 8) (ih : ∀ w0 w g st, RdO w0 w g st → Below w0.heap.size w0 w → Calls Try.prog 50 #[.pointer (some ⟨g, 0, none⟩), .int .i64 (d : Int)] w (ReadQ w0 w g (readT d st))) (w0 w : World) (g : Nat) (c : Int) (r : List Int) (h : RdO w0 w g (some (c :: r))) (hB : Below w0.heap.size w0 w) (ht : thereB c = true) (hn : numT c = true) (hdt : datT c = false) :
    Calls Try.prog 50 #[.pointer (some ⟨g, 0, none⟩), .int .i64 ((d + 1 : Nat) : Int)] w (ReadQ w0 w g (readT (d + 1) (some (c :: r)))) := by
  have HE := Aside0.mk (show readT (d + 1) (some (c :: r)) = match readK (readT d) (kidT c) ((numO (some r)).2) with
      | some (ks, some s) => some (⟨c, (numO (some r)).1, [], ks⟩, s)
      | _ => none by
    rw [readT, take1]
    simp only [List.getD_cons_zero]
    rw [if_pos ht]
    unfold datR numR
    rw [hn, hdt]
    rfl)
  have hsh := shape_c c
  simp only [shapeV] at hsh
  rw [ht, hn, hdt] at hsh
  have HSH := Aside0.mk hsh
  have HIH := Aside0.mk ih
  have HD8 := Aside0.mk hd
  have hc0 := (show 0 ≤ c ∧ c ≤ 255 from h.u8.1.head).1
  have hc1 := (show 0 ≤ c ∧ c ≤ 255 from h.u8.1.head).2
  have z9 : (((d + 1 : Nat) : Int) == 0) = false := by rw [beq_eq_false_iff_ne]; omega
  have HW1 := Aside0.mk (show wrap64 (((d + 1 : Nat) : Int) - 1) = (d : Int) from dec_i (by omega))
  have HB := Aside0.mk (below_step hB (below_alloc (Below.refl w.heap.size w) (.cells #[.int .i64 0, .int .u64 0, .slice none 0 0, .slice none 0 0] 26)))
  have HS := Aside0.mk (h.below (below_alloc (Below.refl w.heap.size w) (.cells #[.int .i64 0, .int .u64 0, .slice none 0 0, .slice none 0 0] 26)))
  have H0 := Aside0.mk (show Blk (w.alloc (.cells #[.int .i64 0, .int .u64 0, .slice none 0 0, .slice none 0 0] 26)) w.heap.size 26 #[.int .i64 0, .int .u64 0, .slice none 0 0, .slice none 0 0] from blk_new _ _)
  have HG := Aside0.mk (show w0.heap.size ≤ w.heap.size ∧ g < w.heap.size from ⟨hB.size, h.blk.2.1⟩)
  have HKW := Aside0.mk (KeepBut.of_below (below_alloc (Below.refl w.heap.size w) (.cells #[.int .i64 0, .int .u64 0, .slice none 0 0, .slice none 0 0] 26)) g none)
  have hu26 := Try.underlying26
  have hu69 := Try.underlying69
  obtain ⟨D, hD⟩ : ∃ D : Int, ((d + 1 : Nat) : Int) = D := ⟨_, rfl⟩
  rw [hD] at z9 HW1 ⊢
  clear h hB ht hd hsh hD ih hn hdt
  go_enter Try.func50, Try.ntmps50
  go_upto_region 12 with (first
    | (go_at_call 69; refine (takeO_ w0 _ g (some (c :: r)) 1 HS.out HB.out).mono ?_; rintro e w1 ⟨v, rfl, ho, hl⟩; rw [take1] at ho hl; obtain ⟨A5, c5, rfl, hl5, hr5⟩ := Ob.reads ho; obtain ⟨ad5, rfl, hc5⟩ := Rb.at0 hr5; have HL := Aside0.mk (show Tlv.Left w0 w w1 g (some r) from ⟨hl.1, hl.2.1, HKW.out.trans hl.2.2 (.inl rfl)⟩); have H01 := Aside0.mk (H0.out.keep hl.2.2 (by have := HG.out; omega)); clear ho hl hl5 hr5)
    | (go_at_call 70; refine (okO w0 _ g (some r) HL.out.1).mono ?_; rintro e w2 ⟨rfl, rfl⟩)
    | (go_at_call 43; go_must (refine (HSH.out _).mono ?_; rintro e w3 ⟨rfl, hb⟩; have HL3 := Aside0.mk (left_below (left_below HL.out (below_alloc (Below.refl _ _) _)) hb); have H03 := Aside0.mk ((H01.out.alloc (.cells #[.int .i64 c, .int .u64 0, .slice none 0 0, .slice none 0 0] 26)).below hb); have HT3 := Aside0.mk ((show Blk (w1.alloc (.cells #[.int .i64 c, .int .u64 0, .slice none 0 0, .slice none 0 0] 26)) w1.heap.size 26 #[.int .i64 c, .int .u64 0, .slice none 0 0, .slice none 0 0] from blk_new _ _).below hb); have HZ3 := Aside0.mk (show w1.heap.size < w3.heap.size by have := hb.size; simp at this; omega); have HS3 := Aside0.mk (show Blk (w3.alloc (.cells #[.bool true, .bool true, .bool false, .int .i64 (kidT c : Int)] 69)) w3.heap.size 69 #[.bool true, .bool true, .bool false, .int .i64 (kidT c : Int)] from blk_new _ _); have HT4 := Aside0.mk (HT3.out.alloc (.cells #[.bool true, .bool true, .bool false, .int .i64 (kidT c : Int)] 69)); have HL4 := Aside0.mk (left_below HL3.out (below_alloc (Below.refl _ _) (.cells #[.bool true, .bool true, .bool false, .int .i64 (kidT c : Int)] 69))); have H04 := Aside0.mk (H03.out.alloc (.cells #[.bool true, .bool true, .bool false, .int .i64 (kidT c : Int)] 69)); have m0 := HS3.out.cell 0; have m1 := HS3.out.cell 1; have m2 := HS3.out.cell 2; have m3 := HS3.out.cell 3; simp only [List.getElem?_toArray, List.getElem?_cons_zero, List.getElem?_cons_succ] at m0 m1 m2 m3; clear hb))
    | (go_at_call 71; go_must (refine (numO_ w0 _ g (some r) HL4.out.1 HL4.out.2.1).mono ?_; rintro e w5 ⟨rfl, hl⟩; have HT5 := Aside0.mk (HT4.out.keep hl.2.2 (by have := HG.out; have := HL.out.2.2.1; omega)); have HS5 := Aside0.mk (HS3.out.keep hl.2.2 (by have := HG.out; have := HL.out.2.2.1; have := HZ3.out; omega)); have H05 := Aside0.mk (H04.out.keep hl.2.2 (by have := HG.out; omega)); have HL5 := Aside0.mk (HL4.out.trans hl); have u1 := HT5.out.cell 1; have f1 := blk_frozen HT5.out 1; clear m0 m1 m2 m3; have m0 := HS5.out.cell 0; have m1 := HS5.out.cell 1; have m2 := HS5.out.cell 2; have m3 := HS5.out.cell 3; simp only [List.getElem?_toArray, List.getElem?_cons_zero, List.getElem?_cons_succ] at u1 m0 m1 m2 m3; clear hl)))
  obtain ⟨W, hW⟩ : ∃ W, w5.setCell ⟨w1.heap.size, 1, none⟩ (.int .u64 (numO (some r)).1) = W := ⟨_, rfl⟩
  have HKD := Aside0.mk (show Kids w0 w W g w1.heap.size c (numO (some r)).1 [] [] ((numO (some r)).2) (w1.heap.size + 1) by rw [← hW]; exact ⟨.slice none 0 0, .slice none 0 0, ⟨_, _, _, rfl⟩, ⟨_, _, _, rfl⟩, by have h := blk_set HT5.out 1 (.int .u64 (numO (some r)).1); simpa [Blk] using h, Kd.R_nil _ _ _ _ _, Kd.R_nil _ _ _ _ _, left_set1 HL5.out HT5.out (by simp [NoU8]) (by simp [NoU8]) (by simp [NoU8]) (by simp [NoU8]) (by have := HG.out; have := HL.out.2.2.1; omega) (by have := HG.out; have := HL.out.2.2.1; omega) HL.out.2.2.1 _, blk_far H05.out (by have := HG.out; have := HL.out.2.2.1; have := HZ3.out; have := H01.out.lt; dsimp only; omega) _⟩)
  have HSW := Aside0.mk (show Blk W w3.heap.size 69 #[.bool true, .bool true, .bool false, .int .i64 (kidT c : Int)] by rw [← hW]; exact blk_far HS5.out (by have := HG.out; have := HL.out.2.2.1; have := HZ3.out; have := H01.out.lt; dsimp only; omega) _)
  rw [hW]
  have HGT := Aside0.mk (show w.heap.size < w1.heap.size by have := HL.out.2.2.1; have := H01.out.lt; omega)
  obtain ⟨gt, hgt⟩ : ∃ k, w1.heap.size = k := ⟨_, rfl⟩
  obtain ⟨gs, hgs⟩ : ∃ k, w3.heap.size = k := ⟨_, rfl⟩
  rw [hgt] at HKD HGT ⊢
  rw [hgs] at HSW ⊢
  obtain ⟨nv, hnv⟩ : ∃ k : Int, (numO (some r)).1 = k := ⟨_, rfl⟩
  obtain ⟨s2, hs2⟩ : ∃ k : Option (List Int), (numO (some r)).2 = k := ⟨_, rfl⟩
  obtain ⟨N, hN⟩ : ∃ k, kidT c = k := ⟨_, rfl⟩
  have HNL := Aside0.mk (show N ≤ 2 by rw [← hN]; exact kid_len c)
  simp only [hnv, hs2, hN] at HKD HE HSW ⊢
  have hw9 := HW1.out
  have q3 := HSW.out.cell 3
  simp only [List.getElem?_toArray, List.getElem?_cons_zero, List.getElem?_cons_succ] at q3
  clear hW hgt hgs hN m0 m1 m2 m3 hs2 u1 f1 hnv
  go_wp2
  go_loopg [45] N (fun gf s45 wx => ∃ (i : Nat) (ks : List ST) (s : Option (List Int)) (wy : World), wy = wx ∧ s45 = .int .i64 (i : Int) ∧ i + gf = N ∧ ks.length = i ∧ Kids w0 w wy g gt c nv [] ks s (gt + 1) ∧ Rest d N s2 i ks s)
  case atStart => exact ⟨0, [], s2, _, rfl, rfl, by omega, rfl, HKD.out, by simp [Rest]; cases readK (readT d) N s2 <;> simp⟩
  case round =>
    obtain ⟨i, ks, s, wx, rfl, rfl, hi, hkl, ⟨v2, v3, ⟨A2, n2, c2, rfl⟩, ⟨A3, n3, c3, rfl⟩, hT, hO, hR, hL, h0⟩, hRe⟩ := hrel
    have HQ := Aside0.mk hi; have HLK := Aside0.mk hkl; have HT := Aside0.mk hT; have HO := Aside0.mk hO; have HR := Aside0.mk hR; have HL := Aside0.mk hL; have H0 := Aside0.mk h0; have HRE := Aside0.mk hRe
    clear hi hkl hT hO hR hL h0 hRe HKD HSW HL3 H03 HT3 HS3 HT4 HL4 H04 HL5 HT5 H05 HS5
    by_cases hlt : i < N
    · have hl1 : decide ((i : Int) < (N : Int)) = true := decide_eq_true (by omega)
      have hw1 : wrap64 ((i : Int) + 1) = ((i + 1 : Nat) : Int) := by have := HNL.out; rw [Aid.w64 (by omega) (by omega)]; omega
      have hc := HIH.out w0 wx g s HL.out.1 HL.out.2.1
      cases hr : readT d s with
      | none =>
        rw [hr] at hc
        have HC := Aside0.mk hc
        have HEE := Aside0.mk (HE.out.trans (by rw [rest_none HRE.out hlt hr]))
        clear hc hr
        go_wp2_with (go_at_call 50; refine HC.out.mono ?_; rintro e w' ⟨y0, y1, B2, m2, e2, B3, m3, e3, s', rfl, hl'⟩; have HL' := Aside0.mk (HL.out.trans hl'); have H0' := Aside0.mk (H0.out.keep hl'.2.2 (by have := HG.out; omega)); have y0_ := fun o => blk_frozen (H0'.out.alloc o) 0; have y1_ := fun o => blk_frozen (H0'.out.alloc o) 1; have y2_ := fun o => blk_frozen (H0'.out.alloc o) 2; have y3_ := fun o => blk_frozen (H0'.out.alloc o) 3; have z0 := fun o => (H0'.out.alloc o).cell 0; have z1 := fun o => (H0'.out.alloc o).cell 1; have z2 := fun o => (H0'.out.alloc o).cell 2; have z3 := fun o => (H0'.out.alloc o).cell 3; simp only [List.getElem?_toArray, List.getElem?_cons_zero, List.getElem?_cons_succ] at z0 z1 z2 z3; clear hl')
        refine bodyPost_ret (results_ct rfl _ _ w.heap.size 26 #[.int .i64 0, .int .u64 0, .slice none 0 0, .slice none 0 0] (0, 0) _ rfl (set4 (H0'.out.alloc _) _ _ _ _) Try.underlying26 rfl (by kernel_rfl)) rfl ?_
        rw [HEE.out]
        exact ⟨0, 0, none, 0, 0, none, 0, 0, _, rfl, left_set4 (left_below HL'.out (below_alloc (Below.refl _ _) _)) (H0'.out.alloc _) (by simp [NoU8]) (by simp [NoU8]) (by simp [NoU8]) (by simp [NoU8]) (by have := HG.out; omega) HG.out.1 (Nat.le_refl _) _ _ _ _⟩
      | some p =>
        obtain ⟨x, r'⟩ := p
        rw [hr] at hc
        have HC := Aside0.mk hc
        have HRS := Aside0.mk (rest_some HRE.out hlt hr)
        clear hc hr
        go_wp2_with (first
          | (go_at_call 50; refine HC.out.mono ?_; rintro e w' ⟨q2, q3_, rfl, ho2, ho3, hl'⟩; obtain ⟨B2, e2, rfl⟩ := Kd.R_slice ho2; obtain ⟨B3, e3, rfl⟩ := Kd.R_slice ho3
             have HL' := Aside0.mk (left_below (HL.out.trans hl') (below_alloc (Below.refl _ _) (.cells #[.int .i64 x.f0, .int .u64 x.f1, .slice B2 x.f2.length e2, .slice B3 x.f3.length e3] 26))); have H0' := Aside0.mk ((H0.out.keep hl'.2.2 (by have := HG.out; omega)).alloc (.cells #[.int .i64 x.f0, .int .u64 x.f1, .slice B2 x.f2.length e2, .slice B3 x.f3.length e3] 26)); have HT' := Aside0.mk ((HT.out.keep hl'.2.2 (by have := HG.out; have := HGT.out; omega)).alloc (.cells #[.int .i64 x.f0, .int .u64 x.f1, .slice B2 x.f2.length e2, .slice B3 x.f3.length e3] 26))
             have HO' := Aside0.mk (Kd.R_alloc (row_keep HL.out.1 HO.out hl'.2.2) (.cells #[.int .i64 x.f0, .int .u64 x.f1, .slice B2 x.f2.length e2, .slice B3 x.f3.length e3] 26)); have HR' := Aside0.mk (Kd.R_alloc (Kd.R_keep HR.out hl'.2.2 (fun _ h => h.1.1)) (.cells #[.int .i64 x.f0, .int .u64 x.f1, .slice B2 x.f2.length e2, .slice B3 x.f3.length e3] 26))
             have HM := Aside0.mk (k26_mkM _ (gt + 1) (fun k => wx.heap.size ≤ k) x (Kd.R_mono (Kd.R_lower (Kd.R_bound (Kd.R_alloc ho2 (.cells #[.int .i64 x.f0, .int .u64 x.f1, .slice B2 x.f2.length e2, .slice B3 x.f3.length e3] 26))) (by have := HT.out.lt; omega)) (fun _ h => h.2.1)) (Kd.R_mono (Kd.R_lower (Kd.R_bound (Kd.R_alloc ho3 (.cells #[.int .i64 x.f0, .int .u64 x.f1, .slice B2 x.f2.length e2, .slice B3 x.f3.length e3] 26))) (by have := HT.out.lt; omega)) (fun _ h => h.2.1)))
             have HOK := Aside0.mk (show ∀ k, wx.heap.size ≤ k → ((k ≠ g ∧ k ≠ gt) ∧ some k ≠ (Value.slice A2 n2 c2).ownBlock) ∧ some k ≠ (Value.slice A3 n3 c3).ownBlock from fun k hk => ⟨⟨⟨by have := HG.out; have := HT.out.lt; have := HGT.out; omega, by have := HT.out.lt; omega⟩, fun e => by have := Kd.R_lt HO.out k e.symm; omega⟩, fun e => by have := Kd.R_lt HR.out k e.symm; omega⟩)
             have HSZ := Aside0.mk (show gt + 1 ≤ (w'.alloc (.cells #[.int .i64 x.f0, .int .u64 x.f1, .slice B2 x.f2.length e2, .slice B3 x.f3.length e3] 26)).heap.size from HT'.out.lt)
             have HFR := Aside0.mk (show ∀ k, (w'.alloc (.cells #[.int .i64 x.f0, .int .u64 x.f1, .slice B2 x.f2.length e2, .slice B3 x.f3.length e3] 26)).heap.size ≤ k → (k ≠ g ∧ k ≠ gt) ∧ some k ≠ (Value.slice A2 n2 c2).ownBlock from fun k hk => ⟨⟨by have := HG.out; have := HGT.out; have := HSZ.out; omega, by have := HSZ.out; omega⟩, fun e => by have := Kd.R_lt HO'.out k e.symm; omega⟩)
             have HLN := Aside0.mk (show (ks.length + 1) * 64 ≤ 140737488355328 by have := HLK.out; have := HQ.out; have := HNL.out; omega)
             have y3_ := HT'.out.cell 3; simp only [List.getElem?_toArray, List.getElem?_cons_zero, List.getElem?_cons_succ] at y3_
             clear ho2 ho3 hl')
          | ((with_reducible refine gate_builtin (b := .append) (xs := #[.tmp 58, .tmp 60]) rfl ?_); at_builtin; go_must (refine Kd.R_append k26 (gt + 1) rfl (.tmp 58) (.tmp 60) 24 26 (.agg #[.int .i64 0, .int .u64 0, .slice none 0 0, .slice none 0 0]) 64 rfl Try.underlying24 info_t rfl (by decide) (by decide) _ ks x _ (fun k => (k ≠ g ∧ k ≠ gt) ∧ some k ≠ (Value.slice A2 n2 c2).ownBlock) (fun k => wx.heap.size ≤ k) rfl (by rw [size_alloc]; rfl) HM.out HOK.out HFR.out HR'.out (Below.refl _ _) HSZ.out HLN.out ?_); intro v1 w1' hr1 hb1 hg1 _; obtain ⟨A9, c9, rfl⟩ := Kd.R_slice hr1; have HMORE := Aside0.mk (kids_more HT'.out HO'.out HR'.out HL'.out H0'.out hr1 hb1 hg1 HG.out HGT.out); have y3 := blk_frozen HMORE.out.1 3; have y4 := HMORE.out.1.cell 3; simp only [List.getElem?_toArray, List.getElem?_cons_zero, List.getElem?_cons_succ] at y4; clear hr1 hb1 hg1))
        go_roundg (N - (i + 1))
        case measure => have := HQ.out; omega
        case rel => exact ⟨i + 1, ks ++ [x], some r', _, rfl, by first | rfl | rw [hw1], by omega, by simp [HLK.out], by have hm := HMORE.out.2; rw [List.length_append] at hm; exact hm, HRS.out⟩
    · have hl1 : decide ((i : Int) < (N : Int)) = false := decide_eq_false (by omega)
      have HEE := Aside0.mk (HE.out.trans (by rw [rest_end HRE.out (by omega)]))
      have HKO := Aside0.mk (kids_out HO.out HR.out (fun _ h => h.2) HL.out H0.out HG.out HGT.out)
      have HTD := Aside0.mk (HT.out.below (below_drew1 (Below.refl _ _)))
      have H0D := Aside0.mk (H0.out.below (below_drew1 (Below.refl _ _)))
      have x0 := HTD.out.cell 0; have x1 := HTD.out.cell 1; have x2 := HTD.out.cell 2; have x3 := HTD.out.cell 3; have y0 := blk_frozen H0D.out 0; have y1 := blk_frozen H0D.out 1; have y2 := blk_frozen H0D.out 2; have y3 := blk_frozen H0D.out 3; have z0 := H0D.out.cell 0; have z1 := H0D.out.cell 1; have z2 := H0D.out.cell 2; have z3 := H0D.out.cell 3
      simp only [List.getElem?_toArray, List.getElem?_cons_zero, List.getElem?_cons_succ] at x0 x1 x2 x3 z0 z1 z2 z3
      have X0 := HT.out.cell 0; have X1 := HT.out.cell 1; have X2 := HT.out.cell 2; have X3 := HT.out.cell 3; have Y0 := blk_frozen H0.out 0; have Y1 := blk_frozen H0.out 1; have Y2 := blk_frozen H0.out 2; have Y3 := blk_frozen H0.out 3; have Z0 := H0.out.cell 0; have Z1 := H0.out.cell 1; have Z2 := H0.out.cell 2; have Z3 := H0.out.cell 3
      simp only [List.getElem?_toArray, List.getElem?_cons_zero, List.getElem?_cons_succ] at X0 X1 X2 X3 Z0 Z1 Z2 Z3
      go_wp2
      cases s with
      | none =>
        go_region_law (go_simp; go_at_call 70; refine (okO w0 _ g none (RdO.below HL.out.1 (below_drew1 (Below.refl _ _)))).mono ?_; rintro e w2 ⟨rfl, rfl⟩)
        all_goals
          go_wp2_with (fail)
          refine bodyPost_ret (results_ct rfl _ _ w.heap.size 26 #[.int .i64 c, .int .u64 nv, .slice A2 n2 c2, .slice A3 n3 c3] (0, 0) _ rfl ((set4 H0.out _ _ _ _).below (below_drew1 (Below.refl _ _))) Try.underlying26 rfl (by kernel_rfl)) rfl ?_
          rw [HEE.out]
          exact ⟨c, nv, A2, n2, c2, A3, n3, c3, none, rfl, left_below (HKO.out _ _ _ _).2.2 (below_drew1 (Below.refl _ _))⟩
      | some r' =>
        go_region_law (go_simp; go_at_call 70; refine (okO w0 _ g (some r') (RdO.below HL.out.1 (below_drew1 (Below.refl _ _)))).mono ?_; rintro e w2 ⟨rfl, rfl⟩)
        all_goals
          go_wp2_with (fail)
          refine bodyPost_ret (results_ct rfl _ _ w.heap.size 26 #[.int .i64 c, .int .u64 nv, .slice A2 n2 c2, .slice A3 n3 c3] (0, 0) _ rfl ((set4 H0.out _ _ _ _).below (below_drew1 (Below.refl _ _))) Try.underlying26 rfl (by kernel_rfl)) rfl ?_
          rw [HEE.out]
          exact ⟨.slice A2 n2 c2, .slice A3 n3 c3, rfl, Kd.R_drew (HKO.out _ _ _ _).1, Kd.R_drew (HKO.out _ _ _ _).2.1, left_below (HKO.out _ _ _ _).2.2 (below_drew1 (Below.refl _ _))⟩
set_option maxHeartbeats 8000000 in
set_option maxRecDepth 100000 in
theorem read_dat (d : Nat) (hd : d + 1 ≤ 8) (ih : ∀ w0 w g st, RdO w0 w g st → Below w0.heap.size w0 w → Calls Try.prog 50 #[.pointer (some ⟨g, 0, none⟩), .int .i64 (d : Int)] w (ReadQ w0 w g (readT d st))) (w0 w : World) (g : Nat) (c : Int) (r : List Int) (h : RdO w0 w g (some (c :: r))) (hB : Below w0.heap.size w0 w) (ht : thereB c = true) (hn : numT c = false) (hdt : datT c = true) :
    Calls Try.prog 50 #[.pointer (some ⟨g, 0, none⟩), .int .i64 ((d + 1 : Nat) : Int)] w (ReadQ w0 w g (readT (d + 1) (some (c :: r)))) := by
  have HE := Aside0.mk (show readT (d + 1) (some (c :: r)) = match readK (readT d) (kidT c) ((textO (some r) 100).2) with
      | some (ks, some s) => some (⟨c, 0, (textO (some r) 100).1, ks⟩, s)
      | _ => none by
    rw [readT, take1]
    simp only [List.getD_cons_zero]
    rw [if_pos ht]
    unfold datR numR
    rw [hn, hdt]
    rfl)
  have hsh := shape_c c
  simp only [shapeV] at hsh
  rw [ht, hn, hdt] at hsh
  have HSH := Aside0.mk hsh
  have HIH := Aside0.mk ih
  have HD8 := Aside0.mk hd
  have hc0 := (show 0 ≤ c ∧ c ≤ 255 from h.u8.1.head).1
  have hc1 := (show 0 ≤ c ∧ c ≤ 255 from h.u8.1.head).2
  have z9 : (((d + 1 : Nat) : Int) == 0) = false := by rw [beq_eq_false_iff_ne]; omega
  have HW1 := Aside0.mk (show wrap64 (((d + 1 : Nat) : Int) - 1) = (d : Int) from dec_i (by omega))
  have HB := Aside0.mk (below_step hB (below_alloc (Below.refl w.heap.size w) (.cells #[.int .i64 0, .int .u64 0, .slice none 0 0, .slice none 0 0] 26)))
  have HS := Aside0.mk (h.below (below_alloc (Below.refl w.heap.size w) (.cells #[.int .i64 0, .int .u64 0, .slice none 0 0, .slice none 0 0] 26)))
  have H0 := Aside0.mk (show Blk (w.alloc (.cells #[.int .i64 0, .int .u64 0, .slice none 0 0, .slice none 0 0] 26)) w.heap.size 26 #[.int .i64 0, .int .u64 0, .slice none 0 0, .slice none 0 0] from blk_new _ _)
  have HG := Aside0.mk (show w0.heap.size ≤ w.heap.size ∧ g < w.heap.size from ⟨hB.size, h.blk.2.1⟩)
  have HKW := Aside0.mk (KeepBut.of_below (below_alloc (Below.refl w.heap.size w) (.cells #[.int .i64 0, .int .u64 0, .slice none 0 0, .slice none 0 0] 26)) g none)
  have hu26 := Try.underlying26
  have hu69 := Try.underlying69
  obtain ⟨D, hD⟩ : ∃ D : Int, ((d + 1 : Nat) : Int) = D := ⟨_, rfl⟩
  rw [hD] at z9 HW1 ⊢
  clear h hB ht hd hsh hD ih hn hdt
  go_enter Try.func50, Try.ntmps50
  go_upto_region 12 with (first
    | (go_at_call 69; refine (takeO_ w0 _ g (some (c :: r)) 1 HS.out HB.out).mono ?_; rintro e w1 ⟨v, rfl, ho, hl⟩; rw [take1] at ho hl; obtain ⟨A5, c5, rfl, hl5, hr5⟩ := Ob.reads ho; obtain ⟨ad5, rfl, hc5⟩ := Rb.at0 hr5; have HL := Aside0.mk (show Tlv.Left w0 w w1 g (some r) from ⟨hl.1, hl.2.1, HKW.out.trans hl.2.2 (.inl rfl)⟩); have H01 := Aside0.mk (H0.out.keep hl.2.2 (by have := HG.out; omega)); clear ho hl hl5 hr5)
    | (go_at_call 70; refine (okO w0 _ g (some r) HL.out.1).mono ?_; rintro e w2 ⟨rfl, rfl⟩)
    | (go_at_call 43; go_must (refine (HSH.out _).mono ?_; rintro e w3 ⟨rfl, hb⟩; have HL3 := Aside0.mk (left_below (left_below HL.out (below_alloc (Below.refl _ _) _)) hb); have H03 := Aside0.mk ((H01.out.alloc (.cells #[.int .i64 c, .int .u64 0, .slice none 0 0, .slice none 0 0] 26)).below hb); have HT3 := Aside0.mk ((show Blk (w1.alloc (.cells #[.int .i64 c, .int .u64 0, .slice none 0 0, .slice none 0 0] 26)) w1.heap.size 26 #[.int .i64 c, .int .u64 0, .slice none 0 0, .slice none 0 0] from blk_new _ _).below hb); have HZ3 := Aside0.mk (show w1.heap.size < w3.heap.size by have := hb.size; simp at this; omega); have HS3 := Aside0.mk (show Blk (w3.alloc (.cells #[.bool true, .bool false, .bool true, .int .i64 (kidT c : Int)] 69)) w3.heap.size 69 #[.bool true, .bool false, .bool true, .int .i64 (kidT c : Int)] from blk_new _ _); have HT4 := Aside0.mk (HT3.out.alloc (.cells #[.bool true, .bool false, .bool true, .int .i64 (kidT c : Int)] 69)); have HL4 := Aside0.mk (left_below HL3.out (below_alloc (Below.refl _ _) (.cells #[.bool true, .bool false, .bool true, .int .i64 (kidT c : Int)] 69))); have H04 := Aside0.mk (H03.out.alloc (.cells #[.bool true, .bool false, .bool true, .int .i64 (kidT c : Int)] 69)); have m0 := HS3.out.cell 0; have m1 := HS3.out.cell 1; have m2 := HS3.out.cell 2; have m3 := HS3.out.cell 3; simp only [List.getElem?_toArray, List.getElem?_cons_zero, List.getElem?_cons_succ] at m0 m1 m2 m3; clear hb))
    | (go_at_call 72; go_must (refine (textO_ w0 _ g (some r) 100 HL4.out.1 HL4.out.2.1 (by decide)).mono ?_; rintro e w5 ⟨v, rfl, ho, hl⟩; obtain ⟨A6, c6, rfl⟩ := Kd.R_slice ho; have HOD := Aside0.mk ho; have HT5 := Aside0.mk (HT4.out.keep hl.2.2 (by have := HG.out; have := HL.out.2.2.1; omega)); have HS5 := Aside0.mk (HS3.out.keep hl.2.2 (by have := HG.out; have := HL.out.2.2.1; have := HZ3.out; omega)); have H05 := Aside0.mk (H04.out.keep hl.2.2 (by have := HG.out; omega)); have HL5 := Aside0.mk (HL4.out.trans hl); have u1 := HT5.out.cell 2; have f1 := blk_frozen HT5.out 2; clear m0 m1 m2 m3; have m0 := HS5.out.cell 0; have m1 := HS5.out.cell 1; have m2 := HS5.out.cell 2; have m3 := HS5.out.cell 3; simp only [List.getElem?_toArray, List.getElem?_cons_zero, List.getElem?_cons_succ] at u1 m0 m1 m2 m3; clear ho hl)))
  obtain ⟨W, hW⟩ : ∃ W, w5.setCell ⟨w1.heap.size, 2, none⟩ (.slice A6 (textO (some r) 100).1.length c6) = W := ⟨_, rfl⟩
  have HKD := Aside0.mk (show Kids w0 w W g w1.heap.size c 0 (textO (some r) 100).1 [] ((textO (some r) 100).2) (w1.heap.size + 1) by rw [← hW]; exact ⟨.slice A6 (textO (some r) 100).1.length c6, .slice none 0 0, ⟨_, _, _, rfl⟩, ⟨_, _, _, rfl⟩, by have h := blk_set HT5.out 2 (.slice A6 (textO (some r) 100).1.length c6); simpa [Blk] using h, Kd.R_lower (Kd.R_set HOD.out HT5.out (by decide) 2 _) (by have := HZ3.out; simp; omega), Kd.R_nil _ _ _ _ _, left_set1 HL5.out HT5.out (by simp [NoU8]) (by simp [NoU8]) (by simp [NoU8]) (by simp [NoU8]) (by have := HG.out; have := HL.out.2.2.1; omega) (by have := HG.out; have := HL.out.2.2.1; omega) HL.out.2.2.1 _, blk_far H05.out (by have := HG.out; have := HL.out.2.2.1; have := HZ3.out; have := H01.out.lt; dsimp only; omega) _⟩)
  have HSW := Aside0.mk (show Blk W w3.heap.size 69 #[.bool true, .bool false, .bool true, .int .i64 (kidT c : Int)] by rw [← hW]; exact blk_far HS5.out (by have := HG.out; have := HL.out.2.2.1; have := HZ3.out; have := H01.out.lt; dsimp only; omega) _)
  rw [hW]
  have HGT := Aside0.mk (show w.heap.size < w1.heap.size by have := HL.out.2.2.1; have := H01.out.lt; omega)
  obtain ⟨gt, hgt⟩ : ∃ k, w1.heap.size = k := ⟨_, rfl⟩
  obtain ⟨gs, hgs⟩ : ∃ k, w3.heap.size = k := ⟨_, rfl⟩
  rw [hgt] at HKD HGT ⊢
  rw [hgs] at HSW ⊢
  obtain ⟨dv, hdv⟩ : ∃ k : List Int, (textO (some r) 100).1 = k := ⟨_, rfl⟩
  obtain ⟨s2, hs2⟩ : ∃ k : Option (List Int), (textO (some r) 100).2 = k := ⟨_, rfl⟩
  obtain ⟨N, hN⟩ : ∃ k, kidT c = k := ⟨_, rfl⟩
  have HNL := Aside0.mk (show N ≤ 2 by rw [← hN]; exact kid_len c)
  simp only [hdv, hs2, hN] at HKD HE HSW ⊢
  have hw9 := HW1.out
  have q3 := HSW.out.cell 3
  simp only [List.getElem?_toArray, List.getElem?_cons_zero, List.getElem?_cons_succ] at q3
  clear hW hgt hgs hN m0 m1 m2 m3 hs2 u1 f1 hdv
  go_wp2
  go_loopg [45] N (fun gf s45 wx => ∃ (i : Nat) (ks : List ST) (s : Option (List Int)) (wy : World), wy = wx ∧ s45 = .int .i64 (i : Int) ∧ i + gf = N ∧ ks.length = i ∧ Kids w0 w wy g gt c 0 dv ks s (gt + 1) ∧ Rest d N s2 i ks s)
  case atStart => exact ⟨0, [], s2, _, rfl, rfl, by omega, rfl, HKD.out, by simp [Rest]; cases readK (readT d) N s2 <;> simp⟩
  case round =>
    obtain ⟨i, ks, s, wx, rfl, rfl, hi, hkl, ⟨v2, v3, ⟨A2, n2, c2, rfl⟩, ⟨A3, n3, c3, rfl⟩, hT, hO, hR, hL, h0⟩, hRe⟩ := hrel
    have HQ := Aside0.mk hi; have HLK := Aside0.mk hkl; have HT := Aside0.mk hT; have HO := Aside0.mk hO; have HR := Aside0.mk hR; have HL := Aside0.mk hL; have H0 := Aside0.mk h0; have HRE := Aside0.mk hRe
    clear hi hkl hT hO hR hL h0 hRe HKD HSW HL3 H03 HT3 HS3 HT4 HL4 H04 HL5 HT5 H05 HS5
    by_cases hlt : i < N
    · have hl1 : decide ((i : Int) < (N : Int)) = true := decide_eq_true (by omega)
      have hw1 : wrap64 ((i : Int) + 1) = ((i + 1 : Nat) : Int) := by have := HNL.out; rw [Aid.w64 (by omega) (by omega)]; omega
      have hc := HIH.out w0 wx g s HL.out.1 HL.out.2.1
      cases hr : readT d s with
      | none =>
        rw [hr] at hc
        have HC := Aside0.mk hc
        have HEE := Aside0.mk (HE.out.trans (by rw [rest_none HRE.out hlt hr]))
        clear hc hr
        go_wp2_with (go_at_call 50; refine HC.out.mono ?_; rintro e w' ⟨y0, y1, B2, m2, e2, B3, m3, e3, s', rfl, hl'⟩; have HL' := Aside0.mk (HL.out.trans hl'); have H0' := Aside0.mk (H0.out.keep hl'.2.2 (by have := HG.out; omega)); have y0_ := fun o => blk_frozen (H0'.out.alloc o) 0; have y1_ := fun o => blk_frozen (H0'.out.alloc o) 1; have y2_ := fun o => blk_frozen (H0'.out.alloc o) 2; have y3_ := fun o => blk_frozen (H0'.out.alloc o) 3; have z0 := fun o => (H0'.out.alloc o).cell 0; have z1 := fun o => (H0'.out.alloc o).cell 1; have z2 := fun o => (H0'.out.alloc o).cell 2; have z3 := fun o => (H0'.out.alloc o).cell 3; simp only [List.getElem?_toArray, List.getElem?_cons_zero, List.getElem?_cons_succ] at z0 z1 z2 z3; clear hl')
        refine bodyPost_ret (results_ct rfl _ _ w.heap.size 26 #[.int .i64 0, .int .u64 0, .slice none 0 0, .slice none 0 0] (0, 0) _ rfl (set4 (H0'.out.alloc _) _ _ _ _) Try.underlying26 rfl (by kernel_rfl)) rfl ?_
        rw [HEE.out]
        exact ⟨0, 0, none, 0, 0, none, 0, 0, _, rfl, left_set4 (left_below HL'.out (below_alloc (Below.refl _ _) _)) (H0'.out.alloc _) (by simp [NoU8]) (by simp [NoU8]) (by simp [NoU8]) (by simp [NoU8]) (by have := HG.out; omega) HG.out.1 (Nat.le_refl _) _ _ _ _⟩
      | some p =>
        obtain ⟨x, r'⟩ := p
        rw [hr] at hc
        have HC := Aside0.mk hc
        have HRS := Aside0.mk (rest_some HRE.out hlt hr)
        clear hc hr
        go_wp2_with (first
          | (go_at_call 50; refine HC.out.mono ?_; rintro e w' ⟨q2, q3_, rfl, ho2, ho3, hl'⟩; obtain ⟨B2, e2, rfl⟩ := Kd.R_slice ho2; obtain ⟨B3, e3, rfl⟩ := Kd.R_slice ho3
             have HL' := Aside0.mk (left_below (HL.out.trans hl') (below_alloc (Below.refl _ _) (.cells #[.int .i64 x.f0, .int .u64 x.f1, .slice B2 x.f2.length e2, .slice B3 x.f3.length e3] 26))); have H0' := Aside0.mk ((H0.out.keep hl'.2.2 (by have := HG.out; omega)).alloc (.cells #[.int .i64 x.f0, .int .u64 x.f1, .slice B2 x.f2.length e2, .slice B3 x.f3.length e3] 26)); have HT' := Aside0.mk ((HT.out.keep hl'.2.2 (by have := HG.out; have := HGT.out; omega)).alloc (.cells #[.int .i64 x.f0, .int .u64 x.f1, .slice B2 x.f2.length e2, .slice B3 x.f3.length e3] 26))
             have HO' := Aside0.mk (Kd.R_alloc (row_keep HL.out.1 HO.out hl'.2.2) (.cells #[.int .i64 x.f0, .int .u64 x.f1, .slice B2 x.f2.length e2, .slice B3 x.f3.length e3] 26)); have HR' := Aside0.mk (Kd.R_alloc (Kd.R_keep HR.out hl'.2.2 (fun _ h => h.1.1)) (.cells #[.int .i64 x.f0, .int .u64 x.f1, .slice B2 x.f2.length e2, .slice B3 x.f3.length e3] 26))
             have HM := Aside0.mk (k26_mkM _ (gt + 1) (fun k => wx.heap.size ≤ k) x (Kd.R_mono (Kd.R_lower (Kd.R_bound (Kd.R_alloc ho2 (.cells #[.int .i64 x.f0, .int .u64 x.f1, .slice B2 x.f2.length e2, .slice B3 x.f3.length e3] 26))) (by have := HT.out.lt; omega)) (fun _ h => h.2.1)) (Kd.R_mono (Kd.R_lower (Kd.R_bound (Kd.R_alloc ho3 (.cells #[.int .i64 x.f0, .int .u64 x.f1, .slice B2 x.f2.length e2, .slice B3 x.f3.length e3] 26))) (by have := HT.out.lt; omega)) (fun _ h => h.2.1)))
             have HOK := Aside0.mk (show ∀ k, wx.heap.size ≤ k → ((k ≠ g ∧ k ≠ gt) ∧ some k ≠ (Value.slice A2 n2 c2).ownBlock) ∧ some k ≠ (Value.slice A3 n3 c3).ownBlock from fun k hk => ⟨⟨⟨by have := HG.out; have := HT.out.lt; have := HGT.out; omega, by have := HT.out.lt; omega⟩, fun e => by have := Kd.R_lt HO.out k e.symm; omega⟩, fun e => by have := Kd.R_lt HR.out k e.symm; omega⟩)
             have HSZ := Aside0.mk (show gt + 1 ≤ (w'.alloc (.cells #[.int .i64 x.f0, .int .u64 x.f1, .slice B2 x.f2.length e2, .slice B3 x.f3.length e3] 26)).heap.size from HT'.out.lt)
             have HFR := Aside0.mk (show ∀ k, (w'.alloc (.cells #[.int .i64 x.f0, .int .u64 x.f1, .slice B2 x.f2.length e2, .slice B3 x.f3.length e3] 26)).heap.size ≤ k → (k ≠ g ∧ k ≠ gt) ∧ some k ≠ (Value.slice A2 n2 c2).ownBlock from fun k hk => ⟨⟨by have := HG.out; have := HGT.out; have := HSZ.out; omega, by have := HSZ.out; omega⟩, fun e => by have := Kd.R_lt HO'.out k e.symm; omega⟩)
             have HLN := Aside0.mk (show (ks.length + 1) * 64 ≤ 140737488355328 by have := HLK.out; have := HQ.out; have := HNL.out; omega)
             have y3_ := HT'.out.cell 3; simp only [List.getElem?_toArray, List.getElem?_cons_zero, List.getElem?_cons_succ] at y3_
             clear ho2 ho3 hl')
          | ((with_reducible refine gate_builtin (b := .append) (xs := #[.tmp 58, .tmp 60]) rfl ?_); at_builtin; go_must (refine Kd.R_append k26 (gt + 1) rfl (.tmp 58) (.tmp 60) 24 26 (.agg #[.int .i64 0, .int .u64 0, .slice none 0 0, .slice none 0 0]) 64 rfl Try.underlying24 info_t rfl (by decide) (by decide) _ ks x _ (fun k => (k ≠ g ∧ k ≠ gt) ∧ some k ≠ (Value.slice A2 n2 c2).ownBlock) (fun k => wx.heap.size ≤ k) rfl (by rw [size_alloc]; rfl) HM.out HOK.out HFR.out HR'.out (Below.refl _ _) HSZ.out HLN.out ?_); intro v1 w1' hr1 hb1 hg1 _; obtain ⟨A9, c9, rfl⟩ := Kd.R_slice hr1; have HMORE := Aside0.mk (kids_more HT'.out HO'.out HR'.out HL'.out H0'.out hr1 hb1 hg1 HG.out HGT.out); have y3 := blk_frozen HMORE.out.1 3; have y4 := HMORE.out.1.cell 3; simp only [List.getElem?_toArray, List.getElem?_cons_zero, List.getElem?_cons_succ] at y4; clear hr1 hb1 hg1))
        go_roundg (N - (i + 1))
        case measure => have := HQ.out; omega
        case rel => exact ⟨i + 1, ks ++ [x], some r', _, rfl, by first | rfl | rw [hw1], by omega, by simp [HLK.out], by have hm := HMORE.out.2; rw [List.length_append] at hm; exact hm, HRS.out⟩
    · have hl1 : decide ((i : Int) < (N : Int)) = false := decide_eq_false (by omega)
      have HEE := Aside0.mk (HE.out.trans (by rw [rest_end HRE.out (by omega)]))
      have HKO := Aside0.mk (kids_out HO.out HR.out (fun _ h => h.2) HL.out H0.out HG.out HGT.out)
      have HTD := Aside0.mk (HT.out.below (below_drew1 (Below.refl _ _)))
      have H0D := Aside0.mk (H0.out.below (below_drew1 (Below.refl _ _)))
      have x0 := HTD.out.cell 0; have x1 := HTD.out.cell 1; have x2 := HTD.out.cell 2; have x3 := HTD.out.cell 3; have y0 := blk_frozen H0D.out 0; have y1 := blk_frozen H0D.out 1; have y2 := blk_frozen H0D.out 2; have y3 := blk_frozen H0D.out 3; have z0 := H0D.out.cell 0; have z1 := H0D.out.cell 1; have z2 := H0D.out.cell 2; have z3 := H0D.out.cell 3
      simp only [List.getElem?_toArray, List.getElem?_cons_zero, List.getElem?_cons_succ] at x0 x1 x2 x3 z0 z1 z2 z3
      have X0 := HT.out.cell 0; have X1 := HT.out.cell 1; have X2 := HT.out.cell 2; have X3 := HT.out.cell 3; have Y0 := blk_frozen H0.out 0; have Y1 := blk_frozen H0.out 1; have Y2 := blk_frozen H0.out 2; have Y3 := blk_frozen H0.out 3; have Z0 := H0.out.cell 0; have Z1 := H0.out.cell 1; have Z2 := H0.out.cell 2; have Z3 := H0.out.cell 3
      simp only [List.getElem?_toArray, List.getElem?_cons_zero, List.getElem?_cons_succ] at X0 X1 X2 X3 Z0 Z1 Z2 Z3
      go_wp2
      cases s with
      | none =>
        go_region_law (go_simp; go_at_call 70; refine (okO w0 _ g none (RdO.below HL.out.1 (below_drew1 (Below.refl _ _)))).mono ?_; rintro e w2 ⟨rfl, rfl⟩)
        all_goals
          go_wp2_with (fail)
          refine bodyPost_ret (results_ct rfl _ _ w.heap.size 26 #[.int .i64 c, .int .u64 0, .slice A2 n2 c2, .slice A3 n3 c3] (0, 0) _ rfl ((set4 H0.out _ _ _ _).below (below_drew1 (Below.refl _ _))) Try.underlying26 rfl (by kernel_rfl)) rfl ?_
          rw [HEE.out]
          exact ⟨c, 0, A2, n2, c2, A3, n3, c3, none, rfl, left_below (HKO.out _ _ _ _).2.2 (below_drew1 (Below.refl _ _))⟩
      | some r' =>
        go_region_law (go_simp; go_at_call 70; refine (okO w0 _ g (some r') (RdO.below HL.out.1 (below_drew1 (Below.refl _ _)))).mono ?_; rintro e w2 ⟨rfl, rfl⟩)
        all_goals
          go_wp2_with (fail)
          refine bodyPost_ret (results_ct rfl _ _ w.heap.size 26 #[.int .i64 c, .int .u64 0, .slice A2 n2 c2, .slice A3 n3 c3] (0, 0) _ rfl ((set4 H0.out _ _ _ _).below (below_drew1 (Below.refl _ _))) Try.underlying26 rfl (by kernel_rfl)) rfl ?_
          rw [HEE.out]
          exact ⟨.slice A2 n2 c2, .slice A3 n3 c3, rfl, Kd.R_drew (HKO.out _ _ _ _).1, Kd.R_drew (HKO.out _ _ _ _).2.1, left_below (HKO.out _ _ _ _).2.2 (below_drew1 (Below.refl _ _))⟩
set_option maxHeartbeats 8000000 in
set_option maxRecDepth 100000 in
theorem read_oth (d : Nat) (hd : d + 1 ≤ 8) (ih : ∀ w0 w g st, RdO w0 w g st → Below w0.heap.size w0 w → Calls Try.prog 50 #[.pointer (some ⟨g, 0, none⟩), .int .i64 (d : Int)] w (ReadQ w0 w g (readT d st))) (w0 w : World) (g : Nat) (c : Int) (r : List Int) (h : RdO w0 w g (some (c :: r))) (hB : Below w0.heap.size w0 w) (ht : thereB c = true) (hn : numT c = false) (hdt : datT c = false) :
    Calls Try.prog 50 #[.pointer (some ⟨g, 0, none⟩), .int .i64 ((d + 1 : Nat) : Int)] w (ReadQ w0 w g (readT (d + 1) (some (c :: r)))) := by
  have HE := Aside0.mk (show readT (d + 1) (some (c :: r)) = match readK (readT d) (kidT c) ((some r)) with
      | some (ks, some s) => some (⟨c, 0, [], ks⟩, s)
      | _ => none by
    rw [readT, take1]
    simp only [List.getD_cons_zero]
    rw [if_pos ht]
    unfold datR numR
    rw [hn, hdt]
    rfl)
  have hsh := shape_c c
  simp only [shapeV] at hsh
  rw [ht, hn, hdt] at hsh
  have HSH := Aside0.mk hsh
  have HIH := Aside0.mk ih
  have HD8 := Aside0.mk hd
  have hc0 := (show 0 ≤ c ∧ c ≤ 255 from h.u8.1.head).1
  have hc1 := (show 0 ≤ c ∧ c ≤ 255 from h.u8.1.head).2
  have z9 : (((d + 1 : Nat) : Int) == 0) = false := by rw [beq_eq_false_iff_ne]; omega
  have HW1 := Aside0.mk (show wrap64 (((d + 1 : Nat) : Int) - 1) = (d : Int) from dec_i (by omega))
  have HB := Aside0.mk (below_step hB (below_alloc (Below.refl w.heap.size w) (.cells #[.int .i64 0, .int .u64 0, .slice none 0 0, .slice none 0 0] 26)))
  have HS := Aside0.mk (h.below (below_alloc (Below.refl w.heap.size w) (.cells #[.int .i64 0, .int .u64 0, .slice none 0 0, .slice none 0 0] 26)))
  have H0 := Aside0.mk (show Blk (w.alloc (.cells #[.int .i64 0, .int .u64 0, .slice none 0 0, .slice none 0 0] 26)) w.heap.size 26 #[.int .i64 0, .int .u64 0, .slice none 0 0, .slice none 0 0] from blk_new _ _)
  have HG := Aside0.mk (show w0.heap.size ≤ w.heap.size ∧ g < w.heap.size from ⟨hB.size, h.blk.2.1⟩)
  have HKW := Aside0.mk (KeepBut.of_below (below_alloc (Below.refl w.heap.size w) (.cells #[.int .i64 0, .int .u64 0, .slice none 0 0, .slice none 0 0] 26)) g none)
  have hu26 := Try.underlying26
  have hu69 := Try.underlying69
  obtain ⟨D, hD⟩ : ∃ D : Int, ((d + 1 : Nat) : Int) = D := ⟨_, rfl⟩
  rw [hD] at z9 HW1 ⊢
  clear h hB ht hd hsh hD ih hn hdt
  go_enter Try.func50, Try.ntmps50
  go_upto_region 12 with (first
    | (go_at_call 69; refine (takeO_ w0 _ g (some (c :: r)) 1 HS.out HB.out).mono ?_; rintro e w1 ⟨v, rfl, ho, hl⟩; rw [take1] at ho hl; obtain ⟨A5, c5, rfl, hl5, hr5⟩ := Ob.reads ho; obtain ⟨ad5, rfl, hc5⟩ := Rb.at0 hr5; have HL := Aside0.mk (show Tlv.Left w0 w w1 g (some r) from ⟨hl.1, hl.2.1, HKW.out.trans hl.2.2 (.inl rfl)⟩); have H01 := Aside0.mk (H0.out.keep hl.2.2 (by have := HG.out; omega)); clear ho hl hl5 hr5)
    | (go_at_call 70; refine (okO w0 _ g (some r) HL.out.1).mono ?_; rintro e w2 ⟨rfl, rfl⟩)
    | (go_at_call 43; go_must (refine (HSH.out _).mono ?_; rintro e w3 ⟨rfl, hb⟩; have HL3 := Aside0.mk (left_below (left_below HL.out (below_alloc (Below.refl _ _) _)) hb); have H03 := Aside0.mk ((H01.out.alloc (.cells #[.int .i64 c, .int .u64 0, .slice none 0 0, .slice none 0 0] 26)).below hb); have HT3 := Aside0.mk ((show Blk (w1.alloc (.cells #[.int .i64 c, .int .u64 0, .slice none 0 0, .slice none 0 0] 26)) w1.heap.size 26 #[.int .i64 c, .int .u64 0, .slice none 0 0, .slice none 0 0] from blk_new _ _).below hb); have HZ3 := Aside0.mk (show w1.heap.size < w3.heap.size by have := hb.size; simp at this; omega); have HS3 := Aside0.mk (show Blk (w3.alloc (.cells #[.bool true, .bool false, .bool false, .int .i64 (kidT c : Int)] 69)) w3.heap.size 69 #[.bool true, .bool false, .bool false, .int .i64 (kidT c : Int)] from blk_new _ _); have HT4 := Aside0.mk (HT3.out.alloc (.cells #[.bool true, .bool false, .bool false, .int .i64 (kidT c : Int)] 69)); have HL4 := Aside0.mk (left_below HL3.out (below_alloc (Below.refl _ _) (.cells #[.bool true, .bool false, .bool false, .int .i64 (kidT c : Int)] 69))); have H04 := Aside0.mk (H03.out.alloc (.cells #[.bool true, .bool false, .bool false, .int .i64 (kidT c : Int)] 69)); have m0 := HS3.out.cell 0; have m1 := HS3.out.cell 1; have m2 := HS3.out.cell 2; have m3 := HS3.out.cell 3; simp only [List.getElem?_toArray, List.getElem?_cons_zero, List.getElem?_cons_succ] at m0 m1 m2 m3; clear hb)))
  obtain ⟨W, hW⟩ : ∃ W, w3.alloc (.cells #[.bool true, .bool false, .bool false, .int .i64 (kidT c : Int)] 69) = W := ⟨_, rfl⟩
  have HKD := Aside0.mk (show Kids w0 w W g w1.heap.size c 0 [] [] ((some r)) (w1.heap.size + 1) by rw [← hW]; exact ⟨.slice none 0 0, .slice none 0 0, ⟨_, _, _, rfl⟩, ⟨_, _, _, rfl⟩, HT4.out, Kd.R_nil _ _ _ _ _, Kd.R_nil _ _ _ _ _, HL4.out, H04.out⟩)
  have HSW := Aside0.mk (show Blk W w3.heap.size 69 #[.bool true, .bool false, .bool false, .int .i64 (kidT c : Int)] by rw [← hW]; exact HS3.out)
  rw [hW]
  have HGT := Aside0.mk (show w.heap.size < w1.heap.size by have := HL.out.2.2.1; have := H01.out.lt; omega)
  obtain ⟨gt, hgt⟩ : ∃ k, w1.heap.size = k := ⟨_, rfl⟩
  obtain ⟨gs, hgs⟩ : ∃ k, w3.heap.size = k := ⟨_, rfl⟩
  rw [hgt] at HKD HGT ⊢
  rw [hgs] at HSW ⊢
  obtain ⟨s2, hs2⟩ : ∃ k : Option (List Int), (some r) = k := ⟨_, rfl⟩
  obtain ⟨N, hN⟩ : ∃ k, kidT c = k := ⟨_, rfl⟩
  have HNL := Aside0.mk (show N ≤ 2 by rw [← hN]; exact kid_len c)
  simp only [hs2, hN] at HKD HE HSW ⊢
  have hw9 := HW1.out
  have q3 := HSW.out.cell 3
  simp only [List.getElem?_toArray, List.getElem?_cons_zero, List.getElem?_cons_succ] at q3
  clear hW hgt hgs hN m0 m1 m2 m3 hs2
  go_wp2
  go_loopg [45] N (fun gf s45 wx => ∃ (i : Nat) (ks : List ST) (s : Option (List Int)) (wy : World), wy = wx ∧ s45 = .int .i64 (i : Int) ∧ i + gf = N ∧ ks.length = i ∧ Kids w0 w wy g gt c 0 [] ks s (gt + 1) ∧ Rest d N s2 i ks s)
  case atStart => exact ⟨0, [], s2, _, rfl, rfl, by omega, rfl, HKD.out, by simp [Rest]; cases readK (readT d) N s2 <;> simp⟩
  case round =>
    obtain ⟨i, ks, s, wx, rfl, rfl, hi, hkl, ⟨v2, v3, ⟨A2, n2, c2, rfl⟩, ⟨A3, n3, c3, rfl⟩, hT, hO, hR, hL, h0⟩, hRe⟩ := hrel
    have HQ := Aside0.mk hi; have HLK := Aside0.mk hkl; have HT := Aside0.mk hT; have HO := Aside0.mk hO; have HR := Aside0.mk hR; have HL := Aside0.mk hL; have H0 := Aside0.mk h0; have HRE := Aside0.mk hRe
    clear hi hkl hT hO hR hL h0 hRe HKD HSW HL3 H03 HT3 HS3 HT4 HL4 H04 
    by_cases hlt : i < N
    · have hl1 : decide ((i : Int) < (N : Int)) = true := decide_eq_true (by omega)
      have hw1 : wrap64 ((i : Int) + 1) = ((i + 1 : Nat) : Int) := by have := HNL.out; rw [Aid.w64 (by omega) (by omega)]; omega
      have hc := HIH.out w0 wx g s HL.out.1 HL.out.2.1
      cases hr : readT d s with
      | none =>
        rw [hr] at hc
        have HC := Aside0.mk hc
        have HEE := Aside0.mk (HE.out.trans (by rw [rest_none HRE.out hlt hr]))
        clear hc hr
        go_wp2_with (go_at_call 50; refine HC.out.mono ?_; rintro e w' ⟨y0, y1, B2, m2, e2, B3, m3, e3, s', rfl, hl'⟩; have HL' := Aside0.mk (HL.out.trans hl'); have H0' := Aside0.mk (H0.out.keep hl'.2.2 (by have := HG.out; omega)); have y0_ := fun o => blk_frozen (H0'.out.alloc o) 0; have y1_ := fun o => blk_frozen (H0'.out.alloc o) 1; have y2_ := fun o => blk_frozen (H0'.out.alloc o) 2; have y3_ := fun o => blk_frozen (H0'.out.alloc o) 3; have z0 := fun o => (H0'.out.alloc o).cell 0; have z1 := fun o => (H0'.out.alloc o).cell 1; have z2 := fun o => (H0'.out.alloc o).cell 2; have z3 := fun o => (H0'.out.alloc o).cell 3; simp only [List.getElem?_toArray, List.getElem?_cons_zero, List.getElem?_cons_succ] at z0 z1 z2 z3; clear hl')
        refine bodyPost_ret (results_ct rfl _ _ w.heap.size 26 #[.int .i64 0, .int .u64 0, .slice none 0 0, .slice none 0 0] (0, 0) _ rfl (set4 (H0'.out.alloc _) _ _ _ _) Try.underlying26 rfl (by kernel_rfl)) rfl ?_
        rw [HEE.out]
        exact ⟨0, 0, none, 0, 0, none, 0, 0, _, rfl, left_set4 (left_below HL'.out (below_alloc (Below.refl _ _) _)) (H0'.out.alloc _) (by simp [NoU8]) (by simp [NoU8]) (by simp [NoU8]) (by simp [NoU8]) (by have := HG.out; omega) HG.out.1 (Nat.le_refl _) _ _ _ _⟩
      | some p =>
        obtain ⟨x, r'⟩ := p
        rw [hr] at hc
        have HC := Aside0.mk hc
        have HRS := Aside0.mk (rest_some HRE.out hlt hr)
        clear hc hr
        go_wp2_with (first
          | (go_at_call 50; refine HC.out.mono ?_; rintro e w' ⟨q2, q3_, rfl, ho2, ho3, hl'⟩; obtain ⟨B2, e2, rfl⟩ := Kd.R_slice ho2; obtain ⟨B3, e3, rfl⟩ := Kd.R_slice ho3
             have HL' := Aside0.mk (left_below (HL.out.trans hl') (below_alloc (Below.refl _ _) (.cells #[.int .i64 x.f0, .int .u64 x.f1, .slice B2 x.f2.length e2, .slice B3 x.f3.length e3] 26))); have H0' := Aside0.mk ((H0.out.keep hl'.2.2 (by have := HG.out; omega)).alloc (.cells #[.int .i64 x.f0, .int .u64 x.f1, .slice B2 x.f2.length e2, .slice B3 x.f3.length e3] 26)); have HT' := Aside0.mk ((HT.out.keep hl'.2.2 (by have := HG.out; have := HGT.out; omega)).alloc (.cells #[.int .i64 x.f0, .int .u64 x.f1, .slice B2 x.f2.length e2, .slice B3 x.f3.length e3] 26))
             have HO' := Aside0.mk (Kd.R_alloc (row_keep HL.out.1 HO.out hl'.2.2) (.cells #[.int .i64 x.f0, .int .u64 x.f1, .slice B2 x.f2.length e2, .slice B3 x.f3.length e3] 26)); have HR' := Aside0.mk (Kd.R_alloc (Kd.R_keep HR.out hl'.2.2 (fun _ h => h.1.1)) (.cells #[.int .i64 x.f0, .int .u64 x.f1, .slice B2 x.f2.length e2, .slice B3 x.f3.length e3] 26))
             have HM := Aside0.mk (k26_mkM _ (gt + 1) (fun k => wx.heap.size ≤ k) x (Kd.R_mono (Kd.R_lower (Kd.R_bound (Kd.R_alloc ho2 (.cells #[.int .i64 x.f0, .int .u64 x.f1, .slice B2 x.f2.length e2, .slice B3 x.f3.length e3] 26))) (by have := HT.out.lt; omega)) (fun _ h => h.2.1)) (Kd.R_mono (Kd.R_lower (Kd.R_bound (Kd.R_alloc ho3 (.cells #[.int .i64 x.f0, .int .u64 x.f1, .slice B2 x.f2.length e2, .slice B3 x.f3.length e3] 26))) (by have := HT.out.lt; omega)) (fun _ h => h.2.1)))
             have HOK := Aside0.mk (show ∀ k, wx.heap.size ≤ k → ((k ≠ g ∧ k ≠ gt) ∧ some k ≠ (Value.slice A2 n2 c2).ownBlock) ∧ some k ≠ (Value.slice A3 n3 c3).ownBlock from fun k hk => ⟨⟨⟨by have := HG.out; have := HT.out.lt; have := HGT.out; omega, by have := HT.out.lt; omega⟩, fun e => by have := Kd.R_lt HO.out k e.symm; omega⟩, fun e => by have := Kd.R_lt HR.out k e.symm; omega⟩)
             have HSZ := Aside0.mk (show gt + 1 ≤ (w'.alloc (.cells #[.int .i64 x.f0, .int .u64 x.f1, .slice B2 x.f2.length e2, .slice B3 x.f3.length e3] 26)).heap.size from HT'.out.lt)
             have HFR := Aside0.mk (show ∀ k, (w'.alloc (.cells #[.int .i64 x.f0, .int .u64 x.f1, .slice B2 x.f2.length e2, .slice B3 x.f3.length e3] 26)).heap.size ≤ k → (k ≠ g ∧ k ≠ gt) ∧ some k ≠ (Value.slice A2 n2 c2).ownBlock from fun k hk => ⟨⟨by have := HG.out; have := HGT.out; have := HSZ.out; omega, by have := HSZ.out; omega⟩, fun e => by have := Kd.R_lt HO'.out k e.symm; omega⟩)
             have HLN := Aside0.mk (show (ks.length + 1) * 64 ≤ 140737488355328 by have := HLK.out; have := HQ.out; have := HNL.out; omega)
             have y3_ := HT'.out.cell 3; simp only [List.getElem?_toArray, List.getElem?_cons_zero, List.getElem?_cons_succ] at y3_
             clear ho2 ho3 hl')
          | ((with_reducible refine gate_builtin (b := .append) (xs := #[.tmp 58, .tmp 60]) rfl ?_); at_builtin; go_must (refine Kd.R_append k26 (gt + 1) rfl (.tmp 58) (.tmp 60) 24 26 (.agg #[.int .i64 0, .int .u64 0, .slice none 0 0, .slice none 0 0]) 64 rfl Try.underlying24 info_t rfl (by decide) (by decide) _ ks x _ (fun k => (k ≠ g ∧ k ≠ gt) ∧ some k ≠ (Value.slice A2 n2 c2).ownBlock) (fun k => wx.heap.size ≤ k) rfl (by rw [size_alloc]; rfl) HM.out HOK.out HFR.out HR'.out (Below.refl _ _) HSZ.out HLN.out ?_); intro v1 w1' hr1 hb1 hg1 _; obtain ⟨A9, c9, rfl⟩ := Kd.R_slice hr1; have HMORE := Aside0.mk (kids_more HT'.out HO'.out HR'.out HL'.out H0'.out hr1 hb1 hg1 HG.out HGT.out); have y3 := blk_frozen HMORE.out.1 3; have y4 := HMORE.out.1.cell 3; simp only [List.getElem?_toArray, List.getElem?_cons_zero, List.getElem?_cons_succ] at y4; clear hr1 hb1 hg1))
        go_roundg (N - (i + 1))
        case measure => have := HQ.out; omega
        case rel => exact ⟨i + 1, ks ++ [x], some r', _, rfl, by first | rfl | rw [hw1], by omega, by simp [HLK.out], by have hm := HMORE.out.2; rw [List.length_append] at hm; exact hm, HRS.out⟩
    · have hl1 : decide ((i : Int) < (N : Int)) = false := decide_eq_false (by omega)
      have HEE := Aside0.mk (HE.out.trans (by rw [rest_end HRE.out (by omega)]))
      have HKO := Aside0.mk (kids_out HO.out HR.out (fun _ h => h.2) HL.out H0.out HG.out HGT.out)
      have HTD := Aside0.mk (HT.out.below (below_drew1 (Below.refl _ _)))
      have H0D := Aside0.mk (H0.out.below (below_drew1 (Below.refl _ _)))
      have x0 := HTD.out.cell 0; have x1 := HTD.out.cell 1; have x2 := HTD.out.cell 2; have x3 := HTD.out.cell 3; have y0 := blk_frozen H0D.out 0; have y1 := blk_frozen H0D.out 1; have y2 := blk_frozen H0D.out 2; have y3 := blk_frozen H0D.out 3; have z0 := H0D.out.cell 0; have z1 := H0D.out.cell 1; have z2 := H0D.out.cell 2; have z3 := H0D.out.cell 3
      simp only [List.getElem?_toArray, List.getElem?_cons_zero, List.getElem?_cons_succ] at x0 x1 x2 x3 z0 z1 z2 z3
      have X0 := HT.out.cell 0; have X1 := HT.out.cell 1; have X2 := HT.out.cell 2; have X3 := HT.out.cell 3; have Y0 := blk_frozen H0.out 0; have Y1 := blk_frozen H0.out 1; have Y2 := blk_frozen H0.out 2; have Y3 := blk_frozen H0.out 3; have Z0 := H0.out.cell 0; have Z1 := H0.out.cell 1; have Z2 := H0.out.cell 2; have Z3 := H0.out.cell 3
      simp only [List.getElem?_toArray, List.getElem?_cons_zero, List.getElem?_cons_succ] at X0 X1 X2 X3 Z0 Z1 Z2 Z3
      go_wp2
      cases s with
      | none =>
        go_region_law (go_simp; go_at_call 70; refine (okO w0 _ g none (RdO.below HL.out.1 (below_drew1 (Below.refl _ _)))).mono ?_; rintro e w2 ⟨rfl, rfl⟩)
        all_goals
          go_wp2_with (fail)
          refine bodyPost_ret (results_ct rfl _ _ w.heap.size 26 #[.int .i64 c, .int .u64 0, .slice A2 n2 c2, .slice A3 n3 c3] (0, 0) _ rfl ((set4 H0.out _ _ _ _).below (below_drew1 (Below.refl _ _))) Try.underlying26 rfl (by kernel_rfl)) rfl ?_
          rw [HEE.out]
          exact ⟨c, 0, A2, n2, c2, A3, n3, c3, none, rfl, left_below (HKO.out _ _ _ _).2.2 (below_drew1 (Below.refl _ _))⟩
      | some r' =>
        go_region_law (go_simp; go_at_call 70; refine (okO w0 _ g (some r') (RdO.below HL.out.1 (below_drew1 (Below.refl _ _)))).mono ?_; rintro e w2 ⟨rfl, rfl⟩)
        all_goals
          go_wp2_with (fail)
          refine bodyPost_ret (results_ct rfl _ _ w.heap.size 26 #[.int .i64 c, .int .u64 0, .slice A2 n2 c2, .slice A3 n3 c3] (0, 0) _ rfl ((set4 H0.out _ _ _ _).below (below_drew1 (Below.refl _ _))) Try.underlying26 rfl (by kernel_rfl)) rfl ?_
          rw [HEE.out]
          exact ⟨.slice A2 n2 c2, .slice A3 n3 c3, rfl, Kd.R_drew (HKO.out _ _ _ _).1, Kd.R_drew (HKO.out _ _ _ _).2.1, left_below (HKO.out _ _ _ _).2.2 (below_drew1 (Below.refl _ _))⟩
set_option maxHeartbeats 1000000 in
theorem read_c : ∀ (d : Nat), d ≤ 8 → ∀ (w0 w : World) (g : Nat) (st : Option (List Int)), RdO w0 w g st → Below w0.heap.size w0 w →
    Calls Try.prog 50 #[.pointer (some ⟨g, 0, none⟩), .int .i64 (d : Int)] w (ReadQ w0 w g (readT d st)) := by
  intro d
  induction d with
  | zero =>
    intro hd w0 w g st h hB
    match st, h with
    | none, h => exact read_fail 0 hd w0 w g none h hB (by simp [takeO])
    | some [], h => exact read_fail 0 hd w0 w g (some []) h hB (by simp [takeO])
    | some (c :: r), h => exact read_zero w0 w g c r h hB
  | succ d ih =>
    intro hd w0 w g st h hB
    match st, h with
    | none, h => exact read_fail (d + 1) hd w0 w g none h hB (by simp [takeO])
    | some [], h => exact read_fail (d + 1) hd w0 w g (some []) h hB (by simp [takeO])
    | some (c :: r), h =>
      have ih' := ih (by omega)
      cases ht : thereB c with
      | false => exact read_no d hd w0 w g c r h hB ht
      | true =>
        cases hn : numT c with
        | true =>
          cases hdt : datT c with
          | true => simp [numT, datT] at hn hdt; omega
          | false => exact read_num d hd ih' w0 w g c r h hB ht hn hdt
        | false =>
          cases hdt : datT c with
          | true => exact read_dat d hd ih' w0 w g c r h hB ht hn hdt
          | false => exact read_oth d hd ih' w0 w g c r h hB ht hn hdt
end Go.Proofs.Ytgohmganimamcaa.Term
