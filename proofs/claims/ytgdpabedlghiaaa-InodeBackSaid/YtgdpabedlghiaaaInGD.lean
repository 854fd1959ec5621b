/- Own and printed texts, laid together. -/
import Derived.Test.YtgdpabedlghiaaaInGA
import Derived.Test.YtgdpabedlghiaaaInGC
import Derived.Test.YtgdpabedlghiaaaInGB
import Derived.Deep.RegionLaw
import Derived.WalkSpells
import Derived.Deep.DeepCutAuto
-- printed for this claim by a program (pall.sh)
namespace Go.Proofs.Ytgdpabedlghiaaa.PZ
open Go.RowKit Go.Proofs.YtgdpabedlghiaaaW.PrintWords Go.Proofs.YtgdpabedlghiaaaW.PrintLast Go.Proofs.YtgdpabedlghiaaaW.PrintMore
attribute [local go_sem] max2_int min2_int max_two min_two max_three min_three max_four min_four   -- for this text's walks alone
set_option linter.unusedVariables false
set_option linter.unusedSimpArgs false

/-! ### hanaperref12_May: function 58 -/
def hanaperref12_May.j0 : Nat → Int → Bool → ByteArray → Int → List Int → Option (Bool)
  | 0, _, _, _, _, _ => none
  | k + 1, x1, x28, x102000, x102001, x102002 => if x28 = true then (some false) else ((hanaperref11_Bits.f k x102002 x1).bind fun bt103 => (if bt103.2 = true then ((hanaperref11_Pages.f x102001).bind fun t107 => (some ((x102002.length : Int) == t107))) else (some false)))
def hanaperref12_May.f (k : Nat) (a0_0 : ByteArray) (a0_1 : Int) (l0_2 : List Int) (a1 : Int) : Option (Bool) := (hanaperref12_Name.f k a0_0).bind fun t102 => (if t102 = true then (if a1 < 0 then (hanaperref12_May.j0 k a1 true a0_0 a0_1 l0_2) else (if a1 > 1024 then (hanaperref12_May.j0 k a1 true a0_0 a0_1 l0_2) else (if a0_1 < 0 then (hanaperref12_May.j0 k a1 true a0_0 a0_1 l0_2) else (hanaperref12_May.j0 k a1 (decide (a0_1 > 24576)) a0_0 a0_1 l0_2)))) else (hanaperref12_May.j0 k a1 true a0_0 a0_1 l0_2))
theorem hanaperref12_May.mono_l : ∀ k, (∀ y0 y1 y2 y3 y4, LeO (hanaperref12_May.j0 k y0 y1 y2 y3 y4) (hanaperref12_May.j0 (k + 1) y0 y1 y2 y3 y4))
  | 0 => fun _ _ _ _ _ r h => by simp [hanaperref12_May.j0] at h
  | k + 1 => by
    have ih0 := hanaperref12_May.mono_l k
    · intro y0 y1 y2 y3 y4
      unfold hanaperref12_May.j0
      repeat' first
      | (with_reducible exact ih0 _ _ _ _ _)
      | (with_reducible exact hanaperref11_Bits.mono _ _ _)
      | (with_reducible exact hanaperref12_Name.mono _ _)
      | (with_reducible exact LeO.refl _)
      | (with_reducible exact LeO.none _)
      | (with_reducible refine LeO.ite ?_ ?_)
      | (with_reducible refine LeO.bind ?_ (fun _ => ?_))
      | exact ih0 _ _ _ _ _
      | exact hanaperref11_Bits.mono _ _ _
      | exact hanaperref12_Name.mono _ _
      | exact LeO.none _
      | refine LeO.ite ?_ ?_
      | refine LeO.bind ?_ (fun _ => ?_)
theorem hanaperref12_May.mono : ∀ a0 a1 a2 a3 k, LeO (hanaperref12_May.f k a0 a1 a2 a3) (hanaperref12_May.f (k + 1) a0 a1 a2 a3) := by
  intro a0 a1 a2 a3 k
  have ih0 := hanaperref12_May.mono_l k
  unfold hanaperref12_May.f
  repeat' first
      | (with_reducible exact ih0 _ _ _ _ _)
      | (with_reducible exact hanaperref11_Bits.mono _ _ _)
      | (with_reducible exact hanaperref12_Name.mono _ _)
      | (with_reducible exact LeO.refl _)
      | (with_reducible exact LeO.none _)
      | (with_reducible refine LeO.ite ?_ ?_)
      | (with_reducible refine LeO.bind ?_ (fun _ => ?_))
      | exact ih0 _ _ _ _ _
      | exact hanaperref11_Bits.mono _ _ _
      | exact hanaperref12_Name.mono _ _
      | exact LeO.none _
      | refine LeO.ite ?_ ?_
      | refine LeO.bind ?_ (fun _ => ?_)
set_option maxHeartbeats 8000000 in
set_option maxRecDepth 100000 in
theorem hanaperref12_May.calls (k : Nat) (a0_0 : ByteArray) (a0_1 : Int) (A0_2 : Option Addr) (c0_2 : Nat) (l0_2 : List Int) (a1 : Int) (r : Bool) (w : World) (hr0_2 : Kd.C (Kd.int .i64) w A0_2 l0_2.length l0_2) (hc0_2 : l0_2.length ≤ c0_2) (h : hanaperref12_May.f k a0_0 a0_1 l0_2 a1 = some r) :
    Calls Try.prog 58 #[.agg #[.string a0_0, .int .i64 a0_1, .slice A0_2 l0_2.length c0_2], .int .i64 a1] w fun e w' => e = .returned (.bool r) ∧ Below w.heap.size w w' := by
  have hu24 := Try.underlying24
  have HR0_2 := Aside0.mk hr0_2
  have HC0_2 := Aside0.mk hc0_2
  clear hr0_2 hc0_2
  have HB := Aside0.mk (Below.refl w.heap.size w)
  have H : ((hanaperref12_Name.f k a0_0).bind fun t102 => (if t102 = true then (if a1 < 0 then (hanaperref12_May.j0 k a1 true a0_0 a0_1 l0_2) else (if a1 > 1024 then (hanaperref12_May.j0 k a1 true a0_0 a0_1 l0_2) else (if a0_1 < 0 then (hanaperref12_May.j0 k a1 true a0_0 a0_1 l0_2) else (hanaperref12_May.j0 k a1 (decide (a0_1 > 24576)) a0_0 a0_1 l0_2)))) else (hanaperref12_May.j0 k a1 true a0_0 a0_1 l0_2))) = some r := h
  clear h
  have HC3 := Aside0.mk H
  clear H
  go_enter Try.func58, Try.ntmps58
  go_upto_region 1 with (first | ((with_reducible refine gate_dst (N := 2) rfl ?_); (try (refine gate_guard (by rfl) ?_; dsimp only)); refine box_event ?hg (N := 2) ?hd (cs := #[.string a0_0, .int .i64 a0_1, .slice A0_2 l0_2.length c0_2]) (t := 24) ?hr ?_; (case hd => rfl); (case hg => rfl); (case hr => first | (go_simp; done) | (go_simp; rfl)); intro gb101 hg w4 hbox hb; have n0_ := Aside0.mk (below_step (by repeat (first | (with_reducible first | exact HB.out | apply below_alloc | apply pw_below_drewN | apply below_drew1) | exact HB.out)) hb); have n1_ := Aside0.mk (hbox); have n2_ := Aside0.mk ((by rw [hg]; exact (below_size (by repeat (first | (with_reducible first | exact HB.out | apply below_alloc | apply pw_below_drewN | apply below_drew1) | exact HB.out))) : w.heap.size ≤ gb101)); have n3_ := Aside0.mk ((by rw [hg]; exact (below_size (by repeat (first | (with_reducible first | exact HB.out | apply below_alloc | apply pw_below_drewN | apply below_drew1) | exact HB.out))) : w.heap.size ≤ gb101)); clear HB; have HB := n0_; have BK101 := n1_; have GW101 := n2_; have GE101 := n3_; clear n0_ n1_ n2_ n3_; clear hb hbox hg))
  repeat (go_quiet (first | ((with_reducible refine gate_dst (N := 2) rfl ?_); (try (refine gate_guard (by rfl) ?_; dsimp only)); refine box_event ?hg (N := 2) ?hd (cs := #[.string a0_0, .int .i64 a0_1, .slice A0_2 l0_2.length c0_2]) (t := 24) ?hr ?_; (case hd => rfl); (case hg => rfl); (case hr => first | (go_simp; done) | (go_simp; rfl)); intro gb101 hg w4 hbox hb; have n0_ := Aside0.mk (below_step (by repeat (first | (with_reducible first | exact HB.out | apply below_alloc | apply pw_below_drewN | apply below_drew1) | exact HB.out)) hb); have n1_ := Aside0.mk (hbox); have n2_ := Aside0.mk ((by rw [hg]; exact (below_size (by repeat (first | (with_reducible first | exact HB.out | apply below_alloc | apply pw_below_drewN | apply below_drew1) | exact HB.out))) : w.heap.size ≤ gb101)); have n3_ := Aside0.mk ((by rw [hg]; exact (below_size (by repeat (first | (with_reducible first | exact HB.out | apply below_alloc | apply pw_below_drewN | apply below_drew1) | exact HB.out))) : w.heap.size ≤ gb101)); clear HB; have HB := n0_; have BK101 := n1_; have GW101 := n2_; have GE101 := n3_; clear n0_ n1_ n2_ n3_; clear hb hbox hg)); go_upto_region 1 with (first | ((with_reducible refine gate_dst (N := 2) rfl ?_); (try (refine gate_guard (by rfl) ?_; dsimp only)); refine box_event ?hg (N := 2) ?hd (cs := #[.string a0_0, .int .i64 a0_1, .slice A0_2 l0_2.length c0_2]) (t := 24) ?hr ?_; (case hd => rfl); (case hg => rfl); (case hr => first | (go_simp; done) | (go_simp; rfl)); intro gb101 hg w4 hbox hb; have n0_ := Aside0.mk (below_step (by repeat (first | (with_reducible first | exact HB.out | apply below_alloc | apply pw_below_drewN | apply below_drew1) | exact HB.out)) hb); have n1_ := Aside0.mk (hbox); have n2_ := Aside0.mk ((by rw [hg]; exact (below_size (by repeat (first | (with_reducible first | exact HB.out | apply below_alloc | apply pw_below_drewN | apply below_drew1) | exact HB.out))) : w.heap.size ≤ gb101)); have n3_ := Aside0.mk ((by rw [hg]; exact (below_size (by repeat (first | (with_reducible first | exact HB.out | apply below_alloc | apply pw_below_drewN | apply below_drew1) | exact HB.out))) : w.heap.size ≤ gb101)); clear HB; have HB := n0_; have BK101 := n1_; have GW101 := n2_; have GE101 := n3_; clear n0_ n1_ n2_ n3_; clear hb hbox hg)))
  (try simp only [Act.put, List.setIfInBounds_toArray, List.set_cons_zero, List.set_cons_succ])
  go_cut [28] (fun v28 wc => ∃ (kq : Nat) (x28_2 : Bool), v28 = .bool x28_2 ∧ Aside0 (hanaperref12_May.j0 kq a1 x28_2 a0_0 a0_1 l0_2 = some r) ∧ Aside0 (kq ≤ k) ∧ Aside0 (wc.heap[gb101]? = some (.cells #[.string a0_0, .int .i64 a0_1, (.slice A0_2 l0_2.length c0_2)] 24 (0, 0))) ∧ Aside0 (Below w.heap.size w wc))
  case first =>
    have H := HC3.out
    clear HC3
    replace H := Option.bind_eq_some_iff.mp H
    obtain ⟨t102, A50, H⟩ := H
    replace H : (if t102 = true then (if a1 < 0 then (hanaperref12_May.j0 k a1 true a0_0 a0_1 l0_2) else (if a1 > 1024 then (hanaperref12_May.j0 k a1 true a0_0 a0_1 l0_2) else (if a0_1 < 0 then (hanaperref12_May.j0 k a1 true a0_0 a0_1 l0_2) else (hanaperref12_May.j0 k a1 (decide (a0_1 > 24576)) a0_0 a0_1 l0_2)))) else (hanaperref12_May.j0 k a1 true a0_0 a0_1 l0_2)) = some r := H
    have A5 := Aside0.mk A50
    clear A50
    by_cases c6 : t102 = true
    · subst c6
      have H1 : (if a1 < 0 then (hanaperref12_May.j0 k a1 true a0_0 a0_1 l0_2) else (if a1 > 1024 then (hanaperref12_May.j0 k a1 true a0_0 a0_1 l0_2) else (if a0_1 < 0 then (hanaperref12_May.j0 k a1 true a0_0 a0_1 l0_2) else (hanaperref12_May.j0 k a1 (decide (a0_1 > 24576)) a0_0 a0_1 l0_2)))) = some r := by rw [if_pos rfl] at H; exact H
      clear H
      have H := H1
      clear H1
      by_cases c7 : a1 < 0
      · rw [if_pos c7] at H
        have c7b0 : decide (a1 < 0) = true := decide_eq_true c7
        clear c7
        (first | rw [c7b0] | (simp only [i64_w, i32_w]; rw [c7b0]) | skip)
        have H' := Aside0.mk H
        clear H
        have hcz8_0 : w4.cell? ⟨gb101, 0, none⟩ = some (.string a0_0) := (blk_cell BK101.out 0).trans rfl
        have hcz8_1 : w4.cell? ⟨gb101, 1, none⟩ = some (.int .i64 a0_1) := (blk_cell BK101.out 1).trans rfl
        have hcz8_2 : w4.cell? ⟨gb101, 2, none⟩ = some (.slice A0_2 l0_2.length c0_2) := (blk_cell BK101.out 2).trans rfl
        have hfz8_0 := blk_frozen BK101.out 0
        have hfz8_1 := blk_frozen BK101.out 1
        have hfz8_2 := blk_frozen BK101.out 2
        go_wp2_with (first | (go_at_call 22; (with_reducible refine (hanaperref12_Name.calls k a0_0 true _ A5.out).mono ?_); rintro e w' ⟨rfl, ⟨nd, rfl⟩⟩; (try first | exact ⟨rfl, _, World.drewN_drewN _ _ _⟩ | exact ⟨rfl, _, Eq.trans (World.drewN_drewN _ _ _) (congrArg (World.drewN _) (Nat.add_assoc _ _ _))⟩)))
        repeat (go_quiet (first | (go_at_call 22; (with_reducible refine (hanaperref12_Name.calls k a0_0 true _ A5.out).mono ?_); rintro e w' ⟨rfl, ⟨nd, rfl⟩⟩; (try first | exact ⟨rfl, _, World.drewN_drewN _ _ _⟩ | exact ⟨rfl, _, Eq.trans (World.drewN_drewN _ _ _) (congrArg (World.drewN _) (Nat.add_assoc _ _ _))⟩))); try go_wp2_with (first | (go_at_call 22; (with_reducible refine (hanaperref12_Name.calls k a0_0 true _ A5.out).mono ?_); rintro e w' ⟨rfl, ⟨nd, rfl⟩⟩; (try first | exact ⟨rfl, _, World.drewN_drewN _ _ _⟩ | exact ⟨rfl, _, Eq.trans (World.drewN_drewN _ _ _) (congrArg (World.drewN _) (Nat.add_assoc _ _ _))⟩))))
        go_meet
        case rel => exact ⟨_, (true), (by first | rfl | (simp; done) | (simp [*]; done)), H', ⟨by first | omega | exact Nat.le_refl _⟩, ⟨by (with_reducible repeat (first | refine blk_drewN ?_ _ | refine blk_drew ?_ | refine blk_alloc ?_ _)); exact BK101.out⟩, ⟨by repeat (first | (with_reducible first | exact HB.out | apply below_alloc | apply pw_below_drewN | apply below_drew1 | refine below_set ?_ GE101.out) | exact HB.out)⟩⟩
      · rw [if_neg c7] at H
        have c7b0 : decide (a1 < 0) = false := decide_eq_false c7
        clear c7
        (first | rw [c7b0] | (simp only [i64_w, i32_w]; rw [c7b0]) | skip)
        by_cases c9 : a1 > 1024
        · rw [if_pos c9] at H
          have c9b0 : decide (1024 < a1) = true := decide_eq_true c9
          clear c9
          have H' := Aside0.mk H
          clear H
          have hcz10_0 : w4.cell? ⟨gb101, 0, none⟩ = some (.string a0_0) := (blk_cell BK101.out 0).trans rfl
          have hcz10_1 : w4.cell? ⟨gb101, 1, none⟩ = some (.int .i64 a0_1) := (blk_cell BK101.out 1).trans rfl
          have hcz10_2 : w4.cell? ⟨gb101, 2, none⟩ = some (.slice A0_2 l0_2.length c0_2) := (blk_cell BK101.out 2).trans rfl
          have hfz10_0 := blk_frozen BK101.out 0
          have hfz10_1 := blk_frozen BK101.out 1
          have hfz10_2 := blk_frozen BK101.out 2
          go_wp2_with (first | (go_at_call 22; (with_reducible refine (hanaperref12_Name.calls k a0_0 true _ A5.out).mono ?_); rintro e w' ⟨rfl, ⟨nd, rfl⟩⟩; (try first | exact ⟨rfl, _, World.drewN_drewN _ _ _⟩ | exact ⟨rfl, _, Eq.trans (World.drewN_drewN _ _ _) (congrArg (World.drewN _) (Nat.add_assoc _ _ _))⟩)))
          repeat (go_quiet (first | (go_at_call 22; (with_reducible refine (hanaperref12_Name.calls k a0_0 true _ A5.out).mono ?_); rintro e w' ⟨rfl, ⟨nd, rfl⟩⟩; (try first | exact ⟨rfl, _, World.drewN_drewN _ _ _⟩ | exact ⟨rfl, _, Eq.trans (World.drewN_drewN _ _ _) (congrArg (World.drewN _) (Nat.add_assoc _ _ _))⟩))); try go_wp2_with (first | (go_at_call 22; (with_reducible refine (hanaperref12_Name.calls k a0_0 true _ A5.out).mono ?_); rintro e w' ⟨rfl, ⟨nd, rfl⟩⟩; (try first | exact ⟨rfl, _, World.drewN_drewN _ _ _⟩ | exact ⟨rfl, _, Eq.trans (World.drewN_drewN _ _ _) (congrArg (World.drewN _) (Nat.add_assoc _ _ _))⟩))))
          go_meet
          case rel => exact ⟨_, (true), (by first | rfl | (simp; done) | (simp [*]; done)), H', ⟨by first | omega | exact Nat.le_refl _⟩, ⟨by (with_reducible repeat (first | refine blk_drewN ?_ _ | refine blk_drew ?_ | refine blk_alloc ?_ _)); exact BK101.out⟩, ⟨by repeat (first | (with_reducible first | exact HB.out | apply below_alloc | apply pw_below_drewN | apply below_drew1 | refine below_set ?_ GE101.out) | exact HB.out)⟩⟩
        · rw [if_neg c9] at H
          have c9b0 : decide (1024 < a1) = false := decide_eq_false c9
          clear c9
          by_cases c11 : a0_1 < 0
          · rw [if_pos c11] at H
            have c11b0 : decide (a0_1 < 0) = true := decide_eq_true c11
            clear c11
            have H' := Aside0.mk H
            clear H
            have hcz12_0 : w4.cell? ⟨gb101, 0, none⟩ = some (.string a0_0) := (blk_cell BK101.out 0).trans rfl
            have hcz12_1 : w4.cell? ⟨gb101, 1, none⟩ = some (.int .i64 a0_1) := (blk_cell BK101.out 1).trans rfl
            have hcz12_2 : w4.cell? ⟨gb101, 2, none⟩ = some (.slice A0_2 l0_2.length c0_2) := (blk_cell BK101.out 2).trans rfl
            have hfz12_0 := blk_frozen BK101.out 0
            have hfz12_1 := blk_frozen BK101.out 1
            have hfz12_2 := blk_frozen BK101.out 2
            go_wp2_with (first | (go_at_call 22; (with_reducible refine (hanaperref12_Name.calls k a0_0 true _ A5.out).mono ?_); rintro e w' ⟨rfl, ⟨nd, rfl⟩⟩; (try first | exact ⟨rfl, _, World.drewN_drewN _ _ _⟩ | exact ⟨rfl, _, Eq.trans (World.drewN_drewN _ _ _) (congrArg (World.drewN _) (Nat.add_assoc _ _ _))⟩)))
            repeat (go_quiet (first | (go_at_call 22; (with_reducible refine (hanaperref12_Name.calls k a0_0 true _ A5.out).mono ?_); rintro e w' ⟨rfl, ⟨nd, rfl⟩⟩; (try first | exact ⟨rfl, _, World.drewN_drewN _ _ _⟩ | exact ⟨rfl, _, Eq.trans (World.drewN_drewN _ _ _) (congrArg (World.drewN _) (Nat.add_assoc _ _ _))⟩))); try go_wp2_with (first | (go_at_call 22; (with_reducible refine (hanaperref12_Name.calls k a0_0 true _ A5.out).mono ?_); rintro e w' ⟨rfl, ⟨nd, rfl⟩⟩; (try first | exact ⟨rfl, _, World.drewN_drewN _ _ _⟩ | exact ⟨rfl, _, Eq.trans (World.drewN_drewN _ _ _) (congrArg (World.drewN _) (Nat.add_assoc _ _ _))⟩))))
            go_meet
            case rel => exact ⟨_, (true), (by first | rfl | (simp; done) | (simp [*]; done)), H', ⟨by first | omega | exact Nat.le_refl _⟩, ⟨by (with_reducible repeat (first | refine blk_drewN ?_ _ | refine blk_drew ?_ | refine blk_alloc ?_ _)); exact BK101.out⟩, ⟨by repeat (first | (with_reducible first | exact HB.out | apply below_alloc | apply pw_below_drewN | apply below_drew1 | refine below_set ?_ GE101.out) | exact HB.out)⟩⟩
          · rw [if_neg c11] at H
            have c11b0 : decide (a0_1 < 0) = false := decide_eq_false c11
            clear c11
            have H' := Aside0.mk H
            clear H
            have hcz13_0 : w4.cell? ⟨gb101, 0, none⟩ = some (.string a0_0) := (blk_cell BK101.out 0).trans rfl
            have hcz13_1 : w4.cell? ⟨gb101, 1, none⟩ = some (.int .i64 a0_1) := (blk_cell BK101.out 1).trans rfl
            have hcz13_2 : w4.cell? ⟨gb101, 2, none⟩ = some (.slice A0_2 l0_2.length c0_2) := (blk_cell BK101.out 2).trans rfl
            have hfz13_0 := blk_frozen BK101.out 0
            have hfz13_1 := blk_frozen BK101.out 1
            have hfz13_2 := blk_frozen BK101.out 2
            go_wp2_with (first | (go_at_call 22; (with_reducible refine (hanaperref12_Name.calls k a0_0 true _ A5.out).mono ?_); rintro e w' ⟨rfl, ⟨nd, rfl⟩⟩; (try first | exact ⟨rfl, _, World.drewN_drewN _ _ _⟩ | exact ⟨rfl, _, Eq.trans (World.drewN_drewN _ _ _) (congrArg (World.drewN _) (Nat.add_assoc _ _ _))⟩)))
            repeat (go_quiet (first | (go_at_call 22; (with_reducible refine (hanaperref12_Name.calls k a0_0 true _ A5.out).mono ?_); rintro e w' ⟨rfl, ⟨nd, rfl⟩⟩; (try first | exact ⟨rfl, _, World.drewN_drewN _ _ _⟩ | exact ⟨rfl, _, Eq.trans (World.drewN_drewN _ _ _) (congrArg (World.drewN _) (Nat.add_assoc _ _ _))⟩))); try go_wp2_with (first | (go_at_call 22; (with_reducible refine (hanaperref12_Name.calls k a0_0 true _ A5.out).mono ?_); rintro e w' ⟨rfl, ⟨nd, rfl⟩⟩; (try first | exact ⟨rfl, _, World.drewN_drewN _ _ _⟩ | exact ⟨rfl, _, Eq.trans (World.drewN_drewN _ _ _) (congrArg (World.drewN _) (Nat.add_assoc _ _ _))⟩))))
            go_meet
            case rel => exact ⟨_, (decide (a0_1 > 24576)), (by first | rfl | (simp; done) | (simp [*]; done)), H', ⟨by first | omega | exact Nat.le_refl _⟩, ⟨by (with_reducible repeat (first | refine blk_drewN ?_ _ | refine blk_drew ?_ | refine blk_alloc ?_ _)); exact BK101.out⟩, ⟨by repeat (first | (with_reducible first | exact HB.out | apply below_alloc | apply pw_below_drewN | apply below_drew1 | refine below_set ?_ GE101.out) | exact HB.out)⟩⟩
    · replace c6 := Bool.eq_false_iff.mpr c6
      subst c6
      have H1 : (hanaperref12_May.j0 k a1 true a0_0 a0_1 l0_2) = some r := by rw [if_neg (show ¬ (false = true) by decide)] at H; exact H
      clear H
      have H := H1
      clear H1
      have H' := Aside0.mk H
      clear H
      have hcz14_0 : w4.cell? ⟨gb101, 0, none⟩ = some (.string a0_0) := (blk_cell BK101.out 0).trans rfl
      have hcz14_1 : w4.cell? ⟨gb101, 1, none⟩ = some (.int .i64 a0_1) := (blk_cell BK101.out 1).trans rfl
      have hcz14_2 : w4.cell? ⟨gb101, 2, none⟩ = some (.slice A0_2 l0_2.length c0_2) := (blk_cell BK101.out 2).trans rfl
      have hfz14_0 := blk_frozen BK101.out 0
      have hfz14_1 := blk_frozen BK101.out 1
      have hfz14_2 := blk_frozen BK101.out 2
      go_wp2_with (first | (go_at_call 22; (with_reducible refine (hanaperref12_Name.calls k a0_0 false _ A5.out).mono ?_); rintro e w' ⟨rfl, ⟨nd, rfl⟩⟩; (try first | exact ⟨rfl, _, World.drewN_drewN _ _ _⟩ | exact ⟨rfl, _, Eq.trans (World.drewN_drewN _ _ _) (congrArg (World.drewN _) (Nat.add_assoc _ _ _))⟩)))
      repeat (go_quiet (first | (go_at_call 22; (with_reducible refine (hanaperref12_Name.calls k a0_0 false _ A5.out).mono ?_); rintro e w' ⟨rfl, ⟨nd, rfl⟩⟩; (try first | exact ⟨rfl, _, World.drewN_drewN _ _ _⟩ | exact ⟨rfl, _, Eq.trans (World.drewN_drewN _ _ _) (congrArg (World.drewN _) (Nat.add_assoc _ _ _))⟩))); try go_wp2_with (first | (go_at_call 22; (with_reducible refine (hanaperref12_Name.calls k a0_0 false _ A5.out).mono ?_); rintro e w' ⟨rfl, ⟨nd, rfl⟩⟩; (try first | exact ⟨rfl, _, World.drewN_drewN _ _ _⟩ | exact ⟨rfl, _, Eq.trans (World.drewN_drewN _ _ _) (congrArg (World.drewN _) (Nat.add_assoc _ _ _))⟩))))
      go_meet
      case rel => exact ⟨_, (true), (by first | rfl | (simp; done) | (simp [*]; done)), H', ⟨by first | omega | exact Nat.le_refl _⟩, ⟨by (with_reducible repeat (first | refine blk_drewN ?_ _ | refine blk_drew ?_ | refine blk_alloc ?_ _)); exact BK101.out⟩, ⟨by repeat (first | (with_reducible first | exact HB.out | apply below_alloc | apply pw_below_drewN | apply below_drew1 | refine below_set ?_ GE101.out) | exact HB.out)⟩⟩
  case rest =>
    clear HC3
    try clear c1
    try clear p2
    try clear c5
    try clear c6
    try clear c7
    try clear c7b0
    try clear c9
    try clear c9b0
    try clear c11
    try clear c11b0
    try clear hcz10_0
    try clear hcz10_1
    try clear hcz10_2
    try clear hcz12_0
    try clear hcz12_1
    try clear hcz12_2
    try clear hcz13_0
    try clear hcz13_1
    try clear hcz13_2
    try clear hcz14_0
    try clear hcz14_1
    try clear hcz14_2
    try clear hcz8_0
    try clear hcz8_1
    try clear hcz8_2
    try clear hfz10_0
    try clear hfz10_1
    try clear hfz10_2
    try clear hfz12_0
    try clear hfz12_1
    try clear hfz12_2
    try clear hfz13_0
    try clear hfz13_1
    try clear hfz13_2
    try clear hfz14_0
    try clear hfz14_1
    try clear hfz14_2
    try clear hfz8_0
    try clear hfz8_1
    try clear hfz8_2
    obtain ⟨kq, x28_2, rfl, HA, HJ2, BK101, HB⟩ := hcut
    cases kq with
    | zero => exact absurd HA.out (by simp [hanaperref12_May.j0])
    | succ kj2 =>
      have H := HA.out
      clear HA
      simp only [hanaperref12_May.j0] at H
      by_cases c15 : x28_2 = true
      · subst c15
        have H1 : (some false) = some r := by rw [if_pos rfl] at H; exact H
        clear H
        have H := H1
        clear H1
        obtain rfl := Option.some.inj H
        go_wp2
        repeat (go_quiet (fail); try go_wp2)
        go_ret
        exact ⟨by first | rfl | (simp [errW_none, errW_some] <;> rfl) | (simp [*, errW_none, errW_some] <;> rfl), by repeat (first | (with_reducible first | exact HB.out | apply below_alloc | apply pw_below_drewN | apply below_drew1 | refine below_set ?_ GE101.out) | exact HB.out)⟩
      · replace c15 := Bool.eq_false_iff.mpr c15
        subst c15
        have H1 : ((hanaperref11_Bits.f kj2 l0_2 a1).bind fun bt103 => (if bt103.2 = true then ((hanaperref11_Pages.f a0_1).bind fun t107 => (some ((l0_2.length : Int) == t107))) else (some false))) = some r := by rw [if_neg (show ¬ (false = true) by decide)] at H; exact H
        clear H
        have H := H1
        clear H1
        replace H := Option.bind_eq_some_iff.mp H
        obtain ⟨⟨t103, t104⟩, A160, H⟩ := H
        replace H : (if t104 = true then ((hanaperref11_Pages.f a0_1).bind fun t107 => (some ((l0_2.length : Int) == t107))) else (some false)) = some r := H
        have A16 := Aside0.mk A160
        clear A160
        by_cases c17 : t104 = true
        · subst c17
          have H1 : ((hanaperref11_Pages.f a0_1).bind fun t107 => (some ((l0_2.length : Int) == t107))) = some r := by rw [if_pos rfl] at H; exact H
          clear H
          have H := H1
          clear H1
          replace H := Option.bind_eq_some_iff.mp H
          obtain ⟨t107, A180, H⟩ := H
          replace H : (some ((l0_2.length : Int) == t107)) = some r := H
          have A18 := Aside0.mk A180
          clear A180
          obtain rfl := Option.some.inj H
          have hcz19_0 : wc.cell? ⟨gb101, 0, none⟩ = some (.string a0_0) := (blk_cell BK101.out 0).trans rfl
          have hcz19_1 : wc.cell? ⟨gb101, 1, none⟩ = some (.int .i64 a0_1) := (blk_cell BK101.out 1).trans rfl
          have hcz19_2 : wc.cell? ⟨gb101, 2, none⟩ = some (.slice A0_2 l0_2.length c0_2) := (blk_cell BK101.out 2).trans rfl
          have hfz19_0 := blk_frozen BK101.out 0
          have hfz19_1 := blk_frozen BK101.out 1
          have hfz19_2 := blk_frozen BK101.out 2
          go_wp2_with (first | (go_at_call 59; (with_reducible refine (hanaperref11_Bits.calls kj2 _ _ l0_2 a1 t103 true _ ?side1 ?side2 A16.out).mono ?_); (case side1 => repeat (first | exact (Kd.C_below HR0_2.out HB.out) | (with_reducible refine Kd.C_alloc ?_ _) | (with_reducible refine Kd.C_drewN ?_ _) | (with_reducible refine Kd.C_drew ?_))); (case side2 => exact HC0_2.out); rintro e w20 ⟨v105, rfl, ho0, hb⟩; have n0_ := Aside0.mk (Kd.R_lower ho0 (below_size (by repeat (first | (with_reducible first | exact HB.out | apply below_alloc | apply pw_below_drewN | apply below_drew1 | refine below_set ?_ GE101.out) | exact HB.out)))); have n1_ := Aside0.mk (blk_below (g := gb101) (o := .cells #[.string a0_0, .int .i64 a0_1, .slice A0_2 l0_2.length c0_2] 24 (0, 0)) (by (with_reducible repeat (first | refine blk_drewN ?_ _ | refine blk_drew ?_ | refine blk_alloc ?_ _)); exact BK101.out) hb); have n2_ := Aside0.mk (below_step (by repeat (first | (with_reducible first | exact HB.out | apply below_alloc | apply pw_below_drewN | apply below_drew1 | refine below_set ?_ GE101.out) | exact HB.out)) hb); clear BK101; clear HB; have HO106 := n0_; have BK101 := n1_; have HB := n2_; clear n0_ n1_ n2_; (try clear hb); (try clear hb2); (try clear hk); (try clear hi); (try clear ho0); have hcz21_0 : w20.cell? ⟨gb101, 0, none⟩ = some (.string a0_0) := (blk_cell BK101.out 0).trans rfl; have hcz21_1 : w20.cell? ⟨gb101, 1, none⟩ = some (.int .i64 a0_1) := (blk_cell BK101.out 1).trans rfl; have hcz21_2 : w20.cell? ⟨gb101, 2, none⟩ = some (.slice A0_2 l0_2.length c0_2) := (blk_cell BK101.out 2).trans rfl; have hfz21_0 := blk_frozen BK101.out 0; have hfz21_1 := blk_frozen BK101.out 1; have hfz21_2 := blk_frozen BK101.out 2) | (go_at_call 105; (with_reducible refine (hanaperref11_Pages.calls a0_1 t107 _ A18.out).mono ?_); rintro e w' ⟨rfl, ⟨nd, rfl⟩⟩; (try first | exact ⟨rfl, _, World.drewN_drewN _ _ _⟩ | exact ⟨rfl, _, Eq.trans (World.drewN_drewN _ _ _) (congrArg (World.drewN _) (Nat.add_assoc _ _ _))⟩)))
          repeat (go_quiet (first | (go_at_call 59; (with_reducible refine (hanaperref11_Bits.calls kj2 _ _ l0_2 a1 t103 true _ ?side1 ?side2 A16.out).mono ?_); (case side1 => repeat (first | exact (Kd.C_below HR0_2.out HB.out) | (with_reducible refine Kd.C_alloc ?_ _) | (with_reducible refine Kd.C_drewN ?_ _) | (with_reducible refine Kd.C_drew ?_))); (case side2 => exact HC0_2.out); rintro e w20 ⟨v105, rfl, ho0, hb⟩; have n0_ := Aside0.mk (Kd.R_lower ho0 (below_size (by repeat (first | (with_reducible first | exact HB.out | apply below_alloc | apply pw_below_drewN | apply below_drew1 | refine below_set ?_ GE101.out) | exact HB.out)))); have n1_ := Aside0.mk (blk_below (g := gb101) (o := .cells #[.string a0_0, .int .i64 a0_1, .slice A0_2 l0_2.length c0_2] 24 (0, 0)) (by (with_reducible repeat (first | refine blk_drewN ?_ _ | refine blk_drew ?_ | refine blk_alloc ?_ _)); exact BK101.out) hb); have n2_ := Aside0.mk (below_step (by repeat (first | (with_reducible first | exact HB.out | apply below_alloc | apply pw_below_drewN | apply below_drew1 | refine below_set ?_ GE101.out) | exact HB.out)) hb); clear BK101; clear HB; have HO106 := n0_; have BK101 := n1_; have HB := n2_; clear n0_ n1_ n2_; (try clear hb); (try clear hb2); (try clear hk); (try clear hi); (try clear ho0); have hcz21_0 : w20.cell? ⟨gb101, 0, none⟩ = some (.string a0_0) := (blk_cell BK101.out 0).trans rfl; have hcz21_1 : w20.cell? ⟨gb101, 1, none⟩ = some (.int .i64 a0_1) := (blk_cell BK101.out 1).trans rfl; have hcz21_2 : w20.cell? ⟨gb101, 2, none⟩ = some (.slice A0_2 l0_2.length c0_2) := (blk_cell BK101.out 2).trans rfl; have hfz21_0 := blk_frozen BK101.out 0; have hfz21_1 := blk_frozen BK101.out 1; have hfz21_2 := blk_frozen BK101.out 2) | (go_at_call 105; (with_reducible refine (hanaperref11_Pages.calls a0_1 t107 _ A18.out).mono ?_); rintro e w' ⟨rfl, ⟨nd, rfl⟩⟩; (try first | exact ⟨rfl, _, World.drewN_drewN _ _ _⟩ | exact ⟨rfl, _, Eq.trans (World.drewN_drewN _ _ _) (congrArg (World.drewN _) (Nat.add_assoc _ _ _))⟩))); try go_wp2_with (first | (go_at_call 59; (with_reducible refine (hanaperref11_Bits.calls kj2 _ _ l0_2 a1 t103 true _ ?side1 ?side2 A16.out).mono ?_); (case side1 => repeat (first | exact (Kd.C_below HR0_2.out HB.out) | (with_reducible refine Kd.C_alloc ?_ _) | (with_reducible refine Kd.C_drewN ?_ _) | (with_reducible refine Kd.C_drew ?_))); (case side2 => exact HC0_2.out); rintro e w20 ⟨v105, rfl, ho0, hb⟩; have n0_ := Aside0.mk (Kd.R_lower ho0 (below_size (by repeat (first | (with_reducible first | exact HB.out | apply below_alloc | apply pw_below_drewN | apply below_drew1 | refine below_set ?_ GE101.out) | exact HB.out)))); have n1_ := Aside0.mk (blk_below (g := gb101) (o := .cells #[.string a0_0, .int .i64 a0_1, .slice A0_2 l0_2.length c0_2] 24 (0, 0)) (by (with_reducible repeat (first | refine blk_drewN ?_ _ | refine blk_drew ?_ | refine blk_alloc ?_ _)); exact BK101.out) hb); have n2_ := Aside0.mk (below_step (by repeat (first | (with_reducible first | exact HB.out | apply below_alloc | apply pw_below_drewN | apply below_drew1 | refine below_set ?_ GE101.out) | exact HB.out)) hb); clear BK101; clear HB; have HO106 := n0_; have BK101 := n1_; have HB := n2_; clear n0_ n1_ n2_; (try clear hb); (try clear hb2); (try clear hk); (try clear hi); (try clear ho0); have hcz21_0 : w20.cell? ⟨gb101, 0, none⟩ = some (.string a0_0) := (blk_cell BK101.out 0).trans rfl; have hcz21_1 : w20.cell? ⟨gb101, 1, none⟩ = some (.int .i64 a0_1) := (blk_cell BK101.out 1).trans rfl; have hcz21_2 : w20.cell? ⟨gb101, 2, none⟩ = some (.slice A0_2 l0_2.length c0_2) := (blk_cell BK101.out 2).trans rfl; have hfz21_0 := blk_frozen BK101.out 0; have hfz21_1 := blk_frozen BK101.out 1; have hfz21_2 := blk_frozen BK101.out 2) | (go_at_call 105; (with_reducible refine (hanaperref11_Pages.calls a0_1 t107 _ A18.out).mono ?_); rintro e w' ⟨rfl, ⟨nd, rfl⟩⟩; (try first | exact ⟨rfl, _, World.drewN_drewN _ _ _⟩ | exact ⟨rfl, _, Eq.trans (World.drewN_drewN _ _ _) (congrArg (World.drewN _) (Nat.add_assoc _ _ _))⟩))))
          go_ret
          exact ⟨by first | rfl | (simp [errW_none, errW_some] <;> rfl) | (simp [*, errW_none, errW_some] <;> rfl), by repeat (first | (with_reducible first | exact HB.out | apply below_alloc | apply pw_below_drewN | apply below_drew1 | refine below_set ?_ GE101.out) | exact HB.out)⟩
        · replace c17 := Bool.eq_false_iff.mpr c17
          subst c17
          have H1 : (some false) = some r := by rw [if_neg (show ¬ (false = true) by decide)] at H; exact H
          clear H
          have H := H1
          clear H1
          obtain rfl := Option.some.inj H
          have hcz22_0 : wc.cell? ⟨gb101, 0, none⟩ = some (.string a0_0) := (blk_cell BK101.out 0).trans rfl
          have hcz22_1 : wc.cell? ⟨gb101, 1, none⟩ = some (.int .i64 a0_1) := (blk_cell BK101.out 1).trans rfl
          have hcz22_2 : wc.cell? ⟨gb101, 2, none⟩ = some (.slice A0_2 l0_2.length c0_2) := (blk_cell BK101.out 2).trans rfl
          have hfz22_0 := blk_frozen BK101.out 0
          have hfz22_1 := blk_frozen BK101.out 1
          have hfz22_2 := blk_frozen BK101.out 2
          go_wp2_with (first | (go_at_call 59; (with_reducible refine (hanaperref11_Bits.calls kj2 _ _ l0_2 a1 t103 false _ ?side1 ?side2 A16.out).mono ?_); (case side1 => repeat (first | exact (Kd.C_below HR0_2.out HB.out) | (with_reducible refine Kd.C_alloc ?_ _) | (with_reducible refine Kd.C_drewN ?_ _) | (with_reducible refine Kd.C_drew ?_))); (case side2 => exact HC0_2.out); rintro e w23 ⟨v105, rfl, ho0, hb⟩; have n0_ := Aside0.mk (Kd.R_lower ho0 (below_size (by repeat (first | (with_reducible first | exact HB.out | apply below_alloc | apply pw_below_drewN | apply below_drew1 | refine below_set ?_ GE101.out) | exact HB.out)))); have n1_ := Aside0.mk (blk_below (g := gb101) (o := .cells #[.string a0_0, .int .i64 a0_1, .slice A0_2 l0_2.length c0_2] 24 (0, 0)) (by (with_reducible repeat (first | refine blk_drewN ?_ _ | refine blk_drew ?_ | refine blk_alloc ?_ _)); exact BK101.out) hb); have n2_ := Aside0.mk (below_step (by repeat (first | (with_reducible first | exact HB.out | apply below_alloc | apply pw_below_drewN | apply below_drew1 | refine below_set ?_ GE101.out) | exact HB.out)) hb); clear BK101; clear HB; have HO106 := n0_; have BK101 := n1_; have HB := n2_; clear n0_ n1_ n2_; (try clear hb); (try clear hb2); (try clear hk); (try clear hi); (try clear ho0)))
          repeat (go_quiet (first | (go_at_call 59; (with_reducible refine (hanaperref11_Bits.calls kj2 _ _ l0_2 a1 t103 false _ ?side1 ?side2 A16.out).mono ?_); (case side1 => repeat (first | exact (Kd.C_below HR0_2.out HB.out) | (with_reducible refine Kd.C_alloc ?_ _) | (with_reducible refine Kd.C_drewN ?_ _) | (with_reducible refine Kd.C_drew ?_))); (case side2 => exact HC0_2.out); rintro e w23 ⟨v105, rfl, ho0, hb⟩; have n0_ := Aside0.mk (Kd.R_lower ho0 (below_size (by repeat (first | (with_reducible first | exact HB.out | apply below_alloc | apply pw_below_drewN | apply below_drew1 | refine below_set ?_ GE101.out) | exact HB.out)))); have n1_ := Aside0.mk (blk_below (g := gb101) (o := .cells #[.string a0_0, .int .i64 a0_1, .slice A0_2 l0_2.length c0_2] 24 (0, 0)) (by (with_reducible repeat (first | refine blk_drewN ?_ _ | refine blk_drew ?_ | refine blk_alloc ?_ _)); exact BK101.out) hb); have n2_ := Aside0.mk (below_step (by repeat (first | (with_reducible first | exact HB.out | apply below_alloc | apply pw_below_drewN | apply below_drew1 | refine below_set ?_ GE101.out) | exact HB.out)) hb); clear BK101; clear HB; have HO106 := n0_; have BK101 := n1_; have HB := n2_; clear n0_ n1_ n2_; (try clear hb); (try clear hb2); (try clear hk); (try clear hi); (try clear ho0))); try go_wp2_with (first | (go_at_call 59; (with_reducible refine (hanaperref11_Bits.calls kj2 _ _ l0_2 a1 t103 false _ ?side1 ?side2 A16.out).mono ?_); (case side1 => repeat (first | exact (Kd.C_below HR0_2.out HB.out) | (with_reducible refine Kd.C_alloc ?_ _) | (with_reducible refine Kd.C_drewN ?_ _) | (with_reducible refine Kd.C_drew ?_))); (case side2 => exact HC0_2.out); rintro e w23 ⟨v105, rfl, ho0, hb⟩; have n0_ := Aside0.mk (Kd.R_lower ho0 (below_size (by repeat (first | (with_reducible first | exact HB.out | apply below_alloc | apply pw_below_drewN | apply below_drew1 | refine below_set ?_ GE101.out) | exact HB.out)))); have n1_ := Aside0.mk (blk_below (g := gb101) (o := .cells #[.string a0_0, .int .i64 a0_1, .slice A0_2 l0_2.length c0_2] 24 (0, 0)) (by (with_reducible repeat (first | refine blk_drewN ?_ _ | refine blk_drew ?_ | refine blk_alloc ?_ _)); exact BK101.out) hb); have n2_ := Aside0.mk (below_step (by repeat (first | (with_reducible first | exact HB.out | apply below_alloc | apply pw_below_drewN | apply below_drew1 | refine below_set ?_ GE101.out) | exact HB.out)) hb); clear BK101; clear HB; have HO106 := n0_; have BK101 := n1_; have HB := n2_; clear n0_ n1_ n2_; (try clear hb); (try clear hb2); (try clear hk); (try clear hi); (try clear ho0))))
          go_ret
          exact ⟨by first | rfl | (simp [errW_none, errW_some] <;> rfl) | (simp [*, errW_none, errW_some] <;> rfl), by repeat (first | (with_reducible first | exact HB.out | apply below_alloc | apply pw_below_drewN | apply below_drew1 | refine below_set ?_ GE101.out) | exact HB.out)⟩

end Go.Proofs.Ytgdpabedlghiaaa.PZ
/- Which inodes may be: both answer alike. -/
namespace Go.Proofs.Ytgdpabedlghiaaa.InodeEv
open Go.RowKit Go.Proofs.Ytgdpabedlghiaaa.Base Go.Proofs.Ytgdpabedlghiaaa.Name Go.Proofs.Ytgdpabedlghiaaa.AllocEv Go.Proofs.Ytgdpabedlghiaaa.Aid Go.Proofs.Ytgdpabedlghiaaa.PZ Go.Proofs.YtgdpabedlghiaaaW.PrintWords Go.Proofs.YtgdpabedlghiaaaW.PrintLast Go.Proofs.YtgdpabedlghiaaaW.PrintMore

def pagesV (a : Int) : Int := if a < 1 then 0 else wrap64 (wrap64 (Int.tdiv (wrap64 (a - 1)) 256) + 1)
theorem apages_f (a : Int) : alloc_Pages.f a = some (pagesV a) := by unfold alloc_Pages.f pagesV; split <;> rfl
theorem rpages_f (a : Int) : hanaperref11_Pages.f a = some (pagesV a) := by unfold hanaperref11_Pages.f pagesV; split <;> rfl
/-- Which inodes may be. -/
def mayB (nm : ByteArray) (size : Int) (at_ : List Int) (n : Int) : Bool :=
  nameB nm && (decide (0 ≤ n) && (decide (n ≤ 1024) && (decide (0 ≤ size) && (decide (size ≤ 24576) && ((bitsSpec at_ n).2 && decide ((at_.length : Int) = pagesV size))))))
theorem check_ev (nm : ByteArray) (size : Int) (at_ : List Int) (n : Int) (hl : at_.length ≤ 4611686018427387904) : Ev (fun k => inode_Check.f k nm size at_ n) (if mayB nm size at_ n = true then 0 else 1) := by
  have hbad : ∀ (b : Bool), b = true → mayB nm size at_ n = false → Ev (fun k => inode_Check.j0 k n b nm size at_) (if mayB nm size at_ n = true then 0 else 1) := by
    intro b hb hm
    rw [hm]
    refine Ev.step (fun k => by simp only [inode_Check.j0]; rfl) ?_
    exact pos hb (now (by simp))
  unfold inode_Check.f
  by_cases h1 : n < 0
  · exact pos h1 (hbad true rfl (by unfold mayB; rw [decide_eq_false (p := 0 ≤ n) (by omega)]; simp))
  refine neg h1 ?_
  by_cases h2 : n > 1024
  · exact pos h2 (hbad true rfl (by unfold mayB; rw [decide_eq_false (p := n ≤ 1024) (by omega)]; simp))
  refine neg h2 (bindSome rfl ?_)
  cases h3 : nameB nm with
  | false => exact neg (by simp) (hbad true rfl (by unfold mayB; rw [h3]; simp))
  | true =>
    refine pos rfl ?_
    by_cases h4 : size < 0
    · exact pos h4 (hbad true rfl (by unfold mayB; rw [decide_eq_false (p := 0 ≤ size) (by omega)]; simp))
    refine neg h4 ?_
    by_cases h5 : size > 24576
    · exact hbad _ (decide_eq_true h5) (by unfold mayB; rw [decide_eq_false (p := size ≤ 24576) (by omega)]; simp)
    have hm : mayB nm size at_ n = ((bitsSpec at_ n).2 && decide ((at_.length : Int) = pagesV size)) := by
      unfold mayB
      rw [h3, decide_eq_true (p := 0 ≤ n) (by omega), decide_eq_true (p := n ≤ 1024) (by omega), decide_eq_true (p := 0 ≤ size) (by omega), decide_eq_true (p := size ≤ 24576) (by omega)]
      simp
    rw [decide_eq_false h5]
    refine Ev.step (fun k => by simp only [inode_Check.j0]; rfl) ?_
    refine neg (by simp) (evBind (bits_ev at_ n hl) ?_)
    rw [hm]
    cases (bitsSpec at_ n).2 with
    | false => exact neg (by simp) (now (by simp))
    | true =>
      refine pos rfl (bindSome (apages_f size) ?_)
      by_cases h6 : (at_.length : Int) = pagesV size
      · exact pos h6 (now (by simp [h6]))
      · exact neg h6 (now (by simp [h6]))
theorem may_ev (nm : ByteArray) (size : Int) (at_ : List Int) (n : Int) (hl : at_.length ≤ 4611686018427387904) (hs : nm.size ≤ 4611686018427387904) : Ev (fun k => hanaperref12_May.f k nm size at_ n) (mayB nm size at_ n) := by
  have hbad : ∀ (b : Bool), b = true → mayB nm size at_ n = false → Ev (fun k => hanaperref12_May.j0 k n b nm size at_) (mayB nm size at_ n) := by
    intro b hb hm
    rw [hm]
    refine Ev.step (fun k => by simp only [hanaperref12_May.j0]; rfl) ?_
    exact pos hb (now rfl)
  unfold hanaperref12_May.f
  refine evBind (name_ev nm hs) ?_
  cases h3 : nameB nm with
  | false => exact neg (by simp) (hbad true rfl (by unfold mayB; rw [h3]; simp))
  | true =>
    refine pos rfl ?_
    by_cases h1 : n < 0
    · exact pos h1 (hbad true rfl (by unfold mayB; rw [decide_eq_false (p := 0 ≤ n) (by omega)]; simp))
    refine neg h1 ?_
    by_cases h2 : n > 1024
    · exact pos h2 (hbad true rfl (by unfold mayB; rw [decide_eq_false (p := n ≤ 1024) (by omega)]; simp))
    refine neg h2 ?_
    by_cases h4 : size < 0
    · exact pos h4 (hbad true rfl (by unfold mayB; rw [decide_eq_false (p := 0 ≤ size) (by omega)]; simp))
    refine neg h4 ?_
    by_cases h5 : size > 24576
    · exact hbad _ (decide_eq_true h5) (by unfold mayB; rw [decide_eq_false (p := size ≤ 24576) (by omega)]; simp)
    have hm : mayB nm size at_ n = ((bitsSpec at_ n).2 && decide ((at_.length : Int) = pagesV size)) := by
      unfold mayB
      rw [h3, decide_eq_true (p := 0 ≤ n) (by omega), decide_eq_true (p := n ≤ 1024) (by omega), decide_eq_true (p := 0 ≤ size) (by omega), decide_eq_true (p := size ≤ 24576) (by omega)]
      simp
    rw [decide_eq_false h5]
    refine Ev.step (fun k => by simp only [hanaperref12_May.j0]; rfl) ?_
    refine neg (by simp) (evBind (bits_doc_ev at_ n hl) ?_)
    rw [hm]
    cases (bitsSpec at_ n).2 with
    | false => exact neg (by simp) (now (by simp))
    | true =>
      refine pos rfl (bindSome (rpages_f size) (now ?_))
      rw [Bool.true_and, Bool.eq_iff_iff]
      simp
end Go.Proofs.Ytgdpabedlghiaaa.InodeEv
/- The lowest functions, each with what it answers. -/
namespace Go.Proofs.Ytgdpabedlghiaaa.Lo
open Go.Proofs.Ytgdpabedlghiaaa.Base Go.Proofs.Ytgdpabedlghiaaa.TlvPlain Go.Proofs.Ytgdpabedlghiaaa.Aid Go.RowKit Go.Proofs.YtgdpabedlghiaaaW.PrintWords Go.Proofs.YtgdpabedlghiaaaW.PrintLast Go.Proofs.YtgdpabedlghiaaaW.PrintMore Go.Proofs.Ytgdpabedlghiaaa.PZ

/-- New bytes. -/
def Makes (w : World) (bs : List Int) (e : Ending) (w' : World) : Prop := ∃ v : Value, e = .returned v ∧ Ob w' w.heap.size v bs ∧ Below w.heap.size w w'
theorem same_c (A0 : Option Addr) (c0 : Nat) (a : List Int) (A1 : Option Addr) (c1 : Nat) (b : List Int) (w : World) (h0 : Rb w A0 a) (hc0 : a.length ≤ c0) (h1 : Rb w A1 b) (hc1 : b.length ≤ c1) (hn : a.length ≤ 4611686018427387904) :
    Calls Try.prog 18 #[.slice A0 a.length c0, .slice A1 b.length c1] w fun e w' => e = .returned (.bool (decide (a = b))) ∧ Drawn0 w w' := by
  obtain ⟨k, h⟩ := (same_ev a b hn).rounds
  exact hanaperref01_Same.calls k A0 c0 a A1 c1 b _ w h0 hc0 h1 hc1 h
theorem same_n (A0 : Option Addr) (c0 n0 : Nat) (a : List Int) (A1 : Option Addr) (c1 n1 : Nat) (b : List Int) (w : World) (h0 : Rb w A0 a) (e0 : a.length = n0) (hc0 : n0 ≤ c0) (h1 : Rb w A1 b) (e1 : b.length = n1) (hc1 : n1 ≤ c1) (hn : n0 ≤ 4611686018427387904) :
    Calls Try.prog 18 #[.slice A0 n0 c0, .slice A1 n1 c1] w fun e w' => e = .returned (.bool (decide (a = b))) ∧ Drawn0 w w' := by
  subst e0; subst e1
  exact same_c A0 c0 a A1 c1 b w h0 hc0 h1 hc1 hn
theorem num_c (n : Int) (w : World) (h0 : 0 ≤ n) (h1 : n ≤ 18446744073709551615) : Calls Try.prog 104 #[.int .u64 n] w (Makes w (numB n)) := by
  obtain ⟨k, h⟩ := (num_ev n h0 h1).rounds
  exact tlv_Num.calls k n _ w h
theorem rnum_c (n : Int) (w : World) (h0 : 0 ≤ n) (h1 : n ≤ 18446744073709551615) : Calls Try.prog 107 #[.int .u64 n] w (Makes w (numB n)) := by
  obtain ⟨k, h⟩ := (rnum_ev n h0 h1).rounds
  exact hanaperref01_Num.calls k n _ w h
theorem text_c (A0 : Option Addr) (c0 : Nat) (l : List Int) (w : World) (hr : Rb w A0 l) (hc : l.length ≤ c0) (hl : l.length < 140737488355000) : Calls Try.prog 56 #[.slice A0 l.length c0] w (Makes w (textB l)) := by
  obtain ⟨k, h⟩ := (text_ev l hl).rounds
  exact tlv_Text.calls k A0 c0 l _ w hr hc h
theorem rtext_c (A0 : Option Addr) (c0 : Nat) (l : List Int) (w : World) (hr : Rb w A0 l) (hc : l.length ≤ c0) (hl : l.length < 140737488355000) : Calls Try.prog 60 #[.slice A0 l.length c0] w (Makes w (textB l)) := by
  obtain ⟨k, h⟩ := (rtext_ev l hl).rounds
  exact hanaperref01_Text.calls k A0 c0 l _ w hr hc h
theorem int_c (n : Int) (w : World) : Calls Try.prog 57 #[.int .i64 n] w (Makes w (intB n)) := by
  obtain ⟨k, h⟩ := (int_ev n).rounds
  exact tlv_Int.calls k n _ w h
theorem rint_c (n : Int) (w : World) : Calls Try.prog 61 #[.int .i64 n] w (Makes w (intB n)) := by
  obtain ⟨k, h⟩ := (rint_ev n).rounds
  exact hanaperref01_Int.calls k n _ w h
theorem all_c (A0 : Option Addr) (c0 : Nat) (l : List (List Int)) (w : World) (hr : Kd.C (Kd.slice 5 (Kd.int .u8)) w A0 l.length l) (hc : l.length ≤ c0) (hl : l.length ≤ 4611686018427387904) (ht : l.flatten.length < 140737488355328) :
    Calls Try.prog 55 #[.slice A0 l.length c0] w (Makes w l.flatten) := by
  obtain ⟨k, h⟩ := (all_ev l hl ht).rounds
  exact tlv_All.calls k A0 c0 l _ w hr hc h
theorem copy_c (A0 : Option Addr) (c0 : Nat) (l : List Int) (w : World) (hr : Rb w A0 l) (hc : l.length ≤ c0) (hl : l.length < 140737488355328) : Calls Try.prog 93 #[.slice A0 l.length c0] w (Makes w l) :=
  hanaperref01_Copy.calls A0 c0 l _ w hr hc (copy_ev l hl)
theorem copy_n (A0 : Option Addr) (c0 n : Nat) (l : List Int) (w : World) (hr : Rb w A0 l) (hn : l.length = n) (hc : n ≤ c0) (hl : n < 140737488355328) : Calls Try.prog 93 #[.slice A0 n c0] w (Makes w l) := by
  subst hn
  exact copy_c A0 c0 l w hr hc hl
theorem value_c (A0 : Option Addr) (c0 : Nat) (l : List Int) (w : World) (hr : Rb w A0 l) (hc : l.length ≤ c0) (hu : U8 l) (h8 : l.length ≤ 8) :
    Calls Try.prog 124 #[.slice A0 l.length c0] w fun e w' => e = .returned (.int .u64 (valueB l)) ∧ Drawn0 w w' := by
  obtain ⟨k, h⟩ := (value_ev l hu h8).rounds
  exact hanaperref01_Value.calls k A0 c0 l _ w hr hc h
end Go.Proofs.Ytgdpabedlghiaaa.Lo
/- inode.Put and the document's: an inode's bytes. -/
namespace Go.Proofs.Ytgdpabedlghiaaa.InodePut
open Go.RowKit Go.Proofs.Ytgdpabedlghiaaa.Base Go.Proofs.Ytgdpabedlghiaaa.Name Go.Proofs.Ytgdpabedlghiaaa.InodeEv Go.Proofs.Ytgdpabedlghiaaa.AllocEv Go.Proofs.Ytgdpabedlghiaaa.Lo Go.Proofs.Ytgdpabedlghiaaa.TlvPlain Go.Proofs.Ytgdpabedlghiaaa.Aid Go.Proofs.Ytgdpabedlghiaaa.PZ Go.Proofs.YtgdpabedlghiaaaW.PrintWords Go.Proofs.YtgdpabedlghiaaaW.PrintLast Go.Proofs.YtgdpabedlghiaaaW.PrintMore

/-- An inode's bytes. -/
def putB (nm : ByteArray) (size : Int) (at_ : List Int) (n : Int) : List Int := [textB (bytesOf nm), intB size, (bitsSpec at_ n).1].flatten
theorem check_c (nm : ByteArray) (size : Int) (A : Option Addr) (c : Nat) (at_ : List Int) (n : Int) (w : World) (hr : Kd.C (Kd.int .i64) w A at_.length at_) (hc : at_.length ≤ c) (hl : at_.length ≤ 4611686018427387904) :
    Calls Try.prog 20 #[.agg #[.string nm, .int .i64 size, .slice A at_.length c], .int .i64 n] w fun e w' => e = .returned (.int .i64 (if mayB nm size at_ n = true then 0 else 1)) ∧ Below w.heap.size w w' := by
  obtain ⟨k, h⟩ := (check_ev nm size at_ n hl).rounds
  exact inode_Check.calls k nm size A c at_ n _ w hr hc h
theorem bits_c (A : Option Addr) (c : Nat) (at_ : List Int) (n : Int) (w : World) (hr : Kd.C (Kd.int .i64) w A at_.length at_) (hc : at_.length ≤ c) (hl : at_.length ≤ 4611686018427387904) :
    Calls Try.prog 54 #[.slice A at_.length c, .int .i64 n] w fun e w' => ∃ v, e = .returned (.tuple #[v, .bool (bitsSpec at_ n).2]) ∧ Ob w' w.heap.size v (bitsSpec at_ n).1 ∧ Below w.heap.size w w' := by
  obtain ⟨k, h⟩ := (bits_ev at_ n hl).rounds
  exact alloc_Bits.calls k A c at_ n _ _ w hr hc h
/-- A slice of rows that was just laid, read. -/
theorem rows_new {W : World} {e : TypeId} (xs : List (List Int)) (inner : List Value)
    (hi : inner.length = xs.length ∧ ∀ (j : Nat) (l : List Int), xs[j]? = some l → ∃ A c, inner[j]? = some (Value.slice A l.length c) ∧ l.length ≤ c ∧ Rb W A l) (hm : xs.length ≤ 9223372036854775807) :
    Rr (W.alloc (.cells inner.toArray e)) (some ⟨W.heap.size, 0, none⟩) xs := by
  refine ⟨rfl, hm, fun _ => ⟨_, rfl, fun j l hj => ?_⟩⟩
  obtain ⟨A, c, h1, h2, h3⟩ := hi.2 j l hj
  refine ⟨[.slice A l.length c], rfl, ⟨A, c, rfl, h2, Kd.C_alloc h3 _⟩, fun i u hu => ?_⟩
  have hi0 : i = 0 := by
    have := (List.getElem?_eq_some_iff.1 hu).1
    simp at this
    exact this
  subst hi0
  rw [show j * (Kd.slice 5 (Kd.int .u8)).sz + 0 = j from by show j * 1 + 0 = j; omega, add_plain]
  rw [World.cell?_alloc_new]
  rw [show inner.toArray[j]? = inner[j]? from by simp, h1]
  exact hu

theorem text_n (A0 : Option Addr) (c0 n0 : Nat) (l : List Int) (w : World) (h0 : Rb w A0 l) (e0 : l.length = n0) (hc0 : n0 ≤ c0) (hn : n0 ≤ 100000) :
    Calls Try.prog 56 #[.slice A0 n0 c0] w (Makes w (textB l)) := by
  subst e0
  exact text_c A0 c0 l w h0 hc0 (by omega)
theorem cell_al {W : World} {a : Addr} {v : Value} (h : W.cell? a = some v) (o : Obj) : (W.alloc o).cell? a = some v :=
  ((below_alloc (Below.refl W.heap.size W) o).cell (World.block_lt_of_cell? W a h)).trans h
theorem grown_le (w : World) (n o e : Nat) : n ≤ grownCap w n o e := by
  exact grownCap_ge w n o e

set_option maxHeartbeats 2000000 in
set_option maxRecDepth 100000 in
theorem put_no (nm : ByteArray) (size : Int) (A : Option Addr) (c : Nat) (at_ : List Int) (n : Int) (w : World) (hr : Kd.C (Kd.int .i64) w A at_.length at_) (hc : at_.length ≤ c) (hl : at_.length ≤ 1000) (hm : mayB nm size at_ n = false) :
    Calls Try.prog 16 #[.agg #[.string nm, .int .i64 size, .slice A at_.length c], .int .i64 n] w fun e w' => e = .returned (.tuple #[.slice none 0 0, .int .i64 1]) ∧ Below w.heap.size w w' := by
  have hC := fun W (h : Below w.heap.size w W) => check_c nm size A c at_ n W (Kd.C_below hr h) hc (by omega)
  rw [hm] at hC
  simp only [Bool.false_eq_true, if_false] at hC
  have HC := Aside0.mk hC
  clear hC hr hc hl hm
  go_enter Try.func16, Try.ntmps16
  go_wp2_with (go_at_call 20; refine (HC.out _ (below_alloc (Below.refl _ _) _)).mono ?_; rintro e w1 ⟨rfl, hb⟩)
  go_ret2
  exact ⟨rfl, below_step (below_alloc (Below.refl _ _) _) hb⟩

set_option maxHeartbeats 2000000 in
set_option maxRecDepth 100000 in
theorem put_yes (nm : ByteArray) (size : Int) (A : Option Addr) (c : Nat) (at_ : List Int) (n : Int) (w : World) (hr : Kd.C (Kd.int .i64) w A at_.length at_) (hc : at_.length ≤ c) (hl : at_.length ≤ 1000) (hm : mayB nm size at_ n = true) (hs : nm.size ≤ 1000) :
    Calls Try.prog 16 #[.agg #[.string nm, .int .i64 size, .slice A at_.length c], .int .i64 n] w fun e w' => ∃ v, e = .returned (.tuple #[v, .int .i64 0]) ∧ Ob w' w.heap.size v (putB nm size at_ n) ∧ Below w.heap.size w w' := by
  have hC := fun W (h : Below w.heap.size w W) => check_c nm size A c at_ n W (Kd.C_below hr h) hc (by omega)
  rw [hm] at hC
  simp only [if_true] at hC
  have HC := Aside0.mk hC
  have hBt := fun W (h : Below w.heap.size w W) => bits_c A c at_ n W (Kd.C_below hr h) hc (by omega)
  have hbl := bitsSpec_len at_ n
  obtain ⟨X, hX⟩ : ∃ X, (bitsSpec at_ n).1 = X := ⟨_, rfl⟩
  obtain ⟨P, hP⟩ : ∃ P, [textB (bytesOf nm), intB size, X].flatten = P := ⟨_, rfl⟩
  have hPP : putB nm size at_ n = P := by unfold putB; rw [hX, hP]
  rw [hPP]
  rw [hX] at hBt hbl
  have HBt := Aside0.mk hBt
  have HBL := Aside0.mk hbl
  have HP := Aside0.mk hP
  have kb := fun W => print_bytes (P := Try.prog) 9 27 5 Try.underlying9 Try.underlying27 Try.underlying5 nm W
  have HS := Aside0.mk hs
  clear hC hBt hr hc hl hm hX hP hPP hbl
  go_enter Try.func16, Try.ntmps16
  go_wp2_with (go_at_call 20; refine (HC.out _ (below_alloc (Below.refl _ _) _)).mono ?_; rintro e w1 ⟨rfl, hb⟩; have HB := Aside0.mk (below_step (below_alloc (Below.refl _ _) _) hb); have hc0 : w1.cell? ⟨w.heap.size, 0, none⟩ = some (.string nm) := (hb.cell (p := ⟨w.heap.size, 0, none⟩) (by simp)).trans (by simp [World.cell?_alloc_new]); have hc1 : w1.cell? ⟨w.heap.size, 1, none⟩ = some (.int .i64 size) := (hb.cell (p := ⟨w.heap.size, 1, none⟩) (by simp)).trans (by simp [World.cell?_alloc_new]); have hc2 : w1.cell? ⟨w.heap.size, 2, none⟩ = some (.slice A at_.length c) := (hb.cell (p := ⟨w.heap.size, 2, none⟩) (by simp)).trans (by simp [World.cell?_alloc_new]); clear hb)
  refine (HBt.out _ HB.out).mono ?_
  rintro e w2 ⟨v, rfl, ho, hb⟩
  have d0 : w2.cell? ⟨w.heap.size, 0, none⟩ = some (.string nm) := (hb.cell (World.block_lt_of_cell? w1 _ hc0)).trans hc0
  have d1 : w2.cell? ⟨w.heap.size, 1, none⟩ = some (.int .i64 size) := (hb.cell (World.block_lt_of_cell? w1 _ hc1)).trans hc1
  have HB2 := Aside0.mk (below_step HB.out hb)
  obtain ⟨A3, c3, rfl, hl3, hr3⟩ := Ob.reads ho
  have HR3 := Aside0.mk hr3
  have HL3 := Aside0.mk hl3
  have HD0 := Aside0.mk d0
  have HD1 := Aside0.mk d1
  have HTR := Aside0.mk (show Rb (Lib.bytesWorld w2.drew 5 nm) (some ⟨w2.drew.heap.size, 0, none⟩) (bytesOf nm) by
    have h := Kd.C_of_reads (d := (0 : Int)) (h1 := fun _ => rfl) (bytes_reads w2.drew 5 nm (by omega))
    show Kd.C _ _ _ (bytesOf nm).length (bytesOf nm)
    rw [bytesOf_length]
    exact h)
  have HBW := Aside0.mk (bytes_below (below_drew1 HB2.out) (below_drew1 HB2.out).size 5 nm)
  have HR3b := Aside0.mk (Kd.C_below (Kd.C_drew HR3.out) (bytes_below (Below.refl w2.drew.heap.size w2.drew) (Nat.le_refl _) 5 nm))
  have k0 : (Lib.bytesWorld w2.drew 5 nm).cell? ⟨w.heap.size, 0, none⟩ = some (.string nm) := (Lib.bytesWorld_old w2.drew 5 nm _ (World.block_lt_of_cell? w2 _ d0)).trans d0
  have k1 : (Lib.bytesWorld w2.drew 5 nm).cell? ⟨w.heap.size, 1, none⟩ = some (.int .i64 size) := (Lib.bytesWorld_old w2.drew 5 nm _ (World.block_lt_of_cell? w2 _ d1)).trans d1
  have HK0 := Aside0.mk k0
  have HK1 := Aside0.mk k1
  have HT := Aside0.mk (numB_len (n := ((bytesOf nm).length : Int)) (by rw [bytesOf_length]; omega))
  have HI := Aside0.mk (numB_len (n := IntKind.u64.wrap size) (u64_range size).2)
  have HNL := Aside0.mk (bytesOf_length nm)
  have HPL := Aside0.mk (show [textB (bytesOf nm), intB size, X].flatten.length < 140737488355328 by
    have h1 := HT.out
    have h2 := HI.out
    have h3 := HBL.out
    simp only [List.flatten_cons, List.flatten_nil, List.append_nil, List.length_append, intB, textB, bytesOf_length] at *
    omega)
  clear ho hl3 hr3 hb hc0 hc1 hc2 HB HC HBt hs
  go_wp2_with (fail)
  go_region_law (first
    | (go_simp; go_at_call 56; refine (text_n (some ⟨_, 0, none⟩) _ nm.size (bytesOf nm) _ HTR.out HNL.out (grown_le _ _ _ _) (by have := HS.out; omega)).mono ?_; rintro e w4 ⟨v, rfl, ho, hb⟩; have m0 := (hb.cell (World.block_lt_of_cell? _ _ HK0.out)).trans HK0.out; have m1 := (hb.cell (World.block_lt_of_cell? _ _ HK1.out)).trans HK1.out; have HB4 := Aside0.mk (below_step HBW.out hb); have HR3c := Aside0.mk (Kd.C_below HR3b.out hb); clear hb; obtain ⟨A5, c5, rfl, hl_, hr_⟩ := Ob.reads ho; have HR5 := Aside0.mk hr_; have HL5 := Aside0.mk hl_; clear ho hl_ hr_)
    | (go_simp; go_at_call 57; refine (int_c size _).mono ?_; rintro e w5 ⟨v, rfl, ho, hb⟩; have q0 := (hb.cell (World.block_lt_of_cell? _ _ m0)).trans m0; have q1 := (hb.cell (World.block_lt_of_cell? _ _ m1)).trans m1; have HB5 := Aside0.mk (below_step HB4.out hb); have HR3d := Aside0.mk (Kd.C_below HR3c.out hb); have HR5b := Aside0.mk (Kd.C_below HR5.out hb); clear hb; obtain ⟨A6, c6, rfl, hl_, hr_⟩ := Ob.reads ho; have HR6 := Aside0.mk hr_; have HL6 := Aside0.mk hl_; clear ho hl_ hr_; have HROWS := Aside0.mk (rows3 HR5b.out HL5.out HR6.out HL6.out HR3d.out HL3.out))
    | (go_simp; go_at_call 55; refine (all_c (some ⟨_, 0, none⟩) 3 [textB (bytesOf nm), intB size, X] _ (rows_new _ _ HROWS.out (by simp)) (by simp) (by simp) HPL.out).mono ?_; rintro e w6 ⟨v, rfl, ho, hb⟩; have s0 := (hb.cell (World.block_lt_of_cell? _ _ (cell_al q0 _))).trans (cell_al q0 _); have s1 := (hb.cell (World.block_lt_of_cell? _ _ (cell_al q1 _))).trans (cell_al q1 _); have HB6 := Aside0.mk (below_step (below_alloc HB5.out _) hb); rw [HP.out] at ho; have HO7 := Aside0.mk (Kd.R_lower ho (below_alloc HB5.out _).size); obtain ⟨A7, c7, rfl, _, _⟩ := Ob.reads ho; clear hb ho))
  all_goals
    go_wp2
    go_ret2
    exact ⟨_, rfl, HO7.out, HB6.out⟩
end Go.Proofs.Ytgdpabedlghiaaa.InodePut
/- The document's Put. -/
namespace Go.Proofs.Ytgdpabedlghiaaa.InodePut
open Go.RowKit Go.Proofs.Ytgdpabedlghiaaa.Base Go.Proofs.Ytgdpabedlghiaaa.Name Go.Proofs.Ytgdpabedlghiaaa.InodeEv Go.Proofs.Ytgdpabedlghiaaa.AllocEv Go.Proofs.Ytgdpabedlghiaaa.Lo Go.Proofs.Ytgdpabedlghiaaa.TlvPlain Go.Proofs.Ytgdpabedlghiaaa.Aid Go.Proofs.Ytgdpabedlghiaaa.PZ Go.Proofs.YtgdpabedlghiaaaW.PrintWords Go.Proofs.YtgdpabedlghiaaaW.PrintLast Go.Proofs.YtgdpabedlghiaaaW.PrintMore

theorem may_c (nm : ByteArray) (size : Int) (A : Option Addr) (c : Nat) (at_ : List Int) (n : Int) (w : World) (hr : Kd.C (Kd.int .i64) w A at_.length at_) (hc : at_.length ≤ c) (hl : at_.length ≤ 4611686018427387904) (hs : nm.size ≤ 1000) :
    Calls Try.prog 58 #[.agg #[.string nm, .int .i64 size, .slice A at_.length c], .int .i64 n] w fun e w' => e = .returned (.bool (mayB nm size at_ n)) ∧ Below w.heap.size w w' := by
  obtain ⟨k, h⟩ := (may_ev nm size at_ n hl (by omega)).rounds
  exact hanaperref12_May.calls k nm size A c at_ n _ w hr hc h
theorem rbits_c (A : Option Addr) (c : Nat) (at_ : List Int) (n : Int) (w : World) (hr : Kd.C (Kd.int .i64) w A at_.length at_) (hc : at_.length ≤ c) (hl : at_.length ≤ 4611686018427387904) :
    Calls Try.prog 59 #[.slice A at_.length c, .int .i64 n] w fun e w' => ∃ v, e = .returned (.tuple #[v, .bool (bitsSpec at_ n).2]) ∧ Ob w' w.heap.size v (bitsSpec at_ n).1 ∧ Below w.heap.size w w' := by
  obtain ⟨k, h⟩ := (bits_doc_ev at_ n hl).rounds
  exact hanaperref11_Bits.calls k A c at_ n _ _ w hr hc h
theorem rtext_n (A0 : Option Addr) (c0 n0 : Nat) (l : List Int) (w : World) (h0 : Rb w A0 l) (e0 : l.length = n0) (hc0 : n0 ≤ c0) (hn : n0 ≤ 100000) :
    Calls Try.prog 60 #[.slice A0 n0 c0] w (Makes w (textB l)) := by
  subst e0
  exact rtext_c A0 c0 l w h0 hc0 (by omega)

set_option maxHeartbeats 2000000 in
set_option maxRecDepth 100000 in
theorem rput_no (nm : ByteArray) (size : Int) (A : Option Addr) (c : Nat) (at_ : List Int) (n : Int) (w : World) (hr : Kd.C (Kd.int .i64) w A at_.length at_) (hc : at_.length ≤ c) (hl : at_.length ≤ 1000) (hm : mayB nm size at_ n = false) (hs : nm.size ≤ 1000) :
    Calls Try.prog 17 #[.agg #[.string nm, .int .i64 size, .slice A at_.length c], .int .i64 n] w fun e w' => e = .returned (.tuple #[.slice none 0 0, .int .i64 1]) ∧ Below w.heap.size w w' := by
  have hC := fun W (h : Below w.heap.size w W) => may_c nm size A c at_ n W (Kd.C_below hr h) hc (by omega) hs
  rw [hm] at hC
  have HC := Aside0.mk hC
  clear hC hr hc hl hm
  go_enter Try.func17, Try.ntmps17
  go_wp2_with (go_at_call 58; refine (HC.out _ (below_alloc (Below.refl _ _) _)).mono ?_; rintro e w1 ⟨rfl, hb⟩)
  go_ret2
  exact ⟨rfl, below_step (below_alloc (Below.refl _ _) _) hb⟩

set_option maxHeartbeats 2000000 in
set_option maxRecDepth 100000 in
theorem rput_yes (nm : ByteArray) (size : Int) (A : Option Addr) (c : Nat) (at_ : List Int) (n : Int) (w : World) (hr : Kd.C (Kd.int .i64) w A at_.length at_) (hc : at_.length ≤ c) (hl : at_.length ≤ 1000) (hm : mayB nm size at_ n = true) (hs : nm.size ≤ 1000) :
    Calls Try.prog 17 #[.agg #[.string nm, .int .i64 size, .slice A at_.length c], .int .i64 n] w fun e w' => ∃ v, e = .returned (.tuple #[v, .int .i64 0]) ∧ Ob w' w.heap.size v (putB nm size at_ n) ∧ Below w.heap.size w w' := by
  have hC := fun W (h : Below w.heap.size w W) => may_c nm size A c at_ n W (Kd.C_below hr h) hc (by omega) hs
  rw [hm] at hC
  have HC := Aside0.mk hC
  have hBt := fun W (h : Below w.heap.size w W) => rbits_c A c at_ n W (Kd.C_below hr h) hc (by omega)
  have hbl := bitsSpec_len at_ n
  obtain ⟨X, hX⟩ : ∃ X, (bitsSpec at_ n).1 = X := ⟨_, rfl⟩
  obtain ⟨P, hP⟩ : ∃ P, textB (bytesOf nm) ++ intB size ++ X = P := ⟨_, rfl⟩
  have hPP : putB nm size at_ n = P := by unfold putB; rw [hX, ← hP]; simp
  rw [hPP]
  rw [hX] at hBt hbl
  have HBt := Aside0.mk hBt
  have HBL := Aside0.mk hbl
  have HP := Aside0.mk hP
  have kb := fun W => print_bytes (P := Try.prog) 9 27 5 Try.underlying9 Try.underlying27 Try.underlying5 nm W
  have HS := Aside0.mk hs
  clear hC hBt hr hc hl hm hX hP hPP hbl
  go_enter Try.func17, Try.ntmps17
  go_wp2_with (go_at_call 58; refine (HC.out _ (below_alloc (Below.refl _ _) _)).mono ?_; rintro e w1 ⟨rfl, hb⟩; have HB := Aside0.mk (below_step (below_alloc (Below.refl _ _) _) hb); have hc0 : w1.cell? ⟨w.heap.size, 0, none⟩ = some (.string nm) := (hb.cell (p := ⟨w.heap.size, 0, none⟩) (by simp)).trans (by simp [World.cell?_alloc_new]); have hc1 : w1.cell? ⟨w.heap.size, 1, none⟩ = some (.int .i64 size) := (hb.cell (p := ⟨w.heap.size, 1, none⟩) (by simp)).trans (by simp [World.cell?_alloc_new]); have hc2 : w1.cell? ⟨w.heap.size, 2, none⟩ = some (.slice A at_.length c) := (hb.cell (p := ⟨w.heap.size, 2, none⟩) (by simp)).trans (by simp [World.cell?_alloc_new]); clear hb)
  refine (HBt.out _ HB.out).mono ?_
  rintro e w2 ⟨v, rfl, ho, hb⟩
  have d0 : w2.cell? ⟨w.heap.size, 0, none⟩ = some (.string nm) := (hb.cell (World.block_lt_of_cell? w1 _ hc0)).trans hc0
  have d1 : w2.cell? ⟨w.heap.size, 1, none⟩ = some (.int .i64 size) := (hb.cell (World.block_lt_of_cell? w1 _ hc1)).trans hc1
  have HB2 := Aside0.mk (below_step HB.out hb)
  obtain ⟨A3, c3, rfl, hl3, hr3⟩ := Ob.reads ho
  have HL3 := Aside0.mk hl3
  obtain ⟨bw, hbw⟩ : ∃ bw, Lib.bytesWorld w2.drew 5 nm = bw := ⟨_, rfl⟩
  have HTR := Aside0.mk (show Rb bw (some ⟨w2.drew.heap.size, 0, none⟩) (bytesOf nm) by
    rw [← hbw]
    have h := Kd.C_of_reads (d := (0 : Int)) (h1 := fun _ => rfl) (bytes_reads w2.drew 5 nm (by omega))
    show Kd.C _ _ _ (bytesOf nm).length (bytesOf nm)
    rw [bytesOf_length]
    exact h)
  have HBW := Aside0.mk (show Below w.heap.size w bw by rw [← hbw]; exact bytes_below (below_drew1 HB2.out) (below_drew1 HB2.out).size 5 nm)
  have HR3 := Aside0.mk (show Rb bw A3 X by rw [← hbw]; exact Kd.C_below (Kd.C_drew hr3) (bytes_below (Below.refl w2.drew.heap.size w2.drew) (Nat.le_refl _) 5 nm))
  have k0 : bw.cell? ⟨w.heap.size, 0, none⟩ = some (.string nm) := by rw [← hbw]; exact (Lib.bytesWorld_old w2.drew 5 nm _ (World.block_lt_of_cell? w2 _ d0)).trans d0
  have k1 : bw.cell? ⟨w.heap.size, 1, none⟩ = some (.int .i64 size) := by rw [← hbw]; exact (Lib.bytesWorld_old w2.drew 5 nm _ (World.block_lt_of_cell? w2 _ d1)).trans d1
  have kb2 := kb w2.drew
  rw [hbw] at kb2
  have HK0 := Aside0.mk k0
  have HK1 := Aside0.mk k1
  have HT := Aside0.mk (numB_len (n := ((bytesOf nm).length : Int)) (by rw [bytesOf_length]; omega))
  have HI := Aside0.mk (numB_len (n := IntKind.u64.wrap size) (u64_range size).2)
  have HNL := Aside0.mk (bytesOf_length nm)
  have HPL := Aside0.mk (show (textB (bytesOf nm)).length ≤ 1010 ∧ (intB size).length ≤ 9 by
    have h1 := HT.out
    have h2 := HI.out
    simp only [List.length_append, intB, textB, bytesOf_length] at *
    omega)
  clear ho hl3 hr3 hb hc0 hc1 hc2 HB HC HBt hs hbw kb
  go_wp2_with (fail)
  go_region_law (first
    | (go_simp; go_at_call 60; refine (rtext_n (some ⟨_, 0, none⟩) _ nm.size (bytesOf nm) _ HTR.out HNL.out (grown_le _ _ _ _) (by have := HS.out; omega)).mono ?_; rintro e w4 ⟨v4, rfl, ho, hb⟩; have m0 := (hb.cell (World.block_lt_of_cell? _ _ HK0.out)).trans HK0.out; have m1 := (hb.cell (World.block_lt_of_cell? _ _ HK1.out)).trans HK1.out; have HB4 := Aside0.mk hb; have HO4 := Aside0.mk ho; clear hb ho)
    | (go_simp; go_at_call 61; refine (rint_c size _).mono ?_; rintro e w5 ⟨v5, rfl, ho, hb⟩; have q0 := (hb.cell (World.block_lt_of_cell? _ _ m0)).trans m0; have q1 := (hb.cell (World.block_lt_of_cell? _ _ m1)).trans m1; have HB5 := Aside0.mk (below_step HB4.out hb); have HO5 := Aside0.mk (Kd.R_below HO4.out hb); clear hb; obtain ⟨A6, c6, rfl, hl_, hr_⟩ := Ob.reads ho; have HR6 := Aside0.mk hr_; have HL6 := Aside0.mk hl_; clear ho hl_ hr_)
    | (refine Kd.R_append_rows_step (Kd.int .u8) (w0 := bw) bw.heap.size rfl (.tmp 22) (.tmp 25) 27 5 (.int .u8 0) 1 rfl Try.underlying27 info_u8 rfl (by decide) (by omega) v4 (textB (bytesOf nm)) (intB size) _ _ _ (fun _ => True) (fun _ => False) rfl rfl HO5.out HR6.out (fun _ _ h => h) (fun _ h => h.elim) (fun _ _ => trivial) HB5.out HB5.out.size (by have := HPL.out; omega) ?_; intro v7 w7 ho hb hg hat; have HO7 := Aside0.mk ho; have HB7 := Aside0.mk hb; have r0 := (hb.cell (World.block_lt_of_cell? _ _ HK0.out)).trans HK0.out; have r1 := (hb.cell (World.block_lt_of_cell? _ _ HK1.out)).trans HK1.out; clear ho hb hg hat)
    | (refine Kd.R_append_rows_step (Kd.int .u8) (w0 := bw) bw.heap.size rfl (.tmp 26) (.tmp 27) 27 5 (.int .u8 0) 1 rfl Try.underlying27 info_u8 rfl (by decide) (by omega) v7 (textB (bytesOf nm) ++ intB size) X _ _ _ (fun _ => True) (fun _ => False) rfl rfl HO7.out (Kd.C_below HR3.out HB7.out) (fun _ _ h => h) (fun _ h => h.elim) (fun _ _ => trivial) HB7.out HB7.out.size (by have := HPL.out; have := HBL.out; rw [List.length_append]; omega) ?_; intro v8 w8 ho hb hg hat; rw [HP.out] at ho; have HO8 := Aside0.mk (Kd.R_lower ho HBW.out.size); have HB8 := Aside0.mk (below_step HBW.out hb); have s0 := (hb.cell (World.block_lt_of_cell? _ _ HK0.out)).trans HK0.out; have s1 := (hb.cell (World.block_lt_of_cell? _ _ HK1.out)).trans HK1.out; obtain ⟨A8, c8, rfl⟩ := Kd.R_slice ho; clear ho hb hg hat))
  all_goals
    go_wp2
    go_ret2
    exact ⟨_, rfl, HO8.out, HB8.out⟩
end Go.Proofs.Ytgdpabedlghiaaa.InodePut
/- Lists of bytes that are the same. -/
namespace Go.Proofs.Ytgdpabedlghiaaa.Same0
open Go.Proofs.Ytgdpabedlghiaaa.Base Go.Proofs.Ytgdpabedlghiaaa.Aid Go.RowKit Go.Proofs.YtgdpabedlghiaaaW.PrintWords Go.Proofs.YtgdpabedlghiaaaW.PrintLast Go.Proofs.YtgdpabedlghiaaaW.PrintMore Go.Proofs.Ytgdpabedlghiaaa.PZ

theorem same_from (a b : List Int) (hl : a.length = b.length) (hn : a.length ≤ 4611686018427387904) : ∀ (d i : Nat), i + d = a.length →
    Ev (fun k => hanaperref01_Same.l0 k a b i) (decide (a.drop i = b.drop i)) := by
  intro d
  induction d with
  | zero =>
    intro i hi
    refine Ev.step (fun k => by simp only [hanaperref01_Same.l0]; rfl) ?_
    refine neg (by omega) (now ?_)
    rw [List.drop_of_length_le (by omega), List.drop_of_length_le (by omega)]; simp
  | succ d ih =>
    intro i hi
    refine Ev.step (fun k => by simp only [hanaperref01_Same.l0]; rfl) ?_
    refine pos (by omega) (pos (by omega) (pos (by omega) ?_))
    rw [rd_nat a i (by omega), rd_nat b i (by omega), drop_cons a i (by omega), drop_cons b i (by omega), inc (show i < a.length by omega) hn]
    by_cases e : a[i]'(by omega) = b[i]'(by omega)
    · refine pos e ?_
      have := ih (i + 1) (by omega)
      generalize a.drop (i + 1) = A at this ⊢
      generalize b.drop (i + 1) = B at this ⊢
      simpa [e] using this
    · refine neg e (now ?_)
      generalize a.drop (i + 1) = A
      generalize b.drop (i + 1) = B
      simp [e]
theorem same_ev (a b : List Int) (hn : a.length ≤ 4611686018427387904) : Ev (fun k => hanaperref01_Same.f k a b) (decide (a = b)) := by
  unfold hanaperref01_Same.f
  by_cases e : a.length = b.length
  · refine pos (by omega) ?_
    simpa using same_from a b e hn a.length 0 (by omega)
  · refine neg (by omega) (now ?_)
    have : a ≠ b := fun h => e (by rw [h])
    simp [this]
theorem same_c (A0 : Option Addr) (c0 : Nat) (a : List Int) (A1 : Option Addr) (c1 : Nat) (b : List Int) (w : World) (h0 : Rb w A0 a) (hc0 : a.length ≤ c0) (h1 : Rb w A1 b) (hc1 : b.length ≤ c1) (hn : a.length ≤ 4611686018427387904) :
    Calls Try.prog 18 #[.slice A0 a.length c0, .slice A1 b.length c1] w fun e w' => e = .returned (.bool (decide (a = b))) ∧ Drawn0 w w' := by
  obtain ⟨k, h⟩ := (same_ev a b hn).rounds
  exact hanaperref01_Same.calls k A0 c0 a A1 c1 b _ w h0 hc0 h1 hc1 h
theorem same_n (A0 : Option Addr) (c0 n0 : Nat) (a : List Int) (A1 : Option Addr) (c1 n1 : Nat) (b : List Int) (w : World) (h0 : Rb w A0 a) (e0 : a.length = n0) (hc0 : n0 ≤ c0) (h1 : Rb w A1 b) (e1 : b.length = n1) (hc1 : n1 ≤ c1) (hn : n0 ≤ 4611686018427387904) :
    Calls Try.prog 18 #[.slice A0 n0 c0, .slice A1 n1 c1] w fun e w' => e = .returned (.bool (decide (a = b))) ∧ Drawn0 w w' := by
  subst e0; subst e1
  exact same_c A0 c0 a A1 c1 b w h0 hc0 h1 hc1 hn
theorem same_t (A0 : Option Addr) (c0 n0 : Nat) (a : List Int) (A1 : Option Addr) (c1 n1 : Nat) (b : List Int) (w : World) (h0 : Rb w A0 a) (e0 : a.length = n0) (hc0 : n0 ≤ c0) (h1 : Rb w A1 b) (e1 : b.length = n1) (hc1 : n1 ≤ c1) (hn : n0 ≤ 4611686018427387904) (he : a = b) :
    Calls Try.prog 18 #[.slice A0 n0 c0, .slice A1 n1 c1] w fun e w' => e = .returned (.bool true) ∧ Drawn0 w w' := by
  refine (same_n A0 c0 n0 a A1 c1 n1 b w h0 e0 hc0 h1 e1 hc1 hn).mono ?_
  rintro e w' ⟨rfl, h⟩
  exact ⟨by rw [decide_eq_true he], h⟩
end Go.Proofs.Ytgdpabedlghiaaa.Same0
-- printed for this claim by a program (pall.sh)
namespace Go.Proofs.Ytgdpabedlghiaaa.PZ
open Go.RowKit Go.Proofs.YtgdpabedlghiaaaW.PrintWords Go.Proofs.YtgdpabedlghiaaaW.PrintLast Go.Proofs.YtgdpabedlghiaaaW.PrintMore
attribute [local go_sem] max2_int min2_int max_two min_two max_three min_three max_four min_four   -- for this text's walks alone
set_option linter.unusedVariables false
set_option linter.unusedSimpArgs false

/-! ### hanaperlaw12_num: function 19 -/
def hanaperlaw12_num.f (a0 : Int) : Option (Int) := some a0
set_option maxHeartbeats 8000000 in
set_option maxRecDepth 100000 in
theorem hanaperlaw12_num.calls (a0 : Int) (r : Int) (w : World) (h : hanaperlaw12_num.f a0 = some r) :
    Calls Try.prog 19 #[.int .i64 a0] w fun e w' => e = .returned (.int .i64 r) ∧ Drawn0 w w' := by
  have H : (some a0) = some r := h
  clear h
  obtain rfl := Option.some.inj H
  go_enter Try.func19, Try.ntmps19
  go_wp2
  go_ret
  exact ⟨by first | rfl | (simp; done) | (simp [*]; done), by repeat (first | exact Drawn0.refl _ | apply Drawn0.step)⟩

end Go.Proofs.Ytgdpabedlghiaaa.PZ
/- The example of layer 12. -/
namespace Go.Proofs.Ytgdpabedlghiaaa.InodeLive
open Go.RowKit Go.Proofs.Ytgdpabedlghiaaa.Base Go.Proofs.Ytgdpabedlghiaaa.Name Go.Proofs.Ytgdpabedlghiaaa.InodeEv Go.Proofs.Ytgdpabedlghiaaa.InodePut Go.Proofs.Ytgdpabedlghiaaa.AllocEv Go.Proofs.Ytgdpabedlghiaaa.Lo Go.Proofs.Ytgdpabedlghiaaa.TlvPlain Go.Proofs.Ytgdpabedlghiaaa.Aid Go.Proofs.Ytgdpabedlghiaaa.PZ Go.Proofs.YtgdpabedlghiaaaW.PrintWords Go.Proofs.YtgdpabedlghiaaaW.PrintLast Go.Proofs.YtgdpabedlghiaaaW.PrintMore

theorem name_a : nameB ⟨#[97]⟩ = true := by decide +kernel
theorem name_b : nameB ⟨#[97, 45, 49, 46, 120]⟩ = true := by decide +kernel
theorem name_A : nameB ⟨#[65]⟩ = false := by decide +kernel
theorem bits_l : bitsSpec [2] 8 = ([32], true) := by decide +kernel
theorem may_l : mayB ⟨#[97]⟩ 1 [2] 8 = true := by
  unfold mayB
  rw [name_a, bits_l]
  decide +kernel
theorem textB_a : textB [97] = [1, 1, 97] := by
  unfold textB numB
  rw [show (([97] : List Int).length : Int).toNat = 1 from rfl, be_pos (by omega), show 1 / 256 = 0 from rfl, be_zero]; rfl
theorem intB_1 : intB 1 = [1, 1] := by
  unfold intB numB
  rw [show (IntKind.u64.wrap 1).toNat = 1 from rfl, be_pos (by omega), show 1 / 256 = 0 from rfl, be_zero]; rfl
theorem put_l : putB ⟨#[97]⟩ 1 [2] 8 = [1, 1, 97, 1, 1, 32] := by
  unfold putB
  rw [show bytesOf ⟨#[97]⟩ = [97] from rfl, textB_a, intB_1, bits_l]
  rfl
def putS (nm : ByteArray) (size : Int) (at_ : List Int) (n : Int) : List Int × Int := if mayB nm size at_ n = true then (putB nm size at_ n, 0) else ([], 1)
theorem put_c (nm : ByteArray) (size : Int) (A : Option Addr) (c : Nat) (at_ : List Int) (n : Int) (w : World) (hr : Kd.C (Kd.int .i64) w A at_.length at_) (hc : at_.length ≤ c) (hl : at_.length ≤ 1000) (hs : nm.size ≤ 1000) :
    Calls Try.prog 16 #[.agg #[.string nm, .int .i64 size, .slice A at_.length c], .int .i64 n] w fun e w' => ∃ v, e = .returned (.tuple #[v, .int .i64 (putS nm size at_ n).2]) ∧ Ob w' w.heap.size v (putS nm size at_ n).1 ∧ Below w.heap.size w w' := by
  unfold putS
  cases hm : mayB nm size at_ n with
  | true => exact put_yes nm size A c at_ n w hr hc hl hm hs
  | false =>
    refine (put_no nm size A c at_ n w hr hc hl hm).mono ?_
    rintro e w' ⟨rfl, hb⟩
    exact ⟨_, rfl, Kd.R_nil _ _ _ _ _, hb⟩
theorem rput_c (nm : ByteArray) (size : Int) (A : Option Addr) (c : Nat) (at_ : List Int) (n : Int) (w : World) (hr : Kd.C (Kd.int .i64) w A at_.length at_) (hc : at_.length ≤ c) (hl : at_.length ≤ 1000) (hs : nm.size ≤ 1000) :
    Calls Try.prog 17 #[.agg #[.string nm, .int .i64 size, .slice A at_.length c], .int .i64 n] w fun e w' => ∃ v, e = .returned (.tuple #[v, .int .i64 (putS nm size at_ n).2]) ∧ Ob w' w.heap.size v (putS nm size at_ n).1 ∧ Below w.heap.size w w' := by
  unfold putS
  cases hm : mayB nm size at_ n with
  | true => exact rput_yes nm size A c at_ n w hr hc hl hm hs
  | false =>
    refine (rput_no nm size A c at_ n w hr hc hl hm hs).mono ?_
    rintro e w' ⟨rfl, hb⟩
    exact ⟨_, rfl, Kd.R_nil _ _ _ _ _, hb⟩
theorem one_int (w : World) (x : Int) (T : Nat) : Kd.C (Kd.int .i64) (w.alloc (.cells #[.int .i64 x] T)) (some ⟨w.heap.size, 0, none⟩) 1 [x] := by
  refine Kd.C_of_reads (d := (0 : Int)) ⟨rfl, by omega, fun _ => ⟨_, rfl, fun j hj => ?_⟩⟩
  have h0 : j = 0 := by omega
  subst h0
  rw [show (⟨w.heap.size, 0, none⟩ : Addr).add 0 = ⟨w.heap.size, 0, none⟩ from rfl]
  simp [World.cell?_alloc_new]
theorem put_live (w : World) (T : Nat) :
    Calls Try.prog 16 #[.agg #[.string ⟨#[97]⟩, .int .i64 1, .slice (some ⟨w.heap.size, 0, none⟩) 1 1], .int .i64 8] (w.alloc (.cells #[.int .i64 2] T)) fun e w' => ∃ v, e = .returned (.tuple #[v, .int .i64 0]) ∧ Ob w' w.heap.size v [1, 1, 97, 1, 1, 32] ∧ Below w.heap.size w w' := by
  refine (put_yes ⟨#[97]⟩ 1 (some ⟨w.heap.size, 0, none⟩) 1 [2] 8 _ (one_int w 2 T) (by simp) (by simp) may_l (by decide)).mono ?_
  rintro e w' ⟨v, rfl, ho, hb⟩
  rw [put_l] at ho
  exact ⟨v, rfl, Kd.R_lower ho (by simp), below_step (below_alloc (Below.refl _ _) _) hb⟩
theorem num_c (a : Int) (w : World) : Calls Try.prog 19 #[.int .i64 a] w fun e w' => e = .returned (.int .i64 a) ∧ Drawn0 w w' := hanaperlaw12_num.calls a a w rfl

set_option maxHeartbeats 2000000 in
set_option maxRecDepth 100000 in
theorem live_c (w : World) : Calls Try.prog 15 #[] w fun e w' => e = .returned (.bool true) ∧ Below w.heap.size w w' := by
  have HN1 := Aside0.mk name_b
  have HN2 := Aside0.mk name_A
  go_enter Try.func15, Try.ntmps15
  go_wp2_with (fail)
  refine (put_live _ _).mono ?_
  rintro e w1 ⟨v, rfl, ho, hb⟩
  have HB := Aside0.mk hb
  clear hb
  obtain ⟨A1, c1, rfl, hl_, hr_⟩ := Ob.reads ho; have HR1 := Aside0.mk hr_; have HL1 := Aside0.mk hl_; clear ho hl_ hr_
  go_wp2_with (fail)
  refine (num_c _ _).mono ?_
  rintro e w2 ⟨rfl, hd⟩
  have hb := Drawn0.below hd
  have n1_ := Aside0.mk (below_step HB.out hb); clear HB; have HB := n1_; clear n1_
  have n2_ := Aside0.mk (Kd.C_below HR1.out hb); clear HR1; have HR1 := n2_; clear n2_
  clear hb hd
  go_wp2_with (first
    | ((with_reducible refine gate_dst (N := 14) rfl ?_); (try (refine gate_guard (by rfl) ?_; dsimp only)); refine lit_bytes (N := 14) ?hg ?hd [1, 1, 97, 1, 1, 32] [.int .u8 (1), .int .u8 (1), .int .u8 (97), .int .u8 (1), .int .u8 (1), .int .u8 (32)] rfl ?hr (by simp) ?_; (case hd => rfl); (case hg => rfl); (case hr => first | (go_simp; done) | (go_simp; rfl)); intro v w1 ho hb; have n1_ := Aside0.mk (below_step HB.out hb); clear HB; have HB := n1_; clear n1_; have n2_ := Aside0.mk (Kd.C_below HR1.out hb); clear HR1; have HR1 := n2_; clear n2_; clear hb; obtain ⟨A2, c2, rfl, hl_, hr_⟩ := Ob.reads ho; have HR2 := Aside0.mk hr_; have HL2 := Aside0.mk hl_; clear ho hl_ hr_)
    | (go_at_call 18; refine (Same0.same_t A1 c1 6 [1, 1, 97, 1, 1, 32] A2 c2 6 [1, 1, 97, 1, 1, 32] _ HR1.out rfl HL1.out HR2.out rfl HL2.out (by simp) rfl).mono ?_; rintro e w5 ⟨rfl, hd⟩; have hb := Drawn0.below hd; clear hd HR1 HR2 HL1 HL2; have n1_ := Aside0.mk (below_step HB.out hb); clear HB; have HB := n1_; clear n1_; clear hb))
  go_wp2_with (fail)
  refine (name_c ⟨#[97, 45, 49, 46, 120]⟩ _).mono ?_
  rintro e w6 ⟨rfl, hb⟩
  rw [HN1.out]
  have n1_ := Aside0.mk (below_step HB.out hb); clear HB; have HB := n1_; clear n1_
  clear hb
  go_wp2_with (fail)
  refine (name_c ⟨#[65]⟩ _).mono ?_
  rintro e w7 ⟨rfl, hb⟩
  rw [HN2.out]
  have n1_ := Aside0.mk (below_step HB.out hb); clear HB; have HB := n1_; clear n1_
  clear hb
  go_wp2
  go_ret
  exact ⟨rfl, HB.out⟩
end Go.Proofs.Ytgdpabedlghiaaa.InodeLive
/- Which inode bytes are, in plain words; what was put is got, and back. -/
namespace Go.Proofs.Ytgdpabedlghiaaa.InodeBk
open Go.RowKit Go.Proofs.Ytgdpabedlghiaaa.Aid Go.Proofs.Ytgdpabedlghiaaa.Base Go.Proofs.Ytgdpabedlghiaaa.TlvPlain Go.Proofs.Ytgdpabedlghiaaa.Lo Go.Proofs.Ytgdpabedlghiaaa.RdPlain Go.Proofs.Ytgdpabedlghiaaa.AllocEv Go.Proofs.Ytgdpabedlghiaaa.AllocPlain Go.Proofs.Ytgdpabedlghiaaa.InodeEv Go.Proofs.Ytgdpabedlghiaaa.InodePut Go.Proofs.Ytgdpabedlghiaaa.InodeLive Go.Proofs.YtgdpabedlghiaaaW.PrintWords
theorem back_spec (l : List Int) (n : Int) (h : (bitsSpec l n).2 = true) : listSpec (bitsSpec l n).1 n = (l, true) := by
  unfold bitsSpec at h ⊢
  by_cases h1 : 0 ≤ n ∧ n ≤ 4096
  · rw [if_pos h1] at h ⊢
    cases hi : incr n (-1) l with
    | false => rw [hi] at h; cases h
    | true =>
      simp only [cond_true]
      have e : listFrom (bitsOf (mem l) ((n.toNat + 7) / 8)) 0 = l := list_bits hi _ (by omega)
      unfold listSpec
      rw [if_pos ⟨h1.1, h1.2, bitsOf_length _ _⟩, e]
      have ho : outOf n l = false := by
        unfold outOf
        rw [List.any_eq_false]
        intro x hx
        have := incr_take_mem hi x hx
        simp
        omega
      rw [ho]
      rfl
  · rw [if_neg h1] at h
    cases h
theorem bits_u8 (l : List Int) (n : Int) : U8 (bitsSpec l n).1 := by
  unfold bitsSpec
  split
  · cases incr n (-1) l with
    | false => exact fun x hx => by cases hx
    | true =>
      intro x hx
      simp only [cond_true, bitsOf, List.mem_map] at hx
      obtain ⟨j, _, rfl⟩ := hx
      exact byteAt_range _ _
  · exact fun x hx => by cases hx
theorem byte_tab : ∀ x : Fin 256, byteAt (fun i => decide (((x.val : Int) / 2 ^ (7 - i % 8)) % 2 = 1)) 0 = (x.val : Int) := by decide +kernel
theorem byteAt_shift (f : Nat → Bool) (j : Nat) : byteAt f j = byteAt (fun i => f (8 * j + i)) 0 := by
  unfold byteAt
  simp
theorem bits_list {b : List Int} (hu : U8 b) : bitsOf (mem (listFrom b 0)) b.length = b := by
  apply List.ext_getElem?
  intro j
  by_cases hj : j < b.length
  · have h1 := bitsOf_get (mem (listFrom b 0)) b.length j hj
    rw [List.getD_eq_getElem?_getD, List.getElem?_eq_getElem (by rw [bitsOf_length]; exact hj)] at h1
    rw [List.getElem?_eq_getElem (by rw [bitsOf_length]; exact hj), List.getElem?_eq_getElem hj]
    congr 1
    simp only [Option.getD_some] at h1
    rw [h1]
    have hx := hu _ (List.getElem_mem hj)
    have t := byte_tab ⟨b[j].toNat, by omega⟩
    dsimp only at t
    rw [show ((b[j].toNat : Nat) : Int) = b[j] from by omega] at t
    rw [← t]
    conv => rhs; rw [t]
    rw [byteAt_shift]
    conv => rhs; rw [← t]
    refine byteAt_congr (fun i _ hi => ?_)
    have hm : mem (listFrom b 0) (8 * j + i) = bitAt b (8 * j + i) := by
      unfold mem listFrom
      rw [Bool.eq_iff_iff, decide_eq_true_iff]
      simp only [List.drop_zero, List.mem_map, List.mem_filter, List.mem_range]
      constructor
      · rintro ⟨k, ⟨_, h2⟩, h3⟩
        have : k = 8 * j + i := by omega
        rw [← this]; exact h2
      · intro h
        exact ⟨8 * j + i, ⟨by omega, h⟩, rfl⟩
    rw [hm]
    unfold bitAt
    rw [show (8 * j + i) / 8 = j by omega, show (8 * j + i) % 8 = i % 8 by omega, List.getD_eq_getElem?_getD, List.getElem?_eq_getElem hj]
    rfl
  · rw [List.getElem?_eq_none (by rw [bitsOf_length]; omega), List.getElem?_eq_none (by omega)]
theorem list_back {b : List Int} (hu : U8 b) {n : Int} {l : List Int} (h : listSpec b n = (l, true)) (hb : (bitsSpec l n).2 = true) : (bitsSpec l n).1 = b := by
  unfold listSpec at h
  split at h
  · next hc =>
    cases ho : outOf n (listFrom b 0) with
    | true => rw [ho] at h; cases h
    | false =>
      rw [ho] at h
      simp only [cond_false, Prod.mk.injEq, and_true] at h
      subst h
      unfold bitsSpec at hb ⊢
      rw [if_pos ⟨hc.1, hc.2.1⟩] at hb ⊢
      cases hi : incr n (-1) (listFrom b 0) with
      | false => rw [hi] at hb; cases hb
      | true =>
        simp only [cond_true]
        rw [← hc.2.2]
        exact bits_list hu
  · cases h
/-- Which inode bytes are. -/
def getS (b : List Int) (n : Int) : (ByteArray × Int × List Int) × Int :=
  match (countO (textO (some b) 16).2 24576).2 with
  | none => ((⟨#[]⟩, 0, []), 2)
  | some rest => if (listSpec rest n).2 = true ∧ mayB (strOfNums (textO (some b) 16).1) (countO (textO (some b) 16).2 24576).1 (listSpec rest n).1 n = true then ((strOfNums (textO (some b) 16).1, (countO (textO (some b) 16).2 24576).1, (listSpec rest n).1), 0) else ((⟨#[]⟩, 0, []), 2)
theorem may_parts {nm : ByteArray} {size : Int} {at_ : List Int} {n : Int} (h : mayB nm size at_ n = true) : nm.size ≤ 16 ∧ 0 ≤ size ∧ size ≤ 24576 ∧ 0 ≤ n ∧ n ≤ 1024 ∧ (bitsSpec at_ n).2 = true := by
  unfold mayB at h
  simp only [Bool.and_eq_true, decide_eq_true_eq] at h
  obtain ⟨a, b, c, d, e, f, _⟩ := h
  rw [Name.name_iff] at a
  simp only [Bool.and_eq_true, decide_eq_true_eq] at a
  exact ⟨a.2.2, d, e, b, c, f⟩
theorem get_put {nm : ByteArray} {size : Int} {at_ : List Int} {n : Int} (h : mayB nm size at_ n = true) : getS (putB nm size at_ n) n = ((nm, size, at_), 0) := by
  obtain ⟨h1, h2, h3, h4, h5, h6⟩ := may_parts h
  have e : putB nm size at_ n = textB (bytesOf nm) ++ (numB size ++ (bitsSpec at_ n).1) := by
    unfold putB intB
    rw [u64 h2 (by omega)]
    simp
  have t1 := text_textB (l := bytesOf nm) (most := 16) (by rw [bytesOf_length]; omega) (by decide) (numB size ++ (bitsSpec at_ n).1)
  have t2 := count_numB (n := size) (most := 24576) h2 h3 (by decide) (bitsSpec at_ n).1
  unfold getS
  rw [e, t1, t2]
  dsimp only
  rw [back_spec at_ n h6, str_bytes, if_pos ⟨rfl, h⟩]
theorem put_len {nm : ByteArray} {size : Int} {at_ : List Int} {n : Int} (h : mayB nm size at_ n = true) : (putB nm size at_ n).length ≤ 160 := by
  obtain ⟨h1, h2, h3, h4, h5, h6⟩ := may_parts h
  have b1 : (textB (bytesOf nm)).length ≤ 18 := by
    unfold textB numB
    have := be_len (k := 1) (n := ((bytesOf nm).length : Int).toNat) (by rw [bytesOf_length]; omega)
    rw [List.length_append, List.length_cons, bytesOf_length] at *
    omega
  have b2 : (numB size).length ≤ 3 := by
    unfold numB
    have := be_len (k := 2) (n := size.toNat) (by omega)
    rw [List.length_cons]
    omega
  have b3 : (bitsSpec at_ n).1.length ≤ 128 := by
    unfold bitsSpec
    split
    · cases incr n (-1) at_ with
      | false => simp
      | true => simp only [cond_true]; rw [bitsOf_length]; omega
    · simp
  have e : putB nm size at_ n = textB (bytesOf nm) ++ (numB size ++ (bitsSpec at_ n).1) := by
    unfold putB intB
    rw [u64 h2 (by omega)]
    simp
  rw [e, List.length_append, List.length_append]
  omega
theorem put_get {b : List Int} (hu : U8 b) {n : Int} {nm : ByteArray} {size : Int} {at_ : List Int} (h : getS b n = ((nm, size, at_), 0)) : mayB nm size at_ n = true ∧ putB nm size at_ n = b := by
  unfold getS at h
  obtain ⟨t, s1, ht⟩ : ∃ t s1, textO (some b) 16 = (t, s1) := ⟨_, _, rfl⟩
  rw [ht] at h
  dsimp only at h
  obtain ⟨z, s2, hz⟩ : ∃ z s2, countO s1 24576 = (z, s2) := ⟨_, _, rfl⟩
  rw [hz] at h
  dsimp only at h
  cases s2 with
  | none => simp at h
  | some rest =>
    dsimp only at h
    split at h
    · next hc =>
      obtain ⟨⟨rfl, rfl, rfl⟩, _⟩ : (strOfNums t = nm ∧ z = size ∧ (listSpec rest n).1 = at_) ∧ True := by
        simp only [Prod.mk.injEq, and_true] at h
        exact ⟨h, trivial⟩
      refine ⟨hc.2, ?_⟩
      obtain ⟨_, h2, _, _, _, h6⟩ := may_parts hc.2
      cases s1 with
      | none => rw [count_none] at hz; cases hz
      | some s1 =>
        obtain ⟨e1, _⟩ := text_back hu ht
        obtain ⟨u1, u2⟩ := textO_u8' hu ht
        obtain ⟨e2, e3, e4⟩ := count_back u2 hz
        have u3 := countO_u8' u2 hz
        have e5 := list_back u3 (l := (listSpec rest n).1) (n := n) (by rw [← hc.1]) h6
        unfold putB intB
        rw [u64 e3 (by omega), bytes_str u1, e5, e1, e2]
        simp
    · simp at h
end Go.Proofs.Ytgdpabedlghiaaa.InodeBk
/- The walks of package tlv: what each of its functions does to memory. -/
namespace Go.Proofs.Ytgdpabedlghiaaa.Tlv
open Go.Proofs.Ytgdpabedlghiaaa.Base Go.Proofs.Ytgdpabedlghiaaa.TlvPlain Go.RowKit Go.Proofs.YtgdpabedlghiaaaW.PrintWords Go.Proofs.YtgdpabedlghiaaaW.PrintLast Go.Proofs.YtgdpabedlghiaaaW.PrintMore

/-- A reader at block g: made, failed, and the bytes that are left. -/
def Rdr (w0 W : World) (g : Nat) (made failed : Bool) (bs : List Int) : Prop :=
  w0.heap.size ≤ g ∧ ∃ A c, W.heap[g]? = some (.cells #[.bool made, .bool failed, .slice A bs.length c] 133 (0, 0)) ∧ bs.length ≤ c ∧ Rb W A bs ∧ bs.length < 140737488355328 ∧ U8 bs
theorem Rdr.lower {w0 w1 W : World} {g : Nat} {m f : Bool} {bs : List Int} (h : Rdr w1 W g m f bs) (hs : w0.heap.size ≤ w1.heap.size) : Rdr w0 W g m f bs := ⟨Nat.le_trans hs h.1, h.2⟩
theorem cells_no_int {m f : Bool} {A : Option Addr} {n c : Nat} (i : Nat) (v : Value) (h : (#[Value.bool m, .bool f, .slice A n c] : Array Value)[i]? = some v) (k : Int) : v ≠ .int .u8 k := by
  match i, h with
  | 0, h => cases h; simp
  | 1, h => cases h; simp
  | 2, h => cases h; simp
theorem Rdr.below {w0 W W1 : World} {g : Nat} {m f : Bool} {bs : List Int} (h : Rdr w0 W g m f bs) (hb : Below W.heap.size W W1) : Rdr w0 W1 g m f bs := by
  obtain ⟨h0, A, c, h1, h2, h3, h4⟩ := h
  exact ⟨h0, A, c, (hb.block g (blk_lt h1)).trans h1, h2, Kd.C_below h3 hb, h4⟩
/-- Where another block alone was written, in which no numbers lie. -/
theorem Rdr.keep {w0 W W1 : World} {g g' : Nat} {m f : Bool} {bs : List Int} (h : Rdr w0 W g m f bs) (hk : KeepBut W W1 g' none) (hne : g ≠ g') {T : Nat} {cs : Array Value} (hb : W.heap[g']? = some (.cells cs T (0, 0))) (hcs : ∀ i : Nat, ∀ v, cs[i]? = some v → ∀ n, v ≠ Value.int .u8 n) : Rdr w0 W1 g m f bs := by
  obtain ⟨h0, A, c, h1, h2, h3, h4⟩ := h
  exact ⟨h0, A, c, hk.blk h1 hne (by simp), h2, reads_keep h3 hk (reads_ne hb hcs h3), h4⟩
theorem Rdr.set {w0 W : World} {g : Nat} {m f : Bool} {bs : List Int} (h : Rdr w0 W g m f bs) (f' : Bool) : Rdr w0 (W.setCell ⟨g, 1, none⟩ (.bool f')) g m f' bs := by
  obtain ⟨h0, A, c, h1, h2, h3, h4⟩ := h
  exact ⟨h0, A, c, by simpa using blk_set h1 1 (.bool f'), h2, reads_keep h3 (keep_set _ _ _ _) (reads_ne h1 cells_no_int h3), h4⟩
theorem Rdr.cut {w0 W : World} {g : Nat} {m f : Bool} {bs cs : List Int} (h : Rdr w0 W g m f bs) {A' : Option Addr} {c' : Nat} (hc : cs.length ≤ c') (hr : Rb W A' cs) (hl : cs.length ≤ bs.length) (hu : U8 cs) : Rdr w0 (W.setCell ⟨g, 2, none⟩ (.slice A' cs.length c')) g m f cs := by
  obtain ⟨h0, A, c, h1, h2, h3, h4⟩ := h
  exact ⟨h0, A', c', by simpa using blk_set h1 2 (.slice A' cs.length c'), hc, reads_keep hr (keep_set _ _ _ _) (reads_ne h1 cells_no_int hr), Nat.lt_of_le_of_lt hl h4.1, hu⟩

set_option maxHeartbeats 800000 in
set_option maxRecDepth 100000 in
theorem clone (A0 : Option Addr) (c0 : Nat) (l0 : List Int) (w : World) (hr0 : Kd.C (Kd.int .u8) w A0 l0.length l0) (hc0 : l0.length ≤ c0) (hl : l0.length < 140737488355328) :
    Calls Try.prog 119 #[.slice A0 l0.length c0] w fun e w' => ∃ v : Value, e = .returned v ∧ Kd.R (Kd.int .u8) 5 w' w.heap.size (fun _ => True) v l0 ∧ Below w.heap.size w w' := by
  have hq := fun (n c : Nat) => Lib.run_eql_slice_nil (P := Try.prog) w 27 5 A0 n c 0 0 Try.underlying27
  have HR := Aside0.mk hr0
  have HL := Aside0.mk hl
  have HC := Aside0.mk hc0
  clear hr0 hl hc0
  cases A0 with
  | none =>
    have hz : l0 = [] := by
      have h := HR.out
      cases l0 with
      | nil => rfl
      | cons x xs => obtain ⟨ad, c, e, _⟩ := Kd.C_get h 0 0 (by omega) (by simp); cases e
    subst hz
    clear HR HL HC
    go_enter Try.func119, Try.ntmps119
    go_wp2
    go_ret
    exact ⟨_, rfl, Kd.R_nil _ _ _ _ _, Below.refl _ _⟩
  | some a =>
    have HB := Aside0.mk (Below.refl w.heap.size w)
    go_enter Try.func119, Try.ntmps119
    go_wp2_with (first
      | ((with_reducible refine gate_dst (N := 5) rfl ?_); refine Kd.R_lit (Kd.int .u8) _ 5 ?hg (N := 5) ?hd (xs := ([] : List Int)) (inner := []) (ok := fun _ => True) (okp := fun _ => True) ?hr ?hp (fun _ hk => hk) trivial (Below.refl _ _) (Nat.le_refl _) (by simp) ?_; (case hd => rfl); (case hg => rfl); (case hr => first | (go_simp; done) | (go_simp; rfl)); (case hp => exact (Reps.none _ _)); intro v255 w3 ho4 hb hg_ hnew_; clear hg_ hnew_; have n0_ := Aside0.mk (Kd.R_lower ho4 (below_size HB.out)); have n1_ := Aside0.mk (below_step HB.out hb); clear HB; have HO := n0_; have HB := n1_; clear n0_ n1_; clear hb ho4)
      | ((with_reducible refine gate_builtin (b := .append) (xs := #[.tmp 5, .tmp 6]) rfl ?_); at_builtin; refine Kd.R_append_rows (Kd.int .u8) (w0 := w) w.heap.size rfl (.tmp 5) (.tmp 6) 27 5 (.int .u8 0) 1 rfl Try.underlying27 info_u8 rfl (by decide) (by omega) v255 [] l0 _ _ _ (fun _ => True) (fun _ => False) rfl rfl HO.out (Kd.C_below HR.out HB.out) (fun _ _ h => h) (fun _ h => h.elim) (fun _ _ => trivial) HB.out (below_size HB.out) (by have := HL.out; simp; omega) ?_; intro v258 w5 ho hb hg hat; have n0_ := Aside0.mk (hb); have n1_ := Aside0.mk (ho); clear HB; clear HO; have HB := n0_; have HO := n1_; clear n0_ n1_; clear ho hb hg hat))
    go_ret
    exact ⟨_, rfl, HO.out, HB.out⟩

theorem clone_n (A0 : Option Addr) (c0 n : Nat) (l0 : List Int) (w : World) (hr0 : Rb w A0 l0) (hn : l0.length = n) (hc0 : n ≤ c0) (hl : n < 140737488355328) :
    Calls Try.prog 119 #[.slice A0 n c0] w fun e w' => ∃ v : Value, e = .returned v ∧ Ob w' w.heap.size v l0 ∧ Below w.heap.size w w' := by
  subst hn
  exact clone A0 c0 l0 w hr0 hc0 hl

set_option maxHeartbeats 800000 in
set_option maxRecDepth 100000 in
theorem new_ (A0 : Option Addr) (c0 : Nat) (l0 : List Int) (w : World) (hr0 : Rb w A0 l0) (hc0 : l0.length ≤ c0) (hl : l0.length < 140737488355328) (hu : U8 l0) :
    Calls Try.prog 86 #[.slice A0 l0.length c0] w fun e w' => ∃ g : Nat, e = .returned (.pointer (some ⟨g, 0, none⟩)) ∧ Rdr w w' g true false l0 ∧ Below w.heap.size w w' := by
  have HR := Aside0.mk hr0
  have HL := Aside0.mk hl
  have HC := Aside0.mk hc0
  have HU := Aside0.mk hu
  clear hr0 hl hc0 hu
  go_enter Try.func86, Try.ntmps86
  go_wp2_with (go_at_call 119; refine (clone A0 c0 l0 _ HR.out HC.out HL.out).mono ?_; rintro e w1 ⟨v, rfl, ho, hb⟩; obtain ⟨A, c, rfl, hlc, hrd⟩ := Kd.R_reads ho; have HO := Aside0.mk hrd; have HLC := Aside0.mk hlc; have HB := Aside0.mk hb; clear hrd hlc hb ho)
  go_ret
  refine ⟨_, rfl, ⟨HB.out.size, A, c, ?_, HLC.out, Kd.C_alloc HO.out _, HL.out, HU.out⟩, below_alloc HB.out _⟩
  exact blk_new _ _

set_option maxHeartbeats 800000 in
set_option maxRecDepth 100000 in
theorem ok_ (w0 w : World) (g : Nat) (m f : Bool) (bs : List Int) (h : Rdr w0 w g m f bs) :
    Calls Try.prog 89 #[.pointer (some ⟨g, 0, none⟩)] w fun e w' => e = .returned (.bool (m && !f)) ∧ w = w' := by
  obtain ⟨_, A, c, h1, _⟩ := h
  have hc0 := (blk_cell h1 0).trans rfl
  have hc1 := (blk_cell h1 1).trans rfl
  clear h1
  cases m <;> cases f
  all_goals
    go_enter Try.func89, Try.ntmps89
    go_wp2
    go_ret
    exact ⟨rfl, rfl⟩
set_option maxHeartbeats 800000 in
theorem ok_nil (w : World) : Calls Try.prog 89 #[.pointer none] w fun e w' => e = .returned (.bool false) ∧ w = w' := by
  go_enter Try.func89, Try.ntmps89
  go_wp2
  go_ret
  exact ⟨rfl, rfl⟩
set_option maxHeartbeats 800000 in
theorem fail_nil (w : World) : Calls Try.prog 121 #[.pointer none] w fun e w' => e = .returned (.tuple #[]) ∧ w = w' := by
  go_enter Try.func121, Try.ntmps121
  go_wp2
  go_end0
  exact ⟨rfl, rfl⟩
set_option maxHeartbeats 800000 in
theorem fail_ (w0 w : World) (g : Nat) (m f : Bool) (bs : List Int) (h : Rdr w0 w g m f bs) :
    Calls Try.prog 121 #[.pointer (some ⟨g, 0, none⟩)] w fun e w' => e = .returned (.tuple #[]) ∧ w' = w.setCell ⟨g, 1, none⟩ (.bool true) := by
  obtain ⟨_, A, c, h1, _⟩ := h
  have hc1 := (blk_cell h1 1).trans rfl
  have hf1 := blk_frozen h1 1
  clear h1
  go_enter Try.func121, Try.ntmps121
  go_wp2
  go_end0
  exact ⟨rfl, rfl⟩
set_option maxHeartbeats 800000 in
theorem left_nil (w : World) : Calls Try.prog 92 #[.pointer none] w fun e w' => e = .returned (.int .i64 0) ∧ w = w' := by
  go_enter Try.func92, Try.ntmps92
  go_wp2_with (go_at_call 89; refine (ok_nil _).mono ?_; rintro e w' ⟨rfl, rfl⟩)
  go_ret
  exact ⟨rfl, rfl⟩
set_option maxHeartbeats 800000 in
theorem left_ (w0 w : World) (g : Nat) (m f : Bool) (bs : List Int) (h : Rdr w0 w g m f bs) :
    Calls Try.prog 92 #[.pointer (some ⟨g, 0, none⟩)] w fun e w' => e = .returned (.int .i64 (if m && !f then (bs.length : Int) else 0)) ∧ w = w' := by
  have HI := Aside0.mk h
  obtain ⟨_, A, c, h1, _⟩ := h
  have hc2 : w.cell? ⟨g, 2, none⟩ = some (.slice A bs.length c) := (blk_cell h1 2).trans rfl
  clear h1
  cases m <;> cases f
  all_goals
    go_enter Try.func92, Try.ntmps92
    go_wp2_with (go_at_call 89; refine (ok_ w0 w g _ _ bs HI.out).mono ?_; rintro e w' ⟨rfl, rfl⟩)
    go_ret
    exact ⟨rfl, rfl⟩

set_option maxHeartbeats 800000 in
set_option maxRecDepth 100000 in
theorem take_nil (n : Int) (w : World) : Calls Try.prog 91 #[.pointer none, .int .i64 n] w fun e w' => e = .returned (.slice none 0 0) ∧ w = w' := by
  go_enter Try.func91, Try.ntmps91
  go_wp2_with (first | (go_at_call 89; refine (ok_nil _).mono ?_; rintro e w' ⟨rfl, rfl⟩) | (go_at_call 121; refine (fail_nil _).mono ?_; rintro e w' ⟨rfl, rfl⟩))
  go_ret
  exact ⟨rfl, rfl⟩

set_option maxHeartbeats 1600000 in
set_option maxRecDepth 100000 in
theorem take_bad (w0 w : World) (g : Nat) (m f : Bool) (bs : List Int) (n : Int) (h : Rdr w0 w g m f bs) (hB : Below w0.heap.size w0 w) (hbad : ¬ (m = true ∧ f = false ∧ 0 ≤ n ∧ n ≤ bs.length)) :
    Calls Try.prog 91 #[.pointer (some ⟨g, 0, none⟩), .int .i64 n] w fun e w' => ∃ v, e = .returned v ∧ Ob w' w.heap.size v [] ∧ Rdr w0 w' g m true bs ∧ Below w0.heap.size w0 w' ∧ KeepBut w w' g none := by
  have HI := Aside0.mk h
  have HB := Aside0.mk hB
  clear hB
  have hfin : Rdr w0 (w.setCell ⟨g, 1, none⟩ (.bool true)) g m true bs ∧ Below w0.heap.size w0 (w.setCell ⟨g, 1, none⟩ (.bool true)) ∧ KeepBut w (w.setCell ⟨g, 1, none⟩ (.bool true)) g none := ⟨h.set true, below_set HB.out h.1, keep_set _ _ _ _⟩
  have HF := Aside0.mk hfin
  clear hfin
  obtain ⟨_, A, c, h1, _⟩ := h
  have hc2 : w.cell? ⟨g, 2, none⟩ = some (.slice A bs.length c) := (blk_cell h1 2).trans rfl
  clear h1
  by_cases hok : m = true ∧ f = false
  · obtain ⟨rfl, rfl⟩ := hok
    by_cases hn : n < 0
    · have hd : decide (n < 0) = true := decide_eq_true hn
      clear hbad hn
      go_enter Try.func91, Try.ntmps91
      go_wp2_with (first | (go_at_call 89; refine (ok_ w0 w g true false bs HI.out).mono ?_; rintro e w' ⟨rfl, rfl⟩) | (go_at_call 121; refine (fail_ w0 w g true false bs HI.out).mono ?_; rintro e w' ⟨rfl, rfl⟩))
      go_ret
      exact ⟨_, rfl, Kd.R_nil _ _ _ _ _, HF.out⟩
    · have hd : decide (n < 0) = false := decide_eq_false hn
      have hg : decide ((bs.length : Int) < n) = true := decide_eq_true (by
        by_cases h2 : (bs.length : Int) < n
        · exact h2
        · exact absurd ⟨rfl, rfl, by omega, by omega⟩ hbad)
      clear hbad hn
      go_enter Try.func91, Try.ntmps91
      go_wp2_with (first | (go_at_call 89; refine (ok_ w0 w g true false bs HI.out).mono ?_; rintro e w' ⟨rfl, rfl⟩) | (go_at_call 121; refine (fail_ w0 w g true false bs HI.out).mono ?_; rintro e w' ⟨rfl, rfl⟩))
      go_ret
      exact ⟨_, rfl, Kd.R_nil _ _ _ _ _, HF.out⟩
  · clear hbad
    have hb : (m && !f) = false := by cases m <;> cases f <;> simp_all
    clear hok
    go_enter Try.func91, Try.ntmps91
    go_wp2_with (first | (go_at_call 89; refine (ok_ w0 w g m f bs HI.out).mono ?_; rintro e w' ⟨rfl, rfl⟩) | (go_at_call 121; refine (fail_ w0 w g m f bs HI.out).mono ?_; rintro e w' ⟨rfl, rfl⟩))
    go_ret
    exact ⟨_, rfl, Kd.R_nil _ _ _ _ _, HF.out⟩

set_option maxHeartbeats 1600000 in
set_option maxRecDepth 100000 in
theorem take_good (w0 w : World) (g : Nat) (bs : List Int) (n : Nat) (h : Rdr w0 w g true false bs) (hB : Below w0.heap.size w0 w) (hn : n ≤ bs.length) :
    Calls Try.prog 91 #[.pointer (some ⟨g, 0, none⟩), .int .i64 n] w fun e w' => ∃ v, e = .returned v ∧ Ob w' w.heap.size v (bs.take n) ∧ Rdr w0 w' g true false (bs.drop n) ∧ Below w0.heap.size w0 w' ∧ KeepBut w w' g none := by
  have HI := Aside0.mk h
  have HB := Aside0.mk hB
  clear hB
  obtain ⟨hg0, A, c, h1, h2, h3, h4⟩ := h
  have hnn : (0 : Int) ≤ (n : Int) := Int.natCast_nonneg _
  have hnc : (n : Int) ≤ (c : Int) := by omega
  have hd0 : decide ((n : Int) < 0) = false := decide_eq_false (by omega)
  have hd1 : decide ((bs.length : Int) < (n : Int)) = false := decide_eq_false (by omega)
  have hd2 : decide (bs.length < n) = false := decide_eq_false (by omega)
  have H1 := Aside0.mk h1
  have hc2 : w.cell? ⟨g, 2, none⟩ = some (.slice A bs.length c) := (blk_cell h1 2).trans rfl
  have hf2 := blk_frozen h1 2
  have h3' := Kd.reads_of_C (d := (0 : Int)) h3
  have hlen : bs.length ≤ 9223372036854775807 := h3'.2.1
  obtain ⟨i0, hi, hz0, hz1, hz2⟩ := info_parts info_u8
  obtain ⟨A', hcut, hA'⟩ := print_cut (P := Try.prog) 27 5 .i64 Try.underlying27 hi hz1 A bs.length c n hn
  have hrest : Rb w A' (bs.drop n) := by
    have := Kd.C_of_reads (d := (0 : Int)) (h1 := fun _ => rfl) (hA' w .u8 bs h2 h3')
    rwa [← List.length_drop] at this
  have hfirst : Rb w A (bs.take n) := by
    have h5 := Kd.C_of_reads (d := (0 : Int)) (h1 := fun _ => rfl) (ReadsInt.take_ h3' n hn)
    show Kd.C _ w A (bs.take n).length (bs.take n)
    rw [show (bs.take n).length = n from by rw [List.length_take]; omega]
    exact h5
  have hR := (show Rdr w0 w g true false bs from ⟨hg0, A, c, h1, h2, h3, h4⟩).cut (c' := c - n) (by rw [List.length_drop]; omega) hrest (by rw [List.length_drop]; omega) (h4.2.drop n)
  rw [List.length_drop] at hR
  have HRd := Aside0.mk hR
  have HF := Aside0.mk (reads_keep hfirst (keep_set w g 2 (.slice A' (bs.length - n) (c - n))) (reads_ne h1 cells_no_int hfirst))
  have HBn := Aside0.mk (below_set (j := 2) (v := .slice A' (bs.length - n) (c - n)) HB.out hg0)
  have HKn := Aside0.mk (keep_set w g 2 (.slice A' (bs.length - n) (c - n)))
  have HTL := Aside0.mk (show (bs.take n).length = n by rw [List.length_take]; omega)
  have HBL := Aside0.mk (show n < 140737488355328 by have := h4.1; omega)
  clear hR hrest hfirst h1 h3 h4 hA' h3' hi hz0 hz1 hz2 hg0
  go_enter Try.func91, Try.ntmps91
  go_wp2_with (first | (go_at_call 89; refine (ok_ w0 w g true false bs HI.out).mono ?_; rintro e w' ⟨rfl, rfl⟩) | (go_at_call 119; refine (clone_n A n n (bs.take n) _ HF.out HTL.out (Nat.le_refl _) HBL.out).mono ?_; rintro e w1 ⟨v, rfl, ho, hb⟩; have HO := Aside0.mk ho; have HW := Aside0.mk hb; clear ho hb))
  go_ret
  refine ⟨_, rfl, Kd.R_lower HO.out HKn.out.1, HRd.out.below HW.out, HBn.out.trans (HW.out.mono HBn.out.size), HKn.out.trans (KeepBut.of_below HW.out g none) (.inl rfl)⟩

/-- A reader's state: the bytes that are left, or that it failed. -/
def RdO (w0 W : World) (g : Nat) (st : Option (List Int)) : Prop :=
  match st with
  | some bs => Rdr w0 W g true false bs
  | none => ∃ m f bs, (m && !f) = false ∧ Rdr w0 W g m f bs
theorem RdO.any {w0 W : World} {g : Nat} {st : Option (List Int)} (h : RdO w0 W g st) : ∃ m f bs, (m && !f) = st.isSome ∧ Rdr w0 W g m f bs := by
  cases st with
  | some bs => exact ⟨true, false, bs, rfl, h⟩
  | none => exact h
theorem RdO.below {w0 W W1 : World} {g : Nat} {st : Option (List Int)} (h : RdO w0 W g st) (hb : Below W.heap.size W W1) : RdO w0 W1 g st := by
  cases st with
  | some bs => exact Rdr.below h hb
  | none => obtain ⟨m, f, bs, e, h⟩ := h; exact ⟨m, f, bs, e, h.below hb⟩
theorem RdO.keep {w0 W W1 : World} {g g' : Nat} {st : Option (List Int)} (h : RdO w0 W g st) (hk : KeepBut W W1 g' none) (hne : g ≠ g') {T : Nat} {cs : Array Value} (hb : W.heap[g']? = some (.cells cs T (0, 0))) (hcs : ∀ i : Nat, ∀ v, cs[i]? = some v → ∀ n, v ≠ Value.int .u8 n) : RdO w0 W1 g st := by
  cases st with
  | some bs => exact Rdr.keep h hk hne hb hcs
  | none => obtain ⟨m, f, bs, e, h⟩ := h; exact ⟨m, f, bs, e, h.keep hk hne hb hcs⟩
theorem RdO.lower {w0 w1 W : World} {g : Nat} {st : Option (List Int)} (h : RdO w1 W g st) (hs : w0.heap.size ≤ w1.heap.size) : RdO w0 W g st := by
  cases st with
  | some bs => exact Rdr.lower h hs
  | none => obtain ⟨m, f, bs, e, h⟩ := h; exact ⟨m, f, bs, e, h.lower hs⟩
theorem RdO.blk {w0 W : World} {g : Nat} {st : Option (List Int)} (h : RdO w0 W g st) : w0.heap.size ≤ g ∧ g < W.heap.size ∧ ∃ cs, W.heap[g]? = some (.cells cs 133 (0, 0)) ∧ ∀ i : Nat, ∀ v, cs[i]? = some v → ∀ n, v ≠ Value.int .u8 n := by
  obtain ⟨m, f, bs, _, h0, A, c, h1, _⟩ := h.any
  exact ⟨h0, blk_lt h1, _, h1, cells_no_int⟩
theorem RdO.u8 {w0 W : World} {g : Nat} {bs : List Int} (h : RdO w0 W g (some bs)) : U8 bs ∧ bs.length < 140737488355328 := by
  obtain ⟨_, _, _, _, _, _, h1, h2⟩ := (show Rdr w0 W g true false bs from h)
  exact ⟨h2, h1⟩
/-- What a call that is handed a reader leaves. -/
def Left (w0 w w' : World) (g : Nat) (st : Option (List Int)) : Prop := RdO w0 w' g st ∧ Below w0.heap.size w0 w' ∧ KeepBut w w' g none
theorem Left.trans {w0 w w1 w2 : World} {g : Nat} {s1 s2 : Option (List Int)} (h : Left w0 w w1 g s1) (k : Left w0 w1 w2 g s2) : Left w0 w w2 g s2 := ⟨k.1, k.2.1, h.2.2.trans k.2.2 (.inl rfl)⟩
theorem Left.refl {w0 w : World} {g : Nat} {st : Option (List Int)} (h : RdO w0 w g st) (hB : Below w0.heap.size w0 w) : Left w0 w w g st := ⟨h, hB, KeepBut.refl _ _ _⟩

theorem okO (w0 w : World) (g : Nat) (st : Option (List Int)) (h : RdO w0 w g st) :
    Calls Try.prog 89 #[.pointer (some ⟨g, 0, none⟩)] w fun e w' => e = .returned (.bool st.isSome) ∧ w = w' := by
  obtain ⟨m, f, bs, e, h⟩ := h.any
  rw [← e]
  exact ok_ w0 w g m f bs h
theorem leftO_ (w0 w : World) (g : Nat) (st : Option (List Int)) (h : RdO w0 w g st) :
    Calls Try.prog 92 #[.pointer (some ⟨g, 0, none⟩)] w fun e w' => e = .returned (.int .i64 (leftO st)) ∧ w = w' := by
  cases st with
  | some bs => exact left_ w0 w g true false bs h
  | none =>
    obtain ⟨m, f, bs, e, h⟩ := h
    have := left_ w0 w g m f bs h
    rw [e] at this
    exact this
theorem failO (w0 w : World) (g : Nat) (st : Option (List Int)) (h : RdO w0 w g st) (hB : Below w0.heap.size w0 w) :
    Calls Try.prog 121 #[.pointer (some ⟨g, 0, none⟩)] w fun e w' => e = .returned (.tuple #[]) ∧ Left w0 w w' g none := by
  obtain ⟨m, f, bs, e, h⟩ := h.any
  refine (fail_ w0 w g m f bs h).mono ?_
  rintro e w' ⟨rfl, rfl⟩
  exact ⟨rfl, ⟨m, true, bs, by cases m <;> rfl, h.set true⟩, below_set hB h.1, keep_set _ _ _ _⟩
theorem takeO_ (w0 w : World) (g : Nat) (st : Option (List Int)) (n : Int) (h : RdO w0 w g st) (hB : Below w0.heap.size w0 w) :
    Calls Try.prog 91 #[.pointer (some ⟨g, 0, none⟩), .int .i64 n] w fun e w' => ∃ v, e = .returned v ∧ Ob w' w.heap.size v (takeO st n).1 ∧ Left w0 w w' g (takeO st n).2 := by
  cases st with
  | some bs =>
    by_cases hn : 0 ≤ n ∧ n ≤ bs.length
    · obtain ⟨m, rfl⟩ := Int.eq_ofNat_of_zero_le hn.1
      have e : takeO (some bs) (m : Int) = (bs.take m, some (bs.drop m)) := by simp only [takeO]; rw [if_pos hn]; rfl
      rw [e]
      refine (take_good w0 w g bs m h hB (by omega)).mono ?_
      rintro e w' ⟨v, rfl, h1, h2, h3, h4⟩
      exact ⟨v, rfl, h1, h2, h3, h4⟩
    · have e : takeO (some bs) n = ([], none) := by simp only [takeO]; rw [if_neg hn]
      rw [e]
      refine (take_bad w0 w g true false bs n h hB (fun h => hn h.2.2)).mono ?_
      rintro e w' ⟨v, rfl, h1, h2, h3, h4⟩
      exact ⟨v, rfl, h1, ⟨_, _, _, rfl, h2⟩, h3, h4⟩
  | none =>
    obtain ⟨m, f, bs, e, h⟩ := h
    refine (take_bad w0 w g m f bs n h hB (fun h => by obtain ⟨rfl, rfl, _⟩ := h; cases e)).mono ?_
    rintro e w' ⟨v, rfl, h1, h2, h3, h4⟩
    exact ⟨v, rfl, h1, ⟨_, _, _, by cases m <;> rfl, h2⟩, h3, h4⟩
theorem newO (A0 : Option Addr) (c0 : Nat) (l0 : List Int) (w : World) (hr0 : Rb w A0 l0) (hc0 : l0.length ≤ c0) (hl : l0.length < 140737488355328) (hu : U8 l0) :
    Calls Try.prog 86 #[.slice A0 l0.length c0] w fun e w' => ∃ g : Nat, e = .returned (.pointer (some ⟨g, 0, none⟩)) ∧ RdO w w' g (some l0) ∧ Below w.heap.size w w' := new_ A0 c0 l0 w hr0 hc0 hl hu
end Go.Proofs.Ytgdpabedlghiaaa.Tlv
/- The walks of a reader's Num, Count and Text. -/
namespace Go.Proofs.Ytgdpabedlghiaaa.Tlv
open Go.Proofs.Ytgdpabedlghiaaa.Base Go.Proofs.Ytgdpabedlghiaaa.TlvPlain Go.RowKit Go.Proofs.YtgdpabedlghiaaaW.PrintWords Go.Proofs.YtgdpabedlghiaaaW.PrintLast Go.Proofs.YtgdpabedlghiaaaW.PrintMore

theorem take1_cons (x : Int) (r : List Int) : takeO (some (x :: r)) 1 = ([x], some r) := by
  simp only [takeO]
  rw [if_pos (by rw [List.length_cons]; omega)]
  rfl
set_option maxHeartbeats 1600000 in
set_option maxRecDepth 100000 in
theorem num_none (w0 w : World) (g : Nat) (st : Option (List Int)) (h : RdO w0 w g st) (hB : Below w0.heap.size w0 w) (hst : takeO st 1 = ([], none)) :
    Calls Try.prog 120 #[.pointer (some ⟨g, 0, none⟩)] w fun e w' => e = .returned (.int .u64 0) ∧ Left w0 w w' g none := by
  have HS := Aside0.mk h
  have HB := Aside0.mk hB
  have E1 := Aside0.mk hst
  clear h hB hst
  go_enter Try.func120, Try.ntmps120
  go_wp2_with (first
    | (go_at_call 91; refine (takeO_ _ _ _ _ _ HS.out HB.out).mono ?_; rintro e w1 ⟨v, rfl, ho, hl⟩; rw [E1.out] at ho hl; have HL := Aside0.mk hl; clear ho hl)
    | (go_at_call 89; refine (okO _ _ _ _ HL.out.1).mono ?_; rintro e w' ⟨rfl, rfl⟩)
    | (go_at_call 121; refine (failO _ _ _ _ HL.out.1 HL.out.2.1).mono ?_; rintro e w2 ⟨rfl, hf⟩; have HF := Aside0.mk hf; clear hf))
  go_ret
  exact ⟨rfl, HL.out.trans HF.out⟩

set_option maxHeartbeats 1600000 in
set_option maxRecDepth 100000 in
theorem num_wide (w0 w : World) (g : Nat) (x : Int) (r : List Int) (h : RdO w0 w g (some (x :: r))) (hB : Below w0.heap.size w0 w) (hx : 8 < x) :
    Calls Try.prog 120 #[.pointer (some ⟨g, 0, none⟩)] w fun e w' => e = .returned (.int .u64 0) ∧ Left w0 w w' g none := by
  have HS := Aside0.mk h
  have HB := Aside0.mk hB
  have E1 := Aside0.mk (take1_cons x r)
  have hd : decide (8 < x) = true := decide_eq_true hx
  clear h hB hx
  go_enter Try.func120, Try.ntmps120
  go_wp2_with (first
    | (go_at_call 91; refine (takeO_ _ _ _ _ _ HS.out HB.out).mono ?_; rintro e w1 ⟨v, rfl, ho, hl⟩; rw [E1.out] at ho hl; have HL := Aside0.mk hl; obtain ⟨A, c, rfl, hlc, hrd⟩ := Ob.reads ho; obtain ⟨ad, rfl, hc0⟩ := Rb.at0 hrd; clear ho hl hrd hlc)
    | (go_at_call 89; refine (okO _ _ _ _ HL.out.1).mono ?_; rintro e w' ⟨rfl, rfl⟩)
    | (go_at_call 121; refine (failO _ _ _ _ HL.out.1 HL.out.2.1).mono ?_; rintro e w2 ⟨rfl, hf⟩; have HF := Aside0.mk hf; clear hf))
  go_ret
  exact ⟨rfl, HL.out.trans HF.out⟩

set_option maxHeartbeats 1600000 in
set_option maxRecDepth 100000 in
theorem num_short (w0 w : World) (g : Nat) (x : Int) (r : List Int) (h : RdO w0 w g (some (x :: r))) (hB : Below w0.heap.size w0 w) (hx0 : 0 ≤ x) (hx : x ≤ 8) (hl : (r.length : Int) < x) :
    Calls Try.prog 120 #[.pointer (some ⟨g, 0, none⟩)] w fun e w' => e = .returned (.int .u64 0) ∧ Left w0 w w' g none := by
  have HS := Aside0.mk h
  have HB := Aside0.mk hB
  have E1 := Aside0.mk (take1_cons x r)
  have E2 := Aside0.mk (show takeO (some r) x = ([], none) by simp only [takeO]; rw [if_neg (by omega)])
  have hd : decide (8 < x) = false := decide_eq_false (by omega)
  clear h hB hl
  go_enter Try.func120, Try.ntmps120
  go_wp2_with (fail)
  refine (takeO_ _ _ _ _ _ HS.out HB.out).mono ?_; rintro e w1 ⟨v, rfl, ho, hl⟩; rw [E1.out] at ho hl; have HL := Aside0.mk hl; obtain ⟨A, c, rfl, hlc, hrd⟩ := Ob.reads ho; obtain ⟨ad, rfl, hc0⟩ := Rb.at0 hrd; clear ho hl hrd hlc
  go_wp2_with (first
    | (go_at_call 89; refine (okO _ _ _ _ HL.out.1).mono ?_; rintro e w' ⟨rfl, rfl⟩)
    | (go_at_call 121; refine (failO _ _ _ _ HL.out.1 HL.out.2.1).mono ?_; rintro e w2 ⟨rfl, hf⟩; have HF := Aside0.mk hf; clear hf))
  refine (takeO_ _ _ _ _ _ HL.out.1 HL.out.2.1).mono ?_; rintro e w2 ⟨v, rfl, ho, hl⟩; rw [E2.out] at ho hl; have HL2 := Aside0.mk (HL.out.trans hl); clear HL ho hl
  go_wp2_with (first
    | (go_at_call 89; refine (okO _ _ _ _ HL2.out.1).mono ?_; rintro e w' ⟨rfl, rfl⟩)
    | (go_at_call 121; refine (failO _ _ _ _ HL2.out.1 HL2.out.2.1).mono ?_; rintro e w2 ⟨rfl, hf⟩; have HF := Aside0.mk hf; clear hf))
  go_ret
  exact ⟨rfl, HL2.out.trans HF.out⟩

set_option maxHeartbeats 1600000 in
set_option maxRecDepth 100000 in
theorem num_zero (w0 w : World) (g : Nat) (x y : Int) (r : List Int) (h : RdO w0 w g (some (x :: y :: r))) (hB : Below w0.heap.size w0 w) (hx0 : 0 < x) (hx : x ≤ 8) (hl : x ≤ (r.length : Int) + 1) (hy : y = 0) :
    Calls Try.prog 120 #[.pointer (some ⟨g, 0, none⟩)] w fun e w' => e = .returned (.int .u64 0) ∧ Left w0 w w' g none := by
  subst hy
  have HS := Aside0.mk h
  have HB := Aside0.mk hB
  have E1 := Aside0.mk (take1_cons x (0 :: r))
  have E2 := Aside0.mk (show takeO (some (0 :: r)) x = (0 :: r.take (x.toNat - 1), some ((0 :: r).drop x.toNat)) by
    simp only [takeO]
    rw [if_pos (by rw [List.length_cons]; omega)]
    obtain ⟨m, hm⟩ : ∃ m, x.toNat = m + 1 := ⟨x.toNat - 1, by omega⟩
    rw [hm]; rfl)
  have hd : decide (8 < x) = false := decide_eq_false (by omega)
  clear h hB hl
  go_enter Try.func120, Try.ntmps120
  go_wp2_with (fail)
  refine (takeO_ _ _ _ _ _ HS.out HB.out).mono ?_; rintro e w1 ⟨v, rfl, ho, hl⟩; rw [E1.out] at ho hl; have HL := Aside0.mk hl; obtain ⟨A, c, rfl, hlc, hrd⟩ := Ob.reads ho; obtain ⟨ad, rfl, hc0⟩ := Rb.at0 hrd; clear ho hl hrd hlc
  go_wp2_with (first
    | (go_at_call 89; refine (okO _ _ _ _ HL.out.1).mono ?_; rintro e w' ⟨rfl, rfl⟩))
  refine (takeO_ _ _ _ _ _ HL.out.1 HL.out.2.1).mono ?_; rintro e w2 ⟨v, rfl, ho, hl⟩; rw [E2.out] at ho hl; have HL2 := Aside0.mk (HL.out.trans hl); obtain ⟨A2, c2, rfl, hlc, hrd⟩ := Ob.reads ho; obtain ⟨ad2, rfl, hc2⟩ := Rb.at0 hrd; clear HL ho hl hlc hrd
  have hl0 : decide (0 < (0 :: r.take (x.toNat - 1)).length) = true := decide_eq_true (by simp)
  generalize (0 :: r.take (x.toNat - 1)).length = nn at hl0 ⊢
  have hl2 : 0 < nn := of_decide_eq_true hl0
  have hl1 : decide (0 < (nn : Int)) = true := decide_eq_true (by omega)
  go_wp2_with (first
    | (go_at_call 89; refine (okO _ _ _ _ HL2.out.1).mono ?_; rintro e w' ⟨rfl, rfl⟩)
    | (go_at_call 121; refine (failO _ _ _ _ HL2.out.1 HL2.out.2.1).mono ?_; rintro e w2 ⟨rfl, hf⟩; have HF := Aside0.mk hf; clear hf))
  go_ret
  exact ⟨rfl, HL2.out.trans HF.out⟩

/-- One round more: the value of one byte more. -/
theorem value_step {l : List Int} (hu : U8 l) (h8 : l.length ≤ 8) (i : Nat) (hi : i < l.length) :
    Go.bits .or .u64 (IntKind.u64.wrap (valueB (l.take i) * 256)) (IntKind.u64.wrap (rd l (i : Int))) = valueB (l.take (i + 1)) := by
  have h1 := valueB_range (hu.take i)
  rw [List.length_take, Nat.min_eq_left (by omega)] at h1
  have h2 := valueB_u64 (hu.take (i + 1)) (by rw [List.length_take]; omega)
  have hx := hu _ (List.getElem_mem hi)
  rw [rd_nat' l i hi, List.take_succ_eq_append_getElem hi, valueB_snoc]
  rw [List.take_succ_eq_append_getElem hi, valueB_snoc] at h2
  have hb : valueB (l.take i) * 256 + 255 ≤ 18446744073709551615 := by
    have key : ∀ n : Nat, n ≤ 7 → (256 : Int) ^ n ≤ 72057594037927936 := by
      intro n hn
      have : n = 0 ∨ n = 1 ∨ n = 2 ∨ n = 3 ∨ n = 4 ∨ n = 5 ∨ n = 6 ∨ n = 7 := by omega
      rcases this with rfl | rfl | rfl | rfl | rfl | rfl | rfl | rfl <;> decide +kernel
    have := key i (by omega)
    omega
  rw [IntWalk.u64_in (valueB (l.take i) * 256) (by omega), IntWalk.u64_in l[i] (by omega)]
  exact or_byte _ _ h1.1 hb hx.1 hx.2

set_option maxHeartbeats 3200000 in
set_option maxRecDepth 100000 in
theorem num_good (w0 w : World) (g : Nat) (x : Int) (r : List Int) (h : RdO w0 w g (some (x :: r))) (hB : Below w0.heap.size w0 w) (hx0 : 0 ≤ x) (hx : x ≤ 8) (hl : x ≤ (r.length : Int)) (hy : ¬ (0 < x ∧ r.getD 0 0 = 0)) :
    Calls Try.prog 120 #[.pointer (some ⟨g, 0, none⟩)] w fun e w' => e = .returned (.int .u64 (valueB (r.take x.toNat))) ∧ Left w0 w w' g (some (r.drop x.toNat)) := by
  have HS := Aside0.mk h
  have HB := Aside0.mk hB
  have HU := Aside0.mk ((h.u8.1.tail).take x.toNat)
  have E1 := Aside0.mk (take1_cons x r)
  have E2 := Aside0.mk (show takeO (some r) x = (r.take x.toNat, some (r.drop x.toNat)) by simp only [takeO]; rw [if_pos ⟨hx0, hl⟩])
  obtain ⟨l, hL⟩ : ∃ l, l = r.take x.toNat := ⟨_, rfl⟩
  have hlen : l.length = x.toNat := by rw [hL, List.length_take]; omega
  have hb : (decide (0 < l.length) && (rd l 0 == 0)) = false := by
    rw [Bool.and_eq_false_iff]
    by_cases h0 : 0 < x
    · right
      rw [beq_eq_false_iff_ne]
      intro e
      apply hy
      refine ⟨h0, ?_⟩
      rw [hL] at e
      obtain ⟨m, hm⟩ : ∃ m, x.toNat = m + 1 := ⟨x.toNat - 1, by omega⟩
      cases r with
      | nil => simp at hl; omega
      | cons y r => simpa [rd, hm] using e
    · left
      exact decide_eq_false (by omega)
  rw [← hL] at HU E2 ⊢
  have h8 : l.length ≤ 8 := by omega
  have hd : decide (8 < x) = false := decide_eq_false (by omega)
  clear h hB hl hy hL hlen
  go_enter Try.func120, Try.ntmps120
  go_wp2_with (fail)
  refine (takeO_ _ _ _ _ _ HS.out HB.out).mono ?_; rintro e w1 ⟨v, rfl, ho, hl⟩; rw [E1.out] at ho hl; have HL := Aside0.mk hl; obtain ⟨A, c, rfl, hlc, hrd⟩ := Ob.reads ho; obtain ⟨ad, rfl, hc0⟩ := Rb.at0 hrd; clear ho hl hrd hlc
  go_wp2_with (first
    | (go_at_call 89; refine (okO _ _ _ _ HL.out.1).mono ?_; rintro e w' ⟨rfl, rfl⟩))
  refine (takeO_ _ _ _ _ _ HL.out.1 HL.out.2.1).mono ?_; rintro e w2 ⟨v, rfl, ho, hl⟩; rw [E2.out] at ho hl; have HL2 := Aside0.mk (HL.out.trans hl); obtain ⟨A2, c2, rfl, hlc, hrd⟩ := Ob.reads ho; have HRD := Aside0.mk hrd; clear HL ho hl hlc hrd hx0
  by_cases hz : 0 < l.length
  · have hzi : (0 : Int) < (l.length : Int) := by omega
    obtain ⟨ad2, hA2, hc2⟩ := Kd.at_int HRD.out 0 (Int.le_refl _) hzi
    subst hA2
    have hz0 : decide (0 < l.length) = true := decide_eq_true hz
    have hz1 : decide (0 < (l.length : Int)) = true := decide_eq_true (by omega)
    have hb1 : (rd l 0 == 0) = false := by rw [hz0, Bool.true_and] at hb; exact hb
    have hc3 : w2.cell? ad2 = some (.int .u8 (rd l 0)) := by simpa [Addr.add] using hc2
    clear hb hc2
    go_wp2_with (first
      | (go_at_call 89; refine (okO _ _ _ _ HL2.out.1).mono ?_; rintro e w' ⟨rfl, rfl⟩))
    clear hz0 hz1 hb1 hc3 hzi
    go_loop [5, 45] (fun n i => ∃ k : Nat, k ≤ l.length ∧ i = .int .i64 k ∧ n = .int .u64 (valueB (l.take k))) (fun _ i => l.length - (intOf i).toNat)
    case atStart => exact ⟨0, Nat.zero_le _, rfl, rfl⟩
    case round =>
      obtain ⟨k, hk, rfl, rfl⟩ := hrel
      by_cases hlt : k < l.length
      · obtain ⟨ad3, hA3, hc3⟩ := Kd.at_int HRD.out (k : Int) (Int.natCast_nonneg k) (by omega)
        injection hA3 with hA3
        subst hA3
        rw [Int.toNat_natCast] at hc3
        have HV := Aside0.mk (value_step HU.out h8 k hlt)
        go_wp2
        go_round
        case rel => exact ⟨k + 1, by omega, by go_num, by rw [← HV.out]⟩
        case measure => simp [intOf]; omega
      · go_wp2
        go_ret
        have hkl : k = l.length := by omega
        exact ⟨by rw [hkl, List.take_length]; rfl, HL2.out⟩
  · have hz0 : decide (0 < l.length) = false := decide_eq_false hz
    have hl0 : l = [] := List.length_eq_zero_iff.1 (by omega)
    subst hl0
    clear hb hz hz0 h8
    have hf0 : decide ((0 : Int) < 0) = false := rfl
    go_wp2_with (first
      | (go_at_call 89; refine (okO _ _ _ _ HL2.out.1).mono ?_; rintro e w' ⟨rfl, rfl⟩))
    go_loop [5, 45] (fun n i => i = .int .i64 0 ∧ n = .int .u64 0) (fun _ _ => 0)
    case atStart => exact ⟨rfl, rfl⟩
    case round =>
      obtain ⟨rfl, rfl⟩ := hrel
      go_wp2
      go_ret
      exact ⟨rfl, HL2.out⟩

set_option maxHeartbeats 800000 in
theorem num_nil (w : World) : Calls Try.prog 120 #[.pointer none] w fun e w' => e = .returned (.int .u64 0) ∧ w = w' := by
  go_enter Try.func120, Try.ntmps120
  go_wp2_with (first
    | (go_at_call 91; refine (take_nil _ _).mono ?_; rintro e w' ⟨rfl, rfl⟩)
    | (go_at_call 89; refine (ok_nil _).mono ?_; rintro e w' ⟨rfl, rfl⟩)
    | (go_at_call 121; refine (fail_nil _).mono ?_; rintro e w' ⟨rfl, rfl⟩))
  go_ret
  exact ⟨rfl, rfl⟩
theorem numO_ (w0 w : World) (g : Nat) (st : Option (List Int)) (h : RdO w0 w g st) (hB : Below w0.heap.size w0 w) :
    Calls Try.prog 120 #[.pointer (some ⟨g, 0, none⟩)] w fun e w' => e = .returned (.int .u64 (numO st).1) ∧ Left w0 w w' g (numO st).2 := by
  match st, h with
  | none, h => exact num_none w0 w g none h hB rfl
  | some [], h => exact num_none w0 w g (some []) h hB rfl
  | some (x :: r), h =>
    have hx0 := h.u8.1.head.1
    simp only [numO]
    by_cases h1 : x > 8
    · rw [if_pos h1]; exact num_wide w0 w g x r h hB h1
    · rw [if_neg h1]
      by_cases h2 : (r.length : Int) < x
      · rw [if_pos h2]; exact num_short w0 w g x r h hB hx0 (by omega) h2
      · rw [if_neg h2]
        by_cases h3 : 0 < x ∧ r.getD 0 0 = 0
        · rw [if_pos h3]
          cases r with
          | nil => simp at h2; omega
          | cons y r => exact num_zero w0 w g x y r h hB h3.1 (by omega) (by simp at h2; omega) (by simpa using h3.2)
        · rw [if_neg h3]; exact num_good w0 w g x r h hB hx0 (by omega) (by omega) h3


set_option maxHeartbeats 1600000 in
set_option maxRecDepth 100000 in
theorem countO_ (w0 w : World) (g : Nat) (st : Option (List Int)) (most : Int) (h : RdO w0 w g st) (hB : Below w0.heap.size w0 w) (hm : most ≤ 9223372036854775807) :
    Calls Try.prog 88 #[.pointer (some ⟨g, 0, none⟩), .int .i64 most] w fun e w' => e = .returned (.int .i64 (countO st most).1) ∧ Left w0 w w' g (countO st most).2 := by
  have HS := Aside0.mk h
  have HB := Aside0.mk hB
  have hr := numO_range (st := st) (fun bs e => by subst e; exact h.u8.1)
  unfold countO
  obtain ⟨nv, hnv⟩ : ∃ nv, nv = (numO st).1 := ⟨_, rfl⟩
  rw [← hnv] at hr ⊢
  have HN := Aside0.mk hnv
  have HR := Aside0.mk hr
  have HM := Aside0.mk hm
  clear hm
  clear hr hnv h hB
  by_cases h1 : most < 0
  · rw [if_pos (Or.inl h1)]
    have hd : decide (most < 0) = true := decide_eq_true h1
    clear h1
    go_enter Try.func88, Try.ntmps88
    go_wp2_with (first
      | (go_at_call 120; refine (numO_ _ _ _ _ HS.out HB.out).mono ?_; rintro e w1 ⟨rfl, hl⟩; rw [← HN.out]; have HL := Aside0.mk hl; clear hl)
      | (go_at_call 121; refine (failO _ _ _ _ HL.out.1 HL.out.2.1).mono ?_; rintro e w2 ⟨rfl, hf⟩; have HF := Aside0.mk hf; clear hf))
    go_ret
    exact ⟨rfl, HL.out.trans HF.out⟩
  · have hd : decide (most < 0) = false := decide_eq_false h1
    have hw : IntKind.u64.wrap most = most := IntWalk.u64_in _ (by have := HM.out; omega)
    by_cases h2 : nv > most
    · rw [if_pos (Or.inr h2)]
      have hd2 : decide (most < nv) = true := decide_eq_true h2
      clear h1 h2
      go_enter Try.func88, Try.ntmps88
      go_wp2_with (first
        | (go_at_call 120; refine (numO_ _ _ _ _ HS.out HB.out).mono ?_; rintro e w1 ⟨rfl, hl⟩; rw [← HN.out]; have HL := Aside0.mk hl; clear hl)
        | (go_at_call 121; refine (failO _ _ _ _ HL.out.1 HL.out.2.1).mono ?_; rintro e w2 ⟨rfl, hf⟩; have HF := Aside0.mk hf; clear hf))
      go_ret
      exact ⟨rfl, HL.out.trans HF.out⟩
    · rw [if_neg (by omega)]
      have hd2 : decide (most < nv) = false := decide_eq_false h2
      have hv : wrap64 nv = nv := IntWalk.wrap64_in _ (by have := HM.out; have := HR.out; omega)
      clear h1 h2
      go_enter Try.func88, Try.ntmps88
      go_wp2_with (first
        | (go_at_call 120; refine (numO_ _ _ _ _ HS.out HB.out).mono ?_; rintro e w1 ⟨rfl, hl⟩; rw [← HN.out]; have HL := Aside0.mk hl; clear hl))
      go_ret
      exact ⟨by rw [← HN.out, hv]; rfl, HL.out⟩

set_option maxHeartbeats 800000 in
theorem textO_ (w0 w : World) (g : Nat) (st : Option (List Int)) (most : Int) (h : RdO w0 w g st) (hB : Below w0.heap.size w0 w) (hm : most ≤ 9223372036854775807) :
    Calls Try.prog 87 #[.pointer (some ⟨g, 0, none⟩), .int .i64 most] w fun e w' => ∃ v, e = .returned v ∧ Ob w' w.heap.size v (textO st most).1 ∧ Left w0 w w' g (textO st most).2 := by
  have HS := Aside0.mk h
  have HB := Aside0.mk hB
  have HM := Aside0.mk hm
  clear hm h hB
  go_enter Try.func87, Try.ntmps87
  go_wp2_with (first
    | (go_at_call 88; refine (countO_ _ _ _ _ _ HS.out HB.out HM.out).mono ?_; rintro e w1 ⟨rfl, hl⟩; have HL := Aside0.mk hl; clear hl)
    | (go_at_call 91; refine (takeO_ _ _ _ _ _ HL.out.1 HL.out.2.1).mono ?_; rintro e w2 ⟨v, rfl, ho, hl⟩; have HO := Aside0.mk ho; have HT := Aside0.mk hl; clear hl ho))
  go_ret
  exact ⟨_, rfl, Kd.R_lower HO.out HL.out.2.2.1, HL.out.trans HT.out⟩
end Go.Proofs.Ytgdpabedlghiaaa.Tlv
/- inode.Get: which inode bytes are. -/
namespace Go.Proofs.Ytgdpabedlghiaaa.InodeGet
open Go.RowKit Go.Proofs.Ytgdpabedlghiaaa.RdPlain Go.Proofs.Ytgdpabedlghiaaa.Base Go.Proofs.Ytgdpabedlghiaaa.TlvPlain Go.Proofs.Ytgdpabedlghiaaa.Tlv Go.Proofs.Ytgdpabedlghiaaa.Name Go.Proofs.Ytgdpabedlghiaaa.InodeEv Go.Proofs.Ytgdpabedlghiaaa.InodePut Go.Proofs.Ytgdpabedlghiaaa.InodeLive Go.Proofs.Ytgdpabedlghiaaa.InodeBk Go.Proofs.Ytgdpabedlghiaaa.AllocEv Go.Proofs.Ytgdpabedlghiaaa.Aid Go.Proofs.Ytgdpabedlghiaaa.PZ Go.Proofs.YtgdpabedlghiaaaW.PrintWords Go.Proofs.YtgdpabedlghiaaaW.PrintLast Go.Proofs.YtgdpabedlghiaaaW.PrintMore

/-- A block that was laid just ahead of a reader's call lies there behind it. -/
theorem new_kept {w0 W W1 : World} {g : Nat} {st : Option (List Int)} {cs : Array Value} {T : Nat} (h : Tlv.Left w0 (W.alloc (.cells cs T)) W1 g st) (hne : W.heap.size ≠ g) : W1.heap[W.heap.size]? = some (.cells cs T (0, 0)) :=
  h.2.2.blk (blk_new W (.cells cs T)) hne (by simp)
/-- A row that was read ahead of a reader's call is read behind it. -/
theorem row_kept {w0 W W1 : World} {g : Nat} {st st1 : Option (List Int)} {A : Option Addr} {xs : List Int} (hr : Rb W A xs) (hS : RdO w0 W g st) (h : Tlv.Left w0 W W1 g st1) : Kd.C (Kd.int .u8) W1 A xs.length xs := by
  obtain ⟨_, _, cs, hb, hcs⟩ := hS.blk
  exact reads_keep hr h.2.2 (reads_ne hb hcs hr)
/-- The cells of an inode's block. -/
def BlkI (w : World) (g : Nat) (nm : ByteArray) (z : Int) (v : Value) : Prop := w.heap[g]? = some (.cells #[.string nm, .int .i64 z, v] 24 (0, 0))
theorem blki_new (w : World) (nm : ByteArray) (z : Int) (v : Value) : BlkI (w.alloc (.cells #[.string nm, .int .i64 z, v] 24)) w.heap.size nm z v := blk_new _ _
theorem blki_set {w : World} {g : Nat} {nm nm' : ByteArray} {z z' : Int} {v v' : Value} (h : BlkI w g nm z v) : BlkI (((w.setCell ⟨g, 0, none⟩ (.string nm')).setCell ⟨g, 1, none⟩ (.int .i64 z')).setCell ⟨g, 2, none⟩ v') g nm' z' v' := by
  have h1 := blk_set h 0 (.string nm')
  have h2 := blk_set h1 1 (.int .i64 z')
  have h3 := blk_set h2 2 v'
  simpa [BlkI] using h3
theorem blki_keep {w w' : World} {g g' : Nat} {nm : ByteArray} {z : Int} {v : Value} (h : BlkI w g nm z v) (hk : KeepBut w w' g' none) (hne : g ≠ g') : BlkI w' g nm z v := hk.blk h hne (by simp)
theorem blki_below {w w' : World} {g : Nat} {nm : ByteArray} {z : Int} {v : Value} (h : BlkI w g nm z v) (hb : Below w.heap.size w w') : BlkI w' g nm z v := blk_below h hb
theorem blki_lt {w : World} {g : Nat} {nm : ByteArray} {z : Int} {v : Value} (h : BlkI w g nm z v) : g < w.heap.size := blk_lt h
theorem keep_set3 {w w' : World} {g : Nat} (h : KeepBut w w' g none) (a b c : Value) {q : Nat} (hq : w.heap.size ≤ q) : KeepBut w (((w'.setCell ⟨q, 0, none⟩ a).setCell ⟨q, 1, none⟩ b).setCell ⟨q, 2, none⟩ c) g none := keep_far (keep_far (keep_far h hq _) hq _) hq _
theorem left_alloc {w W W1 : World} {g : Nat} {st : Option (List Int)} (h : Tlv.Left w W W1 g st) (o : Obj) : Tlv.Left w W (W1.alloc o) g st := ⟨h.1.below (below_alloc (Below.refl _ _) _), below_alloc h.2.1 _, keep_alloc h.2.2 _⟩
def getR (t : List Int) (z n : Int) : Option (List Int) → (ByteArray × Int × List Int) × Int
  | none => ((⟨#[]⟩, 0, []), 2)
  | some rest => if (listSpec rest n).2 = true ∧ mayB (strOfNums t) z (listSpec rest n).1 n = true then ((strOfNums t, z, (listSpec rest n).1), 0) else ((⟨#[]⟩, 0, []), 2)
theorem getR_some (t : List Int) (z n : Int) (rest : List Int) : getR t z n (some rest) = if (listSpec rest n).2 = true ∧ mayB (strOfNums t) z (listSpec rest n).1 n = true then ((strOfNums t, z, (listSpec rest n).1), 0) else ((⟨#[]⟩, 0, []), 2) := rfl
theorem getS_of {b : List Int} (n : Int) {t : List Int} {s1 s2 : Option (List Int)} {z : Int} (h1 : textO (some b) 16 = (t, s1)) (h2 : countO s1 24576 = (z, s2)) : getS b n = getR t z n s2 := by
  unfold getS
  rw [h1]
  dsimp only
  rw [h2]
  cases s2 <;> rfl
/-- What stands behind region 2: the inode's block, and the reader. -/
def Rel (w W wx : World) (g g7 : Nat) (nm : ByteArray) (z : Int) (st : Option (List Int)) : Prop :=
  W.heap.size ≤ g7 ∧ BlkI wx g7 nm z (.slice none 0 0) ∧ RdO w wx g st ∧ Below w.heap.size w wx ∧ KeepBut W wx g none
theorem bytes_no (nm : ByteArray) (z : Int) (v : Value) (hv : ∀ n, v ≠ Value.int .u8 n) (i : Nat) (u : Value) (h : (#[.string nm, .int .i64 z, v] : Array Value)[i]? = some u) (n : Int) : u ≠ .int .u8 n := by
  match i, h with
  | 0, h => cases h; simp
  | 1, h => cases h; simp
  | 2, h => cases h; exact hv n
theorem rdo_set {w W : World} {g q : Nat} {st : Option (List Int)} {nm nm' : ByteArray} {z z' : Int} {v v' : Value} (h : RdO w W g st) (hq : BlkI W q nm z v) (hne : g ≠ q) (hv : ∀ n, v ≠ Value.int .u8 n) : RdO w (((W.setCell ⟨q, 0, none⟩ (.string nm')).setCell ⟨q, 1, none⟩ (.int .i64 z')).setCell ⟨q, 2, none⟩ v') g st :=
  h.keep (((KeepBut.refl W q none).set_ 0 _).set_ 1 _ |>.set_ 2 _) hne hq (bytes_no nm z v hv)
theorem rel_a {w W w5 : World} {g : Nat} {nm : ByteArray} {z : Int} {st : Option (List Int)} (h : Tlv.Left w W w5 g st) : Rel w W (w5.alloc (.cells #[.string nm, .int .i64 z, .slice none 0 0] 24)) g w5.heap.size nm z st :=
  ⟨h.2.2.1, blki_new _ _ _ _, h.1.below (below_alloc (Below.refl _ _) _), below_alloc h.2.1 _, keep_alloc h.2.2 _⟩
theorem rel_b {w W w5 : World} {g q : Nat} {nm nm0 : ByteArray} {z z0 : Int} {st : Option (List Int)} (h : Tlv.Left w W w5 g st) (hq : BlkI w5 q nm0 z0 (.slice none 0 0)) (hw : w.heap.size ≤ q) (hW : W.heap.size ≤ q) (hg : g < W.heap.size) :
    Rel w W (((w5.setCell ⟨q, 0, none⟩ (.string nm)).setCell ⟨q, 1, none⟩ (.int .i64 z)).setCell ⟨q, 2, none⟩ (.slice none 0 0)) g q nm z st :=
  ⟨hW, blki_set hq, rdo_set h.1 hq (by omega) (by simp), below_set (below_set (below_set h.2.1 hw) hw) hw, keep_set3 h.2.2 _ _ _ hW⟩
set_option maxHeartbeats 2000000 in
set_option maxRecDepth 100000 in
theorem get_c (w : World) (A : Option Addr) (c : Nat) (b : List Int) (n : Int) (hr : Rb w A b) (hc : b.length ≤ c) (hl : b.length ≤ 1000) (hu : U8 b) :
    Calls Try.prog 43 #[.slice A b.length c, .int .i64 n] w fun e w' => ∃ v, e = .returned (.tuple #[.agg #[.string (getS b n).1.1, .int .i64 (getS b n).1.2.1, v], .int .i64 (getS b n).2]) ∧ Kd.R (Kd.int .i64) 3 w' w.heap.size (fun _ => True) v (getS b n).1.2.2 ∧ Below w.heap.size w w' := by
  have HR := Aside0.mk hr
  have HC := Aside0.mk hc
  have HL := Aside0.mk hl
  have HU := Aside0.mk hu
  have HB := Aside0.mk (below_alloc (Below.refl w.heap.size w) (.cells #[.string ⟨#[]⟩, .int .i64 0, .slice none 0 0] 24))
  have H0 := Aside0.mk (blki_new w ⟨#[]⟩ 0 (.slice none 0 0))
  clear hr hc hl hu
  go_enter Try.func43, Try.ntmps43
  go_wp2_with (fail)
  refine (newO A c b _ (Kd.C_below HR.out HB.out) HC.out (by have := HL.out; omega) HU.out).mono ?_
  rintro e w1 ⟨g, rfl, hs, hb⟩
  have HS := Aside0.mk (RdO.lower hs HB.out.size)
  have HG := Aside0.mk (show w.heap.size + 1 ≤ g by have := hs.blk.1; simpa using this)
  have H1 := Aside0.mk (blki_below H0.out hb)
  have n1_ := Aside0.mk (below_step HB.out hb); clear HB; have HB := n1_; clear n1_
  clear hs hb
  go_upto_region 2 with (fail)
  have HS1 := Aside0.mk (HS.out.below (below_drew1 (Below.refl _ _)))
  have HB1 := Aside0.mk (below_drew1 HB.out)
  go_cut [7] (fun s7 wx => ∃ g7, s7 = .pointer (some ⟨g7, 0, none⟩) ∧ Rel w w1.drew wx g g7 (strOfNums (textO (some b) 16).1) (countO (textO (some b) 16).2 24576).1 (countO (textO (some b) 16).2 24576).2)
  case first =>
    -- {{
    go_region_law (first
      | (go_simp; go_at_call 87; refine (textO_ w _ g (some b) 16 (RdO.below HS1.out (by first | exact Below.refl _ _ | exact below_alloc (Below.refl _ _) _)) (by first | exact HB1.out | exact below_alloc HB1.out _) (by omega)).mono ?_; rintro e w4 ⟨v, rfl, ho, hl⟩; have hcv := own_string (P := Try.prog) Try.underlying27 Try.underlying5 Try.underlying9 (Kd.own_of_R ho); obtain ⟨A5, c5, rfl, hl5, hr5⟩ := Ob.reads ho; have HR5 := Aside0.mk hr5; have hcw := (fun o : Obj => Kd.C_string (P := Try.prog) (c := c5) Try.underlying27 Try.underlying5 Try.underlying9 (Kd.C_alloc HR5.out o)); have HL := Aside0.mk hl; (try (have kk := new_kept hl (by have := HS1.out.blk; simp at this ⊢; omega); have KK := Aside0.mk kk; clear kk)); clear ho hl hl5 hr5)
      | (go_simp; go_at_call 88; refine (countO_ w _ g (textO (some b) 16).2 24576 (by first | exact HL.out.1 | exact RdO.below HL.out.1 (below_alloc (Below.refl _ _) _)) (by first | exact HL.out.2.1 | exact below_alloc HL.out.2.1 _) (by omega)).mono ?_; rintro e w5 ⟨rfl, hl⟩; have HL5 := Aside0.mk hl; have hcv2 := Kd.C_string (P := Try.prog) (c := c5) Try.underlying27 Try.underlying5 Try.underlying9 (row_kept (by first | exact HR5.out | exact Kd.C_alloc HR5.out _) (by first | exact HL.out.1 | exact RdO.below HL.out.1 (below_alloc (Below.refl _ _) _)) hl); have hcw2 := (fun o : Obj => Kd.C_string (P := Try.prog) (c := c5) Try.underlying27 Try.underlying5 Try.underlying9 (Kd.C_alloc (row_kept (by first | exact HR5.out | exact Kd.C_alloc HR5.out _) (by first | exact HL.out.1 | exact RdO.below HL.out.1 (below_alloc (Below.refl _ _) _)) hl) o)); (try (have kk := hl.2.2.blk KK.out (by have := HS1.out.blk; simp at this ⊢; omega) (by simp); have z0 := blk_cell kk 0; have z1 := blk_cell kk 1; have z2 := blk_cell kk 2; have y0 := blk_frozen kk 0; have y1 := blk_frozen kk 1; have y2 := blk_frozen kk 2)); (try (have kk := new_kept hl (by have := HL.out.1.blk; simp; omega); have z0 := blk_cell kk 0; have z1 := blk_cell kk 1; have z2 := blk_cell kk 2; have y0 := blk_frozen kk 0; have y1 := blk_frozen kk 1; have y2 := blk_frozen kk 2)); clear hl))
    all_goals
      go_wp2_with (fail)
      go_meet
      case rel => first
        | exact ⟨_, rfl, rel_a (HL.out.trans HL5.out)⟩
        | exact ⟨_, rfl, rel_b ((left_alloc HL.out _).trans HL5.out) kk (by have := HB1.out.size; have := HL.out.2.2.1; omega) (by have := HL.out.2.2.1; omega) (HS1.out.blk.2.1)⟩
        | exact ⟨_, rfl, rel_b ((left_alloc (Tlv.Left.refl HS1.out HB1.out) _).trans (HL.out.trans HL5.out)) kk (by have := HB1.out.size; simpa using this) (Nat.le_refl _) (HS1.out.blk.2.1)⟩
    -- }}
  case rest =>
    obtain ⟨g7, rfl, h7, hb7, hs7, hbel, hkp⟩ := hcut
    have H0c := Aside0.mk (blki_keep (blki_below H1.out (below_drew1 (Below.refl _ _))) hkp (by have := HG.out; omega))
    have H7 := Aside0.mk hb7
    have HN7 := Aside0.mk (show w.heap.size < g7 ∧ g7 ≠ g by have := hs7.blk.1; have := HS1.out.blk.2.1; have := HG.out; exact ⟨by omega, by omega⟩)
    have HSc := Aside0.mk hs7
    have HBc := Aside0.mk hbel
    clear h7 hb7 hs7 hbel hkp HS1 HB1 HS HB H1 H0
    obtain ⟨t, s1, ht⟩ : ∃ t s1, textO (some b) 16 = (t, s1) := ⟨_, _, rfl⟩
    rw [ht] at H7 HSc
    obtain ⟨z, s2, hz⟩ : ∃ z s2, countO s1 24576 = (z, s2) := ⟨_, _, rfl⟩
    dsimp only at H7 HSc
    rw [hz] at H7 HSc
    dsimp only at H7 HSc
    have HGS := Aside0.mk (getS_of n ht hz)
    have HU2 := Aside0.mk (fun rest (e : s2 = some rest) => (show U8 rest ∧ rest.length ≤ b.length from by
      subst e
      cases s1 with
      | none => rw [count_none] at hz; cases hz
      | some s1 =>
        obtain ⟨e1, _⟩ := text_back HU.out ht
        obtain ⟨u1, u2⟩ := textO_u8' HU.out ht
        obtain ⟨e2, _⟩ := count_back u2 hz
        refine ⟨countO_u8' u2 hz, ?_⟩
        rw [e1, e2, List.length_append, List.length_append]; omega))
    clear ht hz
    cases s2 with
    | none =>
      have z0 := blk_cell H0c.out 0; have z1 := blk_cell H0c.out 1; have z2 := blk_cell H0c.out 2; have y0 := blk_frozen H0c.out 0; have y1 := blk_frozen H0c.out 1; have y2 := blk_frozen H0c.out 2
      go_wp2_with (go_at_call 89; refine (okO w _ g none HSc.out).mono ?_; rintro e w2 ⟨rfl, rfl⟩)
      refine bodyPost_ret (results_ct rfl _ _ w.heap.size 24 #[.string ⟨#[]⟩, .int .i64 0, .slice none 0 0] (0, 0) _ rfl (blki_set H0c.out) Try.underlying24 rfl (by kernel_rfl)) rfl ?_
      rw [HGS.out]
      exact ⟨_, rfl, Kd.R_nil _ _ _ _ _, below_set (below_set (below_set HBc.out (Nat.le_refl _)) (Nat.le_refl _)) (Nat.le_refl _)⟩
    | some rest =>
      obtain ⟨hu, hl⟩ := HU2.out rest rfl
      have HTK := Aside0.mk (show takeO (some rest) (leftO (some rest)) = (rest, some []) by have h := take_app rest []; rw [List.append_nil] at h; exact h)
      obtain ⟨l, ok, hlo⟩ : ∃ l ok, listSpec rest n = (l, ok) := ⟨_, _, rfl⟩
      have HLO := Aside0.mk hlo
      have hle := list_ev rest n hu (by have := HL.out; omega)
      rw [hlo] at hle
      obtain ⟨kl, hkl⟩ := hle.rounds
      have HKL := Aside0.mk hkl
      have HU3 := Aside0.mk hu
      have HLR := Aside0.mk (show rest.length ≤ 1000 by have := HL.out; omega)
      clear HU2 hu hl hkl hle hlo
      go_upto_region 7 with (first
        | (go_at_call 89; refine (okO w _ g (some rest) HSc.out).mono ?_; rintro e w2 ⟨rfl, rfl⟩)
        | (go_at_call 92; refine (leftO_ w _ g (some rest) HSc.out).mono ?_; rintro e w2 ⟨rfl, rfl⟩)
        | (go_at_call 91; refine (takeO_ w _ g (some rest) (leftO (some rest)) HSc.out HBc.out).mono ?_; rintro e w3 ⟨v, rfl, ho, hl⟩; rw [HTK.out] at ho hl; obtain ⟨A5, c5, rfl, hl5, hr5⟩ := Ob.reads ho; have H0d := Aside0.mk (blki_keep H0c.out hl.2.2 (by have := HSc.out.blk.1; have := HN7.out; have := HG.out; omega)); have H7d := Aside0.mk (blki_keep H7.out hl.2.2 HN7.out.2); have HBd := Aside0.mk hl.2.1; have HR5 := Aside0.mk hr5; have HL5 := Aside0.mk hl5; clear ho hl hr5 hl5)
        | (go_at_call 90; refine (alloc_List.calls kl A5 c5 rest n l ok _ HR5.out HL5.out HKL.out).mono ?_; rintro e w4 ⟨v, rfl, ho, hb⟩; obtain ⟨A6, c6, rfl, hl6, hr6⟩ := Kd.R_reads ho; have HO := Aside0.mk ho; have HL6 := Aside0.mk hl6; have H0e := Aside0.mk (blki_below H0d.out hb); have H7e := Aside0.mk (blki_below H7d.out hb); have HBe := Aside0.mk (below_step HBd.out hb); have z2 := blk_cell H7e.out 2; have y2 := blk_frozen H7e.out 2; clear ho hb hl6 hr6))
      obtain ⟨w5, hw5⟩ : ∃ x, w4.setCell ⟨g7, 2, none⟩ (.slice A6 l.length c6) = x := ⟨_, rfl⟩
      have H7f := Aside0.mk (show BlkI w5 g7 (strOfNums t) z (.slice A6 l.length c6) by rw [← hw5]; have h := blk_set H7e.out 2 (.slice A6 l.length c6); simpa [BlkI] using h)
      have H0f := Aside0.mk (show BlkI w5 w.heap.size ⟨#[]⟩ 0 (.slice none 0 0) by rw [← hw5]; exact blk_far H0e.out (by have := HN7.out; dsimp only; omega) _)
      have HOf := Aside0.mk (show Kd.R (Kd.int .i64) 3 w5 w3.heap.size (fun _ => True) (.slice A6 l.length c6) l by rw [← hw5]; exact Kd.R_set HO.out H7e.out (by decide) 2 _)
      have HBf := Aside0.mk (show Below w.heap.size w w5 by rw [← hw5]; exact below_set HBe.out (Nat.le_of_lt HN7.out.1))
      have HW3 := Aside0.mk HBd.out.size
      rw [hw5]
      clear hw5 z2 y2 HO H0e H7e HBe H0d H7d HBd HKL HSc H7 H0c HBc HR5 HL5
      have q0 := blk_cell H7f.out 0; have q1 := blk_cell H7f.out 1; have q2 := blk_cell H7f.out 2
      have HRf := Aside0.mk (Kd.R_reads' HOf.out).2.2
      have HCK := Aside0.mk (check_c (strOfNums t) z A6 c6 l n w5 HRf.out HL6.out (by have h1 := listSpec_len rest n; rw [HLO.out] at h1; have := HLR.out; dsimp only at h1; omega))
      cases ok with
      | false =>
        have z0 := blk_cell H0f.out 0; have z1 := blk_cell H0f.out 1; have z2 := blk_cell H0f.out 2; have y0 := blk_frozen H0f.out 0; have y1 := blk_frozen H0f.out 1; have y2 := blk_frozen H0f.out 2
        go_wp2_with (fail)
        refine bodyPost_ret (results_ct rfl _ _ w.heap.size 24 #[.string ⟨#[]⟩, .int .i64 0, .slice none 0 0] (0, 0) _ rfl (blki_set H0f.out) Try.underlying24 rfl (by kernel_rfl)) rfl ?_
        rw [HGS.out]
        rw [getR_some, HLO.out, if_neg (by simp)]
        exact ⟨_, rfl, Kd.R_nil _ _ _ _ _, below_set (below_set (below_set HBf.out (Nat.le_refl _)) (Nat.le_refl _)) (Nat.le_refl _)⟩
      | true =>
        cases hm : mayB (strOfNums t) z l n with
        | false =>
          have HM := Aside0.mk hm
          rw [hm, if_neg (by decide)] at HCK
          clear hm
          go_wp2_with (go_at_call 20; refine HCK.out.mono ?_; rintro e w6 ⟨rfl, hb⟩; have H0g := Aside0.mk (blki_below H0f.out hb); have HBg := Aside0.mk (below_step HBf.out hb); have z0 := blk_cell H0g.out 0; have z1 := blk_cell H0g.out 1; have z2 := blk_cell H0g.out 2; have y0 := blk_frozen H0g.out 0; have y1 := blk_frozen H0g.out 1; have y2 := blk_frozen H0g.out 2; clear hb)
          refine bodyPost_ret (results_ct rfl _ _ w.heap.size 24 #[.string ⟨#[]⟩, .int .i64 0, .slice none 0 0] (0, 0) _ rfl (blki_set H0g.out) Try.underlying24 rfl (by kernel_rfl)) rfl ?_
          rw [HGS.out]
          rw [getR_some, HLO.out, if_neg (by dsimp only; rw [HM.out]; simp)]
          exact ⟨_, rfl, Kd.R_nil _ _ _ _ _, below_set (below_set (below_set HBg.out (Nat.le_refl _)) (Nat.le_refl _)) (Nat.le_refl _)⟩
        | true =>
          have HM := Aside0.mk hm
          rw [hm, if_pos rfl] at HCK
          clear hm
          go_wp2_with (go_at_call 20; refine HCK.out.mono ?_; rintro e w6 ⟨rfl, hb⟩; have H0g := Aside0.mk (blki_below H0f.out hb); have H7g := Aside0.mk (blki_below H7f.out hb); have HOg := Aside0.mk (Kd.R_below HOf.out hb); have HBg := Aside0.mk (below_step HBf.out hb); have z0 := blk_cell H0g.out 0; have z1 := blk_cell H0g.out 1; have z2 := blk_cell H0g.out 2; have y0 := blk_frozen H0g.out 0; have y1 := blk_frozen H0g.out 1; have y2 := blk_frozen H0g.out 2; clear q0 q1 q2; have q0 := blk_cell H7g.out 0; have q1 := blk_cell H7g.out 1; have q2 := blk_cell H7g.out 2; clear hb)
          refine bodyPost_ret (results_ct rfl _ _ w.heap.size 24 #[.string (strOfNums t), .int .i64 z, .slice A6 l.length c6] (0, 0) _ rfl (blki_set H0g.out) Try.underlying24 rfl (by kernel_rfl)) rfl ?_
          rw [HGS.out]
          rw [getR_some, HLO.out, if_pos ⟨rfl, HM.out⟩]
          exact ⟨_, rfl, Kd.R_lower (Kd.R_set (Kd.R_set (Kd.R_set HOg.out H0g.out (by decide) 0 _) (blk_set H0g.out 0 _) (by decide) 1 _) (blk_set (blk_set H0g.out 0 _) 1 _) (by decide) 2 _) HW3.out, below_set (below_set (below_set HBg.out (Nat.le_refl _)) (Nat.le_refl _)) (Nat.le_refl _)⟩
end Go.Proofs.Ytgdpabedlghiaaa.InodeGet
