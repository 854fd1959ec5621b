/- Own and printed texts, laid together. -/
import Derived.Test.YtgdpabedlghiaaaInGA
import Derived.Test.YtgdpabedlghiaaaInGB
import Derived.Shelf.GgClosure.StringsIndexFunc
import Derived.Deep.LoopGhost
-- printed for this claim by a program (pall.sh)
namespace Go.Proofs.Ytgdpabedlghiaaa.PZ
open Go.RowKit Go.Proofs.YtgdpabedlghiaaaW.PrintWords Go.Proofs.YtgdpabedlghiaaaW.PrintLast Go.Proofs.YtgdpabedlghiaaaW.PrintMore
attribute [local go_sem] max2_int min2_int max_two min_two max_three min_three max_four min_four   -- for this text's walks alone
set_option linter.unusedVariables false
set_option linter.unusedSimpArgs false

/-! ### hanaperref01_Text: function 60 -/
def hanaperref01_Text.f (k : Nat) (l0 : List Int) : Option (List Int) := (hanaperref01_Num.f k (IntKind.u64.wrap ((l0.length : Int)))).bind fun t101 => (if t101.length + l0.length < 140737488355328 then (some (t101 ++ l0)) else (none))
theorem hanaperref01_Text.mono : ∀ a0 k, LeO (hanaperref01_Text.f k a0) (hanaperref01_Text.f (k + 1) a0) := by
  intro a0 k
  unfold hanaperref01_Text.f
  repeat' first
      | (with_reducible exact hanaperref01_Num.mono _ _)
      | (with_reducible exact LeO.refl _)
      | (with_reducible exact LeO.none _)
      | (with_reducible refine LeO.ite ?_ ?_)
      | (with_reducible refine LeO.bind ?_ (fun _ => ?_))
      | exact hanaperref01_Num.mono _ _
      | exact LeO.none _
      | refine LeO.ite ?_ ?_
      | refine LeO.bind ?_ (fun _ => ?_)
set_option maxHeartbeats 8000000 in
set_option maxRecDepth 100000 in
theorem hanaperref01_Text.calls (k : Nat) (A0 : Option Addr) (c0 : Nat) (l0 : List Int) (r : List Int) (w : World) (hr0 : Kd.C (Kd.int .u8) w A0 l0.length l0) (hc0 : l0.length ≤ c0) (h : hanaperref01_Text.f k l0 = some r) :
    Calls Try.prog 60 #[.slice A0 l0.length c0] w fun e w' => ∃ v0_ : Value, e = .returned (v0_) ∧ Kd.R (Kd.int .u8) 5 w' w.heap.size (fun _ => True) v0_ r ∧ Below w.heap.size w w' := by
  have HR0 := Aside0.mk hr0
  have HC0 := Aside0.mk hc0
  clear hr0 hc0
  have HB := Aside0.mk (Below.refl w.heap.size w)
  have H : ((hanaperref01_Num.f k (IntKind.u64.wrap ((l0.length : Int)))).bind fun t101 => (if t101.length + l0.length < 140737488355328 then (some (t101 ++ l0)) else (none))) = some r := h
  clear h
  replace H := Option.bind_eq_some_iff.mp H
  obtain ⟨t101, A20, H⟩ := H
  replace H : (if t101.length + l0.length < 140737488355328 then (some (t101 ++ l0)) else (none)) = some r := H
  have A2 := Aside0.mk A20
  clear A20
  by_cases c3 : t101.length + l0.length < 140737488355328
  · rw [if_pos c3] at H
    have LMc3 := Aside0.mk c3
    clear c3
    obtain ⟨y104, hy104⟩ : ∃ y_ : List Int, y_ = (t101 ++ l0) := ⟨_, rfl⟩
    replace H : (some y104) = some r := by first | (rw [hy104]; with_reducible exact H) | (have H2_ := (Option.bind_some _ _).symm.trans H; rw [hy104]; with_reducible exact H2_) | (have H2_ := (Option.bind_some _ _).symm.trans H; with_reducible exact H2_) | with_reducible exact H | (rw [hy104]; exact H) | exact H
    have Ny104 := Aside0.mk hy104
    clear hy104
    obtain rfl := Option.some.inj H
    go_enter Try.func60, Try.ntmps60
    go_wp2_with (first | ((with_reducible refine gate_callee (f := 107) rfl ?_); refine goesL_ (some 6) rfl rfl Try.func107 (by kernel_rfl) rfl #[.int .u64 (IntKind.u64.wrap ((l0.length : Int)))] rfl (by (try simp only [List.map_toArray, List.map_cons, List.map_nil]); first | done | rfl | (simp only [List.length_drop, List.length_take]; rfl)) ?_; (with_reducible refine (hanaperref01_Num.calls k (IntKind.u64.wrap ((l0.length : Int))) t101 _ A2.out).mono ?_); rintro e w4 ⟨v102, rfl, ho0, hb⟩; refine ⟨_, rfl, ?_⟩; have n0_ := Aside0.mk (Kd.R_lower ho0 (below_size (by repeat (first | (with_reducible first | exact HB.out | apply below_alloc | apply pw_below_drewN | apply below_drew1) | exact HB.out)))); have n1_ := Aside0.mk (below_step (by repeat (first | (with_reducible first | exact HB.out | apply below_alloc | apply pw_below_drewN | apply below_drew1) | exact HB.out)) hb); clear HB; have HO103 := n0_; have HB := n1_; clear n0_ n1_; (try clear hb); (try clear hb2); (try clear hk); (try clear hi); (try clear ho0)) | ((with_reducible refine gate_builtin (b := .append) (xs := #[.tmp 6, .tmp 7]) rfl ?_); at_builtin; refine Kd.R_append_rows (Kd.int .u8) (w0 := w) w.heap.size rfl (.tmp 6) (.tmp 7) 27 5 (.int .u8 0) 1 rfl Try.underlying27 info5 rfl (by decide) (by omega) v102 t101 l0 _ _ _ (fun _ => True) (fun _ => False) rfl rfl ?aO ?aR (fun _ _ h => h) (fun _ h => h.elim) ?aF ?aB ?aS ?aL ?_; (case aR => repeat (first | exact (Kd.C_below HR0.out HB.out) | (with_reducible refine Kd.C_alloc ?_ _) | (with_reducible refine Kd.C_drewN ?_ _) | (with_reducible refine Kd.C_drew ?_))); (case aB => exact (by repeat (first | (with_reducible first | exact HB.out | apply below_alloc | apply pw_below_drewN | apply below_drew1) | exact HB.out))); (case aF => exact (fun _ _ => trivial)); (case aO => exact (by (with_reducible repeat (first | apply Kd.R_alloc | apply Kd.R_drewN | apply Kd.R_drew)); exact HO103.out)); (case aS => exact (below_size (by repeat (first | (with_reducible first | exact HB.out | apply below_alloc | apply pw_below_drewN | apply below_drew1) | exact HB.out)))); (case aL => have := LMc3.out; omega); intro v105 w5 ho hb hg hat; rw [← Ny104.out] at ho; have n0_ := Aside0.mk (hb); have n1_ := Aside0.mk (ho); clear HB; clear HO103; have HB := n0_; have HO106 := n1_; clear n0_ n1_; clear ho hb hg hat))
    go_ret
    exact ⟨_, by first | rfl | (simp [errW_none, errW_some] <;> rfl) | (simp [*, errW_none, errW_some] <;> rfl), by (with_reducible repeat (first | apply Kd.R_alloc | apply Kd.R_drewN | apply Kd.R_drew)); exact HO106.out, by repeat (first | (with_reducible first | exact HB.out | apply below_alloc | apply pw_below_drewN | apply below_drew1) | exact HB.out)⟩
  · rw [if_neg c3] at H
    exact absurd H (by simp)

end Go.Proofs.Ytgdpabedlghiaaa.PZ
-- printed for this claim by a program (pall.sh)
namespace Go.Proofs.Ytgdpabedlghiaaa.PZ
open Go.RowKit Go.Proofs.YtgdpabedlghiaaaW.PrintWords Go.Proofs.YtgdpabedlghiaaaW.PrintLast Go.Proofs.YtgdpabedlghiaaaW.PrintMore
attribute [local go_sem] max2_int min2_int max_two min_two max_three min_three max_four min_four   -- for this text's walks alone
set_option linter.unusedVariables false
set_option linter.unusedSimpArgs false

/-! ### hanaperref01_Int: function 61 -/
def hanaperref01_Int.f (k : Nat) (a0 : Int) : Option (List Int) := (hanaperref01_Num.f k (IntKind.u64.wrap (a0))).bind fun t101 => (some t101)
theorem hanaperref01_Int.mono : ∀ a0 k, LeO (hanaperref01_Int.f k a0) (hanaperref01_Int.f (k + 1) a0) := by
  intro a0 k
  unfold hanaperref01_Int.f
  repeat' first
      | (with_reducible exact hanaperref01_Num.mono _ _)
      | (with_reducible exact LeO.refl _)
      | (with_reducible exact LeO.none _)
      | (with_reducible refine LeO.ite ?_ ?_)
      | (with_reducible refine LeO.bind ?_ (fun _ => ?_))
      | exact hanaperref01_Num.mono _ _
      | exact LeO.none _
      | refine LeO.ite ?_ ?_
      | refine LeO.bind ?_ (fun _ => ?_)
set_option maxHeartbeats 8000000 in
set_option maxRecDepth 100000 in
theorem hanaperref01_Int.calls (k : Nat) (a0 : Int) (r : List Int) (w : World) (h : hanaperref01_Int.f k a0 = some r) :
    Calls Try.prog 61 #[.int .i64 a0] w fun e w' => ∃ v0_ : Value, e = .returned (v0_) ∧ Kd.R (Kd.int .u8) 5 w' w.heap.size (fun _ => True) v0_ r ∧ Below w.heap.size w w' := by
  have HB := Aside0.mk (Below.refl w.heap.size w)
  have H : ((hanaperref01_Num.f k (IntKind.u64.wrap (a0))).bind fun t101 => (some t101)) = some r := h
  clear h
  replace H := Option.bind_eq_some_iff.mp H
  obtain ⟨t101, A20, H⟩ := H
  replace H : (some t101) = some r := H
  have A2 := Aside0.mk A20
  clear A20
  obtain rfl := Option.some.inj H
  go_enter Try.func61, Try.ntmps61
  go_wp2_with (first | ((with_reducible refine gate_callee (f := 107) rfl ?_); refine goesL_ (some 5) rfl rfl Try.func107 (by kernel_rfl) rfl #[.int .u64 (IntKind.u64.wrap (a0))] rfl (by (try simp only [List.map_toArray, List.map_cons, List.map_nil]); first | done | rfl | (simp only [List.length_drop, List.length_take]; rfl)) ?_; (with_reducible refine (hanaperref01_Num.calls k (IntKind.u64.wrap (a0)) t101 _ A2.out).mono ?_); rintro e w3 ⟨v102, rfl, ho0, hb⟩; refine ⟨_, rfl, ?_⟩; have n0_ := Aside0.mk (Kd.R_lower ho0 (below_size (by repeat (first | (with_reducible first | exact HB.out | apply below_alloc | apply pw_below_drewN | apply below_drew1) | exact HB.out)))); have n1_ := Aside0.mk (below_step (by repeat (first | (with_reducible first | exact HB.out | apply below_alloc | apply pw_below_drewN | apply below_drew1) | exact HB.out)) hb); clear HB; have HO103 := n0_; have HB := n1_; clear n0_ n1_; (try clear hb); (try clear hb2); (try clear hk); (try clear hi); (try clear ho0)))
  go_ret
  exact ⟨_, by first | rfl | (simp [errW_none, errW_some] <;> rfl) | (simp [*, errW_none, errW_some] <;> rfl), by (with_reducible repeat (first | apply Kd.R_alloc | apply Kd.R_drewN | apply Kd.R_drew)); exact HO103.out, by repeat (first | (with_reducible first | exact HB.out | apply below_alloc | apply pw_below_drewN | apply below_drew1) | exact HB.out)⟩

end Go.Proofs.Ytgdpabedlghiaaa.PZ
-- printed for this claim by a program (pall.sh)
namespace Go.Proofs.Ytgdpabedlghiaaa.PZ
open Go.RowKit Go.Proofs.YtgdpabedlghiaaaW.PrintWords Go.Proofs.YtgdpabedlghiaaaW.PrintLast Go.Proofs.YtgdpabedlghiaaaW.PrintMore
attribute [local go_sem] max2_int min2_int max_two min_two max_three min_three max_four min_four   -- for this text's walks alone
set_option linter.unusedVariables false
set_option linter.unusedSimpArgs false

/-! ### hanaperref01_Same: function 18 -/
def hanaperref01_Same.l0 : Nat → List Int → List Int → Int → Option (Bool)
  | 0, _, _, _ => none
  | k + 1, x0, x1, x5 => if x5 < (x0.length : Int) then (if 0 ≤ x5 then (if x5 < (x1.length : Int) then (if (rd x0 x5) = (rd x1 x5) then (hanaperref01_Same.l0 k x0 x1 (wrap64 (x5 + 1))) else (some false)) else (none)) else (none)) else (some true)
def hanaperref01_Same.f (k : Nat) (l0 : List Int) (l1 : List Int) : Option (Bool) := if (l0.length : Int) = (l1.length : Int) then (hanaperref01_Same.l0 k l0 l1 0) else (some false)
theorem hanaperref01_Same.mono_l : ∀ k, (∀ y0 y1 y2, LeO (hanaperref01_Same.l0 k y0 y1 y2) (hanaperref01_Same.l0 (k + 1) y0 y1 y2))
  | 0 => fun _ _ _ r h => by simp [hanaperref01_Same.l0] at h
  | k + 1 => by
    have ih0 := hanaperref01_Same.mono_l k
    · intro y0 y1 y2
      unfold hanaperref01_Same.l0
      repeat' first
      | (with_reducible exact ih0 _ _ _)
      | (with_reducible exact LeO.refl _)
      | (with_reducible exact LeO.none _)
      | (with_reducible refine LeO.ite ?_ ?_)
      | (with_reducible refine LeO.bind ?_ (fun _ => ?_))
      | exact ih0 _ _ _
      | exact LeO.none _
      | refine LeO.ite ?_ ?_
      | refine LeO.bind ?_ (fun _ => ?_)
theorem hanaperref01_Same.mono : ∀ a0 a1 k, LeO (hanaperref01_Same.f k a0 a1) (hanaperref01_Same.f (k + 1) a0 a1) := by
  intro a0 a1 k
  have ih0 := hanaperref01_Same.mono_l k
  unfold hanaperref01_Same.f
  repeat' first
      | (with_reducible exact ih0 _ _ _)
      | (with_reducible exact LeO.refl _)
      | (with_reducible exact LeO.none _)
      | (with_reducible refine LeO.ite ?_ ?_)
      | (with_reducible refine LeO.bind ?_ (fun _ => ?_))
      | exact ih0 _ _ _
      | exact LeO.none _
      | refine LeO.ite ?_ ?_
      | refine LeO.bind ?_ (fun _ => ?_)
set_option maxHeartbeats 8000000 in
set_option maxRecDepth 100000 in
theorem hanaperref01_Same.calls (k : Nat) (A0 : Option Addr) (c0 : Nat) (l0 : List Int) (A1 : Option Addr) (c1 : Nat) (l1 : List Int) (r : Bool) (w : World) (hr0 : Kd.C (Kd.int .u8) w A0 l0.length l0) (hc0 : l0.length ≤ c0) (hr1 : Kd.C (Kd.int .u8) w A1 l1.length l1) (hc1 : l1.length ≤ c1) (h : hanaperref01_Same.f k l0 l1 = some r) :
    Calls Try.prog 18 #[.slice A0 l0.length c0, .slice A1 l1.length c1] w fun e w' => e = .returned (.bool r) ∧ Drawn0 w w' := by
  have HR0 := Aside0.mk hr0
  have HC0 := Aside0.mk hc0
  clear hr0 hc0
  have HR1 := Aside0.mk hr1
  have HC1 := Aside0.mk hc1
  clear hr1 hc1
  have H : (if (l0.length : Int) = (l1.length : Int) then (hanaperref01_Same.l0 k l0 l1 0) else (some false)) = some r := h
  clear h
  by_cases c3 : (l0.length : Int) = (l1.length : Int)
  · rw [if_pos c3] at H
    have c3b0 : ((l0.length : Int) == (l1.length : Int)) = true := beq_iff_eq.mpr c3
    have c3b1 : ((l0.length : Int) != (l1.length : Int)) = false := bne_eq_false_iff_eq.mpr c3
    have c3b2 : (l0.length == l1.length) = true := by first | simpa using c3 | (simp at c3 ⊢; omega)
    clear c3
    have H' := Aside0.mk H
    clear H
    go_enter Try.func18, Try.ntmps18
    go_wp2
    repeat (go_quiet (fail); try go_wp2)
    go_loopg [5] k (fun kq v5 w' => ∃ (x5_1 : Int), v5 = .int .i64 x5_1 ∧ Aside0 (hanaperref01_Same.l0 kq l0 l1 x5_1 = some r) ∧ Aside0 (kq ≤ k) ∧ Drawn0 w w')
    case atStart => exact ⟨(0), (by first | rfl | (simp; done) | (simp [*]; done)), H', ⟨Nat.le_refl _⟩, by repeat (first | exact Drawn0.refl _ | apply Drawn0.step)⟩
    case round =>
      clear H'
      try clear c1
      try clear p2
      try clear c3
      try clear c3b0
      try clear c3b1
      try clear c3b2
      obtain ⟨x5_1, rfl, HA, HK1, ⟨m1, rfl⟩⟩ := hrel
      cases gk with
      | zero => exact absurd HA.out (by simp [hanaperref01_Same.l0])
      | succ k1 =>
        have H := HA.out
        clear HA
        simp only [hanaperref01_Same.l0] at H
        by_cases c4 : x5_1 < (l0.length : Int)
        · rw [if_pos c4] at H
          have c4b0 : decide (x5_1 < (l0.length : Int)) = true := decide_eq_true c4
          clear c4
          by_cases c5 : 0 ≤ x5_1
          · rw [if_pos c5] at H
            have c5b0 : decide (0 ≤ x5_1) = true := decide_eq_true c5
            clear c5
            by_cases c6 : x5_1 < (l1.length : Int)
            · rw [if_pos c6] at H
              have c6b0 : decide (x5_1 < (l1.length : Int)) = true := decide_eq_true c6
              clear c6
              by_cases c7 : (rd l0 x5_1) = (rd l1 x5_1)
              · rw [if_pos c7] at H
                have c7b0 : ((rd l0 x5_1) == (rd l1 x5_1)) = true := beq_iff_eq.mpr c7
                have c7b1 : ((rd l0 x5_1) != (rd l1 x5_1)) = false := bne_eq_false_iff_eq.mpr c7
                clear c7
                have H' := Aside0.mk H
                clear H
                have p101 : 0 ≤ (x5_1 : Int) := of_decide_eq_true (by first | (with_reducible assumption) | assumption)
                have q101 : x5_1 < (l0.length : Int) := of_decide_eq_true (by first | (with_reducible assumption) | assumption)
                obtain ⟨ad101, e101, hx101_0⟩ := Kd.at_int HR0.out x5_1 p101 q101
                cases e101
                replace p101 := eq_true p101
                replace q101 := eq_true q101
                have p102 : 0 ≤ (x5_1 : Int) := of_decide_eq_true (by first | (with_reducible assumption) | assumption)
                have q102 : x5_1 < (l1.length : Int) := of_decide_eq_true (by first | (with_reducible assumption) | assumption)
                obtain ⟨ad102, e102, hx102_0⟩ := Kd.at_int HR1.out x5_1 p102 q102
                cases e102
                replace p102 := eq_true p102
                replace q102 := eq_true q102
                go_wp2
                repeat (go_quiet (fail); try go_wp2)
                go_roundg k1
                case measure => have := HK1.out; omega
                case rel => exact ⟨(wrap64 (x5_1 + 1)), (by first | rfl | (simp; done) | (simp [*]; done)), H', ⟨by have := HK1.out; omega⟩, by repeat (first | exact Drawn0.refl _ | apply Drawn0.step)⟩
              · rw [if_neg c7] at H
                have c7b0 : ((rd l0 x5_1) == (rd l1 x5_1)) = false := beq_eq_false_iff_ne.mpr c7
                have c7b1 : ((rd l0 x5_1) != (rd l1 x5_1)) = true := bne_iff_ne.mpr c7
                obtain rfl := Option.some.inj H
                have p101 : 0 ≤ (x5_1 : Int) := of_decide_eq_true (by first | (with_reducible assumption) | assumption)
                have q101 : x5_1 < (l0.length : Int) := of_decide_eq_true (by first | (with_reducible assumption) | assumption)
                obtain ⟨ad101, e101, hx101_0⟩ := Kd.at_int HR0.out x5_1 p101 q101
                cases e101
                replace p101 := eq_true p101
                replace q101 := eq_true q101
                have p102 : 0 ≤ (x5_1 : Int) := of_decide_eq_true (by first | (with_reducible assumption) | assumption)
                have q102 : x5_1 < (l1.length : Int) := of_decide_eq_true (by first | (with_reducible assumption) | assumption)
                obtain ⟨ad102, e102, hx102_0⟩ := Kd.at_int HR1.out x5_1 p102 q102
                cases e102
                replace p102 := eq_true p102
                replace q102 := eq_true q102
                go_wp2
                repeat (go_quiet (fail); try go_wp2)
                go_ret
                exact ⟨by first | rfl | (simp; done) | (simp [*]; done), by repeat (first | exact Drawn0.refl _ | apply Drawn0.step)⟩
            · rw [if_neg c6] at H
              exact absurd H (by simp)
          · rw [if_neg c5] at H
            exact absurd H (by simp)
        · rw [if_neg c4] at H
          have c4b0 : decide (x5_1 < (l0.length : Int)) = false := decide_eq_false c4
          clear c4
          obtain rfl := Option.some.inj H
          go_wp2
          repeat (go_quiet (fail); try go_wp2)
          go_ret
          exact ⟨by first | rfl | (simp; done) | (simp [*]; done), by repeat (first | exact Drawn0.refl _ | apply Drawn0.step)⟩
  · rw [if_neg c3] at H
    have c3b0 : ((l0.length : Int) == (l1.length : Int)) = false := beq_eq_false_iff_ne.mpr c3
    have c3b1 : ((l0.length : Int) != (l1.length : Int)) = true := bne_iff_ne.mpr c3
    have c3b2 : (l0.length == l1.length) = false := by first | simpa using c3 | (simp at c3 ⊢; omega)
    obtain rfl := Option.some.inj H
    go_enter Try.func18, Try.ntmps18
    go_wp2
    repeat (go_quiet (fail); try go_wp2)
    go_ret
    exact ⟨by first | rfl | (simp; done) | (simp [*]; done), by repeat (first | exact Drawn0.refl _ | apply Drawn0.step)⟩

end Go.Proofs.Ytgdpabedlghiaaa.PZ
-- printed for this claim by a program (pall.sh)
namespace Go.Proofs.Ytgdpabedlghiaaa.PZ
open Go.RowKit Go.Proofs.YtgdpabedlghiaaaW.PrintWords Go.Proofs.YtgdpabedlghiaaaW.PrintLast Go.Proofs.YtgdpabedlghiaaaW.PrintMore
attribute [local go_sem] max2_int min2_int max_two min_two max_three min_three max_four min_four   -- for this text's walks alone
set_option linter.unusedVariables false
set_option linter.unusedSimpArgs false

/-! ### hanaperref01_Copy: function 93 -/
def hanaperref01_Copy.f (l0 : List Int) : Option (List Int) := (some (([] : List Int) : List Int)).bind fun y101 => (if y101.length + l0.length < 140737488355328 then (some (y101 ++ l0)) else (none))
set_option maxHeartbeats 8000000 in
set_option maxRecDepth 100000 in
theorem hanaperref01_Copy.calls (A0 : Option Addr) (c0 : Nat) (l0 : List Int) (r : List Int) (w : World) (hr0 : Kd.C (Kd.int .u8) w A0 l0.length l0) (hc0 : l0.length ≤ c0) (h : hanaperref01_Copy.f l0 = some r) :
    Calls Try.prog 93 #[.slice A0 l0.length c0] w fun e w' => ∃ v0_ : Value, e = .returned (v0_) ∧ Kd.R (Kd.int .u8) 5 w' w.heap.size (fun _ => True) v0_ r ∧ Below w.heap.size w w' := by
  have HR0 := Aside0.mk hr0
  have HC0 := Aside0.mk hc0
  clear hr0 hc0
  have HB := Aside0.mk (Below.refl w.heap.size w)
  have H : ((some (([] : List Int) : List Int)).bind fun y101 => (if y101.length + l0.length < 140737488355328 then (some (y101 ++ l0)) else (none))) = some r := h
  clear h
  obtain ⟨y101, hy101⟩ : ∃ y_ : List Int, y_ = (([] : List Int)) := ⟨_, rfl⟩
  replace H : (if y101.length + l0.length < 140737488355328 then (some (y101 ++ l0)) else (none)) = some r := by first | (rw [hy101]; with_reducible exact H) | (have H2_ := (Option.bind_some _ _).symm.trans H; rw [hy101]; with_reducible exact H2_) | (have H2_ := (Option.bind_some _ _).symm.trans H; with_reducible exact H2_) | with_reducible exact H | (rw [hy101]; exact H) | exact H
  have Ny101 := Aside0.mk hy101
  clear hy101
  by_cases c2 : y101.length + l0.length < 140737488355328
  · rw [if_pos c2] at H
    have LMc2 := Aside0.mk c2
    clear c2
    obtain ⟨y104, hy104⟩ : ∃ y_ : List Int, y_ = (y101 ++ l0) := ⟨_, rfl⟩
    replace H : (some y104) = some r := by first | (rw [hy104]; with_reducible exact H) | (have H2_ := (Option.bind_some _ _).symm.trans H; rw [hy104]; with_reducible exact H2_) | (have H2_ := (Option.bind_some _ _).symm.trans H; with_reducible exact H2_) | with_reducible exact H | (rw [hy104]; exact H) | exact H
    have Ny104 := Aside0.mk hy104
    clear hy104
    obtain rfl := Option.some.inj H
    go_enter Try.func93, Try.ntmps93
    go_wp2_with (first | ((with_reducible refine gate_dst (N := 3) rfl ?_); refine Kd.R_lit (Kd.int .u8) _ 5 ?hg (N := 3) ?hd (xs := ([] : List Int)) (inner := []) (ok := fun _ => True) (okp := fun _ => True) ?hr ?hp (fun _ hk => hk) trivial (Below.refl _ _) (Nat.le_refl _) (by simp) ?_; (case hd => rfl); (case hg => rfl); (case hr => first | (go_simp; done) | (go_simp; rfl)); (case hp => exact (Reps.none _ _)); intro v102 w3 ho4 hb hg_ hnew_; clear hg_ hnew_; (first | rw [← Ny101.out] at ho4 | (simp only [Int.reduceToNat] at ho4; rw [← Ny101.out] at ho4)); have n0_ := Aside0.mk (Kd.R_lower ho4 (below_size (by repeat (first | (with_reducible first | exact HB.out | apply below_alloc | apply pw_below_drewN | apply below_drew1) | exact HB.out)))); have n1_ := Aside0.mk (below_step (by repeat (first | (with_reducible first | exact HB.out | apply below_alloc | apply pw_below_drewN | apply below_drew1) | exact HB.out)) hb); clear HB; have HO103 := n0_; have HB := n1_; clear n0_ n1_; clear hb ho4) | ((with_reducible refine gate_builtin (b := .append) (xs := #[.tmp 3, .tmp 4]) rfl ?_); at_builtin; refine Kd.R_append_rows (Kd.int .u8) (w0 := w) w.heap.size rfl (.tmp 3) (.tmp 4) 27 5 (.int .u8 0) 1 rfl Try.underlying27 info5 rfl (by decide) (by omega) v102 y101 l0 _ _ _ (fun _ => True) (fun _ => False) rfl rfl ?aO ?aR (fun _ _ h => h) (fun _ h => h.elim) ?aF ?aB ?aS ?aL ?_; (case aR => repeat (first | exact (Kd.C_below HR0.out HB.out) | (with_reducible refine Kd.C_alloc ?_ _) | (with_reducible refine Kd.C_drewN ?_ _) | (with_reducible refine Kd.C_drew ?_))); (case aB => exact (by repeat (first | (with_reducible first | exact HB.out | apply below_alloc | apply pw_below_drewN | apply below_drew1) | exact HB.out))); (case aF => exact (fun _ _ => trivial)); (case aO => exact (by (with_reducible repeat (first | apply Kd.R_alloc | apply Kd.R_drewN | apply Kd.R_drew)); exact HO103.out)); (case aS => exact (below_size (by repeat (first | (with_reducible first | exact HB.out | apply below_alloc | apply pw_below_drewN | apply below_drew1) | exact HB.out)))); (case aL => have := LMc2.out; omega); intro v105 w5 ho hb hg hat; rw [← Ny104.out] at ho; have n0_ := Aside0.mk (hb); have n1_ := Aside0.mk (ho); clear HB; clear HO103; have HB := n0_; have HO106 := n1_; clear n0_ n1_; clear ho hb hg hat))
    go_ret
    exact ⟨_, by first | rfl | (simp [errW_none, errW_some] <;> rfl) | (simp [*, errW_none, errW_some] <;> rfl), by (with_reducible repeat (first | apply Kd.R_alloc | apply Kd.R_drewN | apply Kd.R_drew)); exact HO106.out, by repeat (first | (with_reducible first | exact HB.out | apply below_alloc | apply pw_below_drewN | apply below_drew1) | exact HB.out)⟩
  · rw [if_neg c2] at H
    exact absurd H (by simp)

end Go.Proofs.Ytgdpabedlghiaaa.PZ
-- printed for this claim by a program (pall.sh)
namespace Go.Proofs.Ytgdpabedlghiaaa.PZ
open Go.RowKit Go.Proofs.YtgdpabedlghiaaaW.PrintWords Go.Proofs.YtgdpabedlghiaaaW.PrintLast Go.Proofs.YtgdpabedlghiaaaW.PrintMore
attribute [local go_sem] max2_int min2_int max_two min_two max_three min_three max_four min_four   -- for this text's walks alone
set_option linter.unusedVariables false
set_option linter.unusedSimpArgs false

/-! ### hanaperref01_Value: function 124 -/
def hanaperref01_Value.l0 : Nat → List Int → Int → Int → Option (Int)
  | 0, _, _, _ => none
  | k + 1, x0, x3, x4 => if x4 < (x0.length : Int) then (if 0 ≤ x4 then (hanaperref01_Value.l0 k x0 (IntKind.u64.wrap ((IntKind.u64.wrap (x3 * 256)) + (IntKind.u64.wrap (rd x0 x4)))) (wrap64 (x4 + 1))) else (none)) else (some x3)
def hanaperref01_Value.f (k : Nat) (l0 : List Int) : Option (Int) := hanaperref01_Value.l0 k l0 0 0
theorem hanaperref01_Value.mono_l : ∀ k, (∀ y0 y1 y2, LeO (hanaperref01_Value.l0 k y0 y1 y2) (hanaperref01_Value.l0 (k + 1) y0 y1 y2))
  | 0 => fun _ _ _ r h => by simp [hanaperref01_Value.l0] at h
  | k + 1 => by
    have ih0 := hanaperref01_Value.mono_l k
    · intro y0 y1 y2
      unfold hanaperref01_Value.l0
      repeat' first
      | (with_reducible exact ih0 _ _ _)
      | (with_reducible exact LeO.refl _)
      | (with_reducible exact LeO.none _)
      | (with_reducible refine LeO.ite ?_ ?_)
      | (with_reducible refine LeO.bind ?_ (fun _ => ?_))
      | exact ih0 _ _ _
      | exact LeO.none _
      | refine LeO.ite ?_ ?_
      | refine LeO.bind ?_ (fun _ => ?_)
theorem hanaperref01_Value.mono : ∀ a0 k, LeO (hanaperref01_Value.f k a0) (hanaperref01_Value.f (k + 1) a0) := by
  intro a0 k
  have ih0 := hanaperref01_Value.mono_l k
  unfold hanaperref01_Value.f
  repeat' first
      | (with_reducible exact ih0 _ _ _)
      | (with_reducible exact LeO.refl _)
      | (with_reducible exact LeO.none _)
      | (with_reducible refine LeO.ite ?_ ?_)
      | (with_reducible refine LeO.bind ?_ (fun _ => ?_))
      | exact ih0 _ _ _
      | exact LeO.none _
      | refine LeO.ite ?_ ?_
      | refine LeO.bind ?_ (fun _ => ?_)
set_option maxHeartbeats 8000000 in
set_option maxRecDepth 100000 in
theorem hanaperref01_Value.calls (k : Nat) (A0 : Option Addr) (c0 : Nat) (l0 : List Int) (r : Int) (w : World) (hr0 : Kd.C (Kd.int .u8) w A0 l0.length l0) (hc0 : l0.length ≤ c0) (h : hanaperref01_Value.f k l0 = some r) :
    Calls Try.prog 124 #[.slice A0 l0.length c0] w fun e w' => e = .returned (.int .u64 r) ∧ Drawn0 w w' := by
  have HR0 := Aside0.mk hr0
  have HC0 := Aside0.mk hc0
  clear hr0 hc0
  have H : (hanaperref01_Value.l0 k l0 0 0) = some r := h
  clear h
  have H' := Aside0.mk H
  clear H
  go_enter Try.func124, Try.ntmps124
  go_wp2
  go_loopg [3, 4] k (fun kq v3 v4 w' => ∃ (x3_1 : Int) (x4_1 : Int), v3 = .int .u64 x3_1 ∧ v4 = .int .i64 x4_1 ∧ Aside0 (hanaperref01_Value.l0 kq l0 x3_1 x4_1 = some r) ∧ Aside0 (kq ≤ k) ∧ Drawn0 w w')
  case atStart => exact ⟨(0), (0), (by first | rfl | (simp; done) | (simp [*]; done)), (by first | rfl | (simp; done) | (simp [*]; done)), H', ⟨Nat.le_refl _⟩, by repeat (first | exact Drawn0.refl _ | apply Drawn0.step)⟩
  case round =>
    clear H'
    try clear c1
    obtain ⟨x3_1, x4_1, rfl, rfl, HA, HK1, ⟨m1, rfl⟩⟩ := hrel
    cases gk with
    | zero => exact absurd HA.out (by simp [hanaperref01_Value.l0])
    | succ k1 =>
      have H := HA.out
      clear HA
      simp only [hanaperref01_Value.l0] at H
      by_cases c2 : x4_1 < (l0.length : Int)
      · rw [if_pos c2] at H
        have c2b0 : decide (x4_1 < (l0.length : Int)) = true := decide_eq_true c2
        clear c2
        by_cases c3 : 0 ≤ x4_1
        · rw [if_pos c3] at H
          have c3b0 : decide (0 ≤ x4_1) = true := decide_eq_true c3
          clear c3
          have H' := Aside0.mk H
          clear H
          have p101 : 0 ≤ (x4_1 : Int) := of_decide_eq_true (by first | (with_reducible assumption) | assumption)
          have q101 : x4_1 < (l0.length : Int) := of_decide_eq_true (by first | (with_reducible assumption) | assumption)
          obtain ⟨ad101, e101, hx101_0⟩ := Kd.at_int HR0.out x4_1 p101 q101
          cases e101
          replace p101 := eq_true p101
          replace q101 := eq_true q101
          go_wp2
          go_roundg k1
          case measure => have := HK1.out; omega
          case rel => exact ⟨(IntKind.u64.wrap ((IntKind.u64.wrap (x3_1 * 256)) + (IntKind.u64.wrap (rd l0 x4_1)))), (wrap64 (x4_1 + 1)), (by first | rfl | (simp; done) | (simp [*]; done)), (by first | rfl | (simp; done) | (simp [*]; done)), H', ⟨by have := HK1.out; omega⟩, by repeat (first | exact Drawn0.refl _ | apply Drawn0.step)⟩
        · rw [if_neg c3] at H
          exact absurd H (by simp)
      · rw [if_neg c2] at H
        have c2b0 : decide (x4_1 < (l0.length : Int)) = false := decide_eq_false c2
        clear c2
        obtain rfl := Option.some.inj H
        go_wp2
        go_ret
        exact ⟨by first | rfl | (simp; done) | (simp [*]; done), by repeat (first | exact Drawn0.refl _ | apply Drawn0.step)⟩

end Go.Proofs.Ytgdpabedlghiaaa.PZ
/- What the lowest functions come to: numbers and texts as bytes, lists that are the same. -/
namespace Go.Proofs.Ytgdpabedlghiaaa.Lo
open Go.Proofs.Ytgdpabedlghiaaa.Base Go.Proofs.Ytgdpabedlghiaaa.TlvPlain Go.Proofs.Ytgdpabedlghiaaa.Aid Go.RowKit Go.Proofs.YtgdpabedlghiaaaW.PrintWords Go.Proofs.YtgdpabedlghiaaaW.PrintLast Go.Proofs.YtgdpabedlghiaaaW.PrintMore Go.Proofs.Ytgdpabedlghiaaa.PZ

/-- A number's bytes, the highest first. -/
def be (n : Nat) : List Int := if n = 0 then [] else be (n / 256) ++ [((n % 256 : Nat) : Int)]
termination_by n
decreasing_by omega
def numB (n : Int) : List Int := ((be n.toNat).length : Int) :: be n.toNat
def textB (l : List Int) : List Int := numB l.length ++ l
def intB (n : Int) : List Int := numB (IntKind.u64.wrap n)
theorem be_zero : be 0 = [] := by unfold be; rfl
theorem be_pos {n : Nat} (h : 0 < n) : be n = be (n / 256) ++ [((n % 256 : Nat) : Int)] := by
  rw [be, if_neg (by omega)]
theorem be_len {k : Nat} : ∀ {n : Nat}, n < 256 ^ k → (be n).length ≤ k := by
  induction k with
  | zero => intro n h; have : n = 0 := by omega
            subst this; rw [be_zero]; simp
  | succ k ih =>
    intro n h
    by_cases h0 : n = 0
    · subst h0; rw [be_zero]; simp
    · rw [be_pos (by omega), List.length_append, List.length_singleton]
      have := ih (n := n / 256) (by rw [Nat.pow_succ] at h; omega)
      omega
theorem be_u8 (n : Nat) : U8 (be n) := by
  induction n using Nat.strongRecOn with
  | ind n ih =>
    by_cases h0 : n = 0
    · subst h0; rw [be_zero]; exact U8.nil
    · rw [be_pos (by omega)]
      refine (ih (n / 256) (by omega)).append (U8.cons ?_ U8.nil)
      omega
theorem be_value (n : Nat) : valueB (be n) = n := by
  induction n using Nat.strongRecOn with
  | ind n ih =>
    by_cases h0 : n = 0
    · subst h0; rw [be_zero]; rfl
    · rw [be_pos (by omega), valueB_snoc, ih (n / 256) (by omega)]
      omega
theorem be_head (n : Nat) (h : 0 < n) : ∃ x xs, be n = x :: xs ∧ 0 < x := by
  induction n using Nat.strongRecOn with
  | ind n ih =>
    rw [be_pos h]
    by_cases h0 : n / 256 = 0
    · rw [h0, be_zero]
      exact ⟨_, [], rfl, by omega⟩
    · obtain ⟨x, xs, e, hx⟩ := ih (n / 256) (by omega) (by omega)
      rw [e]
      exact ⟨x, xs ++ [_], rfl, hx⟩
theorem be_len8 {n : Int} (h1 : n ≤ 18446744073709551615) : (be n.toNat).length ≤ 8 := be_len (by
  have : (256 : Nat) ^ 8 = 18446744073709551616 := by decide +kernel
  omega)
theorem numB_len {n : Int} (h1 : n ≤ 18446744073709551615) : (numB n).length ≤ 9 := by
  unfold numB; rw [List.length_cons]; have := be_len8 h1; omega
theorem numB_u8 {n : Int} (h1 : n ≤ 18446744073709551615) : U8 (numB n) := by
  unfold numB
  have := be_len8 h1
  exact U8.cons (by omega) (be_u8 _)
theorem u64_range (n : Int) : 0 ≤ IntKind.u64.wrap n ∧ IntKind.u64.wrap n ≤ 18446744073709551615 := by
  have : IntKind.u64.wrap n = n % 18446744073709551616 := by
    simp [IntKind.wrap, IntKind.signed, IntKind.bits]
  rw [this]; omega

/-! ### Num, as the program has it -/
theorem num_fill (w : Int) : ∀ (i m : Nat) (t : List Int), (be m).length = i → m ≤ 18446744073709551615 → i ≤ 8 →
    Ev (fun k => tlv_Num.l1 k (m : Int) (w :: (List.replicate i 0 ++ t)) (i : Int)) (w :: (be m ++ t)) := by
  intro i
  induction i with
  | zero =>
    intro m t hi hm h8
    refine Ev.step (fun k => by simp only [tlv_Num.l1]; rfl) ?_
    refine neg (by omega) (now ?_)
    have : be m = [] := List.length_eq_zero_iff.1 hi
    rw [this]; rfl
  | succ i ih =>
    intro m t hi hm h8
    have hm0 : 0 < m := by
      rcases Nat.eq_zero_or_pos m with h | h
      · subst h; rw [be_zero] at hi; cases hi
      · exact h
    have hb := be_pos hm0
    refine Ev.step (fun k => by simp only [tlv_Num.l1]; rfl) ?_
    refine pos (by omega) (pos (by omega) (pos (by simp; omega) ?_))
    have e1 : wrap64 (((i + 1 : Nat) : Int) - 1) = (i : Int) := by rw [w64 (by omega) (by omega)]; omega
    have e2 : ((m : Int) % 256) = ((m % 256 : Nat) : Int) := by omega
    have e3 : ((m : Int) / 256) = ((m / 256 : Nat) : Int) := by omega
    have e4 : (w :: (List.replicate (i + 1) 0 ++ t)).set (((i + 1 : Nat) : Int)).toNat ((m : Int) % 256) = w :: (List.replicate i 0 ++ (((m % 256 : Nat) : Int) :: t)) := by
      rw [Int.toNat_natCast, List.set_cons_succ, e2, List.replicate_succ']
      congr 1
      rw [List.append_assoc, List.set_append_right _ _ (by simp)]
      simp
    rw [e1, e3, e4]
    have := ih (m / 256) (((m % 256 : Nat) : Int) :: t) (by rw [hb] at hi; simpa using hi) (by omega) (by omega)
    rw [hb, List.append_assoc]
    exact this
theorem num_count (n : Int) (hn0 : 0 ≤ n) (hn1 : n ≤ 18446744073709551615) : ∀ (m c : Nat), c + (be m).length = (be n.toNat).length → m ≤ 18446744073709551615 →
    Ev (fun k => tlv_Num.l0 k n (c : Int) (m : Int)) (numB n) := by
  intro m
  induction m using Nat.strongRecOn with
  | ind m ih =>
    intro c hc hm
    have h8 := be_len8 hn1
    refine Ev.step (fun k => by simp only [tlv_Num.l0]; rfl) ?_
    by_cases h0 : m = 0
    · subst h0
      rw [be_zero] at hc
      simp only [List.length_nil, Nat.add_zero] at hc
      have e1 : wrap64 (1 + (c : Int)) = ((c + 1 : Nat) : Int) := by rw [w64 (by omega) (by omega)]; omega
      rw [e1, Int.toNat_natCast]
      refine neg (by omega) (pos (by omega) (pos (by omega) ?_))
      refine bindSome rfl (pos (by simp) ?_)
      have e2 : (List.replicate (c + 1) (0 : Int)).set ((0 : Int)).toNat ((c : Int) % 256) = (c : Int) :: (List.replicate c 0 ++ []) := by
        rw [List.replicate_succ, show ((0 : Int)).toNat = 0 from rfl, List.set_cons_zero, List.append_nil, Int.emod_eq_of_lt (by omega) (by omega)]
      rw [e2]
      obtain ⟨q, rfl⟩ := Int.eq_ofNat_of_zero_le hn0
      have := num_fill (c : Int) c q [] (by rw [hc]; rfl) (by omega) (by omega)
      unfold numB
      rw [Int.toNat_natCast] at hc ⊢
      rw [← hc]
      simpa using this
    · refine pos (by omega) ?_
      have hb := be_pos (show 0 < m by omega)
      rw [hb, List.length_append, List.length_singleton] at hc
      have e1 : wrap64 ((c : Int) + 1) = ((c + 1 : Nat) : Int) := by rw [w64 (by omega) (by omega)]; omega
      have e3 : ((m : Int) / 256) = ((m / 256 : Nat) : Int) := by omega
      rw [e1, e3]
      exact ih (m / 256) (by omega) (c + 1) (by omega) (by omega)
theorem num_ev (n : Int) (hn0 : 0 ≤ n) (hn1 : n ≤ 18446744073709551615) : Ev (fun k => tlv_Num.f k n) (numB n) := by
  have := num_count n hn0 hn1 n.toNat 0 (by omega) (by omega)
  rw [show ((n.toNat : Nat) : Int) = n from by omega] at this
  exact this
/-! ### Num, as the document has it -/
theorem rnum_loop : ∀ (m : Nat) (t : List Int), m ≤ 18446744073709551615 → (be m).length + t.length ≤ 8 →
    Ev (fun k => hanaperref01_Num.l0 k (m : Int) t) ((((be m ++ t).length : Nat) : Int) :: (be m ++ t)) := by
  intro m
  induction m using Nat.strongRecOn with
  | ind m ih =>
    intro t hm ht
    refine Ev.step (fun k => by simp only [hanaperref01_Num.l0]; rfl) ?_
    by_cases h0 : m = 0
    · subst h0
      refine neg (by omega) (bindSome rfl (pos (by simp; omega) (now ?_)))
      rw [be_zero] at ht ⊢
      simp only [List.length_nil] at ht
      rw [Int.emod_eq_of_lt (by omega) (by omega)]; rfl
    · refine pos (by omega) (bindSome rfl (pos (by simp; omega) ?_))
      have hb := be_pos (show 0 < m by omega)
      rw [hb, List.length_append, List.length_singleton] at ht
      have e1 : IntKind.u64.wrap (Int.tdiv (m : Int) 256) = ((m / 256 : Nat) : Int) := by
        rw [Int.tdiv_eq_ediv_of_nonneg (by omega), u64 (by omega) (by omega)]; omega
      have e2 : (Int.tmod (m : Int) 256) % 256 = ((m % 256 : Nat) : Int) := by
        rw [Int.tmod_eq_emod_of_nonneg (by omega)]; omega
      rw [e1, e2, hb, List.append_assoc]
      exact ih (m / 256) (by omega) _ (by omega) (by simp; omega)
theorem rnum_ev (n : Int) (hn0 : 0 ≤ n) (hn1 : n ≤ 18446744073709551615) : Ev (fun k => hanaperref01_Num.f k n) (numB n) := by
  have := rnum_loop n.toNat [] (by omega) (by have := be_len8 hn1; simpa using this)
  rw [show ((n.toNat : Nat) : Int) = n from by omega, List.append_nil] at this
  exact this
/-! ### texts and ints -/
theorem len_u64 (l : List Int) (h : l.length < 140737488355000) : IntKind.u64.wrap ((l.length : Nat) : Int) = l.length := u64 (by omega) (by omega)
theorem text_ev (l : List Int) (h : l.length < 140737488355000) : Ev (fun k => tlv_Text.f k l) (textB l) := by
  unfold tlv_Text.f
  rw [len_u64 l h]
  refine evBind (num_ev _ (by omega) (by omega)) (pos ?_ (now rfl))
  have := numB_len (n := (l.length : Int)) (by omega)
  omega
theorem rtext_ev (l : List Int) (h : l.length < 140737488355000) : Ev (fun k => hanaperref01_Text.f k l) (textB l) := by
  unfold hanaperref01_Text.f
  rw [len_u64 l h]
  refine evBind (rnum_ev _ (by omega) (by omega)) (pos ?_ (now rfl))
  have := numB_len (n := (l.length : Int)) (by omega)
  omega
theorem int_ev (n : Int) : Ev (fun k => tlv_Int.f k n) (intB n) := by
  unfold tlv_Int.f
  exact evBind (num_ev _ (u64_range n).1 (u64_range n).2) (now rfl)
theorem rint_ev (n : Int) : Ev (fun k => hanaperref01_Int.f k n) (intB n) := by
  unfold hanaperref01_Int.f
  exact evBind (rnum_ev _ (u64_range n).1 (u64_range n).2) (now rfl)
theorem all_loop (l : List (List Int)) (hl : l.length ≤ 4611686018427387904) (ht : l.flatten.length < 140737488355328) : ∀ (d i : Nat), i + d = l.length →
    Ev (fun k => tlv_All.l0 k (l.take i).flatten l (l.length : Int) (i : Int)) l.flatten := by
  intro d
  induction d with
  | zero =>
    intro i hi
    refine Ev.step (fun k => by simp only [tlv_All.l0]; rfl) ?_
    refine neg (by omega) (now ?_)
    rw [List.take_of_length_le (by omega)]
  | succ d ih =>
    intro i hi
    have hil : i < l.length := by omega
    refine Ev.step (fun k => by simp only [tlv_All.l0]; rfl) ?_
    have e : rd_L2 l (i : Int) = l[i] := by simp [rd_L2, List.getD_eq_getElem?_getD, List.getElem?_eq_getElem hil]
    have e2 : (l.take i).flatten ++ l[i] = (l.take (i + 1)).flatten := by rw [take_snoc l i hil, List.flatten_append]; simp
    rw [e, inc hil hl, e2]
    refine pos (by omega) (pos (by omega) (pos (by omega) (pos ?_ (ih (i + 1) (by omega)))))
    have h1 : (l.take i).flatten.length + l[i].length = (l.take (i + 1)).flatten.length := by rw [← e2, List.length_append]
    have h2 : l.flatten = (l.take (i + 1)).flatten ++ (l.drop (i + 1)).flatten := by rw [← List.flatten_append, List.take_append_drop]
    rw [h2, List.length_append] at ht
    omega
theorem all_ev (l : List (List Int)) (hl : l.length ≤ 4611686018427387904) (ht : l.flatten.length < 140737488355328) : Ev (fun k => tlv_All.f k l) l.flatten := by
  have := all_loop l hl ht l.length 0 (by omega)
  exact this
/-! ### lists that are the same -/
theorem same_from (a b : List Int) (hl : a.length = b.length) (hn : a.length ≤ 4611686018427387904) : ∀ (d i : Nat), i + d = a.length →
    Ev (fun k => hanaperref01_Same.l0 k a b i) (decide (a.drop i = b.drop i)) := by
  intro d
  induction d with
  | zero =>
    intro i hi
    refine Ev.step (fun k => by simp only [hanaperref01_Same.l0]; rfl) ?_
    refine neg (by omega) (now ?_)
    rw [List.drop_of_length_le (by omega), List.drop_of_length_le (by omega)]; simp
  | succ d ih =>
    intro i hi
    refine Ev.step (fun k => by simp only [hanaperref01_Same.l0]; rfl) ?_
    refine pos (by omega) (pos (by omega) (pos (by omega) ?_))
    rw [rd_nat a i (by omega), rd_nat b i (by omega), drop_cons a i (by omega), drop_cons b i (by omega), inc (show i < a.length by omega) hn]
    by_cases e : a[i]'(by omega) = b[i]'(by omega)
    · refine pos e ?_
      have := ih (i + 1) (by omega)
      generalize a.drop (i + 1) = A at this ⊢
      generalize b.drop (i + 1) = B at this ⊢
      simpa [e] using this
    · refine neg e (now ?_)
      generalize a.drop (i + 1) = A
      generalize b.drop (i + 1) = B
      simp [e]
theorem same_ev (a b : List Int) (hn : a.length ≤ 4611686018427387904) : Ev (fun k => hanaperref01_Same.f k a b) (decide (a = b)) := by
  unfold hanaperref01_Same.f
  by_cases e : a.length = b.length
  · refine pos (by omega) ?_
    simpa using same_from a b e hn a.length 0 (by omega)
  · refine neg (by omega) (now ?_)
    have : a ≠ b := fun h => e (by rw [h])
    simp [this]
theorem copy_ev (l : List Int) (h : l.length < 140737488355328) : hanaperref01_Copy.f l = some l := by
  unfold hanaperref01_Copy.f
  simp only [Option.bind_some]
  rw [if_pos (by simpa using h)]; rfl
theorem value_loop (l : List Int) (hu : U8 l) (h8 : l.length ≤ 8) : ∀ (d i : Nat), i + d = l.length →
    Ev (fun k => hanaperref01_Value.l0 k l (valueB (l.take i)) (i : Int)) (valueB l) := by
  intro d
  induction d with
  | zero =>
    intro i hi
    refine Ev.step (fun k => by simp only [hanaperref01_Value.l0]; rfl) ?_
    refine neg (by omega) (now ?_)
    rw [List.take_of_length_le (by omega)]
  | succ d ih =>
    intro i hi
    have hil : i < l.length := by omega
    refine Ev.step (fun k => by simp only [hanaperref01_Value.l0]; rfl) ?_
    refine pos (by omega) (pos (by omega) ?_)
    have h1 := valueB_u64 (hu.take i) (by rw [List.length_take]; omega)
    have h2 := valueB_u64 (hu.take (i + 1)) (by rw [List.length_take]; omega)
    have hx := hu _ (List.getElem_mem hil)
    have e2 := h2
    rw [take_snoc l i hil, valueB_snoc] at e2
    rw [rd_nat l i hil, inc hil (by omega), u64 (x := valueB (l.take i) * 256) (by omega) (by omega), u64 (x := l[i]) (by omega) (by omega), u64 (by omega) (by omega), ← valueB_snoc, ← take_snoc l i hil]
    exact ih (i + 1) (by omega)
theorem value_ev (l : List Int) (hu : U8 l) (h8 : l.length ≤ 8) : Ev (fun k => hanaperref01_Value.f k l) (valueB l) := by
  have := value_loop l hu h8 l.length 0 (by omega)
  exact this

/-! ### what was put is read -/
theorem numO_numB (n : Int) (hn0 : 0 ≤ n) (hn1 : n ≤ 18446744073709551615) (rest : List Int) : numO (some (numB n ++ rest)) = (n, some rest) := by
  have h8 := be_len8 hn1
  unfold numB numO
  simp only [List.cons_append]
  rw [if_neg (by omega), if_neg (by rw [List.length_append]; omega), if_neg, Int.toNat_natCast]
  · rw [List.take_left', List.drop_left', be_value]
    · rw [Int.toNat_of_nonneg hn0]
    · rfl
    · rfl
  · rintro ⟨h1, h2⟩
    have : 0 < n.toNat := by
      rcases Nat.eq_zero_or_pos n.toNat with h | h
      · rw [h, be_zero] at h1; simp at h1
      · exact h
    obtain ⟨x, xs, e, hx⟩ := be_head n.toNat this
    rw [e] at h2
    simp at h2
    omega
/-- What is read as a number is just what is made of it. -/
theorem be_unique : ∀ (l : List Int), U8 l → (l = [] ∨ l.getD 0 0 ≠ 0) → be (valueB l).toNat = l := by
  have H : ∀ n (l : List Int), l.length = n → U8 l → (l = [] ∨ l.getD 0 0 ≠ 0) → be (valueB l).toNat = l := by
    intro n
    induction n with
    | zero =>
      intro l hl _ _
      have : l = [] := List.length_eq_zero_iff.1 hl
      subst this
      exact be_zero
    | succ n ih =>
      intro l hl hu hh
      have hne : l ≠ [] := by intro e; rw [e] at hl; cases hl
      have hd := List.dropLast_concat_getLast hne
      have hu1 : U8 l.dropLast := fun x hx => hu x ((List.dropLast_sublist l).subset hx)
      have hx := hu (l.getLast hne) (List.getLast_mem hne)
      have hr := valueB_range hu1
      have h0 : l.getD 0 0 ≠ 0 := hh.resolve_left hne
      have ih' := ih l.dropLast (by simp [hl]) hu1 (by
        by_cases e : l.dropLast = []
        · exact .inl e
        · right
          intro e2
          apply h0
          have := List.length_pos_iff.2 e
          rw [← hd, List.getD_eq_getElem?_getD, List.getElem?_append_left this, ← List.getD_eq_getElem?_getD]
          exact e2)
      have hpos : 0 < (valueB l).toNat := by
        rw [← hd, valueB_snoc]
        by_cases e : l.dropLast = []
        · rw [e] at hd ⊢
          rw [← hd] at h0
          have : l.getLast hne ≠ 0 := by simpa using h0
          simp only [valueB, List.foldl_nil]
          omega
        · have hv : valueB l.dropLast ≠ 0 := by
            intro e2
            rw [e2] at ih'
            rw [show (0 : Int).toNat = 0 from rfl, be_zero] at ih'
            exact e ih'.symm
          omega
      rw [be_pos hpos]
      have e1 : (valueB l).toNat / 256 = (valueB l.dropLast).toNat := by
        have : valueB l = valueB l.dropLast * 256 + l.getLast hne := by rw [← valueB_snoc, hd]
        omega
      have e2 : (((valueB l).toNat % 256 : Nat) : Int) = l.getLast hne := by
        have : valueB l = valueB l.dropLast * 256 + l.getLast hne := by rw [← valueB_snoc, hd]
        omega
      rw [e1, e2, ih', hd]
  exact fun l hu hh => H _ l rfl hu hh
theorem numO_back {b : List Int} (hu : U8 b) {m : Int} {r : List Int} (h : numO (some b) = (m, some r)) : b = numB m ++ r ∧ 0 ≤ m ∧ m ≤ 18446744073709551615 := by
  have hr := numO_range (st := some b) (fun _ e => by cases e; exact hu)
  rw [h] at hr
  refine ⟨?_, hr⟩
  cases b with
  | nil => simp [numO] at h
  | cons x t =>
    simp only [numO] at h
    have hx := hu.head
    by_cases h1 : x > 8
    · rw [if_pos h1] at h; simp at h
    rw [if_neg h1] at h
    by_cases h2 : (t.length : Int) < x
    · rw [if_pos h2] at h; simp at h
    rw [if_neg h2] at h
    by_cases h3 : 0 < x ∧ t.getD 0 0 = 0
    · rw [if_pos h3] at h; simp at h
    rw [if_neg h3] at h
    simp only [Prod.mk.injEq, Option.some.injEq] at h
    obtain ⟨rfl, rfl⟩ := h
    have hb := be_unique (t.take x.toNat) (hu.tail.take _) (by
      by_cases h0 : 0 < x
      · right
        intro e
        apply h3
        refine ⟨h0, ?_⟩
        cases t with
        | nil => simp
        | cons y t =>
          obtain ⟨q, hq⟩ : ∃ q, x.toNat = q + 1 := ⟨x.toNat - 1, by omega⟩
          rw [hq] at e
          simpa using e
      · left
        have : x.toNat = 0 := by omega
        rw [this]; rfl)
    unfold numB
    rw [hb, List.length_take, Nat.min_eq_left (by omega), List.cons_append, List.take_append_drop]
    congr 1
    omega
end Go.Proofs.Ytgdpabedlghiaaa.Lo
/- What was put is read, what was read is put: a reader in plain words. -/
namespace Go.Proofs.Ytgdpabedlghiaaa.RdPlain
open Go.RowKit Go.Proofs.Ytgdpabedlghiaaa.Base Go.Proofs.Ytgdpabedlghiaaa.TlvPlain Go.Proofs.Ytgdpabedlghiaaa.Lo Go.Proofs.YtgdpabedlghiaaaW.PrintWords
theorem count_none (m : Int) : countO none m = (0, none) := by unfold countO; split <;> rfl
theorem take_none (n : Int) : takeO none n = ([], none) := rfl
theorem text_none (m : Int) : textO none m = ([], none) := by unfold textO; rw [count_none]; rfl
theorem num_none : numO none = (0, none) := rfl
theorem count_numB {n most : Int} (h0 : 0 ≤ n) (h1 : n ≤ most) (hm : most ≤ 18446744073709551615) (r : List Int) : countO (some (numB n ++ r)) most = (n, some r) := by
  unfold countO
  rw [numO_numB n h0 (by omega) r, if_neg (by simp; omega)]
theorem take_app (l r : List Int) : takeO (some (l ++ r)) (l.length : Int) = (l, some r) := by
  simp only [takeO]
  rw [if_pos ⟨by omega, by simp; omega⟩]
  simp
theorem text_textB {l : List Int} {most : Int} (h : (l.length : Int) ≤ most) (hm : most ≤ 18446744073709551615) (r : List Int) : textO (some (textB l ++ r)) most = (l, some r) := by
  unfold textO textB
  rw [List.append_assoc, count_numB (by omega) h hm]
  exact take_app l r
theorem count_back {b : List Int} (hu : U8 b) {most m : Int} {r : List Int} (h : countO (some b) most = (m, some r)) : b = numB m ++ r ∧ 0 ≤ m ∧ m ≤ most := by
  unfold countO at h
  split at h
  · cases h
  · next hc =>
    obtain ⟨h1, h2, _⟩ := numO_back hu h
    rw [h] at hc
    exact ⟨h1, h2, by simp at hc; omega⟩
theorem take_back {b : List Int} {n : Int} {t r : List Int} (h : takeO (some b) n = (t, some r)) : b = t ++ r ∧ (t.length : Int) = n := by
  simp only [takeO] at h
  split at h
  · next hc =>
    cases h
    exact ⟨(List.take_append_drop _ _).symm, by rw [List.length_take]; omega⟩
  · cases h
theorem text_back {b : List Int} (hu : U8 b) {most : Int} {t r : List Int} (h : textO (some b) most = (t, some r)) : b = textB t ++ r ∧ (t.length : Int) ≤ most := by
  unfold textO at h
  obtain ⟨m, s, hc⟩ : ∃ m s, countO (some b) most = (m, s) := ⟨_, _, rfl⟩
  rw [hc] at h
  cases s with
  | none => simp [takeO] at h
  | some s =>
    obtain ⟨h1, h2, h3⟩ := count_back hu hc
    obtain ⟨h4, h5⟩ := take_back h
    refine ⟨?_, by omega⟩
    rw [h1, h4, textB, h5, List.append_assoc]
theorem U8.right {a b : List Int} (h : U8 (a ++ b)) : U8 b := fun x hx => h x (List.mem_append_right _ hx)
theorem U8.left {a b : List Int} (h : U8 (a ++ b)) : U8 a := fun x hx => h x (List.mem_append_left _ hx)
theorem bytes_str {t : List Int} (hu : U8 t) : bytesOf (strOfNums t) = t := by
  unfold bytesOf
  rw [strOfNums_data, List.map_map]
  conv => rhs; rw [← List.map_id t]
  refine List.map_congr_left (fun x hx => ?_)
  have := hu x hx
  show (((UInt8.ofNat x.toNat).toNat : Nat) : Int) = x
  rw [UInt8.toNat_ofNat']
  omega
theorem str_bytes (s : ByteArray) : strOfNums (bytesOf s) = s := by
  apply ByteArray.ext
  apply Array.toList_inj.1
  rw [strOfNums_data]
  unfold bytesOf
  rw [List.map_map]
  conv => rhs; rw [← List.map_id s.data.toList]
  refine List.map_congr_left (fun x _ => ?_)
  show UInt8.ofNat ((x.toNat : Int)).toNat = x
  rw [Int.toNat_natCast]
  exact UInt8.ofNat_toNat
theorem u8_bytes (s : ByteArray) : U8 (bytesOf s) := by
  intro x hx
  unfold bytesOf at hx
  simp only [List.mem_map] at hx
  obtain ⟨c, _, rfl⟩ := hx
  have := c.toNat_lt
  omega
theorem countO_u8' {b : List Int} (hu : U8 b) {most m : Int} {r : List Int} (h : countO (some b) most = (m, some r)) : U8 r := by
  have := count_back hu h
  rw [this.1] at hu
  exact U8.right hu
theorem textO_u8' {b : List Int} (hu : U8 b) {most : Int} {t r : List Int} (h : textO (some b) most = (t, some r)) : U8 t ∧ U8 r := by
  have := text_back hu h
  rw [this.1] at hu
  exact ⟨U8.right (a := numB t.length) (by have := U8.left hu; unfold textB at this; exact this), U8.right hu⟩
theorem take_fail {st : Option (List Int)} {n : Int} {t : List Int} (h : takeO st n = (t, none)) : t = [] := by
  unfold takeO at h
  split at h
  · split at h
    · cases h
    · cases h; rfl
  · cases h; rfl
theorem text_fail {st : Option (List Int)} {m : Int} {t : List Int} (h : textO st m = (t, none)) : t = [] := take_fail h
/-- So many things, one behind the other. -/
def readK {α : Type} (rd : Option (List Int) → Option (α × List Int)) : Nat → Option (List Int) → Option (List α × Option (List Int))
  | 0, st => some ([], st)
  | n + 1, st => match rd st with
    | none => none
    | some (k, r) => match readK rd n (some r) with
      | none => none
      | some (ks, s) => some (k :: ks, s)
theorem readK_put {α : Type} {rd : Option (List Int) → Option (α × List Int)} {put : α → List Int} : ∀ (ks : List α) (r : List Int), (∀ k ∈ ks, ∀ r, rd (some (put k ++ r)) = some (k, r)) → readK rd ks.length (some ((ks.map put).flatten ++ r)) = some (ks, some r)
  | [], r, _ => rfl
  | k :: ks, r, h => by
    rw [List.map_cons, List.flatten_cons, List.length_cons, readK, List.append_assoc, h k List.mem_cons_self]
    dsimp only
    rw [readK_put ks r (fun k hk => h k (List.mem_cons_of_mem _ hk))]
theorem readK_back {α : Type} {rd : Option (List Int) → Option (α × List Int)} {put : α → List Int} (ih : ∀ b x r, U8 b → rd (some b) = some (x, r) → b = put x ++ r ∧ U8 r) : ∀ (n : Nat) (b : List Int) (ks : List α) (r : List Int), U8 b → readK rd n (some b) = some (ks, some r) → ks.length = n ∧ b = (ks.map put).flatten ++ r ∧ U8 r
  | 0, b, ks, r, hu, h => by
    simp only [readK, Option.some.injEq, Prod.mk.injEq] at h
    obtain ⟨rfl, rfl⟩ := h
    exact ⟨rfl, rfl, hu⟩
  | n + 1, b, ks, r, hu, h => by
    rw [readK] at h
    cases hr : rd (some b) with
    | none => rw [hr] at h; cases h
    | some p =>
      obtain ⟨x, s⟩ := p
      rw [hr] at h
      dsimp only at h
      obtain ⟨e1, u1⟩ := ih b x s hu hr
      cases hk : readK rd n (some s) with
      | none => rw [hk] at h; cases h
      | some q =>
        obtain ⟨ks2, s2⟩ := q
        rw [hk] at h
        simp only [Option.some.injEq, Prod.mk.injEq] at h
        obtain ⟨rfl, rfl⟩ := h
        obtain ⟨l1, l2, l3⟩ := readK_back ih n s ks2 r u1 hk
        exact ⟨by rw [List.length_cons, l1], by rw [List.map_cons, List.flatten_cons, e1, l2, List.append_assoc], l3⟩
theorem readK_none {α : Type} {rd : Option (List Int) → Option (α × List Int)} (hn : rd none = none) {n : Nat} {ks : List α} {s : List Int} (hk : readK rd n none = some (ks, some s)) : False := by
  cases n with
  | zero => simp [readK] at hk
  | succ n => rw [readK, hn] at hk; cases hk
theorem readK_len {α : Type} {rd : Option (List Int) → Option (α × List Int)} : ∀ {n : Nat} {st : Option (List Int)} {ks : List α} {s : Option (List Int)}, readK rd n st = some (ks, s) → ks.length = n
  | 0, st, ks, s, h => by
    simp only [readK, Option.some.injEq, Prod.mk.injEq] at h
    rw [← h.1]; rfl
  | n + 1, st, ks, s, h => by
    rw [readK] at h
    cases hr : rd st with
    | none => rw [hr] at h; cases h
    | some p =>
      rw [hr] at h
      dsimp only at h
      cases hk : readK rd n (some p.2) with
      | none => rw [hk] at h; cases h
      | some q =>
        rw [hk] at h
        simp only [Option.some.injEq, Prod.mk.injEq] at h
        rw [← h.1, List.length_cons, readK_len hk]
theorem readK_all {α : Type} {rd : Option (List Int) → Option (α × List Int)} {Pr : α → Prop} (ih : ∀ b x r, U8 b → rd (some b) = some (x, r) → Pr x ∧ U8 r) : ∀ (n : Nat) (b : List Int) (ks : List α) (s : Option (List Int)), U8 b → readK rd n (some b) = some (ks, s) → ∀ k ∈ ks, Pr k
  | 0, b, ks, s, hu, h => by
    simp only [readK, Option.some.injEq, Prod.mk.injEq] at h
    rw [← h.1]
    exact fun k hk => by cases hk
  | n + 1, b, ks, s, hu, h => by
    rw [readK] at h
    cases hr : rd (some b) with
    | none => rw [hr] at h; cases h
    | some p =>
      obtain ⟨x, s1⟩ := p
      rw [hr] at h
      dsimp only at h
      obtain ⟨e1, u1⟩ := ih b x s1 hu hr
      cases hk : readK rd n (some s1) with
      | none => rw [hk] at h; cases h
      | some q =>
        obtain ⟨ks2, s2⟩ := q
        rw [hk] at h
        simp only [Option.some.injEq, Prod.mk.injEq] at h
        obtain ⟨rfl, rfl⟩ := h
        intro k hk2
        rcases List.mem_cons.1 hk2 with rfl | hk2
        · exact e1
        · exact readK_all ih n s1 ks2 _ u1 hk k hk2
end Go.Proofs.Ytgdpabedlghiaaa.RdPlain
/- inode.Name: which texts may be names. -/
namespace Go.Proofs.Ytgdpabedlghiaaa.Name
set_option linter.unusedSimpArgs false
open Go.RowKit Go.Lib Go.Proofs.Ytgdpabedlghiaaa.Base Go.Proofs.YtgdpabedlghiaaaW.PrintWords Go.Proofs.YtgdpabedlghiaaaW.PrintLast Go.Proofs.YtgdpabedlghiaaaW.PrintMore

/-- Which letters may stand in a name. -/
def letB (r : Nat) : Bool := (decide (97 ≤ r) && decide (r ≤ 122)) || (decide (48 ≤ r) && decide (r ≤ 57)) || decide (r = 46) || decide (r = 45) || decide (r = 95)
set_option maxHeartbeats 1000000 in
theorem letter_c (r : Nat) (w : World) : Calls Try.prog 65 #[.int .i32 (r : Int)] w fun e w' => e = .returned (.bool (letB r)) ∧ ∃ q, w' = w.drewN q := by
  go_enter Try.func65, Try.ntmps65
  go_wp2
  all_goals
    go_ret
    refine ⟨congrArg (fun b => Ending.returned (Value.bool b)) ?_, 0, rfl⟩
    rw [Bool.eq_iff_iff]
    simp only [letB, Bool.or_eq_true, Bool.and_eq_true, decide_eq_true_eq, beq_iff_eq]
    first | omega | (simp; omega)
theorem pred (w : World) : PredAt Try.prog 64 #[] encR (fun r => !letB r) w := fun W r _ => by
  unfold FnGives
  have hL := letter_c r
  obtain ⟨b, hb⟩ : ∃ b, letB r = b := ⟨_, rfl⟩
  dsimp only
  rw [hb] at hL ⊢
  clear hb
  go_enter Try.func64, Try.ntmps64
  go_wp2_with (go_at_call 65; refine (hL _).mono ?_; rintro e w' ⟨rfl, q, rfl⟩)
  go_ret
  exact ⟨rfl, _, rfl⟩

set_option maxHeartbeats 2000000 in
set_option maxRecDepth 1000000 in
theorem index_c (s : ByteArray) (w : World) :
    Calls Try.prog 108 #[.string s, .func (.func 64) #[] #[], .bool true] w fun e w' => e = .returned (.int .i64 (Lib.idxFunc (fun r => !letB r) true s)) ∧ Below w.heap.size w w' := by
  have hp := pred w
  obtain ⟨p, hpp⟩ : ∃ p : Nat → Bool, (fun r => !letB r) = p := ⟨_, rfl⟩
  rw [hpp] at hp ⊢
  clear hpp
  go_enter Try.func108, Try.ntmps108
  go_wp2
  go_loopg [] s.size (fun gf wx => ∃ pos : Nat, wx.heap[w.heap.size]? = some (.stringIter s pos) ∧ Below w.heap.size w wx ∧ Lib.idxFuncFrom p true s gf pos = Lib.idxFunc p true s ∧ s.size ≤ pos + gf)
  case atStart => exact ⟨0, World.iter_heap w s 0, (Below.refl _ w).alloc (Nat.le_refl _) _, rfl, by omega⟩
  case round =>
    obtain ⟨pos, hit, hbw, hleft, hfu⟩ := hrel
    by_cases hps : pos < s.size
    · obtain ⟨g', rfl⟩ : ∃ g', gk = g' + 1 := ⟨gk - 1, by omega⟩
      have hnx : ∀ ty, (Instr.next (.pointer (some ⟨w.heap.size, 0, none⟩)) true ty).run Try.prog wr = _ := fun ty => Lib.run_next_any_at wr w.heap.size s pos ty hit hps
      have hwd := Lib.width_pos s pos
      obtain ⟨R, hR⟩ : ∃ R, (Utf8.decode s pos).1 = R := ⟨_, rfl⟩
      obtain ⟨K, hK⟩ : ∃ K, (Utf8.decode s pos).2 = K := ⟨_, rfl⟩
      simp only [Lib.idxFuncFrom, hps, if_true, hR, hK] at hleft
      rw [hR, hK] at hnx
      rw [hK] at hwd
      have hit2 := Lib.iterAt_heap wr w.heap.size s pos (pos + K) hit
      have hbw2 := Lib.below_iterAt hbw (k := w.heap.size) (Nat.le_refl _) s (pos + K)
      obtain ⟨W, hWd⟩ : ∃ W, wr.iterAt w.heap.size s (pos + K) = W := ⟨_, rfl⟩
      rw [hWd] at hnx hit2 hbw2
      have cS : Calls Try.prog 64 (#[.int .i32 (R : Int)] ++ #[]) W _ := hp W R hbw2
      simp only [List.append_toArray, List.cons_append, List.nil_append, Array.append_empty] at cS
      clear hp
      cases hsp : p R <;> rw [hsp] at cS <;> simp only [hsp, if_true, Bool.false_eq_true, Bool.true_eq_false, if_false] at hleft
      · go_wp2_with (go_at_call 64; refine cS.mono ?_; rintro e W' ⟨rfl, q, rfl⟩)
        go_roundg g'
        case measure => omega
        case rel => exact ⟨pos + K, hit2, below_drewN' hbw2 q, hleft, by omega⟩
      · go_wp2_with (go_at_call 64; refine cS.mono ?_; rintro e W' ⟨rfl, q, rfl⟩)
        go_ret
        exact ⟨by rw [← hleft] <;> rfl, below_drewN' hbw2 q⟩
    · have hnx : ∀ ty, (Instr.next (.pointer (some ⟨w.heap.size, 0, none⟩)) true ty).run Try.prog wr = _ := fun ty => Lib.run_next_end_at wr w.heap.size s pos ty hit hps
      rw [Lib.idxFuncFrom_end p true s gk pos hps] at hleft
      go_wp2
      go_ret
      exact ⟨by rw [← hleft] <;> rfl, hbw⟩
set_option maxHeartbeats 1000000 in
theorem Index_c (s : ByteArray) (w : World) :
    Calls Try.prog 63 #[.string s, .func (.func 64) #[] #[]] w fun e w' => e = .returned (.int .i64 (Lib.idxFunc (fun r => !letB r) true s)) ∧ Below w.heap.size w w' := by
  have cI := index_c s w
  go_enter Try.func63, Try.ntmps63
  go_wp2_with (go_at_call 108; refine cI.mono ?_; rintro e w' ⟨rfl, hb⟩)
  go_ret
  exact ⟨rfl, hb⟩
def nameB (s : ByteArray) : Bool := decide (Lib.idxFunc (fun r => !letB r) true s < 0) && (decide (1 ≤ s.size) && decide (s.size ≤ 16))
set_option maxHeartbeats 1000000 in
theorem name_c (s : ByteArray) (w : World) :
    Calls Try.prog 21 #[.string s] w fun e w' => e = .returned (.bool (nameB s)) ∧ Below w.heap.size w w' := by
  have cI := Index_c s w
  unfold nameB
  obtain ⟨i, hi⟩ : ∃ i, Lib.idxFunc (fun r => !letB r) true s = i := ⟨_, rfl⟩
  rw [hi] at cI ⊢
  clear hi
  obtain ⟨b1, e1⟩ : ∃ b, decide (i < 0) = b := ⟨_, rfl⟩
  obtain ⟨b2, e2⟩ : ∃ b, decide (1 ≤ s.size) = b := ⟨_, rfl⟩
  obtain ⟨b3, e3⟩ : ∃ b, decide (s.size ≤ 16) = b := ⟨_, rfl⟩
  have z2 : decide ((1 : Int) ≤ (s.size : Int)) = b2 := by rw [← e2]; congr 1; exact propext (by omega)
  have z3 : decide ((s.size : Int) ≤ 16) = b3 := by rw [← e3]; congr 1; exact propext (by omega)
  rw [e1, e2, e3]
  cases b1 <;> cases b2 <;> cases b3
  all_goals
    go_enter Try.func21, Try.ntmps21
    go_wp2_with (go_at_call 63; refine cI.mono ?_; rintro e w' ⟨rfl, hb⟩)
    go_ret
    exact ⟨rfl, hb⟩
end Go.Proofs.Ytgdpabedlghiaaa.Name
-- printed for this claim by a program (pall.sh)
namespace Go.Proofs.Ytgdpabedlghiaaa.PZ
open Go.RowKit Go.Proofs.YtgdpabedlghiaaaW.PrintWords Go.Proofs.YtgdpabedlghiaaaW.PrintLast Go.Proofs.YtgdpabedlghiaaaW.PrintMore
attribute [local go_sem] max2_int min2_int max_two min_two max_three min_three max_four min_four   -- for this text's walks alone
set_option linter.unusedVariables false
set_option linter.unusedSimpArgs false

/-! ### hanaperref12_Name: function 22 -/
def hanaperref12_Name.l0 : Nat → ByteArray → Int → Option (Bool)
  | 0, _, _ => none
  | k + 1, x0, x3 => if x3 < (x0.size : Int) then (if 0 ≤ x3 then (if (bt x0 x3) < 97 then (if (bt x0 x3) < 48 then (if (bt x0 x3) = 46 then (hanaperref12_Name.l0 k x0 (wrap64 (x3 + 1))) else (if (bt x0 x3) = 45 then (hanaperref12_Name.l0 k x0 (wrap64 (x3 + 1))) else (if (bt x0 x3) = 95 then (hanaperref12_Name.l0 k x0 (wrap64 (x3 + 1))) else (some false)))) else (if (bt x0 x3) > 57 then (if (bt x0 x3) = 46 then (hanaperref12_Name.l0 k x0 (wrap64 (x3 + 1))) else (if (bt x0 x3) = 45 then (hanaperref12_Name.l0 k x0 (wrap64 (x3 + 1))) else (if (bt x0 x3) = 95 then (hanaperref12_Name.l0 k x0 (wrap64 (x3 + 1))) else (some false)))) else (hanaperref12_Name.l0 k x0 (wrap64 (x3 + 1))))) else (if (bt x0 x3) > 122 then (if (bt x0 x3) < 48 then (if (bt x0 x3) = 46 then (hanaperref12_Name.l0 k x0 (wrap64 (x3 + 1))) else (if (bt x0 x3) = 45 then (hanaperref12_Name.l0 k x0 (wrap64 (x3 + 1))) else (if (bt x0 x3) = 95 then (hanaperref12_Name.l0 k x0 (wrap64 (x3 + 1))) else (some false)))) else (if (bt x0 x3) > 57 then (if (bt x0 x3) = 46 then (hanaperref12_Name.l0 k x0 (wrap64 (x3 + 1))) else (if (bt x0 x3) = 45 then (hanaperref12_Name.l0 k x0 (wrap64 (x3 + 1))) else (if (bt x0 x3) = 95 then (hanaperref12_Name.l0 k x0 (wrap64 (x3 + 1))) else (some false)))) else (hanaperref12_Name.l0 k x0 (wrap64 (x3 + 1))))) else (hanaperref12_Name.l0 k x0 (wrap64 (x3 + 1))))) else (none)) else (if (x0.size : Int) ≥ 1 then (some (decide ((x0.size : Int) ≤ 16))) else (some false))
def hanaperref12_Name.f (k : Nat) (a0 : ByteArray) : Option (Bool) := hanaperref12_Name.l0 k a0 0
theorem hanaperref12_Name.mono_l : ∀ k, (∀ y0 y1, LeO (hanaperref12_Name.l0 k y0 y1) (hanaperref12_Name.l0 (k + 1) y0 y1))
  | 0 => fun _ _ r h => by simp [hanaperref12_Name.l0] at h
  | k + 1 => by
    have ih0 := hanaperref12_Name.mono_l k
    · intro y0 y1
      unfold hanaperref12_Name.l0
      repeat' first
      | (with_reducible exact ih0 _ _)
      | (with_reducible exact LeO.refl _)
      | (with_reducible exact LeO.none _)
      | (with_reducible refine LeO.ite ?_ ?_)
      | (with_reducible refine LeO.bind ?_ (fun _ => ?_))
      | exact ih0 _ _
      | exact LeO.none _
      | refine LeO.ite ?_ ?_
      | refine LeO.bind ?_ (fun _ => ?_)
theorem hanaperref12_Name.mono : ∀ a0 k, LeO (hanaperref12_Name.f k a0) (hanaperref12_Name.f (k + 1) a0) := by
  intro a0 k
  have ih0 := hanaperref12_Name.mono_l k
  unfold hanaperref12_Name.f
  repeat' first
      | (with_reducible exact ih0 _ _)
      | (with_reducible exact LeO.refl _)
      | (with_reducible exact LeO.none _)
      | (with_reducible refine LeO.ite ?_ ?_)
      | (with_reducible refine LeO.bind ?_ (fun _ => ?_))
      | exact ih0 _ _
      | exact LeO.none _
      | refine LeO.ite ?_ ?_
      | refine LeO.bind ?_ (fun _ => ?_)
set_option maxHeartbeats 8000000 in
set_option maxRecDepth 100000 in
theorem hanaperref12_Name.calls (k : Nat) (a0 : ByteArray) (r : Bool) (w : World) (h : hanaperref12_Name.f k a0 = some r) :
    Calls Try.prog 22 #[.string a0] w fun e w' => e = .returned (.bool r) ∧ Drawn0 w w' := by
  have H : (hanaperref12_Name.l0 k a0 0) = some r := h
  clear h
  have H' := Aside0.mk H
  clear H
  go_enter Try.func22, Try.ntmps22
  go_wp2
  go_loopg [3] k (fun kq v3 w' => ∃ (x3_1 : Int), v3 = .int .i64 x3_1 ∧ Aside0 (hanaperref12_Name.l0 kq a0 x3_1 = some r) ∧ Aside0 (kq ≤ k) ∧ Drawn0 w w')
  case atStart => exact ⟨(0), (by first | rfl | (simp; done) | (simp [*]; done)), H', ⟨Nat.le_refl _⟩, by repeat (first | exact Drawn0.refl _ | apply Drawn0.step)⟩
  case round =>
    clear H'
    obtain ⟨x3_1, rfl, HA, HK1, ⟨m1, rfl⟩⟩ := hrel
    cases gk with
    | zero => exact absurd HA.out (by simp [hanaperref12_Name.l0])
    | succ k1 =>
      have H := HA.out
      clear HA
      simp only [hanaperref12_Name.l0] at H
      by_cases c2 : x3_1 < (a0.size : Int)
      · rw [if_pos c2] at H
        have c2b0 : decide (x3_1 < (a0.size : Int)) = true := decide_eq_true c2
        clear c2
        by_cases c3 : 0 ≤ x3_1
        · rw [if_pos c3] at H
          have c3b0 : decide (0 ≤ x3_1) = true := decide_eq_true c3
          clear c3
          by_cases c5 : (bt a0 x3_1) < 97
          · rw [if_pos c5] at H
            have c5b0 : decide ((bt a0 x3_1) < 97) = true := decide_eq_true c5
            clear c5
            by_cases c6 : (bt a0 x3_1) < 48
            · rw [if_pos c6] at H
              have c6b0 : decide ((bt a0 x3_1) < 48) = true := decide_eq_true c6
              clear c6
              by_cases c7 : (bt a0 x3_1) = 46
              · rw [if_pos c7] at H
                have c7b0 : ((bt a0 x3_1) == 46) = true := beq_iff_eq.mpr c7
                have c7b1 : ((bt a0 x3_1) != 46) = false := bne_eq_false_iff_eq.mpr c7
                clear c7
                have H' := Aside0.mk H
                clear H
                have p4 : 0 ≤ (x3_1 : Int) := of_decide_eq_true (by first | (with_reducible assumption) | assumption)
                have q4 : x3_1 < (a0.size : Int) := of_decide_eq_true (by first | (with_reducible assumption) | assumption)
                have hx4 := bt_at a0 x3_1
                replace p4 := eq_true p4
                replace q4 := eq_true q4
                go_wp2
                go_roundg k1
                case measure => have := HK1.out; omega
                case rel => exact ⟨(wrap64 (x3_1 + 1)), (by first | rfl | (simp; done) | (simp [*]; done)), H', ⟨by have := HK1.out; omega⟩, by repeat (first | exact Drawn0.refl _ | apply Drawn0.step)⟩
              · rw [if_neg c7] at H
                have c7b0 : ((bt a0 x3_1) == 46) = false := beq_eq_false_iff_ne.mpr c7
                have c7b1 : ((bt a0 x3_1) != 46) = true := bne_iff_ne.mpr c7
                by_cases c8 : (bt a0 x3_1) = 45
                · rw [if_pos c8] at H
                  have c8b0 : ((bt a0 x3_1) == 45) = true := beq_iff_eq.mpr c8
                  have c8b1 : ((bt a0 x3_1) != 45) = false := bne_eq_false_iff_eq.mpr c8
                  clear c8
                  have H' := Aside0.mk H
                  clear H
                  have p4 : 0 ≤ (x3_1 : Int) := of_decide_eq_true (by first | (with_reducible assumption) | assumption)
                  have q4 : x3_1 < (a0.size : Int) := of_decide_eq_true (by first | (with_reducible assumption) | assumption)
                  have hx4 := bt_at a0 x3_1
                  replace p4 := eq_true p4
                  replace q4 := eq_true q4
                  go_wp2
                  go_roundg k1
                  case measure => have := HK1.out; omega
                  case rel => exact ⟨(wrap64 (x3_1 + 1)), (by first | rfl | (simp; done) | (simp [*]; done)), H', ⟨by have := HK1.out; omega⟩, by repeat (first | exact Drawn0.refl _ | apply Drawn0.step)⟩
                · rw [if_neg c8] at H
                  have c8b0 : ((bt a0 x3_1) == 45) = false := beq_eq_false_iff_ne.mpr c8
                  have c8b1 : ((bt a0 x3_1) != 45) = true := bne_iff_ne.mpr c8
                  by_cases c9 : (bt a0 x3_1) = 95
                  · rw [if_pos c9] at H
                    have c9b0 : ((bt a0 x3_1) == 95) = true := beq_iff_eq.mpr c9
                    have c9b1 : ((bt a0 x3_1) != 95) = false := bne_eq_false_iff_eq.mpr c9
                    clear c9
                    have H' := Aside0.mk H
                    clear H
                    have p4 : 0 ≤ (x3_1 : Int) := of_decide_eq_true (by first | (with_reducible assumption) | assumption)
                    have q4 : x3_1 < (a0.size : Int) := of_decide_eq_true (by first | (with_reducible assumption) | assumption)
                    have hx4 := bt_at a0 x3_1
                    replace p4 := eq_true p4
                    replace q4 := eq_true q4
                    go_wp2
                    go_roundg k1
                    case measure => have := HK1.out; omega
                    case rel => exact ⟨(wrap64 (x3_1 + 1)), (by first | rfl | (simp; done) | (simp [*]; done)), H', ⟨by have := HK1.out; omega⟩, by repeat (first | exact Drawn0.refl _ | apply Drawn0.step)⟩
                  · rw [if_neg c9] at H
                    have c9b0 : ((bt a0 x3_1) == 95) = false := beq_eq_false_iff_ne.mpr c9
                    have c9b1 : ((bt a0 x3_1) != 95) = true := bne_iff_ne.mpr c9
                    obtain rfl := Option.some.inj H
                    have p4 : 0 ≤ (x3_1 : Int) := of_decide_eq_true (by first | (with_reducible assumption) | assumption)
                    have q4 : x3_1 < (a0.size : Int) := of_decide_eq_true (by first | (with_reducible assumption) | assumption)
                    have hx4 := bt_at a0 x3_1
                    replace p4 := eq_true p4
                    replace q4 := eq_true q4
                    go_wp2
                    go_ret
                    exact ⟨by first | rfl | (simp; done) | (simp [*]; done), by repeat (first | exact Drawn0.refl _ | apply Drawn0.step)⟩
            · rw [if_neg c6] at H
              have c6b0 : decide ((bt a0 x3_1) < 48) = false := decide_eq_false c6
              clear c6
              by_cases c10 : (bt a0 x3_1) > 57
              · rw [if_pos c10] at H
                have c10b0 : decide (57 < (bt a0 x3_1)) = true := decide_eq_true c10
                clear c10
                by_cases c11 : (bt a0 x3_1) = 46
                · rw [if_pos c11] at H
                  have c11b0 : ((bt a0 x3_1) == 46) = true := beq_iff_eq.mpr c11
                  have c11b1 : ((bt a0 x3_1) != 46) = false := bne_eq_false_iff_eq.mpr c11
                  clear c11
                  have H' := Aside0.mk H
                  clear H
                  have p4 : 0 ≤ (x3_1 : Int) := of_decide_eq_true (by first | (with_reducible assumption) | assumption)
                  have q4 : x3_1 < (a0.size : Int) := of_decide_eq_true (by first | (with_reducible assumption) | assumption)
                  have hx4 := bt_at a0 x3_1
                  replace p4 := eq_true p4
                  replace q4 := eq_true q4
                  go_wp2
                  go_roundg k1
                  case measure => have := HK1.out; omega
                  case rel => exact ⟨(wrap64 (x3_1 + 1)), (by first | rfl | (simp; done) | (simp [*]; done)), H', ⟨by have := HK1.out; omega⟩, by repeat (first | exact Drawn0.refl _ | apply Drawn0.step)⟩
                · rw [if_neg c11] at H
                  have c11b0 : ((bt a0 x3_1) == 46) = false := beq_eq_false_iff_ne.mpr c11
                  have c11b1 : ((bt a0 x3_1) != 46) = true := bne_iff_ne.mpr c11
                  by_cases c12 : (bt a0 x3_1) = 45
                  · rw [if_pos c12] at H
                    have c12b0 : ((bt a0 x3_1) == 45) = true := beq_iff_eq.mpr c12
                    have c12b1 : ((bt a0 x3_1) != 45) = false := bne_eq_false_iff_eq.mpr c12
                    clear c12
                    have H' := Aside0.mk H
                    clear H
                    have p4 : 0 ≤ (x3_1 : Int) := of_decide_eq_true (by first | (with_reducible assumption) | assumption)
                    have q4 : x3_1 < (a0.size : Int) := of_decide_eq_true (by first | (with_reducible assumption) | assumption)
                    have hx4 := bt_at a0 x3_1
                    replace p4 := eq_true p4
                    replace q4 := eq_true q4
                    go_wp2
                    go_roundg k1
                    case measure => have := HK1.out; omega
                    case rel => exact ⟨(wrap64 (x3_1 + 1)), (by first | rfl | (simp; done) | (simp [*]; done)), H', ⟨by have := HK1.out; omega⟩, by repeat (first | exact Drawn0.refl _ | apply Drawn0.step)⟩
                  · rw [if_neg c12] at H
                    have c12b0 : ((bt a0 x3_1) == 45) = false := beq_eq_false_iff_ne.mpr c12
                    have c12b1 : ((bt a0 x3_1) != 45) = true := bne_iff_ne.mpr c12
                    by_cases c13 : (bt a0 x3_1) = 95
                    · rw [if_pos c13] at H
                      have c13b0 : ((bt a0 x3_1) == 95) = true := beq_iff_eq.mpr c13
                      have c13b1 : ((bt a0 x3_1) != 95) = false := bne_eq_false_iff_eq.mpr c13
                      clear c13
                      have H' := Aside0.mk H
                      clear H
                      have p4 : 0 ≤ (x3_1 : Int) := of_decide_eq_true (by first | (with_reducible assumption) | assumption)
                      have q4 : x3_1 < (a0.size : Int) := of_decide_eq_true (by first | (with_reducible assumption) | assumption)
                      have hx4 := bt_at a0 x3_1
                      replace p4 := eq_true p4
                      replace q4 := eq_true q4
                      go_wp2
                      go_roundg k1
                      case measure => have := HK1.out; omega
                      case rel => exact ⟨(wrap64 (x3_1 + 1)), (by first | rfl | (simp; done) | (simp [*]; done)), H', ⟨by have := HK1.out; omega⟩, by repeat (first | exact Drawn0.refl _ | apply Drawn0.step)⟩
                    · rw [if_neg c13] at H
                      have c13b0 : ((bt a0 x3_1) == 95) = false := beq_eq_false_iff_ne.mpr c13
                      have c13b1 : ((bt a0 x3_1) != 95) = true := bne_iff_ne.mpr c13
                      obtain rfl := Option.some.inj H
                      have p4 : 0 ≤ (x3_1 : Int) := of_decide_eq_true (by first | (with_reducible assumption) | assumption)
                      have q4 : x3_1 < (a0.size : Int) := of_decide_eq_true (by first | (with_reducible assumption) | assumption)
                      have hx4 := bt_at a0 x3_1
                      replace p4 := eq_true p4
                      replace q4 := eq_true q4
                      go_wp2
                      go_ret
                      exact ⟨by first | rfl | (simp; done) | (simp [*]; done), by repeat (first | exact Drawn0.refl _ | apply Drawn0.step)⟩
              · rw [if_neg c10] at H
                have c10b0 : decide (57 < (bt a0 x3_1)) = false := decide_eq_false c10
                clear c10
                have H' := Aside0.mk H
                clear H
                have p4 : 0 ≤ (x3_1 : Int) := of_decide_eq_true (by first | (with_reducible assumption) | assumption)
                have q4 : x3_1 < (a0.size : Int) := of_decide_eq_true (by first | (with_reducible assumption) | assumption)
                have hx4 := bt_at a0 x3_1
                replace p4 := eq_true p4
                replace q4 := eq_true q4
                go_wp2
                go_roundg k1
                case measure => have := HK1.out; omega
                case rel => exact ⟨(wrap64 (x3_1 + 1)), (by first | rfl | (simp; done) | (simp [*]; done)), H', ⟨by have := HK1.out; omega⟩, by repeat (first | exact Drawn0.refl _ | apply Drawn0.step)⟩
          · rw [if_neg c5] at H
            have c5b0 : decide ((bt a0 x3_1) < 97) = false := decide_eq_false c5
            clear c5
            by_cases c14 : (bt a0 x3_1) > 122
            · rw [if_pos c14] at H
              have c14b0 : decide (122 < (bt a0 x3_1)) = true := decide_eq_true c14
              clear c14
              by_cases c15 : (bt a0 x3_1) < 48
              · rw [if_pos c15] at H
                have c15b0 : decide ((bt a0 x3_1) < 48) = true := decide_eq_true c15
                clear c15
                by_cases c16 : (bt a0 x3_1) = 46
                · rw [if_pos c16] at H
                  have c16b0 : ((bt a0 x3_1) == 46) = true := beq_iff_eq.mpr c16
                  have c16b1 : ((bt a0 x3_1) != 46) = false := bne_eq_false_iff_eq.mpr c16
                  clear c16
                  have H' := Aside0.mk H
                  clear H
                  have p4 : 0 ≤ (x3_1 : Int) := of_decide_eq_true (by first | (with_reducible assumption) | assumption)
                  have q4 : x3_1 < (a0.size : Int) := of_decide_eq_true (by first | (with_reducible assumption) | assumption)
                  have hx4 := bt_at a0 x3_1
                  replace p4 := eq_true p4
                  replace q4 := eq_true q4
                  go_wp2
                  go_roundg k1
                  case measure => have := HK1.out; omega
                  case rel => exact ⟨(wrap64 (x3_1 + 1)), (by first | rfl | (simp; done) | (simp [*]; done)), H', ⟨by have := HK1.out; omega⟩, by repeat (first | exact Drawn0.refl _ | apply Drawn0.step)⟩
                · rw [if_neg c16] at H
                  have c16b0 : ((bt a0 x3_1) == 46) = false := beq_eq_false_iff_ne.mpr c16
                  have c16b1 : ((bt a0 x3_1) != 46) = true := bne_iff_ne.mpr c16
                  by_cases c17 : (bt a0 x3_1) = 45
                  · rw [if_pos c17] at H
                    have c17b0 : ((bt a0 x3_1) == 45) = true := beq_iff_eq.mpr c17
                    have c17b1 : ((bt a0 x3_1) != 45) = false := bne_eq_false_iff_eq.mpr c17
                    clear c17
                    have H' := Aside0.mk H
                    clear H
                    have p4 : 0 ≤ (x3_1 : Int) := of_decide_eq_true (by first | (with_reducible assumption) | assumption)
                    have q4 : x3_1 < (a0.size : Int) := of_decide_eq_true (by first | (with_reducible assumption) | assumption)
                    have hx4 := bt_at a0 x3_1
                    replace p4 := eq_true p4
                    replace q4 := eq_true q4
                    go_wp2
                    go_roundg k1
                    case measure => have := HK1.out; omega
                    case rel => exact ⟨(wrap64 (x3_1 + 1)), (by first | rfl | (simp; done) | (simp [*]; done)), H', ⟨by have := HK1.out; omega⟩, by repeat (first | exact Drawn0.refl _ | apply Drawn0.step)⟩
                  · rw [if_neg c17] at H
                    have c17b0 : ((bt a0 x3_1) == 45) = false := beq_eq_false_iff_ne.mpr c17
                    have c17b1 : ((bt a0 x3_1) != 45) = true := bne_iff_ne.mpr c17
                    by_cases c18 : (bt a0 x3_1) = 95
                    · rw [if_pos c18] at H
                      have c18b0 : ((bt a0 x3_1) == 95) = true := beq_iff_eq.mpr c18
                      have c18b1 : ((bt a0 x3_1) != 95) = false := bne_eq_false_iff_eq.mpr c18
                      clear c18
                      have H' := Aside0.mk H
                      clear H
                      have p4 : 0 ≤ (x3_1 : Int) := of_decide_eq_true (by first | (with_reducible assumption) | assumption)
                      have q4 : x3_1 < (a0.size : Int) := of_decide_eq_true (by first | (with_reducible assumption) | assumption)
                      have hx4 := bt_at a0 x3_1
                      replace p4 := eq_true p4
                      replace q4 := eq_true q4
                      go_wp2
                      go_roundg k1
                      case measure => have := HK1.out; omega
                      case rel => exact ⟨(wrap64 (x3_1 + 1)), (by first | rfl | (simp; done) | (simp [*]; done)), H', ⟨by have := HK1.out; omega⟩, by repeat (first | exact Drawn0.refl _ | apply Drawn0.step)⟩
                    · rw [if_neg c18] at H
                      have c18b0 : ((bt a0 x3_1) == 95) = false := beq_eq_false_iff_ne.mpr c18
                      have c18b1 : ((bt a0 x3_1) != 95) = true := bne_iff_ne.mpr c18
                      obtain rfl := Option.some.inj H
                      have p4 : 0 ≤ (x3_1 : Int) := of_decide_eq_true (by first | (with_reducible assumption) | assumption)
                      have q4 : x3_1 < (a0.size : Int) := of_decide_eq_true (by first | (with_reducible assumption) | assumption)
                      have hx4 := bt_at a0 x3_1
                      replace p4 := eq_true p4
                      replace q4 := eq_true q4
                      go_wp2
                      go_ret
                      exact ⟨by first | rfl | (simp; done) | (simp [*]; done), by repeat (first | exact Drawn0.refl _ | apply Drawn0.step)⟩
              · rw [if_neg c15] at H
                have c15b0 : decide ((bt a0 x3_1) < 48) = false := decide_eq_false c15
                clear c15
                by_cases c19 : (bt a0 x3_1) > 57
                · rw [if_pos c19] at H
                  have c19b0 : decide (57 < (bt a0 x3_1)) = true := decide_eq_true c19
                  clear c19
                  by_cases c20 : (bt a0 x3_1) = 46
                  · rw [if_pos c20] at H
                    have c20b0 : ((bt a0 x3_1) == 46) = true := beq_iff_eq.mpr c20
                    have c20b1 : ((bt a0 x3_1) != 46) = false := bne_eq_false_iff_eq.mpr c20
                    clear c20
                    have H' := Aside0.mk H
                    clear H
                    have p4 : 0 ≤ (x3_1 : Int) := of_decide_eq_true (by first | (with_reducible assumption) | assumption)
                    have q4 : x3_1 < (a0.size : Int) := of_decide_eq_true (by first | (with_reducible assumption) | assumption)
                    have hx4 := bt_at a0 x3_1
                    replace p4 := eq_true p4
                    replace q4 := eq_true q4
                    go_wp2
                    go_roundg k1
                    case measure => have := HK1.out; omega
                    case rel => exact ⟨(wrap64 (x3_1 + 1)), (by first | rfl | (simp; done) | (simp [*]; done)), H', ⟨by have := HK1.out; omega⟩, by repeat (first | exact Drawn0.refl _ | apply Drawn0.step)⟩
                  · rw [if_neg c20] at H
                    have c20b0 : ((bt a0 x3_1) == 46) = false := beq_eq_false_iff_ne.mpr c20
                    have c20b1 : ((bt a0 x3_1) != 46) = true := bne_iff_ne.mpr c20
                    by_cases c21 : (bt a0 x3_1) = 45
                    · rw [if_pos c21] at H
                      have c21b0 : ((bt a0 x3_1) == 45) = true := beq_iff_eq.mpr c21
                      have c21b1 : ((bt a0 x3_1) != 45) = false := bne_eq_false_iff_eq.mpr c21
                      clear c21
                      have H' := Aside0.mk H
                      clear H
                      have p4 : 0 ≤ (x3_1 : Int) := of_decide_eq_true (by first | (with_reducible assumption) | assumption)
                      have q4 : x3_1 < (a0.size : Int) := of_decide_eq_true (by first | (with_reducible assumption) | assumption)
                      have hx4 := bt_at a0 x3_1
                      replace p4 := eq_true p4
                      replace q4 := eq_true q4
                      go_wp2
                      go_roundg k1
                      case measure => have := HK1.out; omega
                      case rel => exact ⟨(wrap64 (x3_1 + 1)), (by first | rfl | (simp; done) | (simp [*]; done)), H', ⟨by have := HK1.out; omega⟩, by repeat (first | exact Drawn0.refl _ | apply Drawn0.step)⟩
                    · rw [if_neg c21] at H
                      have c21b0 : ((bt a0 x3_1) == 45) = false := beq_eq_false_iff_ne.mpr c21
                      have c21b1 : ((bt a0 x3_1) != 45) = true := bne_iff_ne.mpr c21
                      by_cases c22 : (bt a0 x3_1) = 95
                      · rw [if_pos c22] at H
                        have c22b0 : ((bt a0 x3_1) == 95) = true := beq_iff_eq.mpr c22
                        have c22b1 : ((bt a0 x3_1) != 95) = false := bne_eq_false_iff_eq.mpr c22
                        clear c22
                        have H' := Aside0.mk H
                        clear H
                        have p4 : 0 ≤ (x3_1 : Int) := of_decide_eq_true (by first | (with_reducible assumption) | assumption)
                        have q4 : x3_1 < (a0.size : Int) := of_decide_eq_true (by first | (with_reducible assumption) | assumption)
                        have hx4 := bt_at a0 x3_1
                        replace p4 := eq_true p4
                        replace q4 := eq_true q4
                        go_wp2
                        go_roundg k1
                        case measure => have := HK1.out; omega
                        case rel => exact ⟨(wrap64 (x3_1 + 1)), (by first | rfl | (simp; done) | (simp [*]; done)), H', ⟨by have := HK1.out; omega⟩, by repeat (first | exact Drawn0.refl _ | apply Drawn0.step)⟩
                      · rw [if_neg c22] at H
                        have c22b0 : ((bt a0 x3_1) == 95) = false := beq_eq_false_iff_ne.mpr c22
                        have c22b1 : ((bt a0 x3_1) != 95) = true := bne_iff_ne.mpr c22
                        obtain rfl := Option.some.inj H
                        have p4 : 0 ≤ (x3_1 : Int) := of_decide_eq_true (by first | (with_reducible assumption) | assumption)
                        have q4 : x3_1 < (a0.size : Int) := of_decide_eq_true (by first | (with_reducible assumption) | assumption)
                        have hx4 := bt_at a0 x3_1
                        replace p4 := eq_true p4
                        replace q4 := eq_true q4
                        go_wp2
                        go_ret
                        exact ⟨by first | rfl | (simp; done) | (simp [*]; done), by repeat (first | exact Drawn0.refl _ | apply Drawn0.step)⟩
                · rw [if_neg c19] at H
                  have c19b0 : decide (57 < (bt a0 x3_1)) = false := decide_eq_false c19
                  clear c19
                  have H' := Aside0.mk H
                  clear H
                  have p4 : 0 ≤ (x3_1 : Int) := of_decide_eq_true (by first | (with_reducible assumption) | assumption)
                  have q4 : x3_1 < (a0.size : Int) := of_decide_eq_true (by first | (with_reducible assumption) | assumption)
                  have hx4 := bt_at a0 x3_1
                  replace p4 := eq_true p4
                  replace q4 := eq_true q4
                  go_wp2
                  go_roundg k1
                  case measure => have := HK1.out; omega
                  case rel => exact ⟨(wrap64 (x3_1 + 1)), (by first | rfl | (simp; done) | (simp [*]; done)), H', ⟨by have := HK1.out; omega⟩, by repeat (first | exact Drawn0.refl _ | apply Drawn0.step)⟩
            · rw [if_neg c14] at H
              have c14b0 : decide (122 < (bt a0 x3_1)) = false := decide_eq_false c14
              clear c14
              have H' := Aside0.mk H
              clear H
              have p4 : 0 ≤ (x3_1 : Int) := of_decide_eq_true (by first | (with_reducible assumption) | assumption)
              have q4 : x3_1 < (a0.size : Int) := of_decide_eq_true (by first | (with_reducible assumption) | assumption)
              have hx4 := bt_at a0 x3_1
              replace p4 := eq_true p4
              replace q4 := eq_true q4
              go_wp2
              go_roundg k1
              case measure => have := HK1.out; omega
              case rel => exact ⟨(wrap64 (x3_1 + 1)), (by first | rfl | (simp; done) | (simp [*]; done)), H', ⟨by have := HK1.out; omega⟩, by repeat (first | exact Drawn0.refl _ | apply Drawn0.step)⟩
        · rw [if_neg c3] at H
          exact absurd H (by simp)
      · rw [if_neg c2] at H
        have c2b0 : decide (x3_1 < (a0.size : Int)) = false := decide_eq_false c2
        clear c2
        by_cases c23 : (a0.size : Int) ≥ 1
        · rw [if_pos c23] at H
          have c23b0 : decide (1 ≤ (a0.size : Int)) = true := decide_eq_true c23
          have c23b1 : decide (1 ≤ a0.size) = true := decide_eq_true (by omega)
          clear c23
          obtain rfl := Option.some.inj H
          go_wp2
          go_ret
          exact ⟨by first | rfl | (simp; done) | (simp [*]; done), by repeat (first | exact Drawn0.refl _ | apply Drawn0.step)⟩
        · rw [if_neg c23] at H
          have c23b0 : decide (1 ≤ (a0.size : Int)) = false := decide_eq_false c23
          have c23b1 : decide (1 ≤ a0.size) = false := decide_eq_false (by omega)
          clear c23
          obtain rfl := Option.some.inj H
          go_wp2
          go_ret
          exact ⟨by first | rfl | (simp; done) | (simp [*]; done), by repeat (first | exact Drawn0.refl _ | apply Drawn0.step)⟩

end Go.Proofs.Ytgdpabedlghiaaa.PZ
/- Which texts may be names: the document's answer is the same. -/
namespace Go.Proofs.Ytgdpabedlghiaaa.Name
open Go.RowKit Go.Lib Go.Proofs.Ytgdpabedlghiaaa.Base Go.Proofs.Ytgdpabedlghiaaa.Aid Go.Proofs.Ytgdpabedlghiaaa.PZ Go.Proofs.YtgdpabedlghiaaaW.PrintWords Go.Proofs.YtgdpabedlghiaaaW.PrintLast Go.Proofs.YtgdpabedlghiaaaW.PrintMore

theorem letB_high {r : Nat} (h : 128 ≤ r) : letB r = false := by
  unfold letB
  rw [decide_eq_false (p := r ≤ 122) (by omega), decide_eq_false (p := r ≤ 57) (by omega), decide_eq_false (p := r = 46) (by omega), decide_eq_false (p := r = 45) (by omega), decide_eq_false (p := r = 95) (by omega)]
  simp
theorem dec_low (s : ByteArray) (pos : Nat) (hb : (s.get! pos).toNat < 128) : Utf8.decode s pos = ((s.get! pos).toNat, 1) := by
  unfold Utf8.decode
  simp only [Nat.add_zero]
  rw [if_pos hb]
theorem dec_high (s : ByteArray) (pos : Nat) (hb : ¬ (s.get! pos).toNat < 128) : 128 ≤ (Utf8.decode s pos).1 := by
  unfold Utf8.decode
  simp only [Nat.add_zero]
  rw [if_neg hb]
  split
  · split
    · assumption
    · simp [Utf8.runeError]
  · split
    · split
      · next h => simp only [Bool.and_eq_true, decide_eq_true_eq] at h; omega
      · simp [Utf8.runeError]
    · split
      · split
        · next h => simp only [Bool.and_eq_true, decide_eq_true_eq] at h; omega
        · simp [Utf8.runeError]
      · simp [Utf8.runeError]
theorem bt_get (s : ByteArray) (i : Nat) (h : i < s.size) : bt s (i : Int) = ((s.get! i).toNat : Int) := by
  unfold bt
  rw [Int.toNat_natCast, dif_pos h]
  congr 2
  show s.data[i] = s.data[i]!
  exact (getElem!_pos s.data i h).symm
theorem idx_all (s : ByteArray) : ∀ (f pos : Nat), s.size ≤ pos + f → (Lib.idxFuncFrom (fun r => !letB r) true s f pos < 0 ↔ ∀ i, pos ≤ i → i < s.size → letB (s.get! i).toNat = true) := by
  intro f
  induction f with
  | zero =>
    intro pos h
    constructor
    · intro _ i h1 h2; omega
    · intro _; show (-1 : Int) < 0; omega
  | succ f ih =>
    intro pos h
    unfold Lib.idxFuncFrom
    by_cases hp : pos < s.size
    · rw [if_pos hp]
      by_cases hb : (s.get! pos).toNat < 128
      · rw [dec_low s pos hb]
        dsimp only
        cases hl : letB (s.get! pos).toNat with
        | false =>
          rw [if_pos (by rfl)]
          constructor
          · intro h2; omega
          · intro h2; have := h2 pos (Nat.le_refl _) hp; rw [hl] at this; cases this
        | true =>
          rw [if_neg (by simp), ih (pos + 1) (by omega)]
          constructor
          · intro h2 i h3 h4
            by_cases e : i = pos
            · rw [e]; exact hl
            · exact h2 i (by omega) h4
          · intro h2 i h3 h4; exact h2 i (by omega) h4
      · have hd := dec_high s pos hb
        rw [if_pos (by rw [letB_high hd]; rfl)]
        constructor
        · intro h2; omega
        · intro h2
          have := h2 pos (Nat.le_refl _) hp
          rw [letB_high (by omega)] at this
          cases this
    · rw [if_neg hp]
      constructor
      · intro _ i h1 h2; omega
      · intro _; omega
theorem name_iff (s : ByteArray) : nameB s = (decide (∀ i, i < s.size → letB (s.get! i).toNat = true) && (decide (1 ≤ s.size) && decide (s.size ≤ 16))) := by
  unfold nameB Lib.idxFunc
  congr 1
  have := idx_all s s.size 0 (by omega)
  exact decide_eq_decide.2 (this.trans ⟨fun h i hi => h i (Nat.zero_le _) hi, fun h i _ hi => h i hi⟩)
theorem name_ev (s : ByteArray) (hs : s.size ≤ 4611686018427387904) : Ev (fun k => hanaperref12_Name.f k s) (nameB s) := by
  have key : ∀ (d i : Nat), i + d = s.size → (∀ j, j < i → letB (s.get! j).toNat = true) → Ev (fun k => hanaperref12_Name.l0 k s (i : Int)) (nameB s) := by
    intro d
    induction d with
    | zero =>
      intro i hi hall
      refine Ev.step (fun k => by simp only [hanaperref12_Name.l0]; rfl) ?_
      refine neg (by omega) ?_
      have h1 : nameB s = (decide (1 ≤ s.size) && decide (s.size ≤ 16)) := by
        rw [name_iff, decide_eq_true (p := ∀ i, i < s.size → letB (s.get! i).toNat = true) (fun j hj => hall j (by omega)), Bool.true_and]
      by_cases h2 : 1 ≤ s.size
      · refine pos (by omega) (now ?_)
        rw [h1, decide_eq_true h2, Bool.true_and]
        exact decide_eq_decide.2 (by omega)
      · refine neg (by omega) (now ?_)
        rw [h1, decide_eq_false h2, Bool.false_and]
    | succ d ih =>
      intro i hi hall
      have hil : i < s.size := by omega
      have hc := bt_get s i hil
      have hr := bt_range s (i : Int)
      refine Ev.step (fun k => by simp only [hanaperref12_Name.l0]; rfl) ?_
      refine pos (by omega) (pos (by omega) ?_)
      rw [inc hil hs]
      have hgo : letB (s.get! i).toNat = true → Ev (fun k => hanaperref12_Name.l0 k s ((i + 1 : Nat) : Int)) (nameB s) := fun h => ih (i + 1) (by omega) (fun j hj => by
        by_cases e : j = i
        · rw [e]; exact h
        · exact hall j (by omega))
      have hno : letB (s.get! i).toNat = false → Ev (fun _ => some false) (nameB s) := fun h => now (by
        rw [name_iff, decide_eq_false (p := ∀ i, i < s.size → letB (s.get! i).toNat = true) (fun h2 => by have := h2 i hil; rw [h] at this; cases this), Bool.false_and])
      obtain ⟨c, hcc⟩ : ∃ c, bt s (i : Int) = c := ⟨_, rfl⟩
      obtain ⟨g, hg⟩ : ∃ g, (s.get! i).toNat = g := ⟨_, rfl⟩
      rw [hcc] at hc hr ⊢
      rw [hg] at hc hgo hno
      have hl : letB g = true ↔ ((97 ≤ c ∧ c ≤ 122) ∨ (48 ≤ c ∧ c ≤ 57) ∨ c = 46 ∨ c = 45 ∨ c = 95) := by
        simp only [letB, Bool.or_eq_true, Bool.and_eq_true, decide_eq_true_eq]
        omega
      have hl2 : letB g = false ↔ ¬ ((97 ≤ c ∧ c ≤ 122) ∨ (48 ≤ c ∧ c ≤ 57) ∨ c = 46 ∨ c = 45 ∨ c = 95) := by
        rw [← hl]
        cases letB g <;> simp
      rw [hl] at hgo
      rw [hl2] at hno
      have hcases : c < 45 ∨ c = 45 ∨ c = 46 ∨ c = 47 ∨ (48 ≤ c ∧ c ≤ 57) ∨ (58 ≤ c ∧ c ≤ 94) ∨ c = 95 ∨ c = 96 ∨ (97 ≤ c ∧ c ≤ 122) ∨ 122 < c := by omega
      rcases hcases with h | h | h | h | h | h | h | h | h | h
      all_goals
        repeat (first | refine pos (by omega) ?_ | refine neg (by omega) ?_)
        first | exact hgo (by omega) | exact hno (by omega)
  exact key s.size 0 (by omega) (fun j hj => by omega)
theorem rname_c (s : ByteArray) (w : World) (hs : s.size ≤ 4611686018427387904) : Calls Try.prog 22 #[.string s] w fun e w' => e = .returned (.bool (nameB s)) ∧ Drawn0 w w' := by
  obtain ⟨k, h⟩ := (name_ev s hs).rounds
  exact hanaperref12_Name.calls k s _ w h
end Go.Proofs.Ytgdpabedlghiaaa.Name
-- printed for this claim by a program (pall.sh)
namespace Go.Proofs.Ytgdpabedlghiaaa.PZ
open Go.RowKit Go.Proofs.YtgdpabedlghiaaaW.PrintWords Go.Proofs.YtgdpabedlghiaaaW.PrintLast Go.Proofs.YtgdpabedlghiaaaW.PrintMore
attribute [local go_sem] max2_int min2_int max_two min_two max_three min_three max_four min_four   -- for this text's walks alone
set_option linter.unusedVariables false
set_option linter.unusedSimpArgs false

/-! ### alloc_Pages: function 62 -/
def alloc_Pages.f (a0 : Int) : Option (Int) := if a0 < 1 then (some 0) else (some (wrap64 ((wrap64 (Int.tdiv (wrap64 (a0 - 1)) 256)) + 1)))
set_option maxHeartbeats 8000000 in
set_option maxRecDepth 100000 in
theorem alloc_Pages.calls (a0 : Int) (r : Int) (w : World) (h : alloc_Pages.f a0 = some r) :
    Calls Try.prog 62 #[.int .i64 a0] w fun e w' => e = .returned (.int .i64 r) ∧ Drawn0 w w' := by
  have H : (if a0 < 1 then (some 0) else (some (wrap64 ((wrap64 (Int.tdiv (wrap64 (a0 - 1)) 256)) + 1)))) = some r := h
  clear h
  by_cases c2 : a0 < 1
  · rw [if_pos c2] at H
    have c2b0 : decide (a0 < 1) = true := decide_eq_true c2
    clear c2
    obtain rfl := Option.some.inj H
    go_enter Try.func62, Try.ntmps62
    go_wp2
    go_ret
    exact ⟨by first | rfl | (simp; done) | (simp [*]; done), by repeat (first | exact Drawn0.refl _ | apply Drawn0.step)⟩
  · rw [if_neg c2] at H
    have c2b0 : decide (a0 < 1) = false := decide_eq_false c2
    clear c2
    obtain rfl := Option.some.inj H
    go_enter Try.func62, Try.ntmps62
    go_wp2
    go_ret
    exact ⟨by first | rfl | (simp; done) | (simp [*]; done), by repeat (first | exact Drawn0.refl _ | apply Drawn0.step)⟩

end Go.Proofs.Ytgdpabedlghiaaa.PZ
/- inode.Name, in the printed functions' form. -/
namespace Go.Proofs.Ytgdpabedlghiaaa.PZ
open Go.RowKit
def inode_Name.f (a0 : ByteArray) : Option (Bool) := some (Name.nameB a0)
theorem inode_Name.calls (a0 : ByteArray) (r : Bool) (w : World) (h : inode_Name.f a0 = some r) :
    Calls Try.prog 21 #[.string a0] w fun e w' => e = .returned (.bool r) ∧ Below w.heap.size w w' := by
  obtain rfl : Name.nameB a0 = r := Option.some.inj h
  exact Name.name_c a0 w
end Go.Proofs.Ytgdpabedlghiaaa.PZ
-- printed for this claim by a program (pall.sh)
namespace Go.Proofs.Ytgdpabedlghiaaa.PZ
open Go.RowKit Go.Proofs.YtgdpabedlghiaaaW.PrintWords Go.Proofs.YtgdpabedlghiaaaW.PrintLast Go.Proofs.YtgdpabedlghiaaaW.PrintMore
attribute [local go_sem] max2_int min2_int max_two min_two max_three min_three max_four min_four   -- for this text's walks alone
set_option linter.unusedVariables false
set_option linter.unusedSimpArgs false

/-! ### inode_Check: function 20 -/
def inode_Check.j0 : Nat → Int → Bool → ByteArray → Int → List Int → Option (Int)
  | 0, _, _, _, _, _ => none
  | k + 1, x1, x28, x102000, x102001, x102002 => if x28 = true then (some 1) else ((alloc_Bits.f k x102002 x1).bind fun bt103 => (if bt103.2 = true then ((alloc_Pages.f x102001).bind fun t107 => (if (x102002.length : Int) = t107 then (some 0) else (some 1))) else (some 1)))
def inode_Check.f (k : Nat) (a0_0 : ByteArray) (a0_1 : Int) (l0_2 : List Int) (a1 : Int) : Option (Int) := if a1 < 0 then (inode_Check.j0 k a1 true a0_0 a0_1 l0_2) else (if a1 > 1024 then (inode_Check.j0 k a1 true a0_0 a0_1 l0_2) else ((inode_Name.f a0_0).bind fun t102 => (if t102 = true then (if a0_1 < 0 then (inode_Check.j0 k a1 true a0_0 a0_1 l0_2) else (inode_Check.j0 k a1 (decide (a0_1 > 24576)) a0_0 a0_1 l0_2)) else (inode_Check.j0 k a1 true a0_0 a0_1 l0_2))))
theorem inode_Check.mono_l : ∀ k, (∀ y0 y1 y2 y3 y4, LeO (inode_Check.j0 k y0 y1 y2 y3 y4) (inode_Check.j0 (k + 1) y0 y1 y2 y3 y4))
  | 0 => fun _ _ _ _ _ r h => by simp [inode_Check.j0] at h
  | k + 1 => by
    have ih0 := inode_Check.mono_l k
    · intro y0 y1 y2 y3 y4
      unfold inode_Check.j0
      repeat' first
      | (with_reducible exact ih0 _ _ _ _ _)
      | (with_reducible exact alloc_Bits.mono _ _ _)
      | (with_reducible exact LeO.refl _)
      | (with_reducible exact LeO.none _)
      | (with_reducible refine LeO.ite ?_ ?_)
      | (with_reducible refine LeO.bind ?_ (fun _ => ?_))
      | exact ih0 _ _ _ _ _
      | exact alloc_Bits.mono _ _ _
      | exact LeO.none _
      | refine LeO.ite ?_ ?_
      | refine LeO.bind ?_ (fun _ => ?_)
theorem inode_Check.mono : ∀ a0 a1 a2 a3 k, LeO (inode_Check.f k a0 a1 a2 a3) (inode_Check.f (k + 1) a0 a1 a2 a3) := by
  intro a0 a1 a2 a3 k
  have ih0 := inode_Check.mono_l k
  unfold inode_Check.f
  repeat' first
      | (with_reducible exact ih0 _ _ _ _ _)
      | (with_reducible exact alloc_Bits.mono _ _ _)
      | (with_reducible exact LeO.refl _)
      | (with_reducible exact LeO.none _)
      | (with_reducible refine LeO.ite ?_ ?_)
      | (with_reducible refine LeO.bind ?_ (fun _ => ?_))
      | exact ih0 _ _ _ _ _
      | exact alloc_Bits.mono _ _ _
      | exact LeO.none _
      | refine LeO.ite ?_ ?_
      | refine LeO.bind ?_ (fun _ => ?_)
set_option maxHeartbeats 8000000 in
set_option maxRecDepth 100000 in
theorem inode_Check.calls (k : Nat) (a0_0 : ByteArray) (a0_1 : Int) (A0_2 : Option Addr) (c0_2 : Nat) (l0_2 : List Int) (a1 : Int) (r : Int) (w : World) (hr0_2 : Kd.C (Kd.int .i64) w A0_2 l0_2.length l0_2) (hc0_2 : l0_2.length ≤ c0_2) (h : inode_Check.f k a0_0 a0_1 l0_2 a1 = some r) :
    Calls Try.prog 20 #[.agg #[.string a0_0, .int .i64 a0_1, .slice A0_2 l0_2.length c0_2], .int .i64 a1] w fun e w' => e = .returned (.int .i64 r) ∧ Below w.heap.size w w' := by
  have hu24 := Try.underlying24
  have HR0_2 := Aside0.mk hr0_2
  have HC0_2 := Aside0.mk hc0_2
  clear hr0_2 hc0_2
  have HB := Aside0.mk (Below.refl w.heap.size w)
  have H : (if a1 < 0 then (inode_Check.j0 k a1 true a0_0 a0_1 l0_2) else (if a1 > 1024 then (inode_Check.j0 k a1 true a0_0 a0_1 l0_2) else ((inode_Name.f a0_0).bind fun t102 => (if t102 = true then (if a0_1 < 0 then (inode_Check.j0 k a1 true a0_0 a0_1 l0_2) else (inode_Check.j0 k a1 (decide (a0_1 > 24576)) a0_0 a0_1 l0_2)) else (inode_Check.j0 k a1 true a0_0 a0_1 l0_2))))) = some r := h
  clear h
  have HC3 := Aside0.mk H
  clear H
  go_enter Try.func20, Try.ntmps20
  go_upto_region 1 with (first | ((with_reducible refine gate_dst (N := 2) rfl ?_); (try (refine gate_guard (by rfl) ?_; dsimp only)); refine box_event ?hg (N := 2) ?hd (cs := #[.string a0_0, .int .i64 a0_1, .slice A0_2 l0_2.length c0_2]) (t := 24) ?hr ?_; (case hd => rfl); (case hg => rfl); (case hr => first | (go_simp; done) | (go_simp; rfl)); intro gb101 hg w4 hbox hb; have n0_ := Aside0.mk (below_step (by repeat (first | (with_reducible first | exact HB.out | apply below_alloc | apply pw_below_drewN | apply below_drew1) | exact HB.out)) hb); have n1_ := Aside0.mk (hbox); have n2_ := Aside0.mk ((by rw [hg]; exact (below_size (by repeat (first | (with_reducible first | exact HB.out | apply below_alloc | apply pw_below_drewN | apply below_drew1) | exact HB.out))) : w.heap.size ≤ gb101)); have n3_ := Aside0.mk ((by rw [hg]; exact (below_size (by repeat (first | (with_reducible first | exact HB.out | apply below_alloc | apply pw_below_drewN | apply below_drew1) | exact HB.out))) : w.heap.size ≤ gb101)); clear HB; have HB := n0_; have BK101 := n1_; have GW101 := n2_; have GE101 := n3_; clear n0_ n1_ n2_ n3_; clear hb hbox hg))
  repeat (go_quiet (first | ((with_reducible refine gate_dst (N := 2) rfl ?_); (try (refine gate_guard (by rfl) ?_; dsimp only)); refine box_event ?hg (N := 2) ?hd (cs := #[.string a0_0, .int .i64 a0_1, .slice A0_2 l0_2.length c0_2]) (t := 24) ?hr ?_; (case hd => rfl); (case hg => rfl); (case hr => first | (go_simp; done) | (go_simp; rfl)); intro gb101 hg w4 hbox hb; have n0_ := Aside0.mk (below_step (by repeat (first | (with_reducible first | exact HB.out | apply below_alloc | apply pw_below_drewN | apply below_drew1) | exact HB.out)) hb); have n1_ := Aside0.mk (hbox); have n2_ := Aside0.mk ((by rw [hg]; exact (below_size (by repeat (first | (with_reducible first | exact HB.out | apply below_alloc | apply pw_below_drewN | apply below_drew1) | exact HB.out))) : w.heap.size ≤ gb101)); have n3_ := Aside0.mk ((by rw [hg]; exact (below_size (by repeat (first | (with_reducible first | exact HB.out | apply below_alloc | apply pw_below_drewN | apply below_drew1) | exact HB.out))) : w.heap.size ≤ gb101)); clear HB; have HB := n0_; have BK101 := n1_; have GW101 := n2_; have GE101 := n3_; clear n0_ n1_ n2_ n3_; clear hb hbox hg)); go_upto_region 1 with (first | ((with_reducible refine gate_dst (N := 2) rfl ?_); (try (refine gate_guard (by rfl) ?_; dsimp only)); refine box_event ?hg (N := 2) ?hd (cs := #[.string a0_0, .int .i64 a0_1, .slice A0_2 l0_2.length c0_2]) (t := 24) ?hr ?_; (case hd => rfl); (case hg => rfl); (case hr => first | (go_simp; done) | (go_simp; rfl)); intro gb101 hg w4 hbox hb; have n0_ := Aside0.mk (below_step (by repeat (first | (with_reducible first | exact HB.out | apply below_alloc | apply pw_below_drewN | apply below_drew1) | exact HB.out)) hb); have n1_ := Aside0.mk (hbox); have n2_ := Aside0.mk ((by rw [hg]; exact (below_size (by repeat (first | (with_reducible first | exact HB.out | apply below_alloc | apply pw_below_drewN | apply below_drew1) | exact HB.out))) : w.heap.size ≤ gb101)); have n3_ := Aside0.mk ((by rw [hg]; exact (below_size (by repeat (first | (with_reducible first | exact HB.out | apply below_alloc | apply pw_below_drewN | apply below_drew1) | exact HB.out))) : w.heap.size ≤ gb101)); clear HB; have HB := n0_; have BK101 := n1_; have GW101 := n2_; have GE101 := n3_; clear n0_ n1_ n2_ n3_; clear hb hbox hg)))
  (try simp only [Act.put, List.setIfInBounds_toArray, List.set_cons_zero, List.set_cons_succ])
  go_cut [28] (fun v28 wc => ∃ (kq : Nat) (x28_2 : Bool), v28 = .bool x28_2 ∧ Aside0 (inode_Check.j0 kq a1 x28_2 a0_0 a0_1 l0_2 = some r) ∧ Aside0 (kq ≤ k) ∧ Aside0 (wc.heap[gb101]? = some (.cells #[.string a0_0, .int .i64 a0_1, (.slice A0_2 l0_2.length c0_2)] 24 (0, 0))) ∧ Aside0 (Below w.heap.size w wc))
  case first =>
    have H := HC3.out
    clear HC3
    by_cases c5 : a1 < 0
    · rw [if_pos c5] at H
      have c5b0 : decide (a1 < 0) = true := decide_eq_true c5
      clear c5
      (first | rw [c5b0] | (simp only [i64_w, i32_w]; rw [c5b0]) | skip)
      have H' := Aside0.mk H
      clear H
      go_wp2
      repeat (go_quiet (fail); try go_wp2)
      go_meet
      case rel => exact ⟨_, (true), (by first | rfl | (simp; done) | (simp [*]; done)), H', ⟨by first | omega | exact Nat.le_refl _⟩, ⟨by (with_reducible repeat (first | refine blk_drewN ?_ _ | refine blk_drew ?_ | refine blk_alloc ?_ _)); exact BK101.out⟩, ⟨by repeat (first | (with_reducible first | exact HB.out | apply below_alloc | apply pw_below_drewN | apply below_drew1 | refine below_set ?_ GE101.out) | exact HB.out)⟩⟩
    · rw [if_neg c5] at H
      have c5b0 : decide (a1 < 0) = false := decide_eq_false c5
      clear c5
      (first | rw [c5b0] | (simp only [i64_w, i32_w]; rw [c5b0]) | skip)
      by_cases c6 : a1 > 1024
      · rw [if_pos c6] at H
        have c6b0 : decide (1024 < a1) = true := decide_eq_true c6
        clear c6
        have H' := Aside0.mk H
        clear H
        go_wp2
        repeat (go_quiet (fail); try go_wp2)
        go_meet
        case rel => exact ⟨_, (true), (by first | rfl | (simp; done) | (simp [*]; done)), H', ⟨by first | omega | exact Nat.le_refl _⟩, ⟨by (with_reducible repeat (first | refine blk_drewN ?_ _ | refine blk_drew ?_ | refine blk_alloc ?_ _)); exact BK101.out⟩, ⟨by repeat (first | (with_reducible first | exact HB.out | apply below_alloc | apply pw_below_drewN | apply below_drew1 | refine below_set ?_ GE101.out) | exact HB.out)⟩⟩
      · rw [if_neg c6] at H
        have c6b0 : decide (1024 < a1) = false := decide_eq_false c6
        clear c6
        replace H := Option.bind_eq_some_iff.mp H
        obtain ⟨t102, A70, H⟩ := H
        replace H : (if t102 = true then (if a0_1 < 0 then (inode_Check.j0 k a1 true a0_0 a0_1 l0_2) else (inode_Check.j0 k a1 (decide (a0_1 > 24576)) a0_0 a0_1 l0_2)) else (inode_Check.j0 k a1 true a0_0 a0_1 l0_2)) = some r := H
        have A7 := Aside0.mk A70
        clear A70
        by_cases c8 : t102 = true
        · subst c8
          have H1 : (if a0_1 < 0 then (inode_Check.j0 k a1 true a0_0 a0_1 l0_2) else (inode_Check.j0 k a1 (decide (a0_1 > 24576)) a0_0 a0_1 l0_2)) = some r := by rw [if_pos rfl] at H; exact H
          clear H
          have H := H1
          clear H1
          by_cases c9 : a0_1 < 0
          · rw [if_pos c9] at H
            have c9b0 : decide (a0_1 < 0) = true := decide_eq_true c9
            clear c9
            have H' := Aside0.mk H
            clear H
            have hcz10_0 : w4.cell? ⟨gb101, 0, none⟩ = some (.string a0_0) := (blk_cell BK101.out 0).trans rfl
            have hcz10_1 : w4.cell? ⟨gb101, 1, none⟩ = some (.int .i64 a0_1) := (blk_cell BK101.out 1).trans rfl
            have hcz10_2 : w4.cell? ⟨gb101, 2, none⟩ = some (.slice A0_2 l0_2.length c0_2) := (blk_cell BK101.out 2).trans rfl
            have hfz10_0 := blk_frozen BK101.out 0
            have hfz10_1 := blk_frozen BK101.out 1
            have hfz10_2 := blk_frozen BK101.out 2
            go_wp2_with (first | (go_at_call 21; (with_reducible refine (inode_Name.calls a0_0 true _ A7.out).mono ?_); rintro e w11 ⟨rfl, hb⟩; have n0_ := Aside0.mk (blk_below (g := gb101) (o := .cells #[.string a0_0, .int .i64 a0_1, .slice A0_2 l0_2.length c0_2] 24 (0, 0)) (by (with_reducible repeat (first | refine blk_drewN ?_ _ | refine blk_drew ?_ | refine blk_alloc ?_ _)); exact BK101.out) hb); have n1_ := Aside0.mk (below_step (by repeat (first | (with_reducible first | exact HB.out | apply below_alloc | apply pw_below_drewN | apply below_drew1 | refine below_set ?_ GE101.out) | exact HB.out)) hb); clear BK101; clear HB; have BK101 := n0_; have HB := n1_; clear n0_ n1_; (try clear hb); (try clear hb2); (try clear hk); (try clear hi); have hcz12_0 : w11.cell? ⟨gb101, 0, none⟩ = some (.string a0_0) := (blk_cell BK101.out 0).trans rfl; have hcz12_1 : w11.cell? ⟨gb101, 1, none⟩ = some (.int .i64 a0_1) := (blk_cell BK101.out 1).trans rfl; have hcz12_2 : w11.cell? ⟨gb101, 2, none⟩ = some (.slice A0_2 l0_2.length c0_2) := (blk_cell BK101.out 2).trans rfl; have hfz12_0 := blk_frozen BK101.out 0; have hfz12_1 := blk_frozen BK101.out 1; have hfz12_2 := blk_frozen BK101.out 2))
            repeat (go_quiet (first | (go_at_call 21; (with_reducible refine (inode_Name.calls a0_0 true _ A7.out).mono ?_); rintro e w11 ⟨rfl, hb⟩; have n0_ := Aside0.mk (blk_below (g := gb101) (o := .cells #[.string a0_0, .int .i64 a0_1, .slice A0_2 l0_2.length c0_2] 24 (0, 0)) (by (with_reducible repeat (first | refine blk_drewN ?_ _ | refine blk_drew ?_ | refine blk_alloc ?_ _)); exact BK101.out) hb); have n1_ := Aside0.mk (below_step (by repeat (first | (with_reducible first | exact HB.out | apply below_alloc | apply pw_below_drewN | apply below_drew1 | refine below_set ?_ GE101.out) | exact HB.out)) hb); clear BK101; clear HB; have BK101 := n0_; have HB := n1_; clear n0_ n1_; (try clear hb); (try clear hb2); (try clear hk); (try clear hi); have hcz12_0 : w11.cell? ⟨gb101, 0, none⟩ = some (.string a0_0) := (blk_cell BK101.out 0).trans rfl; have hcz12_1 : w11.cell? ⟨gb101, 1, none⟩ = some (.int .i64 a0_1) := (blk_cell BK101.out 1).trans rfl; have hcz12_2 : w11.cell? ⟨gb101, 2, none⟩ = some (.slice A0_2 l0_2.length c0_2) := (blk_cell BK101.out 2).trans rfl; have hfz12_0 := blk_frozen BK101.out 0; have hfz12_1 := blk_frozen BK101.out 1; have hfz12_2 := blk_frozen BK101.out 2)); try go_wp2_with (first | (go_at_call 21; (with_reducible refine (inode_Name.calls a0_0 true _ A7.out).mono ?_); rintro e w11 ⟨rfl, hb⟩; have n0_ := Aside0.mk (blk_below (g := gb101) (o := .cells #[.string a0_0, .int .i64 a0_1, .slice A0_2 l0_2.length c0_2] 24 (0, 0)) (by (with_reducible repeat (first | refine blk_drewN ?_ _ | refine blk_drew ?_ | refine blk_alloc ?_ _)); exact BK101.out) hb); have n1_ := Aside0.mk (below_step (by repeat (first | (with_reducible first | exact HB.out | apply below_alloc | apply pw_below_drewN | apply below_drew1 | refine below_set ?_ GE101.out) | exact HB.out)) hb); clear BK101; clear HB; have BK101 := n0_; have HB := n1_; clear n0_ n1_; (try clear hb); (try clear hb2); (try clear hk); (try clear hi); have hcz12_0 : w11.cell? ⟨gb101, 0, none⟩ = some (.string a0_0) := (blk_cell BK101.out 0).trans rfl; have hcz12_1 : w11.cell? ⟨gb101, 1, none⟩ = some (.int .i64 a0_1) := (blk_cell BK101.out 1).trans rfl; have hcz12_2 : w11.cell? ⟨gb101, 2, none⟩ = some (.slice A0_2 l0_2.length c0_2) := (blk_cell BK101.out 2).trans rfl; have hfz12_0 := blk_frozen BK101.out 0; have hfz12_1 := blk_frozen BK101.out 1; have hfz12_2 := blk_frozen BK101.out 2)))
            go_meet
            case rel => exact ⟨_, (true), (by first | rfl | (simp; done) | (simp [*]; done)), H', ⟨by first | omega | exact Nat.le_refl _⟩, ⟨by (with_reducible repeat (first | refine blk_drewN ?_ _ | refine blk_drew ?_ | refine blk_alloc ?_ _)); exact BK101.out⟩, ⟨by repeat (first | (with_reducible first | exact HB.out | apply below_alloc | apply pw_below_drewN | apply below_drew1 | refine below_set ?_ GE101.out) | exact HB.out)⟩⟩
          · rw [if_neg c9] at H
            have c9b0 : decide (a0_1 < 0) = false := decide_eq_false c9
            clear c9
            have H' := Aside0.mk H
            clear H
            have hcz13_0 : w4.cell? ⟨gb101, 0, none⟩ = some (.string a0_0) := (blk_cell BK101.out 0).trans rfl
            have hcz13_1 : w4.cell? ⟨gb101, 1, none⟩ = some (.int .i64 a0_1) := (blk_cell BK101.out 1).trans rfl
            have hcz13_2 : w4.cell? ⟨gb101, 2, none⟩ = some (.slice A0_2 l0_2.length c0_2) := (blk_cell BK101.out 2).trans rfl
            have hfz13_0 := blk_frozen BK101.out 0
            have hfz13_1 := blk_frozen BK101.out 1
            have hfz13_2 := blk_frozen BK101.out 2
            go_wp2_with (first | (go_at_call 21; (with_reducible refine (inode_Name.calls a0_0 true _ A7.out).mono ?_); rintro e w14 ⟨rfl, hb⟩; have n0_ := Aside0.mk (blk_below (g := gb101) (o := .cells #[.string a0_0, .int .i64 a0_1, .slice A0_2 l0_2.length c0_2] 24 (0, 0)) (by (with_reducible repeat (first | refine blk_drewN ?_ _ | refine blk_drew ?_ | refine blk_alloc ?_ _)); exact BK101.out) hb); have n1_ := Aside0.mk (below_step (by repeat (first | (with_reducible first | exact HB.out | apply below_alloc | apply pw_below_drewN | apply below_drew1 | refine below_set ?_ GE101.out) | exact HB.out)) hb); clear BK101; clear HB; have BK101 := n0_; have HB := n1_; clear n0_ n1_; (try clear hb); (try clear hb2); (try clear hk); (try clear hi); have hcz15_0 : w14.cell? ⟨gb101, 0, none⟩ = some (.string a0_0) := (blk_cell BK101.out 0).trans rfl; have hcz15_1 : w14.cell? ⟨gb101, 1, none⟩ = some (.int .i64 a0_1) := (blk_cell BK101.out 1).trans rfl; have hcz15_2 : w14.cell? ⟨gb101, 2, none⟩ = some (.slice A0_2 l0_2.length c0_2) := (blk_cell BK101.out 2).trans rfl; have hfz15_0 := blk_frozen BK101.out 0; have hfz15_1 := blk_frozen BK101.out 1; have hfz15_2 := blk_frozen BK101.out 2))
            repeat (go_quiet (first | (go_at_call 21; (with_reducible refine (inode_Name.calls a0_0 true _ A7.out).mono ?_); rintro e w14 ⟨rfl, hb⟩; have n0_ := Aside0.mk (blk_below (g := gb101) (o := .cells #[.string a0_0, .int .i64 a0_1, .slice A0_2 l0_2.length c0_2] 24 (0, 0)) (by (with_reducible repeat (first | refine blk_drewN ?_ _ | refine blk_drew ?_ | refine blk_alloc ?_ _)); exact BK101.out) hb); have n1_ := Aside0.mk (below_step (by repeat (first | (with_reducible first | exact HB.out | apply below_alloc | apply pw_below_drewN | apply below_drew1 | refine below_set ?_ GE101.out) | exact HB.out)) hb); clear BK101; clear HB; have BK101 := n0_; have HB := n1_; clear n0_ n1_; (try clear hb); (try clear hb2); (try clear hk); (try clear hi); have hcz15_0 : w14.cell? ⟨gb101, 0, none⟩ = some (.string a0_0) := (blk_cell BK101.out 0).trans rfl; have hcz15_1 : w14.cell? ⟨gb101, 1, none⟩ = some (.int .i64 a0_1) := (blk_cell BK101.out 1).trans rfl; have hcz15_2 : w14.cell? ⟨gb101, 2, none⟩ = some (.slice A0_2 l0_2.length c0_2) := (blk_cell BK101.out 2).trans rfl; have hfz15_0 := blk_frozen BK101.out 0; have hfz15_1 := blk_frozen BK101.out 1; have hfz15_2 := blk_frozen BK101.out 2)); try go_wp2_with (first | (go_at_call 21; (with_reducible refine (inode_Name.calls a0_0 true _ A7.out).mono ?_); rintro e w14 ⟨rfl, hb⟩; have n0_ := Aside0.mk (blk_below (g := gb101) (o := .cells #[.string a0_0, .int .i64 a0_1, .slice A0_2 l0_2.length c0_2] 24 (0, 0)) (by (with_reducible repeat (first | refine blk_drewN ?_ _ | refine blk_drew ?_ | refine blk_alloc ?_ _)); exact BK101.out) hb); have n1_ := Aside0.mk (below_step (by repeat (first | (with_reducible first | exact HB.out | apply below_alloc | apply pw_below_drewN | apply below_drew1 | refine below_set ?_ GE101.out) | exact HB.out)) hb); clear BK101; clear HB; have BK101 := n0_; have HB := n1_; clear n0_ n1_; (try clear hb); (try clear hb2); (try clear hk); (try clear hi); have hcz15_0 : w14.cell? ⟨gb101, 0, none⟩ = some (.string a0_0) := (blk_cell BK101.out 0).trans rfl; have hcz15_1 : w14.cell? ⟨gb101, 1, none⟩ = some (.int .i64 a0_1) := (blk_cell BK101.out 1).trans rfl; have hcz15_2 : w14.cell? ⟨gb101, 2, none⟩ = some (.slice A0_2 l0_2.length c0_2) := (blk_cell BK101.out 2).trans rfl; have hfz15_0 := blk_frozen BK101.out 0; have hfz15_1 := blk_frozen BK101.out 1; have hfz15_2 := blk_frozen BK101.out 2)))
            go_meet
            case rel => exact ⟨_, (decide (a0_1 > 24576)), (by first | rfl | (simp; done) | (simp [*]; done)), H', ⟨by first | omega | exact Nat.le_refl _⟩, ⟨by (with_reducible repeat (first | refine blk_drewN ?_ _ | refine blk_drew ?_ | refine blk_alloc ?_ _)); exact BK101.out⟩, ⟨by repeat (first | (with_reducible first | exact HB.out | apply below_alloc | apply pw_below_drewN | apply below_drew1 | refine below_set ?_ GE101.out) | exact HB.out)⟩⟩
        · replace c8 := Bool.eq_false_iff.mpr c8
          subst c8
          have H1 : (inode_Check.j0 k a1 true a0_0 a0_1 l0_2) = some r := by rw [if_neg (show ¬ (false = true) by decide)] at H; exact H
          clear H
          have H := H1
          clear H1
          have H' := Aside0.mk H
          clear H
          have hcz16_0 : w4.cell? ⟨gb101, 0, none⟩ = some (.string a0_0) := (blk_cell BK101.out 0).trans rfl
          have hcz16_1 : w4.cell? ⟨gb101, 1, none⟩ = some (.int .i64 a0_1) := (blk_cell BK101.out 1).trans rfl
          have hcz16_2 : w4.cell? ⟨gb101, 2, none⟩ = some (.slice A0_2 l0_2.length c0_2) := (blk_cell BK101.out 2).trans rfl
          have hfz16_0 := blk_frozen BK101.out 0
          have hfz16_1 := blk_frozen BK101.out 1
          have hfz16_2 := blk_frozen BK101.out 2
          go_wp2_with (first | (go_at_call 21; (with_reducible refine (inode_Name.calls a0_0 false _ A7.out).mono ?_); rintro e w17 ⟨rfl, hb⟩; have n0_ := Aside0.mk (blk_below (g := gb101) (o := .cells #[.string a0_0, .int .i64 a0_1, .slice A0_2 l0_2.length c0_2] 24 (0, 0)) (by (with_reducible repeat (first | refine blk_drewN ?_ _ | refine blk_drew ?_ | refine blk_alloc ?_ _)); exact BK101.out) hb); have n1_ := Aside0.mk (below_step (by repeat (first | (with_reducible first | exact HB.out | apply below_alloc | apply pw_below_drewN | apply below_drew1 | refine below_set ?_ GE101.out) | exact HB.out)) hb); clear BK101; clear HB; have BK101 := n0_; have HB := n1_; clear n0_ n1_; (try clear hb); (try clear hb2); (try clear hk); (try clear hi)))
          repeat (go_quiet (first | (go_at_call 21; (with_reducible refine (inode_Name.calls a0_0 false _ A7.out).mono ?_); rintro e w17 ⟨rfl, hb⟩; have n0_ := Aside0.mk (blk_below (g := gb101) (o := .cells #[.string a0_0, .int .i64 a0_1, .slice A0_2 l0_2.length c0_2] 24 (0, 0)) (by (with_reducible repeat (first | refine blk_drewN ?_ _ | refine blk_drew ?_ | refine blk_alloc ?_ _)); exact BK101.out) hb); have n1_ := Aside0.mk (below_step (by repeat (first | (with_reducible first | exact HB.out | apply below_alloc | apply pw_below_drewN | apply below_drew1 | refine below_set ?_ GE101.out) | exact HB.out)) hb); clear BK101; clear HB; have BK101 := n0_; have HB := n1_; clear n0_ n1_; (try clear hb); (try clear hb2); (try clear hk); (try clear hi))); try go_wp2_with (first | (go_at_call 21; (with_reducible refine (inode_Name.calls a0_0 false _ A7.out).mono ?_); rintro e w17 ⟨rfl, hb⟩; have n0_ := Aside0.mk (blk_below (g := gb101) (o := .cells #[.string a0_0, .int .i64 a0_1, .slice A0_2 l0_2.length c0_2] 24 (0, 0)) (by (with_reducible repeat (first | refine blk_drewN ?_ _ | refine blk_drew ?_ | refine blk_alloc ?_ _)); exact BK101.out) hb); have n1_ := Aside0.mk (below_step (by repeat (first | (with_reducible first | exact HB.out | apply below_alloc | apply pw_below_drewN | apply below_drew1 | refine below_set ?_ GE101.out) | exact HB.out)) hb); clear BK101; clear HB; have BK101 := n0_; have HB := n1_; clear n0_ n1_; (try clear hb); (try clear hb2); (try clear hk); (try clear hi))))
          go_meet
          case rel => exact ⟨_, (true), (by first | rfl | (simp; done) | (simp [*]; done)), H', ⟨by first | omega | exact Nat.le_refl _⟩, ⟨by (with_reducible repeat (first | refine blk_drewN ?_ _ | refine blk_drew ?_ | refine blk_alloc ?_ _)); exact BK101.out⟩, ⟨by repeat (first | (with_reducible first | exact HB.out | apply below_alloc | apply pw_below_drewN | apply below_drew1 | refine below_set ?_ GE101.out) | exact HB.out)⟩⟩
  case rest =>
    clear HC3
    try clear c2
    try clear p2
    try clear c5
    try clear c5b0
    try clear c6
    try clear c6b0
    try clear c8
    try clear c9
    try clear c9b0
    try clear hcz10_0
    try clear hcz10_1
    try clear hcz10_2
    try clear hcz12_0
    try clear hcz12_1
    try clear hcz12_2
    try clear hcz13_0
    try clear hcz13_1
    try clear hcz13_2
    try clear hcz15_0
    try clear hcz15_1
    try clear hcz15_2
    try clear hcz16_0
    try clear hcz16_1
    try clear hcz16_2
    try clear hfz10_0
    try clear hfz10_1
    try clear hfz10_2
    try clear hfz12_0
    try clear hfz12_1
    try clear hfz12_2
    try clear hfz13_0
    try clear hfz13_1
    try clear hfz13_2
    try clear hfz15_0
    try clear hfz15_1
    try clear hfz15_2
    try clear hfz16_0
    try clear hfz16_1
    try clear hfz16_2
    obtain ⟨kq, x28_2, rfl, HA, HJ2, BK101, HB⟩ := hcut
    cases kq with
    | zero => exact absurd HA.out (by simp [inode_Check.j0])
    | succ kj2 =>
      have H := HA.out
      clear HA
      simp only [inode_Check.j0] at H
      by_cases c18 : x28_2 = true
      · subst c18
        have H1 : (some 1) = some r := by rw [if_pos rfl] at H; exact H
        clear H
        have H := H1
        clear H1
        obtain rfl := Option.some.inj H
        go_wp2
        repeat (go_quiet (fail); try go_wp2)
        go_ret
        exact ⟨by first | rfl | (simp [errW_none, errW_some] <;> rfl) | (simp [*, errW_none, errW_some] <;> rfl), by repeat (first | (with_reducible first | exact HB.out | apply below_alloc | apply pw_below_drewN | apply below_drew1 | refine below_set ?_ GE101.out) | exact HB.out)⟩
      · replace c18 := Bool.eq_false_iff.mpr c18
        subst c18
        have H1 : ((alloc_Bits.f kj2 l0_2 a1).bind fun bt103 => (if bt103.2 = true then ((alloc_Pages.f a0_1).bind fun t107 => (if (l0_2.length : Int) = t107 then (some 0) else (some 1))) else (some 1))) = some r := by rw [if_neg (show ¬ (false = true) by decide)] at H; exact H
        clear H
        have H := H1
        clear H1
        replace H := Option.bind_eq_some_iff.mp H
        obtain ⟨⟨t103, t104⟩, A190, H⟩ := H
        replace H : (if t104 = true then ((alloc_Pages.f a0_1).bind fun t107 => (if (l0_2.length : Int) = t107 then (some 0) else (some 1))) else (some 1)) = some r := H
        have A19 := Aside0.mk A190
        clear A190
        by_cases c20 : t104 = true
        · subst c20
          have H1 : ((alloc_Pages.f a0_1).bind fun t107 => (if (l0_2.length : Int) = t107 then (some 0) else (some 1))) = some r := by rw [if_pos rfl] at H; exact H
          clear H
          have H := H1
          clear H1
          replace H := Option.bind_eq_some_iff.mp H
          obtain ⟨t107, A210, H⟩ := H
          replace H : (if (l0_2.length : Int) = t107 then (some 0) else (some 1)) = some r := H
          have A21 := Aside0.mk A210
          clear A210
          by_cases c22 : (l0_2.length : Int) = t107
          · rw [if_pos c22] at H
            have c22b0 : ((l0_2.length : Int) == t107) = true := beq_iff_eq.mpr c22
            have c22b1 : ((l0_2.length : Int) != t107) = false := bne_eq_false_iff_eq.mpr c22
            clear c22
            obtain rfl := Option.some.inj H
            have hcz23_0 : wc.cell? ⟨gb101, 0, none⟩ = some (.string a0_0) := (blk_cell BK101.out 0).trans rfl
            have hcz23_1 : wc.cell? ⟨gb101, 1, none⟩ = some (.int .i64 a0_1) := (blk_cell BK101.out 1).trans rfl
            have hcz23_2 : wc.cell? ⟨gb101, 2, none⟩ = some (.slice A0_2 l0_2.length c0_2) := (blk_cell BK101.out 2).trans rfl
            have hfz23_0 := blk_frozen BK101.out 0
            have hfz23_1 := blk_frozen BK101.out 1
            have hfz23_2 := blk_frozen BK101.out 2
            go_wp2_with (first | (go_at_call 54; (with_reducible refine (alloc_Bits.calls kj2 _ _ l0_2 a1 t103 true _ ?side1 ?side2 A19.out).mono ?_); (case side1 => repeat (first | exact (Kd.C_below HR0_2.out HB.out) | (with_reducible refine Kd.C_alloc ?_ _) | (with_reducible refine Kd.C_drewN ?_ _) | (with_reducible refine Kd.C_drew ?_))); (case side2 => exact HC0_2.out); rintro e w24 ⟨v105, rfl, ho0, hb⟩; have n0_ := Aside0.mk (Kd.R_lower ho0 (below_size (by repeat (first | (with_reducible first | exact HB.out | apply below_alloc | apply pw_below_drewN | apply below_drew1 | refine below_set ?_ GE101.out) | exact HB.out)))); have n1_ := Aside0.mk (blk_below (g := gb101) (o := .cells #[.string a0_0, .int .i64 a0_1, .slice A0_2 l0_2.length c0_2] 24 (0, 0)) (by (with_reducible repeat (first | refine blk_drewN ?_ _ | refine blk_drew ?_ | refine blk_alloc ?_ _)); exact BK101.out) hb); have n2_ := Aside0.mk (below_step (by repeat (first | (with_reducible first | exact HB.out | apply below_alloc | apply pw_below_drewN | apply below_drew1 | refine below_set ?_ GE101.out) | exact HB.out)) hb); clear BK101; clear HB; have HO106 := n0_; have BK101 := n1_; have HB := n2_; clear n0_ n1_ n2_; (try clear hb); (try clear hb2); (try clear hk); (try clear hi); (try clear ho0); have hcz25_0 : w24.cell? ⟨gb101, 0, none⟩ = some (.string a0_0) := (blk_cell BK101.out 0).trans rfl; have hcz25_1 : w24.cell? ⟨gb101, 1, none⟩ = some (.int .i64 a0_1) := (blk_cell BK101.out 1).trans rfl; have hcz25_2 : w24.cell? ⟨gb101, 2, none⟩ = some (.slice A0_2 l0_2.length c0_2) := (blk_cell BK101.out 2).trans rfl; have hfz25_0 := blk_frozen BK101.out 0; have hfz25_1 := blk_frozen BK101.out 1; have hfz25_2 := blk_frozen BK101.out 2) | (go_at_call 62; (with_reducible refine (alloc_Pages.calls a0_1 t107 _ A21.out).mono ?_); rintro e w' ⟨rfl, ⟨nd, rfl⟩⟩; (try first | exact ⟨rfl, _, World.drewN_drewN _ _ _⟩ | exact ⟨rfl, _, Eq.trans (World.drewN_drewN _ _ _) (congrArg (World.drewN _) (Nat.add_assoc _ _ _))⟩)))
            repeat (go_quiet (first | (go_at_call 54; (with_reducible refine (alloc_Bits.calls kj2 _ _ l0_2 a1 t103 true _ ?side1 ?side2 A19.out).mono ?_); (case side1 => repeat (first | exact (Kd.C_below HR0_2.out HB.out) | (with_reducible refine Kd.C_alloc ?_ _) | (with_reducible refine Kd.C_drewN ?_ _) | (with_reducible refine Kd.C_drew ?_))); (case side2 => exact HC0_2.out); rintro e w24 ⟨v105, rfl, ho0, hb⟩; have n0_ := Aside0.mk (Kd.R_lower ho0 (below_size (by repeat (first | (with_reducible first | exact HB.out | apply below_alloc | apply pw_below_drewN | apply below_drew1 | refine below_set ?_ GE101.out) | exact HB.out)))); have n1_ := Aside0.mk (blk_below (g := gb101) (o := .cells #[.string a0_0, .int .i64 a0_1, .slice A0_2 l0_2.length c0_2] 24 (0, 0)) (by (with_reducible repeat (first | refine blk_drewN ?_ _ | refine blk_drew ?_ | refine blk_alloc ?_ _)); exact BK101.out) hb); have n2_ := Aside0.mk (below_step (by repeat (first | (with_reducible first | exact HB.out | apply below_alloc | apply pw_below_drewN | apply below_drew1 | refine below_set ?_ GE101.out) | exact HB.out)) hb); clear BK101; clear HB; have HO106 := n0_; have BK101 := n1_; have HB := n2_; clear n0_ n1_ n2_; (try clear hb); (try clear hb2); (try clear hk); (try clear hi); (try clear ho0); have hcz25_0 : w24.cell? ⟨gb101, 0, none⟩ = some (.string a0_0) := (blk_cell BK101.out 0).trans rfl; have hcz25_1 : w24.cell? ⟨gb101, 1, none⟩ = some (.int .i64 a0_1) := (blk_cell BK101.out 1).trans rfl; have hcz25_2 : w24.cell? ⟨gb101, 2, none⟩ = some (.slice A0_2 l0_2.length c0_2) := (blk_cell BK101.out 2).trans rfl; have hfz25_0 := blk_frozen BK101.out 0; have hfz25_1 := blk_frozen BK101.out 1; have hfz25_2 := blk_frozen BK101.out 2) | (go_at_call 62; (with_reducible refine (alloc_Pages.calls a0_1 t107 _ A21.out).mono ?_); rintro e w' ⟨rfl, ⟨nd, rfl⟩⟩; (try first | exact ⟨rfl, _, World.drewN_drewN _ _ _⟩ | exact ⟨rfl, _, Eq.trans (World.drewN_drewN _ _ _) (congrArg (World.drewN _) (Nat.add_assoc _ _ _))⟩))); try go_wp2_with (first | (go_at_call 54; (with_reducible refine (alloc_Bits.calls kj2 _ _ l0_2 a1 t103 true _ ?side1 ?side2 A19.out).mono ?_); (case side1 => repeat (first | exact (Kd.C_below HR0_2.out HB.out) | (with_reducible refine Kd.C_alloc ?_ _) | (with_reducible refine Kd.C_drewN ?_ _) | (with_reducible refine Kd.C_drew ?_))); (case side2 => exact HC0_2.out); rintro e w24 ⟨v105, rfl, ho0, hb⟩; have n0_ := Aside0.mk (Kd.R_lower ho0 (below_size (by repeat (first | (with_reducible first | exact HB.out | apply below_alloc | apply pw_below_drewN | apply below_drew1 | refine below_set ?_ GE101.out) | exact HB.out)))); have n1_ := Aside0.mk (blk_below (g := gb101) (o := .cells #[.string a0_0, .int .i64 a0_1, .slice A0_2 l0_2.length c0_2] 24 (0, 0)) (by (with_reducible repeat (first | refine blk_drewN ?_ _ | refine blk_drew ?_ | refine blk_alloc ?_ _)); exact BK101.out) hb); have n2_ := Aside0.mk (below_step (by repeat (first | (with_reducible first | exact HB.out | apply below_alloc | apply pw_below_drewN | apply below_drew1 | refine below_set ?_ GE101.out) | exact HB.out)) hb); clear BK101; clear HB; have HO106 := n0_; have BK101 := n1_; have HB := n2_; clear n0_ n1_ n2_; (try clear hb); (try clear hb2); (try clear hk); (try clear hi); (try clear ho0); have hcz25_0 : w24.cell? ⟨gb101, 0, none⟩ = some (.string a0_0) := (blk_cell BK101.out 0).trans rfl; have hcz25_1 : w24.cell? ⟨gb101, 1, none⟩ = some (.int .i64 a0_1) := (blk_cell BK101.out 1).trans rfl; have hcz25_2 : w24.cell? ⟨gb101, 2, none⟩ = some (.slice A0_2 l0_2.length c0_2) := (blk_cell BK101.out 2).trans rfl; have hfz25_0 := blk_frozen BK101.out 0; have hfz25_1 := blk_frozen BK101.out 1; have hfz25_2 := blk_frozen BK101.out 2) | (go_at_call 62; (with_reducible refine (alloc_Pages.calls a0_1 t107 _ A21.out).mono ?_); rintro e w' ⟨rfl, ⟨nd, rfl⟩⟩; (try first | exact ⟨rfl, _, World.drewN_drewN _ _ _⟩ | exact ⟨rfl, _, Eq.trans (World.drewN_drewN _ _ _) (congrArg (World.drewN _) (Nat.add_assoc _ _ _))⟩))))
            go_ret
            exact ⟨by first | rfl | (simp [errW_none, errW_some] <;> rfl) | (simp [*, errW_none, errW_some] <;> rfl), by repeat (first | (with_reducible first | exact HB.out | apply below_alloc | apply pw_below_drewN | apply below_drew1 | refine below_set ?_ GE101.out) | exact HB.out)⟩
          · rw [if_neg c22] at H
            have c22b0 : ((l0_2.length : Int) == t107) = false := beq_eq_false_iff_ne.mpr c22
            have c22b1 : ((l0_2.length : Int) != t107) = true := bne_iff_ne.mpr c22
            obtain rfl := Option.some.inj H
            have hcz26_0 : wc.cell? ⟨gb101, 0, none⟩ = some (.string a0_0) := (blk_cell BK101.out 0).trans rfl
            have hcz26_1 : wc.cell? ⟨gb101, 1, none⟩ = some (.int .i64 a0_1) := (blk_cell BK101.out 1).trans rfl
            have hcz26_2 : wc.cell? ⟨gb101, 2, none⟩ = some (.slice A0_2 l0_2.length c0_2) := (blk_cell BK101.out 2).trans rfl
            have hfz26_0 := blk_frozen BK101.out 0
            have hfz26_1 := blk_frozen BK101.out 1
            have hfz26_2 := blk_frozen BK101.out 2
            go_wp2_with (first | (go_at_call 54; (with_reducible refine (alloc_Bits.calls kj2 _ _ l0_2 a1 t103 true _ ?side1 ?side2 A19.out).mono ?_); (case side1 => repeat (first | exact (Kd.C_below HR0_2.out HB.out) | (with_reducible refine Kd.C_alloc ?_ _) | (with_reducible refine Kd.C_drewN ?_ _) | (with_reducible refine Kd.C_drew ?_))); (case side2 => exact HC0_2.out); rintro e w27 ⟨v105, rfl, ho0, hb⟩; have n0_ := Aside0.mk (Kd.R_lower ho0 (below_size (by repeat (first | (with_reducible first | exact HB.out | apply below_alloc | apply pw_below_drewN | apply below_drew1 | refine below_set ?_ GE101.out) | exact HB.out)))); have n1_ := Aside0.mk (blk_below (g := gb101) (o := .cells #[.string a0_0, .int .i64 a0_1, .slice A0_2 l0_2.length c0_2] 24 (0, 0)) (by (with_reducible repeat (first | refine blk_drewN ?_ _ | refine blk_drew ?_ | refine blk_alloc ?_ _)); exact BK101.out) hb); have n2_ := Aside0.mk (below_step (by repeat (first | (with_reducible first | exact HB.out | apply below_alloc | apply pw_below_drewN | apply below_drew1 | refine below_set ?_ GE101.out) | exact HB.out)) hb); clear BK101; clear HB; have HO106 := n0_; have BK101 := n1_; have HB := n2_; clear n0_ n1_ n2_; (try clear hb); (try clear hb2); (try clear hk); (try clear hi); (try clear ho0); have hcz28_0 : w27.cell? ⟨gb101, 0, none⟩ = some (.string a0_0) := (blk_cell BK101.out 0).trans rfl; have hcz28_1 : w27.cell? ⟨gb101, 1, none⟩ = some (.int .i64 a0_1) := (blk_cell BK101.out 1).trans rfl; have hcz28_2 : w27.cell? ⟨gb101, 2, none⟩ = some (.slice A0_2 l0_2.length c0_2) := (blk_cell BK101.out 2).trans rfl; have hfz28_0 := blk_frozen BK101.out 0; have hfz28_1 := blk_frozen BK101.out 1; have hfz28_2 := blk_frozen BK101.out 2) | (go_at_call 62; (with_reducible refine (alloc_Pages.calls a0_1 t107 _ A21.out).mono ?_); rintro e w' ⟨rfl, ⟨nd, rfl⟩⟩; (try first | exact ⟨rfl, _, World.drewN_drewN _ _ _⟩ | exact ⟨rfl, _, Eq.trans (World.drewN_drewN _ _ _) (congrArg (World.drewN _) (Nat.add_assoc _ _ _))⟩)))
            repeat (go_quiet (first | (go_at_call 54; (with_reducible refine (alloc_Bits.calls kj2 _ _ l0_2 a1 t103 true _ ?side1 ?side2 A19.out).mono ?_); (case side1 => repeat (first | exact (Kd.C_below HR0_2.out HB.out) | (with_reducible refine Kd.C_alloc ?_ _) | (with_reducible refine Kd.C_drewN ?_ _) | (with_reducible refine Kd.C_drew ?_))); (case side2 => exact HC0_2.out); rintro e w27 ⟨v105, rfl, ho0, hb⟩; have n0_ := Aside0.mk (Kd.R_lower ho0 (below_size (by repeat (first | (with_reducible first | exact HB.out | apply below_alloc | apply pw_below_drewN | apply below_drew1 | refine below_set ?_ GE101.out) | exact HB.out)))); have n1_ := Aside0.mk (blk_below (g := gb101) (o := .cells #[.string a0_0, .int .i64 a0_1, .slice A0_2 l0_2.length c0_2] 24 (0, 0)) (by (with_reducible repeat (first | refine blk_drewN ?_ _ | refine blk_drew ?_ | refine blk_alloc ?_ _)); exact BK101.out) hb); have n2_ := Aside0.mk (below_step (by repeat (first | (with_reducible first | exact HB.out | apply below_alloc | apply pw_below_drewN | apply below_drew1 | refine below_set ?_ GE101.out) | exact HB.out)) hb); clear BK101; clear HB; have HO106 := n0_; have BK101 := n1_; have HB := n2_; clear n0_ n1_ n2_; (try clear hb); (try clear hb2); (try clear hk); (try clear hi); (try clear ho0); have hcz28_0 : w27.cell? ⟨gb101, 0, none⟩ = some (.string a0_0) := (blk_cell BK101.out 0).trans rfl; have hcz28_1 : w27.cell? ⟨gb101, 1, none⟩ = some (.int .i64 a0_1) := (blk_cell BK101.out 1).trans rfl; have hcz28_2 : w27.cell? ⟨gb101, 2, none⟩ = some (.slice A0_2 l0_2.length c0_2) := (blk_cell BK101.out 2).trans rfl; have hfz28_0 := blk_frozen BK101.out 0; have hfz28_1 := blk_frozen BK101.out 1; have hfz28_2 := blk_frozen BK101.out 2) | (go_at_call 62; (with_reducible refine (alloc_Pages.calls a0_1 t107 _ A21.out).mono ?_); rintro e w' ⟨rfl, ⟨nd, rfl⟩⟩; (try first | exact ⟨rfl, _, World.drewN_drewN _ _ _⟩ | exact ⟨rfl, _, Eq.trans (World.drewN_drewN _ _ _) (congrArg (World.drewN _) (Nat.add_assoc _ _ _))⟩))); try go_wp2_with (first | (go_at_call 54; (with_reducible refine (alloc_Bits.calls kj2 _ _ l0_2 a1 t103 true _ ?side1 ?side2 A19.out).mono ?_); (case side1 => repeat (first | exact (Kd.C_below HR0_2.out HB.out) | (with_reducible refine Kd.C_alloc ?_ _) | (with_reducible refine Kd.C_drewN ?_ _) | (with_reducible refine Kd.C_drew ?_))); (case side2 => exact HC0_2.out); rintro e w27 ⟨v105, rfl, ho0, hb⟩; have n0_ := Aside0.mk (Kd.R_lower ho0 (below_size (by repeat (first | (with_reducible first | exact HB.out | apply below_alloc | apply pw_below_drewN | apply below_drew1 | refine below_set ?_ GE101.out) | exact HB.out)))); have n1_ := Aside0.mk (blk_below (g := gb101) (o := .cells #[.string a0_0, .int .i64 a0_1, .slice A0_2 l0_2.length c0_2] 24 (0, 0)) (by (with_reducible repeat (first | refine blk_drewN ?_ _ | refine blk_drew ?_ | refine blk_alloc ?_ _)); exact BK101.out) hb); have n2_ := Aside0.mk (below_step (by repeat (first | (with_reducible first | exact HB.out | apply below_alloc | apply pw_below_drewN | apply below_drew1 | refine below_set ?_ GE101.out) | exact HB.out)) hb); clear BK101; clear HB; have HO106 := n0_; have BK101 := n1_; have HB := n2_; clear n0_ n1_ n2_; (try clear hb); (try clear hb2); (try clear hk); (try clear hi); (try clear ho0); have hcz28_0 : w27.cell? ⟨gb101, 0, none⟩ = some (.string a0_0) := (blk_cell BK101.out 0).trans rfl; have hcz28_1 : w27.cell? ⟨gb101, 1, none⟩ = some (.int .i64 a0_1) := (blk_cell BK101.out 1).trans rfl; have hcz28_2 : w27.cell? ⟨gb101, 2, none⟩ = some (.slice A0_2 l0_2.length c0_2) := (blk_cell BK101.out 2).trans rfl; have hfz28_0 := blk_frozen BK101.out 0; have hfz28_1 := blk_frozen BK101.out 1; have hfz28_2 := blk_frozen BK101.out 2) | (go_at_call 62; (with_reducible refine (alloc_Pages.calls a0_1 t107 _ A21.out).mono ?_); rintro e w' ⟨rfl, ⟨nd, rfl⟩⟩; (try first | exact ⟨rfl, _, World.drewN_drewN _ _ _⟩ | exact ⟨rfl, _, Eq.trans (World.drewN_drewN _ _ _) (congrArg (World.drewN _) (Nat.add_assoc _ _ _))⟩))))
            go_ret
            exact ⟨by first | rfl | (simp [errW_none, errW_some] <;> rfl) | (simp [*, errW_none, errW_some] <;> rfl), by repeat (first | (with_reducible first | exact HB.out | apply below_alloc | apply pw_below_drewN | apply below_drew1 | refine below_set ?_ GE101.out) | exact HB.out)⟩
        · replace c20 := Bool.eq_false_iff.mpr c20
          subst c20
          have H1 : (some 1) = some r := by rw [if_neg (show ¬ (false = true) by decide)] at H; exact H
          clear H
          have H := H1
          clear H1
          obtain rfl := Option.some.inj H
          have hcz29_0 : wc.cell? ⟨gb101, 0, none⟩ = some (.string a0_0) := (blk_cell BK101.out 0).trans rfl
          have hcz29_1 : wc.cell? ⟨gb101, 1, none⟩ = some (.int .i64 a0_1) := (blk_cell BK101.out 1).trans rfl
          have hcz29_2 : wc.cell? ⟨gb101, 2, none⟩ = some (.slice A0_2 l0_2.length c0_2) := (blk_cell BK101.out 2).trans rfl
          have hfz29_0 := blk_frozen BK101.out 0
          have hfz29_1 := blk_frozen BK101.out 1
          have hfz29_2 := blk_frozen BK101.out 2
          go_wp2_with (first | (go_at_call 54; (with_reducible refine (alloc_Bits.calls kj2 _ _ l0_2 a1 t103 false _ ?side1 ?side2 A19.out).mono ?_); (case side1 => repeat (first | exact (Kd.C_below HR0_2.out HB.out) | (with_reducible refine Kd.C_alloc ?_ _) | (with_reducible refine Kd.C_drewN ?_ _) | (with_reducible refine Kd.C_drew ?_))); (case side2 => exact HC0_2.out); rintro e w30 ⟨v105, rfl, ho0, hb⟩; have n0_ := Aside0.mk (Kd.R_lower ho0 (below_size (by repeat (first | (with_reducible first | exact HB.out | apply below_alloc | apply pw_below_drewN | apply below_drew1 | refine below_set ?_ GE101.out) | exact HB.out)))); have n1_ := Aside0.mk (blk_below (g := gb101) (o := .cells #[.string a0_0, .int .i64 a0_1, .slice A0_2 l0_2.length c0_2] 24 (0, 0)) (by (with_reducible repeat (first | refine blk_drewN ?_ _ | refine blk_drew ?_ | refine blk_alloc ?_ _)); exact BK101.out) hb); have n2_ := Aside0.mk (below_step (by repeat (first | (with_reducible first | exact HB.out | apply below_alloc | apply pw_below_drewN | apply below_drew1 | refine below_set ?_ GE101.out) | exact HB.out)) hb); clear BK101; clear HB; have HO106 := n0_; have BK101 := n1_; have HB := n2_; clear n0_ n1_ n2_; (try clear hb); (try clear hb2); (try clear hk); (try clear hi); (try clear ho0)))
          repeat (go_quiet (first | (go_at_call 54; (with_reducible refine (alloc_Bits.calls kj2 _ _ l0_2 a1 t103 false _ ?side1 ?side2 A19.out).mono ?_); (case side1 => repeat (first | exact (Kd.C_below HR0_2.out HB.out) | (with_reducible refine Kd.C_alloc ?_ _) | (with_reducible refine Kd.C_drewN ?_ _) | (with_reducible refine Kd.C_drew ?_))); (case side2 => exact HC0_2.out); rintro e w30 ⟨v105, rfl, ho0, hb⟩; have n0_ := Aside0.mk (Kd.R_lower ho0 (below_size (by repeat (first | (with_reducible first | exact HB.out | apply below_alloc | apply pw_below_drewN | apply below_drew1 | refine below_set ?_ GE101.out) | exact HB.out)))); have n1_ := Aside0.mk (blk_below (g := gb101) (o := .cells #[.string a0_0, .int .i64 a0_1, .slice A0_2 l0_2.length c0_2] 24 (0, 0)) (by (with_reducible repeat (first | refine blk_drewN ?_ _ | refine blk_drew ?_ | refine blk_alloc ?_ _)); exact BK101.out) hb); have n2_ := Aside0.mk (below_step (by repeat (first | (with_reducible first | exact HB.out | apply below_alloc | apply pw_below_drewN | apply below_drew1 | refine below_set ?_ GE101.out) | exact HB.out)) hb); clear BK101; clear HB; have HO106 := n0_; have BK101 := n1_; have HB := n2_; clear n0_ n1_ n2_; (try clear hb); (try clear hb2); (try clear hk); (try clear hi); (try clear ho0))); try go_wp2_with (first | (go_at_call 54; (with_reducible refine (alloc_Bits.calls kj2 _ _ l0_2 a1 t103 false _ ?side1 ?side2 A19.out).mono ?_); (case side1 => repeat (first | exact (Kd.C_below HR0_2.out HB.out) | (with_reducible refine Kd.C_alloc ?_ _) | (with_reducible refine Kd.C_drewN ?_ _) | (with_reducible refine Kd.C_drew ?_))); (case side2 => exact HC0_2.out); rintro e w30 ⟨v105, rfl, ho0, hb⟩; have n0_ := Aside0.mk (Kd.R_lower ho0 (below_size (by repeat (first | (with_reducible first | exact HB.out | apply below_alloc | apply pw_below_drewN | apply below_drew1 | refine below_set ?_ GE101.out) | exact HB.out)))); have n1_ := Aside0.mk (blk_below (g := gb101) (o := .cells #[.string a0_0, .int .i64 a0_1, .slice A0_2 l0_2.length c0_2] 24 (0, 0)) (by (with_reducible repeat (first | refine blk_drewN ?_ _ | refine blk_drew ?_ | refine blk_alloc ?_ _)); exact BK101.out) hb); have n2_ := Aside0.mk (below_step (by repeat (first | (with_reducible first | exact HB.out | apply below_alloc | apply pw_below_drewN | apply below_drew1 | refine below_set ?_ GE101.out) | exact HB.out)) hb); clear BK101; clear HB; have HO106 := n0_; have BK101 := n1_; have HB := n2_; clear n0_ n1_ n2_; (try clear hb); (try clear hb2); (try clear hk); (try clear hi); (try clear ho0))))
          go_ret
          exact ⟨by first | rfl | (simp [errW_none, errW_some] <;> rfl) | (simp [*, errW_none, errW_some] <;> rfl), by repeat (first | (with_reducible first | exact HB.out | apply below_alloc | apply pw_below_drewN | apply below_drew1 | refine below_set ?_ GE101.out) | exact HB.out)⟩

end Go.Proofs.Ytgdpabedlghiaaa.PZ
-- printed for this claim by a program (pall.sh)
namespace Go.Proofs.Ytgdpabedlghiaaa.PZ
open Go.RowKit Go.Proofs.YtgdpabedlghiaaaW.PrintWords Go.Proofs.YtgdpabedlghiaaaW.PrintLast Go.Proofs.YtgdpabedlghiaaaW.PrintMore
attribute [local go_sem] max2_int min2_int max_two min_two max_three min_three max_four min_four   -- for this text's walks alone
set_option linter.unusedVariables false
set_option linter.unusedSimpArgs false

/-! ### hanaperref11_Pages: function 105 -/
def hanaperref11_Pages.f (a0 : Int) : Option (Int) := if a0 < 1 then (some 0) else (some (wrap64 ((wrap64 (Int.tdiv (wrap64 (a0 - 1)) 256)) + 1)))
set_option maxHeartbeats 8000000 in
set_option maxRecDepth 100000 in
theorem hanaperref11_Pages.calls (a0 : Int) (r : Int) (w : World) (h : hanaperref11_Pages.f a0 = some r) :
    Calls Try.prog 105 #[.int .i64 a0] w fun e w' => e = .returned (.int .i64 r) ∧ Drawn0 w w' := by
  have H : (if a0 < 1 then (some 0) else (some (wrap64 ((wrap64 (Int.tdiv (wrap64 (a0 - 1)) 256)) + 1)))) = some r := h
  clear h
  by_cases c2 : a0 < 1
  · rw [if_pos c2] at H
    have c2b0 : decide (a0 < 1) = true := decide_eq_true c2
    clear c2
    obtain rfl := Option.some.inj H
    go_enter Try.func105, Try.ntmps105
    go_wp2
    go_ret
    exact ⟨by first | rfl | (simp; done) | (simp [*]; done), by repeat (first | exact Drawn0.refl _ | apply Drawn0.step)⟩
  · rw [if_neg c2] at H
    have c2b0 : decide (a0 < 1) = false := decide_eq_false c2
    clear c2
    obtain rfl := Option.some.inj H
    go_enter Try.func105, Try.ntmps105
    go_wp2
    go_ret
    exact ⟨by first | rfl | (simp; done) | (simp [*]; done), by repeat (first | exact Drawn0.refl _ | apply Drawn0.step)⟩

end Go.Proofs.Ytgdpabedlghiaaa.PZ
