/- Own and printed texts, laid together. -/
import Derived.Test.YtfpkgdenohcglaaCrMB
import Derived.Deep.QuietTactic
import Derived.BigQuiet
import Derived.StillTactics
import Derived.Deep.RegionLaw
import Derived.Deep.RegionHeld3
import Derived.Deep.MidRow
import Derived.WideShapes
import Derived.Test.YtfpkgdenohcglaaCrMA
import Derived.Great.BuildSlice
import Derived.Lib.SliceRun
import Derived.Laws.CopyRow
import Derived.WalkSpells
-- printed for this claim by a program (pall.sh)
-- mended by fixpz.py
namespace Go.Proofs.Ytfpkgdenohcglaa.PZ
open Go.RowKit Go.Proofs.YtfpkgdenohcglaaW.PrintWords Go.Proofs.YtfpkgdenohcglaaW.PrintLast Go.Proofs.YtfpkgdenohcglaaW.PrintMore
attribute [local go_sem] max2_int min2_int max_two min_two max_three min_three max_four min_four   -- for this text's walks alone
set_option linter.unusedVariables false
set_option linter.unusedSimpArgs false

end Go.Proofs.Ytfpkgdenohcglaa.PZ
-- printed for this claim by a program (pall.sh)
-- mended by fixpz.py
namespace Go.Proofs.Ytfpkgdenohcglaa.PZ
open Go.RowKit Go.Proofs.YtfpkgdenohcglaaW.PrintWords Go.Proofs.YtfpkgdenohcglaaW.PrintLast Go.Proofs.YtfpkgdenohcglaaW.PrintMore
attribute [local go_sem] max2_int min2_int max_two min_two max_three min_three max_four min_four   -- for this text's walks alone
set_option linter.unusedVariables false
set_option linter.unusedSimpArgs false

/-! ### hanaperref01_Num: function 77 -/
def hanaperref01_Num.l0 : Nat → Int → List Int → Option (List Int)
 | 0, _, _ => none
 | k + 1, x0, x3 => if x0 > 0 then ((some (([(Int.tmod x0 256) % 256] : List Int) : List Int)).bind fun y101 => (if y101.length + x3.length < 140737488355328 then (hanaperref01_Num.l0 k (IntKind.u64.wrap (Int.tdiv x0 256)) (y101 ++ x3)) else (none))) else ((some (([((x3.length : Int)) % 256] : List Int) : List Int)).bind fun y107 => (if y107.length + x3.length < 140737488355328 then (some (y107 ++ x3)) else (none)))
def hanaperref01_Num.f (k : Nat) (a0 : Int) : Option (List Int) := hanaperref01_Num.l0 k a0 ([] : List Int)
set_option maxHeartbeats 8000000 in
set_option maxRecDepth 100000 in
theorem hanaperref01_Num.calls (k : Nat) (a0 : Int) (r : List Int) (w : World) (h : hanaperref01_Num.f k a0 = some r) :
  Calls Try.prog 77 #[.int .u64 a0] w fun e w' => ∃ v0_ : Value, e = .returned (v0_) ∧ Kd.R (Kd.int .u8) 5 w' w.heap.size (fun _ => True) v0_ r ∧ Below w.heap.size w w' := by
 have HB := Aside0.mk (Below.refl w.heap.size w)
 have H : (hanaperref01_Num.l0 k a0 ([] : List Int)) = some r := h
 clear h
 have H' := Aside0.mk H
 clear H
 go_enter Try.func77, Try.ntmps77
 go_wp2
 go_loopg [0, 3] k (fun kq v0 v3 w' => ∃ (x0_1 : Int) (x3_1 : List Int), v0 = .int .u64 x0_1 ∧ Aside0 (hanaperref01_Num.l0 kq x0_1 x3_1 = some r) ∧ Aside0 (kq ≤ k) ∧ Aside0 (Kd.R (Kd.int .u8) 5 w' w.heap.size (fun _ => True) v3 x3_1) ∧ Aside0 (Below w.heap.size w w'))
 case atStart => exact ⟨(a0), (([] : List Int)), (by first | rfl | (simp; done) | (simp [*]; done)), H', ⟨Nat.le_refl _⟩, ⟨by first | exact Kd.R_nil _ _ _ _ _ | exact Kd.N_nil _ _ _ _ _ | exact Kd.V_nil _ _ _ _ _ | exact Kd.Q_nil _ _ _ _ _ | exact Kd.S_nil _ _ _ _ _⟩, ⟨by repeat (first | (with_reducible first | exact HB.out | apply below_alloc | apply pw_below_drewN | apply below_drew1) | exact HB.out)⟩⟩
 case round =>
  clear H'
  obtain ⟨x0_1, x3_1, rfl, HA, HK1, HO_3, HB⟩ := hrel
  cases gk with
  | zero => exact absurd HA.out (by simp [hanaperref01_Num.l0])
  | succ k1 =>
   have H := HA.out
   clear HA
   simp only [hanaperref01_Num.l0] at H
   by_cases c2 : x0_1 > 0
   ·rw [if_pos c2] at H
    have c2b0 : decide (0 < x0_1) = true := decide_eq_true c2
    clear c2
    obtain ⟨y101, hy101⟩ : ∃ y_ : List Int, y_ = (([(Int.tmod x0_1 256) % 256] : List Int)) := ⟨_, rfl⟩
    replace H : (if y101.length + x3_1.length < 140737488355328 then (hanaperref01_Num.l0 k1 (IntKind.u64.wrap (Int.tdiv x0_1 256)) (y101 ++ x3_1)) else (none)) = some r := by first | (rw [hy101]; with_reducible exact H) | (have H2_ := (Option.bind_some _ _).symm.trans H; rw [hy101]; with_reducible exact H2_) | (have H2_ := (Option.bind_some _ _).symm.trans H; with_reducible exact H2_) | with_reducible exact H | (rw [hy101]; exact H) | exact H
    have Ny101 := Aside0.mk hy101
    clear hy101
    by_cases c3 : y101.length + x3_1.length < 140737488355328
    ·rw [if_pos c3] at H
     have LMc3 := Aside0.mk c3
     clear c3
     obtain ⟨y104, hy104⟩ : ∃ y_ : List Int, y_ = (y101 ++ x3_1) := ⟨_, rfl⟩
     replace H : (hanaperref01_Num.l0 k1 (IntKind.u64.wrap (Int.tdiv x0_1 256)) y104) = some r := by first | (rw [hy104]; with_reducible exact H) | (have H2_ := (Option.bind_some _ _).symm.trans H; rw [hy104]; with_reducible exact H2_) | (have H2_ := (Option.bind_some _ _).symm.trans H; with_reducible exact H2_) | with_reducible exact H | (rw [hy104]; exact H) | exact H
     have Ny104 := Aside0.mk hy104
     clear hy104
     have H' := Aside0.mk H
     clear H
     go_wp2_with (first | ((with_reducible refine gate_dst (N := 9) rfl ?_); refine Kd.R_lit (Kd.int .u8) _ 5 ?hg (N := 9) ?hd (xs := ([(Int.tmod x0_1 256) % 256] : List Int)) (inner := [.int .u8 ((Int.tmod x0_1 256) % 256)]) (ok := fun _ => True) (okp := fun _ => True) ?hr ?hp (fun _ hk => hk) trivial (Below.refl _ _) (Nat.le_refl _) (by simp) ?_; (case hd => rfl); (case hg => rfl); (case hr => first | (go_simp; done) | (go_simp; rfl)); (case hp => exact (Reps.one (show Kd.M (Kd.int .u8) _ _ _ ((Int.tmod x0_1 256) % 256) [.int .u8 ((Int.tmod x0_1 256) % 256)] from rfl) (Reps.none _ _))); intro v102 w4 ho5 hb hg_ hnew_; clear hg_ hnew_; (first | rw [← Ny101.out] at ho5 | (simp only [Int.reduceToNat] at ho5; rw [← Ny101.out] at ho5)); have n0_ := Aside0.mk (Kd.R_elder' (by (with_reducible repeat (first | apply Kd.R_alloc | apply Kd.R_drewN | apply Kd.R_drew)); exact HO_3.out) (Kd.R_base ho5) hb); have n1_ := Aside0.mk (Kd.R_lower (Kd.R_new' ho5 (Kd.R_lt (by (with_reducible repeat (first | apply Kd.R_alloc | apply Kd.R_drewN | apply Kd.R_drew)); exact HO_3.out))) (below_size (by repeat (first | (with_reducible first | exact HB.out | apply below_alloc | apply pw_below_drewN | apply below_drew1) | exact HB.out)))); have n2_ := Aside0.mk (below_step (by repeat (first | (with_reducible first | exact HB.out | apply below_alloc | apply pw_below_drewN | apply below_drew1) | exact HB.out)) hb); clear HO_3; clear HB; have HO_3 := n0_; have HO103 := n1_; have HB := n2_; clear n0_ n1_ n2_; clear hb ho5; obtain ⟨Ao7, co7, eo7⟩ := Kd.R_slice HO_3.out; subst eo7) | ((with_reducible refine gate_builtin (b := .append) (xs := #[.tmp 9, .tmp 10]) rfl ?_); at_builtin; refine Kd.R_append_rows (Kd.int .u8) (w0 := w) w.heap.size rfl (.tmp 9) (.tmp 10) 25 5 (.int .u8 0) 1 rfl Try.underlying25 info5 rfl (by decide) (by omega) v102 y101 x3_1 _ _ _ (fun k_ => some k_ ≠ (.slice Ao7 x3_1.length co7 : Value).ownBlock) (fun _ => False) rfl rfl ?aO ?aR (fun _ _ h => h) (fun _ h => h.elim) ?aF ?aB ?aS ?aL ?_; (case aR => repeat (first | exact (Kd.R_reads' HO_3.out).2.2 | (with_reducible refine Kd.C_alloc ?_ _) | (with_reducible refine Kd.C_drewN ?_ _) | (with_reducible refine Kd.C_drew ?_))); (case aB => exact (by repeat (first | (with_reducible first | exact HB.out | apply below_alloc | apply pw_below_drewN | apply below_drew1) | exact HB.out))); (case aF => exact (fun k_ hk => Kd.fresh' (Kd.R_lt (by (with_reducible repeat (first | apply Kd.R_alloc | apply Kd.R_drewN | apply Kd.R_drew)); exact HO_3.out)) k_ hk)); (case aO => exact (by (with_reducible repeat (first | apply Kd.R_alloc | apply Kd.R_drewN | apply Kd.R_drew)); exact Kd.R_mono HO103.out (fun _ hk => hk.2))); (case aS => exact (below_size (by repeat (first | (with_reducible first | exact HB.out | apply below_alloc | apply pw_below_drewN | apply below_drew1) | exact HB.out)))); (case aL => have := LMc3.out; omega); intro v105 w6 ho hb hg hat; rw [← Ny104.out] at ho; have n0_ := Aside0.mk (Kd.R_after (ok := (fun _ => True)) (by (with_reducible repeat (first | apply Kd.R_alloc | apply Kd.R_drewN | apply Kd.R_drew)); exact HO_3.out) hg hat); have n1_ := Aside0.mk (hb); have n2_ := Aside0.mk (ho); clear HO_3; clear HB; clear HO103; have HO_3 := n0_; have HB := n1_; have HO106 := n2_; clear n0_ n1_ n2_; clear ho hb hg hat))
     go_roundg k1
     case measure => have := HK1.out; omega
     case rel => exact ⟨(IntKind.u64.wrap (Int.tdiv x0_1 256)), (y104), (by first | rfl | (simp; done) | (simp [*]; done)), H', ⟨by have := HK1.out; omega⟩, ⟨by (with_reducible repeat (first | apply Kd.R_alloc | apply Kd.R_drewN | apply Kd.R_drew)); exact Kd.R_mono HO106.out (fun _ hk => trivial)⟩, ⟨by repeat (first | (with_reducible first | exact HB.out | apply below_alloc | apply pw_below_drewN | apply below_drew1) | exact HB.out)⟩⟩
    ·rw [if_neg c3] at H
     exact absurd H (by simp)
   ·rw [if_neg c2] at H
    have c2b0 : decide (0 < x0_1) = false := decide_eq_false c2
    clear c2
    obtain ⟨y107, hy107⟩ : ∃ y_ : List Int, y_ = (([((x3_1.length : Int)) % 256] : List Int)) := ⟨_, rfl⟩
    replace H : (if y107.length + x3_1.length < 140737488355328 then (some (y107 ++ x3_1)) else (none)) = some r := by first | (rw [hy107]; with_reducible exact H) | (have H2_ := (Option.bind_some _ _).symm.trans H; rw [hy107]; with_reducible exact H2_) | (have H2_ := (Option.bind_some _ _).symm.trans H; with_reducible exact H2_) | with_reducible exact H | (rw [hy107]; exact H) | exact H
    have Ny107 := Aside0.mk hy107
    clear hy107
    by_cases c8 : y107.length + x3_1.length < 140737488355328
    ·rw [if_pos c8] at H
     have LMc8 := Aside0.mk c8
     clear c8
     obtain ⟨y110, hy110⟩ : ∃ y_ : List Int, y_ = (y107 ++ x3_1) := ⟨_, rfl⟩
     replace H : (some y110) = some r := by first | (rw [hy110]; with_reducible exact H) | (have H2_ := (Option.bind_some _ _).symm.trans H; rw [hy110]; with_reducible exact H2_) | (have H2_ := (Option.bind_some _ _).symm.trans H; with_reducible exact H2_) | with_reducible exact H | (rw [hy110]; exact H) | exact H
     have Ny110 := Aside0.mk hy110
     clear hy110
     obtain rfl := Option.some.inj H
     obtain ⟨Ao9, co9, eo9⟩ := Kd.R_slice HO_3.out
     subst eo9
     go_wp2_with (first | ((with_reducible refine gate_dst (N := 17) rfl ?_); refine Kd.R_lit (Kd.int .u8) _ 5 ?hg (N := 17) ?hd (xs := ([((x3_1.length : Int)) % 256] : List Int)) (inner := [.int .u8 (((x3_1.length : Int)) % 256)]) (ok := fun _ => True) (okp := fun _ => True) ?hr ?hp (fun _ hk => hk) trivial (Below.refl _ _) (Nat.le_refl _) (by simp) ?_; (case hd => rfl); (case hg => rfl); (case hr => first | (go_simp; done) | (go_simp; rfl)); (case hp => exact (Reps.one (show Kd.M (Kd.int .u8) _ _ _ (((x3_1.length : Int)) % 256) [.int .u8 (((x3_1.length : Int)) % 256)] from rfl) (Reps.none _ _))); intro v108 w10 ho11 hb hg_ hnew_; clear hg_ hnew_; (first | rw [← Ny107.out] at ho11 | (simp only [Int.reduceToNat] at ho11; rw [← Ny107.out] at ho11)); have n0_ := Aside0.mk (Kd.R_elder' (by (with_reducible repeat (first | apply Kd.R_alloc | apply Kd.R_drewN | apply Kd.R_drew)); exact HO_3.out) (Kd.R_base ho11) hb); have n1_ := Aside0.mk (Kd.R_lower (Kd.R_new' ho11 (Kd.R_lt (by (with_reducible repeat (first | apply Kd.R_alloc | apply Kd.R_drewN | apply Kd.R_drew)); exact HO_3.out))) (below_size (by repeat (first | (with_reducible first | exact HB.out | apply below_alloc | apply pw_below_drewN | apply below_drew1) | exact HB.out)))); have n2_ := Aside0.mk (below_step (by repeat (first | (with_reducible first | exact HB.out | apply below_alloc | apply pw_below_drewN | apply below_drew1) | exact HB.out)) hb); clear HO_3; clear HB; have HO_3 := n0_; have HO109 := n1_; have HB := n2_; clear n0_ n1_ n2_; clear hb ho11) | ((with_reducible refine gate_builtin (b := .append) (xs := #[.tmp 17, .tmp 18]) rfl ?_); at_builtin; refine Kd.R_append_rows (Kd.int .u8) (w0 := w) w.heap.size rfl (.tmp 17) (.tmp 18) 25 5 (.int .u8 0) 1 rfl Try.underlying25 info5 rfl (by decide) (by omega) v108 y107 x3_1 _ _ _ (fun k_ => some k_ ≠ (.slice Ao9 x3_1.length co9 : Value).ownBlock) (fun _ => False) rfl rfl ?aO ?aR (fun _ _ h => h) (fun _ h => h.elim) ?aF ?aB ?aS ?aL ?_; (case aR => repeat (first | exact (Kd.R_reads' HO_3.out).2.2 | (with_reducible refine Kd.C_alloc ?_ _) | (with_reducible refine Kd.C_drewN ?_ _) | (with_reducible refine Kd.C_drew ?_))); (case aB => exact (by repeat (first | (with_reducible first | exact HB.out | apply below_alloc | apply pw_below_drewN | apply below_drew1) | exact HB.out))); (case aF => exact (fun k_ hk => Kd.fresh' (Kd.R_lt (by (with_reducible repeat (first | apply Kd.R_alloc | apply Kd.R_drewN | apply Kd.R_drew)); exact HO_3.out)) k_ hk)); (case aO => exact (by (with_reducible repeat (first | apply Kd.R_alloc | apply Kd.R_drewN | apply Kd.R_drew)); exact Kd.R_mono HO109.out (fun _ hk => hk.2))); (case aS => exact (below_size (by repeat (first | (with_reducible first | exact HB.out | apply below_alloc | apply pw_below_drewN | apply below_drew1) | exact HB.out)))); (case aL => have := LMc8.out; omega); intro v111 w12 ho hb hg hat; rw [← Ny110.out] at ho; have n0_ := Aside0.mk (Kd.R_after (ok := (fun _ => True)) (by (with_reducible repeat (first | apply Kd.R_alloc | apply Kd.R_drewN | apply Kd.R_drew)); exact HO_3.out) hg hat); have n1_ := Aside0.mk (hb); have n2_ := Aside0.mk (ho); clear HO_3; clear HB; clear HO109; have HO_3 := n0_; have HB := n1_; have HO112 := n2_; clear n0_ n1_ n2_; clear ho hb hg hat))
     go_ret
     exact ⟨_, by first | rfl | (simp [errW_none, errW_some] <;> rfl) | (simp [*, errW_none, errW_some] <;> rfl), by (with_reducible repeat (first | apply Kd.R_alloc | apply Kd.R_drewN | apply Kd.R_drew)); exact Kd.R_mono HO112.out (fun _ hk => trivial), by repeat (first | (with_reducible first | exact HB.out | apply below_alloc | apply pw_below_drewN | apply below_drew1) | exact HB.out)⟩
    ·rw [if_neg c8] at H
     exact absurd H (by simp)

end Go.Proofs.Ytfpkgdenohcglaa.PZ
-- printed for this claim by a program (pall.sh)
-- mended by fixpz.py
namespace Go.Proofs.Ytfpkgdenohcglaa.PZ
open Go.RowKit Go.Proofs.YtfpkgdenohcglaaW.PrintWords Go.Proofs.YtfpkgdenohcglaaW.PrintLast Go.Proofs.YtfpkgdenohcglaaW.PrintMore
attribute [local go_sem] max2_int min2_int max_two min_two max_three min_three max_four min_four   -- for this text's walks alone
set_option linter.unusedVariables false
set_option linter.unusedSimpArgs false

/-! ### hanaperref01_Text: function 78 -/
def hanaperref01_Text.f (k : Nat) (l0 : List Int) : Option (List Int) := (hanaperref01_Num.f k (IntKind.u64.wrap ((l0.length : Int)))).bind fun t101 => (if t101.length + l0.length < 140737488355328 then (some (t101 ++ l0)) else (none))
set_option maxHeartbeats 8000000 in
set_option maxRecDepth 100000 in
theorem hanaperref01_Text.calls (k : Nat) (A0 : Option Addr) (c0 : Nat) (l0 : List Int) (r : List Int) (w : World) (hr0 : Kd.C (Kd.int .u8) w A0 l0.length l0) (hc0 : l0.length ≤ c0) (h : hanaperref01_Text.f k l0 = some r) :
  Calls Try.prog 78 #[.slice A0 l0.length c0] w fun e w' => ∃ v0_ : Value, e = .returned (v0_) ∧ Kd.R (Kd.int .u8) 5 w' w.heap.size (fun _ => True) v0_ r ∧ Below w.heap.size w w' := by
 have HR0 := Aside0.mk hr0
 have HC0 := Aside0.mk hc0
 clear hr0 hc0
 have HB := Aside0.mk (Below.refl w.heap.size w)
 have H : ((hanaperref01_Num.f k (IntKind.u64.wrap ((l0.length : Int)))).bind fun t101 => (if t101.length + l0.length < 140737488355328 then (some (t101 ++ l0)) else (none))) = some r := h
 clear h
 replace H := Option.bind_eq_some_iff.mp H
 obtain ⟨t101, A20, H⟩ := H
 replace H : (if t101.length + l0.length < 140737488355328 then (some (t101 ++ l0)) else (none)) = some r := H
 have A2 := Aside0.mk A20
 clear A20
 by_cases c3 : t101.length + l0.length < 140737488355328
 ·rw [if_pos c3] at H
  have LMc3 := Aside0.mk c3
  clear c3
  obtain ⟨y104, hy104⟩ : ∃ y_ : List Int, y_ = (t101 ++ l0) := ⟨_, rfl⟩
  replace H : (some y104) = some r := by first | (rw [hy104]; with_reducible exact H) | (have H2_ := (Option.bind_some _ _).symm.trans H; rw [hy104]; with_reducible exact H2_) | (have H2_ := (Option.bind_some _ _).symm.trans H; with_reducible exact H2_) | with_reducible exact H | (rw [hy104]; exact H) | exact H
  have Ny104 := Aside0.mk hy104
  clear hy104
  obtain rfl := Option.some.inj H
  go_enter Try.func78, Try.ntmps78
  go_wp2_with (first | ((with_reducible refine gate_callee (f := 77) rfl ?_); refine goesL_ (some 6) rfl rfl Try.func77 (by kernel_rfl) rfl #[.int .u64 (IntKind.u64.wrap ((l0.length : Int)))] rfl (by (try simp only [List.map_toArray, List.map_cons, List.map_nil]); first | done | rfl | (simp only [List.length_drop, List.length_take]; rfl)) ?_; (with_reducible refine (hanaperref01_Num.calls k (IntKind.u64.wrap ((l0.length : Int))) t101 _ A2.out).mono ?_); rintro e w4 ⟨v102, rfl, ho0, hb⟩; refine ⟨_, rfl, ?_⟩; have n0_ := Aside0.mk (Kd.R_lower ho0 (below_size (by repeat (first | (with_reducible first | exact HB.out | apply below_alloc | apply pw_below_drewN | apply below_drew1) | exact HB.out)))); have n1_ := Aside0.mk (below_step (by repeat (first | (with_reducible first | exact HB.out | apply below_alloc | apply pw_below_drewN | apply below_drew1) | exact HB.out)) hb); clear HB; have HO103 := n0_; have HB := n1_; clear n0_ n1_; (try clear hb); (try clear hb2); (try clear hk); (try clear hi); (try clear ho0)) | ((with_reducible refine gate_builtin (b := .append) (xs := #[.tmp 6, .tmp 7]) rfl ?_); at_builtin; refine Kd.R_append_rows (Kd.int .u8) (w0 := w) w.heap.size rfl (.tmp 6) (.tmp 7) 25 5 (.int .u8 0) 1 rfl Try.underlying25 info5 rfl (by decide) (by omega) v102 t101 l0 _ _ _ (fun _ => True) (fun _ => False) rfl rfl ?aO ?aR (fun _ _ h => h) (fun _ h => h.elim) ?aF ?aB ?aS ?aL ?_; (case aR => repeat (first | exact (Kd.C_below HR0.out HB.out) | (with_reducible refine Kd.C_alloc ?_ _) | (with_reducible refine Kd.C_drewN ?_ _) | (with_reducible refine Kd.C_drew ?_))); (case aB => exact (by repeat (first | (with_reducible first | exact HB.out | apply below_alloc | apply pw_below_drewN | apply below_drew1) | exact HB.out))); (case aF => exact (fun _ _ => trivial)); (case aO => exact (by (with_reducible repeat (first | apply Kd.R_alloc | apply Kd.R_drewN | apply Kd.R_drew)); exact HO103.out)); (case aS => exact (below_size (by repeat (first | (with_reducible first | exact HB.out | apply below_alloc | apply pw_below_drewN | apply below_drew1) | exact HB.out)))); (case aL => have := LMc3.out; omega); intro v105 w5 ho hb hg hat; rw [← Ny104.out] at ho; have n0_ := Aside0.mk (hb); have n1_ := Aside0.mk (ho); clear HB; clear HO103; have HB := n0_; have HO106 := n1_; clear n0_ n1_; clear ho hb hg hat))
  go_ret
  exact ⟨_, by first | rfl | (simp [errW_none, errW_some] <;> rfl) | (simp [*, errW_none, errW_some] <;> rfl), by (with_reducible repeat (first | apply Kd.R_alloc | apply Kd.R_drewN | apply Kd.R_drew)); exact HO106.out, by repeat (first | (with_reducible first | exact HB.out | apply below_alloc | apply pw_below_drewN | apply below_drew1) | exact HB.out)⟩
 ·rw [if_neg c3] at H
  exact absurd H (by simp)

end Go.Proofs.Ytfpkgdenohcglaa.PZ
-- printed for this claim by a program (pall.sh)
-- mended by fixpz.py
namespace Go.Proofs.Ytfpkgdenohcglaa.PZ
open Go.RowKit Go.Proofs.YtfpkgdenohcglaaW.PrintWords Go.Proofs.YtfpkgdenohcglaaW.PrintLast Go.Proofs.YtfpkgdenohcglaaW.PrintMore
attribute [local go_sem] max2_int min2_int max_two min_two max_three min_three max_four min_four   -- for this text's walks alone
set_option linter.unusedVariables false
set_option linter.unusedSimpArgs false

/-! ### hanaperref01_Int: function 85 -/
def hanaperref01_Int.f (k : Nat) (a0 : Int) : Option (List Int) := (hanaperref01_Num.f k (IntKind.u64.wrap (a0))).bind fun t101 => (some t101)
set_option maxHeartbeats 8000000 in
set_option maxRecDepth 100000 in
theorem hanaperref01_Int.calls (k : Nat) (a0 : Int) (r : List Int) (w : World) (h : hanaperref01_Int.f k a0 = some r) :
  Calls Try.prog 85 #[.int .i64 a0] w fun e w' => ∃ v0_ : Value, e = .returned (v0_) ∧ Kd.R (Kd.int .u8) 5 w' w.heap.size (fun _ => True) v0_ r ∧ Below w.heap.size w w' := by
 have HB := Aside0.mk (Below.refl w.heap.size w)
 have H : ((hanaperref01_Num.f k (IntKind.u64.wrap (a0))).bind fun t101 => (some t101)) = some r := h
 clear h
 replace H := Option.bind_eq_some_iff.mp H
 obtain ⟨t101, A20, H⟩ := H
 replace H : (some t101) = some r := H
 have A2 := Aside0.mk A20
 clear A20
 obtain rfl := Option.some.inj H
 go_enter Try.func85, Try.ntmps85
 go_wp2_with (first | ((with_reducible refine gate_callee (f := 77) rfl ?_); refine goesL_ (some 5) rfl rfl Try.func77 (by kernel_rfl) rfl #[.int .u64 (IntKind.u64.wrap (a0))] rfl (by (try simp only [List.map_toArray, List.map_cons, List.map_nil]); first | done | rfl | (simp only [List.length_drop, List.length_take]; rfl)) ?_; (with_reducible refine (hanaperref01_Num.calls k (IntKind.u64.wrap (a0)) t101 _ A2.out).mono ?_); rintro e w3 ⟨v102, rfl, ho0, hb⟩; refine ⟨_, rfl, ?_⟩; have n0_ := Aside0.mk (Kd.R_lower ho0 (below_size (by repeat (first | (with_reducible first | exact HB.out | apply below_alloc | apply pw_below_drewN | apply below_drew1) | exact HB.out)))); have n1_ := Aside0.mk (below_step (by repeat (first | (with_reducible first | exact HB.out | apply below_alloc | apply pw_below_drewN | apply below_drew1) | exact HB.out)) hb); clear HB; have HO103 := n0_; have HB := n1_; clear n0_ n1_; (try clear hb); (try clear hb2); (try clear hk); (try clear hi); (try clear ho0)))
 go_ret
 exact ⟨_, by first | rfl | (simp [errW_none, errW_some] <;> rfl) | (simp [*, errW_none, errW_some] <;> rfl), by (with_reducible repeat (first | apply Kd.R_alloc | apply Kd.R_drewN | apply Kd.R_drew)); exact HO103.out, by repeat (first | (with_reducible first | exact HB.out | apply below_alloc | apply pw_below_drewN | apply below_drew1) | exact HB.out)⟩

end Go.Proofs.Ytfpkgdenohcglaa.PZ
-- printed for this claim by a program (pall.sh)
-- mended by fixpz.py
namespace Go.Proofs.Ytfpkgdenohcglaa.PZ
open Go.RowKit Go.Proofs.YtfpkgdenohcglaaW.PrintWords Go.Proofs.YtfpkgdenohcglaaW.PrintLast Go.Proofs.YtfpkgdenohcglaaW.PrintMore
attribute [local go_sem] max2_int min2_int max_two min_two max_three min_three max_four min_four   -- for this text's walks alone
set_option linter.unusedVariables false
set_option linter.unusedSimpArgs false

/-! ### hanaperref01_Same: function 23 -/
def hanaperref01_Same.l0 : Nat → List Int → List Int → Int → Option (Bool)
 | 0, _, _, _ => none
 | k + 1, x0, x1, x5 => if x5 < (x0.length : Int) then (if 0 ≤ x5 then (if x5 < (x1.length : Int) then (if (rd x0 x5) = (rd x1 x5) then (hanaperref01_Same.l0 k x0 x1 (wrap64 (x5 + 1))) else (some false)) else (none)) else (none)) else (some true)
def hanaperref01_Same.f (k : Nat) (l0 : List Int) (l1 : List Int) : Option (Bool) := if (l0.length : Int) = (l1.length : Int) then (hanaperref01_Same.l0 k l0 l1 0) else (some false)
set_option maxHeartbeats 8000000 in
set_option maxRecDepth 100000 in
theorem hanaperref01_Same.calls (k : Nat) (A0 : Option Addr) (c0 : Nat) (l0 : List Int) (A1 : Option Addr) (c1 : Nat) (l1 : List Int) (r : Bool) (w : World) (hr0 : Kd.C (Kd.int .u8) w A0 l0.length l0) (hc0 : l0.length ≤ c0) (hr1 : Kd.C (Kd.int .u8) w A1 l1.length l1) (hc1 : l1.length ≤ c1) (h : hanaperref01_Same.f k l0 l1 = some r) :
  Calls Try.prog 23 #[.slice A0 l0.length c0, .slice A1 l1.length c1] w fun e w' => e = .returned (.bool r) ∧ Drawn0 w w' := by
 have HR0 := Aside0.mk hr0
 have HC0 := Aside0.mk hc0
 clear hr0 hc0
 have HR1 := Aside0.mk hr1
 have HC1 := Aside0.mk hc1
 clear hr1 hc1
 have H : (if (l0.length : Int) = (l1.length : Int) then (hanaperref01_Same.l0 k l0 l1 0) else (some false)) = some r := h
 clear h
 by_cases c3 : (l0.length : Int) = (l1.length : Int)
 ·rw [if_pos c3] at H
  have c3b0 : ((l0.length : Int) == (l1.length : Int)) = true := beq_iff_eq.mpr c3
  have c3b1 : ((l0.length : Int) != (l1.length : Int)) = false := bne_eq_false_iff_eq.mpr c3
  have c3b2 : (l0.length == l1.length) = true := by first | simpa using c3 | (simp at c3 ⊢; omega)
  clear c3
  have H' := Aside0.mk H
  clear H
  go_enter Try.func23, Try.ntmps23
  go_wp2
  repeat (go_quiet (fail); try go_wp2)
  go_loopg [5] k (fun kq v5 w' => ∃ (x5_1 : Int), v5 = .int .i64 x5_1 ∧ Aside0 (hanaperref01_Same.l0 kq l0 l1 x5_1 = some r) ∧ Aside0 (kq ≤ k) ∧ Drawn0 w w')
  case atStart => exact ⟨(0), (by first | rfl | (simp; done) | (simp [*]; done)), H', ⟨Nat.le_refl _⟩, by repeat (first | exact Drawn0.refl _ | apply Drawn0.step)⟩
  case round =>
   clear H'
   (try clear c1);(try clear c2);(try clear p2);(try clear c3);(try clear c3b0);(try clear c3b1);(try clear c3b2)
   obtain ⟨x5_1, rfl, HA, HK1, ⟨m1, rfl⟩⟩ := hrel
   cases gk with
   | zero => exact absurd HA.out (by simp [hanaperref01_Same.l0])
   | succ k1 =>
    have H := HA.out
    clear HA
    simp only [hanaperref01_Same.l0] at H
    by_cases c4 : x5_1 < (l0.length : Int)
    ·rw [if_pos c4] at H
     have c4b0 : decide (x5_1 < (l0.length : Int)) = true := decide_eq_true c4
     clear c4
     by_cases c5 : 0 ≤ x5_1
     ·rw [if_pos c5] at H
      have c5b0 : decide (0 ≤ x5_1) = true := decide_eq_true c5
      clear c5
      by_cases c6 : x5_1 < (l1.length : Int)
      ·rw [if_pos c6] at H
       have c6b0 : decide (x5_1 < (l1.length : Int)) = true := decide_eq_true c6
       clear c6
       by_cases c7 : (rd l0 x5_1) = (rd l1 x5_1)
       ·rw [if_pos c7] at H
        have c7b0 : ((rd l0 x5_1) == (rd l1 x5_1)) = true := beq_iff_eq.mpr c7
        have c7b1 : ((rd l0 x5_1) != (rd l1 x5_1)) = false := bne_eq_false_iff_eq.mpr c7
        clear c7
        have H' := Aside0.mk H
        clear H
        have p101 : 0 ≤ (x5_1 : Int) := of_decide_eq_true (by first | (with_reducible assumption) | assumption)
        have q101 : x5_1 < (l0.length : Int) := of_decide_eq_true (by first | (with_reducible assumption) | assumption)
        obtain ⟨ad101, e101, hx101_0⟩ := Kd.at_int HR0.out x5_1 p101 q101
        cases e101
        replace p101 := eq_true p101
        replace q101 := eq_true q101
        have p102 : 0 ≤ (x5_1 : Int) := of_decide_eq_true (by first | (with_reducible assumption) | assumption)
        have q102 : x5_1 < (l1.length : Int) := of_decide_eq_true (by first | (with_reducible assumption) | assumption)
        obtain ⟨ad102, e102, hx102_0⟩ := Kd.at_int HR1.out x5_1 p102 q102
        cases e102
        replace p102 := eq_true p102
        replace q102 := eq_true q102
        go_wp2
        repeat (go_quiet (fail); try go_wp2)
        go_roundg k1
        case measure => have := HK1.out; omega
        case rel => exact ⟨(wrap64 (x5_1 + 1)), (by first | rfl | (simp; done) | (simp [*]; done)), H', ⟨by have := HK1.out; omega⟩, by repeat (first | exact Drawn0.refl _ | apply Drawn0.step)⟩
       ·rw [if_neg c7] at H
        have c7b0 : ((rd l0 x5_1) == (rd l1 x5_1)) = false := beq_eq_false_iff_ne.mpr c7
        have c7b1 : ((rd l0 x5_1) != (rd l1 x5_1)) = true := bne_iff_ne.mpr c7
        obtain rfl := Option.some.inj H
        have p101 : 0 ≤ (x5_1 : Int) := of_decide_eq_true (by first | (with_reducible assumption) | assumption)
        have q101 : x5_1 < (l0.length : Int) := of_decide_eq_true (by first | (with_reducible assumption) | assumption)
        obtain ⟨ad101, e101, hx101_0⟩ := Kd.at_int HR0.out x5_1 p101 q101
        cases e101
        replace p101 := eq_true p101
        replace q101 := eq_true q101
        have p102 : 0 ≤ (x5_1 : Int) := of_decide_eq_true (by first | (with_reducible assumption) | assumption)
        have q102 : x5_1 < (l1.length : Int) := of_decide_eq_true (by first | (with_reducible assumption) | assumption)
        obtain ⟨ad102, e102, hx102_0⟩ := Kd.at_int HR1.out x5_1 p102 q102
        cases e102
        replace p102 := eq_true p102
        replace q102 := eq_true q102
        go_wp2
        repeat (go_quiet (fail); try go_wp2)
        go_ret
        exact ⟨by first | rfl | (simp; done) | (simp [*]; done), by repeat (first | exact Drawn0.refl _ | apply Drawn0.step)⟩
      ·rw [if_neg c6] at H
       exact absurd H (by simp)
     ·rw [if_neg c5] at H
      exact absurd H (by simp)
    ·rw [if_neg c4] at H
     have c4b0 : decide (x5_1 < (l0.length : Int)) = false := decide_eq_false c4
     clear c4
     obtain rfl := Option.some.inj H
     go_wp2
     repeat (go_quiet (fail); try go_wp2)
     go_ret
     exact ⟨by first | rfl | (simp; done) | (simp [*]; done), by repeat (first | exact Drawn0.refl _ | apply Drawn0.step)⟩
 ·rw [if_neg c3] at H
  have c3b0 : ((l0.length : Int) == (l1.length : Int)) = false := beq_eq_false_iff_ne.mpr c3
  have c3b1 : ((l0.length : Int) != (l1.length : Int)) = true := bne_iff_ne.mpr c3
  have c3b2 : (l0.length == l1.length) = false := by first | simpa using c3 | (simp at c3 ⊢; omega)
  obtain rfl := Option.some.inj H
  go_enter Try.func23, Try.ntmps23
  go_wp2
  repeat (go_quiet (fail); try go_wp2)
  go_ret
  exact ⟨by first | rfl | (simp; done) | (simp [*]; done), by repeat (first | exact Drawn0.refl _ | apply Drawn0.step)⟩

end Go.Proofs.Ytfpkgdenohcglaa.PZ
-- printed for this claim by a program (pall.sh)
-- mended by fixpz.py
namespace Go.Proofs.Ytfpkgdenohcglaa.PZ
open Go.RowKit Go.Proofs.YtfpkgdenohcglaaW.PrintWords Go.Proofs.YtfpkgdenohcglaaW.PrintLast Go.Proofs.YtfpkgdenohcglaaW.PrintMore
attribute [local go_sem] max2_int min2_int max_two min_two max_three min_three max_four min_four   -- for this text's walks alone
set_option linter.unusedVariables false
set_option linter.unusedSimpArgs false

/-! ### hanaperref01_Copy: function 52 -/
def hanaperref01_Copy.f (l0 : List Int) : Option (List Int) := (some (([] : List Int) : List Int)).bind fun y101 => (if y101.length + l0.length < 140737488355328 then (some (y101 ++ l0)) else (none))
set_option maxHeartbeats 8000000 in
set_option maxRecDepth 100000 in
theorem hanaperref01_Copy.calls (A0 : Option Addr) (c0 : Nat) (l0 : List Int) (r : List Int) (w : World) (hr0 : Kd.C (Kd.int .u8) w A0 l0.length l0) (hc0 : l0.length ≤ c0) (h : hanaperref01_Copy.f l0 = some r) :
  Calls Try.prog 52 #[.slice A0 l0.length c0] w fun e w' => ∃ v0_ : Value, e = .returned (v0_) ∧ Kd.R (Kd.int .u8) 5 w' w.heap.size (fun _ => True) v0_ r ∧ Below w.heap.size w w' := by
 have HR0 := Aside0.mk hr0
 have HC0 := Aside0.mk hc0
 clear hr0 hc0
 have HB := Aside0.mk (Below.refl w.heap.size w)
 have H : ((some (([] : List Int) : List Int)).bind fun y101 => (if y101.length + l0.length < 140737488355328 then (some (y101 ++ l0)) else (none))) = some r := h
 clear h
 obtain ⟨y101, hy101⟩ : ∃ y_ : List Int, y_ = (([] : List Int)) := ⟨_, rfl⟩
 replace H : (if y101.length + l0.length < 140737488355328 then (some (y101 ++ l0)) else (none)) = some r := by first | (rw [hy101]; with_reducible exact H) | (have H2_ := (Option.bind_some _ _).symm.trans H; rw [hy101]; with_reducible exact H2_) | (have H2_ := (Option.bind_some _ _).symm.trans H; with_reducible exact H2_) | with_reducible exact H | (rw [hy101]; exact H) | exact H
 have Ny101 := Aside0.mk hy101
 clear hy101
 by_cases c2 : y101.length + l0.length < 140737488355328
 ·rw [if_pos c2] at H
  have LMc2 := Aside0.mk c2
  clear c2
  obtain ⟨y104, hy104⟩ : ∃ y_ : List Int, y_ = (y101 ++ l0) := ⟨_, rfl⟩
  replace H : (some y104) = some r := by first | (rw [hy104]; with_reducible exact H) | (have H2_ := (Option.bind_some _ _).symm.trans H; rw [hy104]; with_reducible exact H2_) | (have H2_ := (Option.bind_some _ _).symm.trans H; with_reducible exact H2_) | with_reducible exact H | (rw [hy104]; exact H) | exact H
  have Ny104 := Aside0.mk hy104
  clear hy104
  obtain rfl := Option.some.inj H
  go_enter Try.func52, Try.ntmps52
  go_wp2_with (first | ((with_reducible refine gate_dst (N := 3) rfl ?_); refine Kd.R_lit (Kd.int .u8) _ 5 ?hg (N := 3) ?hd (xs := ([] : List Int)) (inner := []) (ok := fun _ => True) (okp := fun _ => True) ?hr ?hp (fun _ hk => hk) trivial (Below.refl _ _) (Nat.le_refl _) (by simp) ?_; (case hd => rfl); (case hg => rfl); (case hr => first | (go_simp; done) | (go_simp; rfl)); (case hp => exact (Reps.none _ _)); intro v102 w3 ho4 hb hg_ hnew_; clear hg_ hnew_; (first | rw [← Ny101.out] at ho4 | (simp only [Int.reduceToNat] at ho4; rw [← Ny101.out] at ho4)); have n0_ := Aside0.mk (Kd.R_lower ho4 (below_size (by repeat (first | (with_reducible first | exact HB.out | apply below_alloc | apply pw_below_drewN | apply below_drew1) | exact HB.out)))); have n1_ := Aside0.mk (below_step (by repeat (first | (with_reducible first | exact HB.out | apply below_alloc | apply pw_below_drewN | apply below_drew1) | exact HB.out)) hb); clear HB; have HO103 := n0_; have HB := n1_; clear n0_ n1_; clear hb ho4) | ((with_reducible refine gate_builtin (b := .append) (xs := #[.tmp 3, .tmp 4]) rfl ?_); at_builtin; refine Kd.R_append_rows (Kd.int .u8) (w0 := w) w.heap.size rfl (.tmp 3) (.tmp 4) 25 5 (.int .u8 0) 1 rfl Try.underlying25 info5 rfl (by decide) (by omega) v102 y101 l0 _ _ _ (fun _ => True) (fun _ => False) rfl rfl ?aO ?aR (fun _ _ h => h) (fun _ h => h.elim) ?aF ?aB ?aS ?aL ?_; (case aR => repeat (first | exact (Kd.C_below HR0.out HB.out) | (with_reducible refine Kd.C_alloc ?_ _) | (with_reducible refine Kd.C_drewN ?_ _) | (with_reducible refine Kd.C_drew ?_))); (case aB => exact (by repeat (first | (with_reducible first | exact HB.out | apply below_alloc | apply pw_below_drewN | apply below_drew1) | exact HB.out))); (case aF => exact (fun _ _ => trivial)); (case aO => exact (by (with_reducible repeat (first | apply Kd.R_alloc | apply Kd.R_drewN | apply Kd.R_drew)); exact HO103.out)); (case aS => exact (below_size (by repeat (first | (with_reducible first | exact HB.out | apply below_alloc | apply pw_below_drewN | apply below_drew1) | exact HB.out)))); (case aL => have := LMc2.out; omega); intro v105 w5 ho hb hg hat; rw [← Ny104.out] at ho; have n0_ := Aside0.mk (hb); have n1_ := Aside0.mk (ho); clear HB; clear HO103; have HB := n0_; have HO106 := n1_; clear n0_ n1_; clear ho hb hg hat))
  go_ret
  exact ⟨_, by first | rfl | (simp [errW_none, errW_some] <;> rfl) | (simp [*, errW_none, errW_some] <;> rfl), by (with_reducible repeat (first | apply Kd.R_alloc | apply Kd.R_drewN | apply Kd.R_drew)); exact HO106.out, by repeat (first | (with_reducible first | exact HB.out | apply below_alloc | apply pw_below_drewN | apply below_drew1) | exact HB.out)⟩
 ·rw [if_neg c2] at H
  exact absurd H (by simp)

end Go.Proofs.Ytfpkgdenohcglaa.PZ
-- printed for this claim by a program (pall.sh)
-- mended by fixpz.py
namespace Go.Proofs.Ytfpkgdenohcglaa.PZ
open Go.RowKit Go.Proofs.YtfpkgdenohcglaaW.PrintWords Go.Proofs.YtfpkgdenohcglaaW.PrintLast Go.Proofs.YtfpkgdenohcglaaW.PrintMore
attribute [local go_sem] max2_int min2_int max_two min_two max_three min_three max_four min_four   -- for this text's walks alone
set_option linter.unusedVariables false
set_option linter.unusedSimpArgs false

/-! ### hanaperref01_Value: function 100 -/
def hanaperref01_Value.l0 : Nat → List Int → Int → Int → Option (Int)
 | 0, _, _, _ => none
 | k + 1, x0, x3, x4 => if x4 < (x0.length : Int) then (if 0 ≤ x4 then (hanaperref01_Value.l0 k x0 (IntKind.u64.wrap ((IntKind.u64.wrap (x3 * 256)) + (IntKind.u64.wrap (rd x0 x4)))) (wrap64 (x4 + 1))) else (none)) else (some x3)
def hanaperref01_Value.f (k : Nat) (l0 : List Int) : Option (Int) := hanaperref01_Value.l0 k l0 0 0
set_option maxHeartbeats 8000000 in
set_option maxRecDepth 100000 in
theorem hanaperref01_Value.calls (k : Nat) (A0 : Option Addr) (c0 : Nat) (l0 : List Int) (r : Int) (w : World) (hr0 : Kd.C (Kd.int .u8) w A0 l0.length l0) (hc0 : l0.length ≤ c0) (h : hanaperref01_Value.f k l0 = some r) :
  Calls Try.prog 100 #[.slice A0 l0.length c0] w fun e w' => e = .returned (.int .u64 r) ∧ Drawn0 w w' := by
 have HR0 := Aside0.mk hr0
 have HC0 := Aside0.mk hc0
 clear hr0 hc0
 have H : (hanaperref01_Value.l0 k l0 0 0) = some r := h
 clear h
 have H' := Aside0.mk H
 clear H
 go_enter Try.func100, Try.ntmps100
 go_wp2
 go_loopg [3, 4] k (fun kq v3 v4 w' => ∃ (x3_1 : Int) (x4_1 : Int), v3 = .int .u64 x3_1 ∧ v4 = .int .i64 x4_1 ∧ Aside0 (hanaperref01_Value.l0 kq l0 x3_1 x4_1 = some r) ∧ Aside0 (kq ≤ k) ∧ Drawn0 w w')
 case atStart => exact ⟨(0), (0), (by first | rfl | (simp; done) | (simp [*]; done)), (by first | rfl | (simp; done) | (simp [*]; done)), H', ⟨Nat.le_refl _⟩, by repeat (first | exact Drawn0.refl _ | apply Drawn0.step)⟩
 case round =>
  clear H'
  (try clear c1)
  obtain ⟨x3_1, x4_1, rfl, rfl, HA, HK1, ⟨m1, rfl⟩⟩ := hrel
  cases gk with
  | zero => exact absurd HA.out (by simp [hanaperref01_Value.l0])
  | succ k1 =>
   have H := HA.out
   clear HA
   simp only [hanaperref01_Value.l0] at H
   by_cases c2 : x4_1 < (l0.length : Int)
   ·rw [if_pos c2] at H
    have c2b0 : decide (x4_1 < (l0.length : Int)) = true := decide_eq_true c2
    clear c2
    by_cases c3 : 0 ≤ x4_1
    ·rw [if_pos c3] at H
     have c3b0 : decide (0 ≤ x4_1) = true := decide_eq_true c3
     clear c3
     have H' := Aside0.mk H
     clear H
     have p101 : 0 ≤ (x4_1 : Int) := of_decide_eq_true (by first | (with_reducible assumption) | assumption)
     have q101 : x4_1 < (l0.length : Int) := of_decide_eq_true (by first | (with_reducible assumption) | assumption)
     obtain ⟨ad101, e101, hx101_0⟩ := Kd.at_int HR0.out x4_1 p101 q101
     cases e101
     replace p101 := eq_true p101
     replace q101 := eq_true q101
     go_wp2
     go_roundg k1
     case measure => have := HK1.out; omega
     case rel => exact ⟨(IntKind.u64.wrap ((IntKind.u64.wrap (x3_1 * 256)) + (IntKind.u64.wrap (rd l0 x4_1)))), (wrap64 (x4_1 + 1)), (by first | rfl | (simp; done) | (simp [*]; done)), (by first | rfl | (simp; done) | (simp [*]; done)), H', ⟨by have := HK1.out; omega⟩, by repeat (first | exact Drawn0.refl _ | apply Drawn0.step)⟩
    ·rw [if_neg c3] at H
     exact absurd H (by simp)
   ·rw [if_neg c2] at H
    have c2b0 : decide (x4_1 < (l0.length : Int)) = false := decide_eq_false c2
    clear c2
    obtain rfl := Option.some.inj H
    go_wp2
    go_ret
    exact ⟨by first | rfl | (simp; done) | (simp [*]; done), by repeat (first | exact Drawn0.refl _ | apply Drawn0.step)⟩

end Go.Proofs.Ytfpkgdenohcglaa.PZ
/- What the lowest functions come to: numbers and texts as bytes, lists that are the same. -/
namespace Go.Proofs.Ytfpkgdenohcglaa.Lo
open Go.Proofs.Ytfpkgdenohcglaa.Base Go.Proofs.Ytfpkgdenohcglaa.TlvPlain Go.Proofs.Ytfpkgdenohcglaa.Aid Go.RowKit Go.Proofs.YtfpkgdenohcglaaW.PrintWords Go.Proofs.YtfpkgdenohcglaaW.PrintLast Go.Proofs.YtfpkgdenohcglaaW.PrintMore Go.Proofs.Ytfpkgdenohcglaa.PZ

/-- A number's bytes, the highest first. -/
def be (n : Nat) : List Int := if n = 0 then [] else be (n / 256) ++ [((n % 256 : Nat) : Int)]
termination_by n
decreasing_by omega
def numB (n : Int) : List Int := ((be n.toNat).length : Int) :: be n.toNat
def textB (l : List Int) : List Int := numB l.length ++ l
def intB (n : Int) : List Int := numB (IntKind.u64.wrap n)
theorem be_zero : be 0 = [] := by unfold be; rfl
theorem be_pos {n : Nat} (h : 0 < n) : be n = be (n / 256) ++ [((n % 256 : Nat) : Int)] := by
  rw [be, if_neg (by omega)]
theorem be_len {k : Nat} : ∀ {n : Nat}, n < 256 ^ k → (be n).length ≤ k := by
  induction k with
  | zero => intro n h; have : n = 0 := by omega
            subst this; rw [be_zero]; simp
  | succ k ih =>
    intro n h
    by_cases h0 : n = 0
    · subst h0; rw [be_zero]; simp
    · rw [be_pos (by omega), List.length_append, List.length_singleton]
      have := ih (n := n / 256) (by rw [Nat.pow_succ] at h; omega)
      omega
theorem be_u8 (n : Nat) : U8 (be n) := by
  induction n using Nat.strongRecOn with
  | ind n ih =>
    by_cases h0 : n = 0
    · subst h0; rw [be_zero]; exact U8.nil
    · rw [be_pos (by omega)]
      refine (ih (n / 256) (by omega)).append (U8.cons ?_ U8.nil)
      omega
theorem be_value (n : Nat) : valueB (be n) = n := by
  induction n using Nat.strongRecOn with
  | ind n ih =>
    by_cases h0 : n = 0
    · subst h0; rw [be_zero]; rfl
    · rw [be_pos (by omega), valueB_snoc, ih (n / 256) (by omega)]
      omega
theorem be_head (n : Nat) (h : 0 < n) : ∃ x xs, be n = x :: xs ∧ 0 < x := by
  induction n using Nat.strongRecOn with
  | ind n ih =>
    rw [be_pos h]
    by_cases h0 : n / 256 = 0
    · rw [h0, be_zero]
      exact ⟨_, [], rfl, by omega⟩
    · obtain ⟨x, xs, e, hx⟩ := ih (n / 256) (by omega) (by omega)
      rw [e]
      exact ⟨x, xs ++ [_], rfl, hx⟩
theorem be_len8 {n : Int} (h1 : n ≤ 18446744073709551615) : (be n.toNat).length ≤ 8 := be_len (by
  have : (256 : Nat) ^ 8 = 18446744073709551616 := by decide +kernel
  omega)
theorem numB_len {n : Int} (h1 : n ≤ 18446744073709551615) : (numB n).length ≤ 9 := by
  unfold numB; rw [List.length_cons]; have := be_len8 h1; omega
theorem numB_u8 {n : Int} (h1 : n ≤ 18446744073709551615) : U8 (numB n) := by
  unfold numB
  have := be_len8 h1
  exact U8.cons (by omega) (be_u8 _)
theorem u64_range (n : Int) : 0 ≤ IntKind.u64.wrap n ∧ IntKind.u64.wrap n ≤ 18446744073709551615 := by
  have : IntKind.u64.wrap n = n % 18446744073709551616 := by
    simp [IntKind.wrap, IntKind.signed, IntKind.bits]
  rw [this]; omega

/-! ### Num, as the program has it -/
theorem num_fill (w : Int) : ∀ (i m : Nat) (t : List Int), (be m).length = i → m ≤ 18446744073709551615 → i ≤ 8 →
    Ev (fun k => tlv_Num.l1 k (m : Int) (w :: (List.replicate i 0 ++ t)) (i : Int)) (w :: (be m ++ t)) := by
  intro i
  induction i with
  | zero =>
    intro m t hi hm h8
    refine Ev.step (fun k => by simp only [tlv_Num.l1]; rfl) ?_
    refine neg (by omega) (now ?_)
    have : be m = [] := List.length_eq_zero_iff.1 hi
    rw [this]; rfl
  | succ i ih =>
    intro m t hi hm h8
    have hm0 : 0 < m := by
      rcases Nat.eq_zero_or_pos m with h | h
      · subst h; rw [be_zero] at hi; cases hi
      · exact h
    have hb := be_pos hm0
    refine Ev.step (fun k => by simp only [tlv_Num.l1]; rfl) ?_
    refine pos (by omega) (pos (by omega) (pos (by simp; omega) ?_))
    have e1 : wrap64 (((i + 1 : Nat) : Int) - 1) = (i : Int) := by rw [w64 (by omega) (by omega)]; omega
    have e2 : ((m : Int) % 256) = ((m % 256 : Nat) : Int) := by omega
    have e3 : ((m : Int) / 256) = ((m / 256 : Nat) : Int) := by omega
    have e4 : (w :: (List.replicate (i + 1) 0 ++ t)).set (((i + 1 : Nat) : Int)).toNat ((m : Int) % 256) = w :: (List.replicate i 0 ++ (((m % 256 : Nat) : Int) :: t)) := by
      rw [Int.toNat_natCast, List.set_cons_succ, e2, List.replicate_succ']
      congr 1
      rw [List.append_assoc, List.set_append_right _ _ (by simp)]
      simp
    rw [e1, e3, e4]
    have := ih (m / 256) (((m % 256 : Nat) : Int) :: t) (by rw [hb] at hi; simpa using hi) (by omega) (by omega)
    rw [hb, List.append_assoc]
    exact this
theorem num_count (n : Int) (hn0 : 0 ≤ n) (hn1 : n ≤ 18446744073709551615) : ∀ (m c : Nat), c + (be m).length = (be n.toNat).length → m ≤ 18446744073709551615 →
    Ev (fun k => tlv_Num.l0 k n (c : Int) (m : Int)) (numB n) := by
  intro m
  induction m using Nat.strongRecOn with
  | ind m ih =>
    intro c hc hm
    have h8 := be_len8 hn1
    refine Ev.step (fun k => by simp only [tlv_Num.l0]; rfl) ?_
    by_cases h0 : m = 0
    · subst h0
      rw [be_zero] at hc
      simp only [List.length_nil, Nat.add_zero] at hc
      have e1 : wrap64 (1 + (c : Int)) = ((c + 1 : Nat) : Int) := by rw [w64 (by omega) (by omega)]; omega
      rw [e1, Int.toNat_natCast]
      refine neg (by omega) (pos (by omega) (pos (by omega) ?_))
      refine bindSome rfl (pos (by simp) ?_)
      have e2 : (List.replicate (c + 1) (0 : Int)).set ((0 : Int)).toNat ((c : Int) % 256) = (c : Int) :: (List.replicate c 0 ++ []) := by
        rw [List.replicate_succ, show ((0 : Int)).toNat = 0 from rfl, List.set_cons_zero, List.append_nil, Int.emod_eq_of_lt (by omega) (by omega)]
      rw [e2]
      obtain ⟨q, rfl⟩ := Int.eq_ofNat_of_zero_le hn0
      have := num_fill (c : Int) c q [] (by rw [hc]; rfl) (by omega) (by omega)
      unfold numB
      rw [Int.toNat_natCast] at hc ⊢
      rw [← hc]
      simpa using this
    · refine pos (by omega) ?_
      have hb := be_pos (show 0 < m by omega)
      rw [hb, List.length_append, List.length_singleton] at hc
      have e1 : wrap64 ((c : Int) + 1) = ((c + 1 : Nat) : Int) := by rw [w64 (by omega) (by omega)]; omega
      have e3 : ((m : Int) / 256) = ((m / 256 : Nat) : Int) := by omega
      rw [e1, e3]
      exact ih (m / 256) (by omega) (c + 1) (by omega) (by omega)
theorem num_ev (n : Int) (hn0 : 0 ≤ n) (hn1 : n ≤ 18446744073709551615) : Ev (fun k => tlv_Num.f k n) (numB n) := by
  have := num_count n hn0 hn1 n.toNat 0 (by omega) (by omega)
  rw [show ((n.toNat : Nat) : Int) = n from by omega] at this
  exact this
/-! ### Num, as the document has it -/
theorem rnum_loop : ∀ (m : Nat) (t : List Int), m ≤ 18446744073709551615 → (be m).length + t.length ≤ 8 →
    Ev (fun k => hanaperref01_Num.l0 k (m : Int) t) ((((be m ++ t).length : Nat) : Int) :: (be m ++ t)) := by
  intro m
  induction m using Nat.strongRecOn with
  | ind m ih =>
    intro t hm ht
    refine Ev.step (fun k => by simp only [hanaperref01_Num.l0]; rfl) ?_
    by_cases h0 : m = 0
    · subst h0
      refine neg (by omega) (bindSome rfl (pos (by simp; omega) (now ?_)))
      rw [be_zero] at ht ⊢
      simp only [List.length_nil] at ht
      rw [Int.emod_eq_of_lt (by omega) (by omega)]; rfl
    · refine pos (by omega) (bindSome rfl (pos (by simp; omega) ?_))
      have hb := be_pos (show 0 < m by omega)
      rw [hb, List.length_append, List.length_singleton] at ht
      have e1 : IntKind.u64.wrap (Int.tdiv (m : Int) 256) = ((m / 256 : Nat) : Int) := by
        rw [Int.tdiv_eq_ediv_of_nonneg (by omega), u64 (by omega) (by omega)]; omega
      have e2 : (Int.tmod (m : Int) 256) % 256 = ((m % 256 : Nat) : Int) := by
        rw [Int.tmod_eq_emod_of_nonneg (by omega)]; omega
      rw [e1, e2, hb, List.append_assoc]
      exact ih (m / 256) (by omega) _ (by omega) (by simp; omega)
theorem rnum_ev (n : Int) (hn0 : 0 ≤ n) (hn1 : n ≤ 18446744073709551615) : Ev (fun k => hanaperref01_Num.f k n) (numB n) := by
  have := rnum_loop n.toNat [] (by omega) (by have := be_len8 hn1; simpa using this)
  rw [show ((n.toNat : Nat) : Int) = n from by omega, List.append_nil] at this
  exact this
/-! ### texts and ints -/
theorem len_u64 (l : List Int) (h : l.length < 140737488355000) : IntKind.u64.wrap ((l.length : Nat) : Int) = l.length := u64 (by omega) (by omega)
theorem text_ev (l : List Int) (h : l.length < 140737488355000) : Ev (fun k => tlv_Text.f k l) (textB l) := by
  unfold tlv_Text.f
  rw [len_u64 l h]
  refine evBind (num_ev _ (by omega) (by omega)) (pos ?_ (now rfl))
  have := numB_len (n := (l.length : Int)) (by omega)
  omega
theorem rtext_ev (l : List Int) (h : l.length < 140737488355000) : Ev (fun k => hanaperref01_Text.f k l) (textB l) := by
  unfold hanaperref01_Text.f
  rw [len_u64 l h]
  refine evBind (rnum_ev _ (by omega) (by omega)) (pos ?_ (now rfl))
  have := numB_len (n := (l.length : Int)) (by omega)
  omega
theorem int_ev (n : Int) : Ev (fun k => tlv_Int.f k n) (intB n) := by
  unfold tlv_Int.f
  exact evBind (num_ev _ (u64_range n).1 (u64_range n).2) (now rfl)
theorem rint_ev (n : Int) : Ev (fun k => hanaperref01_Int.f k n) (intB n) := by
  unfold hanaperref01_Int.f
  exact evBind (rnum_ev _ (u64_range n).1 (u64_range n).2) (now rfl)
/-! ### lists that are the same -/
theorem same_from (a b : List Int) (hl : a.length = b.length) (hn : a.length ≤ 4611686018427387904) : ∀ (d i : Nat), i + d = a.length →
    Ev (fun k => hanaperref01_Same.l0 k a b i) (decide (a.drop i = b.drop i)) := by
  intro d
  induction d with
  | zero =>
    intro i hi
    refine Ev.step (fun k => by simp only [hanaperref01_Same.l0]; rfl) ?_
    refine neg (by omega) (now ?_)
    rw [List.drop_of_length_le (by omega), List.drop_of_length_le (by omega)]; simp
  | succ d ih =>
    intro i hi
    refine Ev.step (fun k => by simp only [hanaperref01_Same.l0]; rfl) ?_
    refine pos (by omega) (pos (by omega) (pos (by omega) ?_))
    rw [rd_nat a i (by omega), rd_nat b i (by omega), drop_cons a i (by omega), drop_cons b i (by omega), inc (show i < a.length by omega) hn]
    by_cases e : a[i]'(by omega) = b[i]'(by omega)
    · refine pos e ?_
      have := ih (i + 1) (by omega)
      generalize a.drop (i + 1) = A at this ⊢
      generalize b.drop (i + 1) = B at this ⊢
      simpa [e] using this
    · refine neg e (now ?_)
      generalize a.drop (i + 1) = A
      generalize b.drop (i + 1) = B
      simp [e]
theorem same_ev (a b : List Int) (hn : a.length ≤ 4611686018427387904) : Ev (fun k => hanaperref01_Same.f k a b) (decide (a = b)) := by
  unfold hanaperref01_Same.f
  by_cases e : a.length = b.length
  · refine pos (by omega) ?_
    simpa using same_from a b e hn a.length 0 (by omega)
  · refine neg (by omega) (now ?_)
    have : a ≠ b := fun h => e (by rw [h])
    simp [this]
theorem copy_ev (l : List Int) (h : l.length < 140737488355328) : hanaperref01_Copy.f l = some l := by
  unfold hanaperref01_Copy.f
  simp only [Option.bind_some]
  rw [if_pos (by simpa using h)]; rfl
theorem value_loop (l : List Int) (hu : U8 l) (h8 : l.length ≤ 8) : ∀ (d i : Nat), i + d = l.length →
    Ev (fun k => hanaperref01_Value.l0 k l (valueB (l.take i)) (i : Int)) (valueB l) := by
  intro d
  induction d with
  | zero =>
    intro i hi
    refine Ev.step (fun k => by simp only [hanaperref01_Value.l0]; rfl) ?_
    refine neg (by omega) (now ?_)
    rw [List.take_of_length_le (by omega)]
  | succ d ih =>
    intro i hi
    have hil : i < l.length := by omega
    refine Ev.step (fun k => by simp only [hanaperref01_Value.l0]; rfl) ?_
    refine pos (by omega) (pos (by omega) ?_)
    have h1 := valueB_u64 (hu.take i) (by rw [List.length_take]; omega)
    have h2 := valueB_u64 (hu.take (i + 1)) (by rw [List.length_take]; omega)
    have hx := hu _ (List.getElem_mem hil)
    have e2 := h2
    rw [take_snoc l i hil, valueB_snoc] at e2
    rw [rd_nat l i hil, inc hil (by omega), u64 (x := valueB (l.take i) * 256) (by omega) (by omega), u64 (x := l[i]) (by omega) (by omega), u64 (by omega) (by omega), ← valueB_snoc, ← take_snoc l i hil]
    exact ih (i + 1) (by omega)
theorem value_ev (l : List Int) (hu : U8 l) (h8 : l.length ≤ 8) : Ev (fun k => hanaperref01_Value.f k l) (valueB l) := by
  have := value_loop l hu h8 l.length 0 (by omega)
  exact this

/-! ### what was put is read -/
theorem numO_numB (n : Int) (hn0 : 0 ≤ n) (hn1 : n ≤ 18446744073709551615) (rest : List Int) : numO (some (numB n ++ rest)) = (n, some rest) := by
  have h8 := be_len8 hn1
  unfold numB numO
  simp only [List.cons_append]
  rw [if_neg (by omega), if_neg (by rw [List.length_append]; omega), if_neg, Int.toNat_natCast]
  · rw [List.take_left', List.drop_left', be_value]
    · rw [Int.toNat_of_nonneg hn0]
    · rfl
    · rfl
  · rintro ⟨h1, h2⟩
    have : 0 < n.toNat := by
      rcases Nat.eq_zero_or_pos n.toNat with h | h
      · rw [h, be_zero] at h1; simp at h1
      · exact h
    obtain ⟨x, xs, e, hx⟩ := be_head n.toNat this
    rw [e] at h2
    simp at h2
    omega
end Go.Proofs.Ytfpkgdenohcglaa.Lo
/- The lowest functions, each with what it answers. -/
namespace Go.Proofs.Ytfpkgdenohcglaa.Lo
open Go.Proofs.Ytfpkgdenohcglaa.Base Go.Proofs.Ytfpkgdenohcglaa.TlvPlain Go.Proofs.Ytfpkgdenohcglaa.Aid Go.RowKit Go.Proofs.YtfpkgdenohcglaaW.PrintWords Go.Proofs.YtfpkgdenohcglaaW.PrintLast Go.Proofs.YtfpkgdenohcglaaW.PrintMore Go.Proofs.Ytfpkgdenohcglaa.PZ

/-- New bytes. -/
def Makes (w : World) (bs : List Int) (e : Ending) (w' : World) : Prop := ∃ v : Value, e = .returned v ∧ Ob w' w.heap.size v bs ∧ Below w.heap.size w w'
theorem num_c (n : Int) (w : World) (h0 : 0 ≤ n) (h1 : n ≤ 18446744073709551615) : Calls Try.prog 65 #[.int .u64 n] w (Makes w (numB n)) := by
  obtain ⟨k, h⟩ := (num_ev n h0 h1).rounds
  exact tlv_Num.calls k n _ w h
theorem text_c (A0 : Option Addr) (c0 : Nat) (l : List Int) (w : World) (hr : Rb w A0 l) (hc : l.length ≤ c0) (hl : l.length < 140737488355000) : Calls Try.prog 66 #[.slice A0 l.length c0] w (Makes w (textB l)) := by
  obtain ⟨k, h⟩ := (text_ev l hl).rounds
  exact tlv_Text.calls k A0 c0 l _ w hr hc h
theorem rtext_c (A0 : Option Addr) (c0 : Nat) (l : List Int) (w : World) (hr : Rb w A0 l) (hc : l.length ≤ c0) (hl : l.length < 140737488355000) : Calls Try.prog 78 #[.slice A0 l.length c0] w (Makes w (textB l)) := by
  obtain ⟨k, h⟩ := (rtext_ev l hl).rounds
  exact hanaperref01_Text.calls k A0 c0 l _ w hr hc h
theorem int_c (n : Int) (w : World) : Calls Try.prog 84 #[.int .i64 n] w (Makes w (intB n)) := by
  obtain ⟨k, h⟩ := (int_ev n).rounds
  exact tlv_Int.calls k n _ w h
theorem rint_c (n : Int) (w : World) : Calls Try.prog 85 #[.int .i64 n] w (Makes w (intB n)) := by
  obtain ⟨k, h⟩ := (rint_ev n).rounds
  exact hanaperref01_Int.calls k n _ w h
theorem copy_c (A0 : Option Addr) (c0 : Nat) (l : List Int) (w : World) (hr : Rb w A0 l) (hc : l.length ≤ c0) (hl : l.length < 140737488355328) : Calls Try.prog 52 #[.slice A0 l.length c0] w (Makes w l) :=
  hanaperref01_Copy.calls A0 c0 l _ w hr hc (copy_ev l hl)
theorem copy_n (A0 : Option Addr) (c0 n : Nat) (l : List Int) (w : World) (hr : Rb w A0 l) (hn : l.length = n) (hc : n ≤ c0) (hl : n < 140737488355328) : Calls Try.prog 52 #[.slice A0 n c0] w (Makes w l) := by
  subst hn
  exact copy_c A0 c0 l w hr hc hl
theorem value_c (A0 : Option Addr) (c0 : Nat) (l : List Int) (w : World) (hr : Rb w A0 l) (hc : l.length ≤ c0) (hu : U8 l) (h8 : l.length ≤ 8) :
    Calls Try.prog 100 #[.slice A0 l.length c0] w fun e w' => e = .returned (.int .u64 (valueB l)) ∧ Drawn0 w w' := by
  obtain ⟨k, h⟩ := (value_ev l hu h8).rounds
  exact hanaperref01_Value.calls k A0 c0 l _ w hr hc h
end Go.Proofs.Ytfpkgdenohcglaa.Lo

-- printed for this claim by a program (pall.sh)
-- mended by fixpz.py
namespace Go.Proofs.Ytfpkgdenohcglaa.PZ
open Go.RowKit Go.Proofs.YtfpkgdenohcglaaW.PrintWords Go.Proofs.YtfpkgdenohcglaaW.PrintLast Go.Proofs.YtfpkgdenohcglaaW.PrintMore
attribute [local go_sem] max2_int min2_int max_two min_two max_three min_three max_four min_four   -- for this text's walks alone
set_option linter.unusedVariables false
set_option linter.unusedSimpArgs false

/-! ### hanaperref07_Text: function 39 -/
def hanaperref07_Text.f (k : Nat) (a0 : Int) (l1 : List Int) : Option (List Int) := (some (([1] : List Int) : List Int)).bind fun y101 => ((hanaperref01_Num.f k a0).bind fun t104 => (if y101.length + t104.length < 140737488355328 then ((some (y101 ++ t104 : List Int)).bind fun y107 => ((hanaperref01_Text.f k l1).bind fun t110 => (if y107.length + t110.length < 140737488355328 then (some (y107 ++ t110)) else (none)))) else (none)))
set_option maxHeartbeats 8000000 in
set_option maxRecDepth 100000 in
theorem hanaperref07_Text.calls (k : Nat) (a0 : Int) (A1 : Option Addr) (c1 : Nat) (l1 : List Int) (r : List Int) (w : World) (hr1 : Kd.C (Kd.int .u8) w A1 l1.length l1) (hc1 : l1.length ≤ c1) (h : hanaperref07_Text.f k a0 l1 = some r) :
  Calls Try.prog 39 #[.int .u64 a0, .slice A1 l1.length c1] w fun e w' => ∃ v0_ : Value, e = .returned (v0_) ∧ Kd.R (Kd.int .u8) 5 w' w.heap.size (fun _ => True) v0_ r ∧ Below w.heap.size w w' := by
 have HR1 := Aside0.mk hr1
 have HC1 := Aside0.mk hc1
 clear hr1 hc1
 have HB := Aside0.mk (Below.refl w.heap.size w)
 have H : ((some (([1] : List Int) : List Int)).bind fun y101 => ((hanaperref01_Num.f k a0).bind fun t104 => (if y101.length + t104.length < 140737488355328 then ((some (y101 ++ t104 : List Int)).bind fun y107 => ((hanaperref01_Text.f k l1).bind fun t110 => (if y107.length + t110.length < 140737488355328 then (some (y107 ++ t110)) else (none)))) else (none)))) = some r := h
 clear h
 obtain ⟨y101, hy101⟩ : ∃ y_ : List Int, y_ = (([1] : List Int)) := ⟨_, rfl⟩
 replace H : ((hanaperref01_Num.f k a0).bind fun t104 => (if y101.length + t104.length < 140737488355328 then ((some (y101 ++ t104 : List Int)).bind fun y107 => ((hanaperref01_Text.f k l1).bind fun t110 => (if y107.length + t110.length < 140737488355328 then (some (y107 ++ t110)) else (none)))) else (none))) = some r := by first | (rw [hy101]; with_reducible exact H) | (have H2_ := (Option.bind_some _ _).symm.trans H; rw [hy101]; with_reducible exact H2_) | (have H2_ := (Option.bind_some _ _).symm.trans H; with_reducible exact H2_) | with_reducible exact H | (rw [hy101]; exact H) | exact H
 have Ny101 := Aside0.mk hy101
 clear hy101
 replace H := Option.bind_eq_some_iff.mp H
 obtain ⟨t104, A30, H⟩ := H
 replace H : (if y101.length + t104.length < 140737488355328 then ((some (y101 ++ t104 : List Int)).bind fun y107 => ((hanaperref01_Text.f k l1).bind fun t110 => (if y107.length + t110.length < 140737488355328 then (some (y107 ++ t110)) else (none)))) else (none)) = some r := H
 have A3 := Aside0.mk A30
 clear A30
 by_cases c4 : y101.length + t104.length < 140737488355328
 ·rw [if_pos c4] at H
  have LMc4 := Aside0.mk c4
  clear c4
  obtain ⟨y107, hy107⟩ : ∃ y_ : List Int, y_ = (y101 ++ t104) := ⟨_, rfl⟩
  replace H : ((hanaperref01_Text.f k l1).bind fun t110 => (if y107.length + t110.length < 140737488355328 then (some (y107 ++ t110)) else (none))) = some r := by first | (rw [hy107]; with_reducible exact H) | (have H2_ := (Option.bind_some _ _).symm.trans H; rw [hy107]; with_reducible exact H2_) | (have H2_ := (Option.bind_some _ _).symm.trans H; with_reducible exact H2_) | with_reducible exact H | (rw [hy107]; exact H) | exact H
  have Ny107 := Aside0.mk hy107
  clear hy107
  replace H := Option.bind_eq_some_iff.mp H
  obtain ⟨t110, A50, H⟩ := H
  replace H : (if y107.length + t110.length < 140737488355328 then (some (y107 ++ t110)) else (none)) = some r := H
  have A5 := Aside0.mk A50
  clear A50
  by_cases c6 : y107.length + t110.length < 140737488355328
  ·rw [if_pos c6] at H
   have LMc6 := Aside0.mk c6
   clear c6
   obtain ⟨y113, hy113⟩ : ∃ y_ : List Int, y_ = (y107 ++ t110) := ⟨_, rfl⟩
   replace H : (some y113) = some r := by first | (rw [hy113]; with_reducible exact H) | (have H2_ := (Option.bind_some _ _).symm.trans H; rw [hy113]; with_reducible exact H2_) | (have H2_ := (Option.bind_some _ _).symm.trans H; with_reducible exact H2_) | with_reducible exact H | (rw [hy113]; exact H) | exact H
   have Ny113 := Aside0.mk hy113
   clear hy113
   obtain rfl := Option.some.inj H
   go_enter Try.func39, Try.ntmps39
   go_wp2_with (first | ((with_reducible refine gate_dst (N := 5) rfl ?_); refine Kd.R_lit (Kd.int .u8) _ 5 ?hg (N := 5) ?hd (xs := ([1] : List Int)) (inner := [.int .u8 1]) (ok := fun _ => True) (okp := fun _ => True) ?hr ?hp (fun _ hk => hk) trivial (Below.refl _ _) (Nat.le_refl _) (by simp) ?_; (case hd => rfl); (case hg => rfl); (case hr => first | (go_simp; done) | (go_simp; rfl)); (case hp => exact (Reps.one (show Kd.M (Kd.int .u8) _ _ _ 1 [.int .u8 1] from rfl) (Reps.none _ _))); intro v102 w7 ho8 hb hg_ hnew_; clear hg_ hnew_; (first | rw [← Ny101.out] at ho8 | (simp only [Int.reduceToNat] at ho8; rw [← Ny101.out] at ho8)); have n0_ := Aside0.mk (Kd.R_lower ho8 (below_size (by repeat (first | (with_reducible first | exact HB.out | apply below_alloc | apply pw_below_drewN | apply below_drew1) | exact HB.out)))); have n1_ := Aside0.mk (below_step (by repeat (first | (with_reducible first | exact HB.out | apply below_alloc | apply pw_below_drewN | apply below_drew1) | exact HB.out)) hb); clear HB; have HO103 := n0_; have HB := n1_; clear n0_ n1_; clear hb ho8) | ((with_reducible refine gate_callee (f := 77) rfl ?_); refine goesL_ (some 7) rfl rfl Try.func77 (by kernel_rfl) rfl #[.int .u64 a0] rfl (by (try simp only [List.map_toArray, List.map_cons, List.map_nil]); first | done | rfl | (simp only [List.length_drop, List.length_take]; rfl)) ?_; (with_reducible refine (hanaperref01_Num.calls k a0 t104 _ A3.out).mono ?_); rintro e w9 ⟨v105, rfl, ho0, hb⟩; refine ⟨_, rfl, ?_⟩; have n0_ := Aside0.mk (Kd.R_elder' (by (with_reducible repeat (first | apply Kd.R_alloc | apply Kd.R_drewN | apply Kd.R_drew)); exact HO103.out) (Kd.R_base ho0) hb); have n1_ := Aside0.mk (Kd.R_lower (Kd.R_new' ho0 (Kd.R_lt (by (with_reducible repeat (first | apply Kd.R_alloc | apply Kd.R_drewN | apply Kd.R_drew)); exact HO103.out))) (below_size (by repeat (first | (with_reducible first | exact HB.out | apply below_alloc | apply pw_below_drewN | apply below_drew1) | exact HB.out)))); have n2_ := Aside0.mk (below_step (by repeat (first | (with_reducible first | exact HB.out | apply below_alloc | apply pw_below_drewN | apply below_drew1) | exact HB.out)) hb); clear HO103; clear HB; have HO103 := n0_; have HO106 := n1_; have HB := n2_; clear n0_ n1_ n2_; (try clear hb); (try clear hb2); (try clear hk); (try clear hi); (try clear ho0); obtain ⟨Ao11, co11, eo11⟩ := Kd.R_slice HO106.out; subst eo11) | ((with_reducible refine gate_builtin (b := .append) (xs := #[.tmp 5, .tmp 7]) rfl ?_); at_builtin; refine Kd.R_append_rows (Kd.int .u8) (w0 := w) w.heap.size rfl (.tmp 5) (.tmp 7) 25 5 (.int .u8 0) 1 rfl Try.underlying25 info5 rfl (by decide) (by omega) v102 y101 t104 _ _ _ (fun k_ => some k_ ≠ (.slice Ao11 t104.length co11 : Value).ownBlock) (fun _ => False) rfl rfl ?aO ?aR (fun _ _ h => h) (fun _ h => h.elim) ?aF ?aB ?aS ?aL ?_; (case aR => repeat (first | exact (Kd.R_reads' HO106.out).2.2 | (with_reducible refine Kd.C_alloc ?_ _) | (with_reducible refine Kd.C_drewN ?_ _) | (with_reducible refine Kd.C_drew ?_))); (case aB => exact (by repeat (first | (with_reducible first | exact HB.out | apply below_alloc | apply pw_below_drewN | apply below_drew1) | exact HB.out))); (case aF => exact (fun k_ hk => Kd.fresh' (Kd.R_lt (by (with_reducible repeat (first | apply Kd.R_alloc | apply Kd.R_drewN | apply Kd.R_drew)); exact HO106.out)) k_ hk)); (case aO => exact (by (with_reducible repeat (first | apply Kd.R_alloc | apply Kd.R_drewN | apply Kd.R_drew)); exact Kd.R_mono HO103.out (fun _ hk => hk.2))); (case aS => exact (below_size (by repeat (first | (with_reducible first | exact HB.out | apply below_alloc | apply pw_below_drewN | apply below_drew1) | exact HB.out)))); (case aL => have := LMc4.out; omega); intro v108 w10 ho hb hg hat; rw [← Ny107.out] at ho; have n0_ := Aside0.mk (Kd.R_after (ok := (fun _ => True)) (by (with_reducible repeat (first | apply Kd.R_alloc | apply Kd.R_drewN | apply Kd.R_drew)); exact HO106.out) hg hat); have n1_ := Aside0.mk (hb); have n2_ := Aside0.mk (ho); clear HO106; clear HB; clear HO103; have HO106 := n0_; have HB := n1_; have HO109 := n2_; clear n0_ n1_ n2_; clear ho hb hg hat) | ((with_reducible refine gate_callee (f := 78) rfl ?_); refine goesL_ (some 10) rfl rfl Try.func78 (by kernel_rfl) rfl #[.slice A1 l1.length c1] rfl (by (try simp only [List.map_toArray, List.map_cons, List.map_nil]); first | done | rfl | (simp only [List.length_drop, List.length_take]; rfl)) ?_; (with_reducible refine (hanaperref01_Text.calls k _ _ l1 t110 _ ?side1 ?side2 A5.out).mono ?_); (case side1 => repeat (first | exact (Kd.C_below HR1.out HB.out) | (with_reducible refine Kd.C_alloc ?_ _) | (with_reducible refine Kd.C_drewN ?_ _) | (with_reducible refine Kd.C_drew ?_))); (case side2 => exact HC1.out); rintro e w12 ⟨v111, rfl, ho0, hb⟩; refine ⟨_, rfl, ?_⟩; have n0_ := Aside0.mk (Kd.R_elder' (by (with_reducible repeat (first | apply Kd.R_alloc | apply Kd.R_drewN | apply Kd.R_drew)); exact HO106.out) (Kd.R_base ho0) hb); have n1_ := Aside0.mk (Kd.R_elder' (by (with_reducible repeat (first | apply Kd.R_alloc | apply Kd.R_drewN | apply Kd.R_drew)); exact HO109.out) (Kd.R_base ho0) hb); have n2_ := Aside0.mk (Kd.R_lower (Kd.R_new' (Kd.R_new' ho0 (Kd.R_lt (by (with_reducible repeat (first | apply Kd.R_alloc | apply Kd.R_drewN | apply Kd.R_drew)); exact HO106.out))) (Kd.R_lt (by (with_reducible repeat (first | apply Kd.R_alloc | apply Kd.R_drewN | apply Kd.R_drew)); exact HO109.out))) (below_size (by repeat (first | (with_reducible first | exact HB.out | apply below_alloc | apply pw_below_drewN | apply below_drew1) | exact HB.out)))); have n3_ := Aside0.mk (below_step (by repeat (first | (with_reducible first | exact HB.out | apply below_alloc | apply pw_below_drewN | apply below_drew1) | exact HB.out)) hb); clear HO106; clear HO109; clear HB; have HO106 := n0_; have HO109 := n1_; have HO112 := n2_; have HB := n3_; clear n0_ n1_ n2_ n3_; (try clear hb); (try clear hb2); (try clear hk); (try clear hi); (try clear ho0); obtain ⟨Ao14, co14, eo14⟩ := Kd.R_slice HO112.out; subst eo14) | ((with_reducible refine gate_builtin (b := .append) (xs := #[.tmp 8, .tmp 10]) rfl ?_); at_builtin; refine Kd.R_append_rows (Kd.int .u8) (w0 := w) w.heap.size rfl (.tmp 8) (.tmp 10) 25 5 (.int .u8 0) 1 rfl Try.underlying25 info5 rfl (by decide) (by omega) v108 y107 t110 _ _ _ (fun k_ => some k_ ≠ (.slice Ao11 t104.length co11 : Value).ownBlock ∧ some k_ ≠ (.slice Ao14 t110.length co14 : Value).ownBlock) (fun _ => False) rfl rfl ?aO ?aR (fun _ _ h => h) (fun _ h => h.elim) ?aF ?aB ?aS ?aL ?_; (case aR => repeat (first | exact (Kd.R_reads' HO112.out).2.2 | (with_reducible refine Kd.C_alloc ?_ _) | (with_reducible refine Kd.C_drewN ?_ _) | (with_reducible refine Kd.C_drew ?_))); (case aB => exact (by repeat (first | (with_reducible first | exact HB.out | apply below_alloc | apply pw_below_drewN | apply below_drew1) | exact HB.out))); (case aF => exact (fun k_ hk => ⟨Kd.fresh' (Kd.R_lt (by (with_reducible repeat (first | apply Kd.R_alloc | apply Kd.R_drewN | apply Kd.R_drew)); exact HO106.out)) k_ hk, Kd.fresh' (Kd.R_lt (by (with_reducible repeat (first | apply Kd.R_alloc | apply Kd.R_drewN | apply Kd.R_drew)); exact HO112.out)) k_ hk⟩)); (case aO => exact (by (with_reducible repeat (first | apply Kd.R_alloc | apply Kd.R_drewN | apply Kd.R_drew)); exact HO109.out)); (case aS => exact (below_size (by repeat (first | (with_reducible first | exact HB.out | apply below_alloc | apply pw_below_drewN | apply below_drew1) | exact HB.out)))); (case aL => have := LMc6.out; omega); intro v114 w13 ho hb hg hat; rw [← Ny113.out] at ho; have n0_ := Aside0.mk (Kd.R_after (ok := (fun k_ => some k_ ≠ (.slice Ao14 t110.length co14 : Value).ownBlock)) (by (with_reducible repeat (first | apply Kd.R_alloc | apply Kd.R_drewN | apply Kd.R_drew)); exact Kd.R_mono HO106.out (fun _ hk => ⟨hk.2, hk.1.2⟩)) hg hat); have n1_ := Aside0.mk (Kd.R_after (ok := (fun k_ => some k_ ≠ (.slice Ao11 t104.length co11 : Value).ownBlock)) (by (with_reducible repeat (first | apply Kd.R_alloc | apply Kd.R_drewN | apply Kd.R_drew)); exact Kd.R_mono HO112.out (fun _ hk => ⟨hk.1.2, hk.2⟩)) hg hat); have n2_ := Aside0.mk (hb); have n3_ := Aside0.mk (ho); clear HO106; clear HO112; clear HB; clear HO109; have HO106 := n0_; have HO112 := n1_; have HB := n2_; have HO115 := n3_; clear n0_ n1_ n2_ n3_; clear ho hb hg hat))
   go_ret
   exact ⟨_, by first | rfl | (simp [errW_none, errW_some] <;> rfl) | (simp [*, errW_none, errW_some] <;> rfl), by (with_reducible repeat (first | apply Kd.R_alloc | apply Kd.R_drewN | apply Kd.R_drew)); exact Kd.R_mono HO115.out (fun _ hk => trivial), by repeat (first | (with_reducible first | exact HB.out | apply below_alloc | apply pw_below_drewN | apply below_drew1) | exact HB.out)⟩
  ·rw [if_neg c6] at H
   exact absurd H (by simp)
 ·rw [if_neg c4] at H
  exact absurd H (by simp)

end Go.Proofs.Ytfpkgdenohcglaa.PZ
/- commit: Of walked, and the document's. -/
namespace Go.Proofs.Ytfpkgdenohcglaa.Com
set_option linter.unusedVariables false
set_option linter.unusedSimpArgs false
open Go.RowKit Go.Proofs.Ytfpkgdenohcglaa.Base Go.Proofs.Ytfpkgdenohcglaa.TlvPlain Go.Proofs.Ytfpkgdenohcglaa.ShaPlain Go.Proofs.Ytfpkgdenohcglaa.Sha Go.Proofs.Ytfpkgdenohcglaa.Lo Go.Proofs.Ytfpkgdenohcglaa.Aid Go.Proofs.YtfpkgdenohcglaaW.PrintWords Go.Proofs.YtfpkgdenohcglaaW.PrintLast Go.Proofs.YtfpkgdenohcglaaW.PrintMore Go.Proofs.Ytfpkgdenohcglaa.PZ
/-- What is summed for a commitment. -/
def comB (salt : Int) (b : List Int) : List Int := 1 :: (numB salt ++ textB b)
theorem textB_u8 {l : List Int} (h : U8 l) (hl : l.length ≤ 1000000) : U8 (textB l) := fun x hx => (List.mem_append.1 hx).elim (numB_u8 (by omega) x) (h x)
theorem textB_len {l : List Int} (hl : l.length ≤ 1000000) : (textB l).length ≤ l.length + 9 := by
  have := numB_len (n := (l.length : Int)) (by omega)
  unfold textB
  rw [List.length_append]
  omega
theorem comB_len {salt : Int} {b : List Int} (h1 : salt ≤ 18446744073709551615) (hl : b.length ≤ 1000000) : (comB salt b).length ≤ b.length + 19 := by
  have h := numB_len h1
  have h2 := textB_len hl
  unfold comB
  rw [List.length_cons, List.length_append]
  omega
theorem comB_u8 {salt : Int} {b : List Int} (h1 : salt ≤ 18446744073709551615) (hu : U8 b) (hl : b.length ≤ 1000000) : U8 (comB salt b) := by
  intro x hx
  rcases List.mem_cons.1 hx with rfl | hx
  · exact ⟨by decide, by decide⟩
  · exact (List.mem_append.1 hx).elim (numB_u8 h1 x) (textB_u8 hu hl x)
theorem rtxt_ev (salt : Int) (h0 : 0 ≤ salt) (h1 : salt ≤ 18446744073709551615) (l : List Int) (h : l.length ≤ 1000000) : Ev (fun k => hanaperref07_Text.f k salt l) (comB salt l) := by
  have e1 := numB_len h1
  have e2 := textB_len h
  unfold hanaperref07_Text.f
  refine bindSome rfl (evBind (rnum_ev salt h0 h1) (pos (by simp; omega) (bindSome rfl (evBind (rtext_ev l (by omega)) (pos (by simp; omega) (now ?_))))))
  simp [comB]
theorem rtxt_c (salt : Int) (h0 : 0 ≤ salt) (h1 : salt ≤ 18446744073709551615) (A : Option Addr) (c : Nat) (l : List Int) (w : World) (hr : Rb w A l) (hc : l.length ≤ c) (hl : l.length ≤ 1000000) :
    Calls Try.prog 39 #[.int .u64 salt, .slice A l.length c] w (Makes w (comB salt l)) := by
  obtain ⟨k, h⟩ := (rtxt_ev salt h0 h1 l hl).rounds
  exact hanaperref07_Text.calls k salt A c l _ w hr hc h
set_option maxHeartbeats 4000000 in
set_option maxRecDepth 100000 in
theorem cof_c (salt : Int) (h0 : 0 ≤ salt) (h1 : salt ≤ 18446744073709551615) (A : Option Addr) (c : Nat) (l : List Int) (w : World) (hr : Rb w A l) (hc : l.length ≤ c) (hu : U8 l) (hl : l.length ≤ 100000) :
    Calls Try.prog 50 #[.int .u64 salt, .slice A l.length c] w fun e w' => e = .returned (sumV (shaB (comB salt l))) ∧ Below w.heap.size w w' := by
  have HS := Aside0.mk (And.intro h0 h1)
  have HR := Aside0.mk hr
  have HC := Aside0.mk hc
  have HU := Aside0.mk hu
  have HL := Aside0.mk hl
  have HZ := Aside0.mk (show (w.alloc (.cells Z32 23)).heap[w.heap.size]? = some (.cells Z32 23 (0, 0)) from blk_new _ _)
  have HB := Aside0.mk (below_alloc (Below.refl w.heap.size w) (.cells Z32 23))
  clear hr hu hl hc h0 h1
  go_enter Try.func50, Try.ntmps50
  go_wp2_with (fail)
  refine (num_c salt _ HS.out.1 HS.out.2).mono ?_
  rintro e w1 ⟨v, rfl, ho, hb⟩
  have HZ1 := Aside0.mk (blk_below HZ.out hb)
  have HB1 := Aside0.mk (below_step HB.out hb)
  clear hb HZ HB
  obtain ⟨An, cn, rfl, hl_, hr_⟩ := Ob.reads ho; have HRn := Aside0.mk hr_; have HLn := Aside0.mk hl_; clear ho hl_ hr_
  go_wp2_with (fail)
  refine (text_c A c l w1 (Kd.C_below HR.out HB1.out) HC.out (by have := HL.out; omega)).mono ?_
  rintro e w2 ⟨v, rfl, ho, hb⟩
  have HZ2 := Aside0.mk (blk_below HZ1.out hb)
  have HB2 := Aside0.mk (below_step HB1.out hb)
  have HRn2 := Aside0.mk (Kd.C_below HRn.out hb)
  clear hb
  obtain ⟨At, ct, rfl, hl_, hr_⟩ := Ob.reads ho; have HRt := Aside0.mk hr_; have HLt := Aside0.mk hl_; clear ho hl_ hr_
  go_wp2_with ((with_reducible refine gate_dst (N := 9) rfl ?_); refine lit_rows (N := 9) (e := 25) ?hg ?hd [numB salt, textB l] [.slice An (numB salt).length cn, .slice At (textB l).length ct] (rows2 HRn2.out HLn.out HRt.out HLt.out) ?hr (by simp) ?_; (case hd => rfl); (case hg => rfl); (case hr => first | (go_simp; done) | (go_simp; rfl)); intro A9 w4 hrr hb; have HRR := Aside0.mk hrr; have HZ4 := Aside0.mk (blk_below HZ2.out hb); have HB4 := Aside0.mk (below_step HB2.out hb); clear hb hrr)
  obtain ⟨D, hD⟩ : ∃ D, (nums .u8 (shaB (comB salt l))).toArray = D := ⟨_, rfl⟩
  have HD := Aside0.mk hD
  have hds : D.size = 32 := by rw [← hD]; simp [nums, shaB_len]
  have HIF := Aside0.mk (show (Try.prog.info? 23).map (·.size) = some D.size by rw [hds]; exact info_32)
  have HSZ := Aside0.mk (show Z32.size = D.size by rw [hds]; simp [Z32, nums])
  have HONE := Aside0.mk (show D.all (·.oneCell') = true by rw [← hD]; exact nums_one _ _)
  clear hD hds
  refine (csum_c 1 (by decide) A9 2 [numB salt, textB l] w4 HRR.out (by simp) (by
    intro p hp x hx
    rcases List.mem_cons.1 hp with rfl | hp
    · exact numB_u8 HS.out.2 x hx
    · rw [List.mem_singleton.1 hp] at hx
      exact textB_u8 HU.out (by have := HL.out; omega) x hx) (by
    have h2 := numB_len HS.out.2
    have h3 := textB_len (l := l) (by have := HL.out; omega)
    have h4 := HL.out
    simp only [List.flatten_cons, List.flatten_nil, List.append_nil, List.length_append]
    omega) (by simp)).mono ?_
  rintro e w6 ⟨rfl, hb6⟩
  rw [show sumV (shaB (1 :: [numB salt, textB l].flatten)) = .agg D by rw [← HD.out, comB]; simp]
  have HZ6 := Aside0.mk (blk_below HZ4.out hb6)
  have HB6 := Aside0.mk (below_step HB4.out hb6)
  clear hb6
  go_wp2_with ((with_reducible refine gate_store (t := 23) (p := 4) (v := .tmp 10) rfl ?_); refine wpList_store_row rfl 23 (.tmp 4) (.tmp 10) rfl w.heap.size D rfl rfl 23 Z32 HZ6.out HIF.out HSZ.out HONE.out ?_)
  have HSR := setRow_heap w6 w.heap.size Z32 D _ _ HZ6.out
  refine bodyPost_ret (v := .agg D) (results_cell_row rfl _ _ w.heap.size 23 D (0, 0) _ rfl HSR Try.underlying23 rfl HIF.out) rfl ⟨by rw [← HD.out], below_setRow HB6.out (Nat.le_refl _) D⟩
set_option maxHeartbeats 4000000 in
set_option maxRecDepth 100000 in
theorem rcof_c (salt : Int) (h0 : 0 ≤ salt) (h1 : salt ≤ 18446744073709551615) (A : Option Addr) (c : Nat) (l : List Int) (w : World) (hr : Rb w A l) (hc : l.length ≤ c) (hu : U8 l) (hl : l.length ≤ 100000) :
    Calls Try.prog 44 #[.int .u64 salt, .slice A l.length c] w fun e w' => e = .returned (sumV (shaB (comB salt l))) ∧ Below w.heap.size w w' := by
  have HS := Aside0.mk (And.intro h0 h1)
  have HR := Aside0.mk hr
  have HC := Aside0.mk hc
  have HU := Aside0.mk hu
  have HL := Aside0.mk hl
  have HZ := Aside0.mk (show (w.alloc (.cells Z32 23)).heap[w.heap.size]? = some (.cells Z32 23 (0, 0)) from blk_new _ _)
  have HB := Aside0.mk (below_alloc (Below.refl w.heap.size w) (.cells Z32 23))
  clear hr hu hl hc h0 h1
  go_enter Try.func44, Try.ntmps44
  go_wp2_with (fail)
  refine (rtxt_c salt HS.out.1 HS.out.2 A c l _ (Kd.C_below HR.out HB.out) HC.out (by have := HL.out; omega)).mono ?_
  rintro e w1 ⟨v, rfl, ho, hb⟩
  have HZ1 := Aside0.mk (blk_below HZ.out hb)
  have HB1 := Aside0.mk (below_step HB.out hb)
  clear hb HZ HB
  obtain ⟨An, cn, rfl, hl_, hr_⟩ := Ob.reads ho; have HRn := Aside0.mk hr_; have HLn := Aside0.mk hl_; clear ho hl_ hr_
  obtain ⟨D, hD⟩ : ∃ D, (nums .u8 (shaB (comB salt l))).toArray = D := ⟨_, rfl⟩
  have HD := Aside0.mk hD
  have hds : D.size = 32 := by rw [← hD]; simp [nums, shaB_len]
  have HIF := Aside0.mk (show (Try.prog.info? 23).map (·.size) = some D.size by rw [hds]; exact info_32)
  have HSZ := Aside0.mk (show Z32.size = D.size by rw [hds]; simp [Z32, nums])
  have HONE := Aside0.mk (show D.all (·.oneCell') = true by rw [← hD]; exact nums_one _ _)
  clear hD hds
  go_wp2_with (fail)
  refine (rof_c An cn (comB salt l) w1 HRn.out HLn.out (comB_u8 HS.out.2 HU.out (by have := HL.out; omega)) (by have := comB_len (b := l) HS.out.2 (by have := HL.out; omega); have := HL.out; omega)).mono ?_
  rintro e w6 ⟨rfl, hb6⟩
  rw [show sumV (shaB (comB salt l)) = .agg D by rw [← HD.out]]
  have HZ6 := Aside0.mk (blk_below HZ1.out hb6)
  have HB6 := Aside0.mk (below_step HB1.out hb6)
  clear hb6
  go_wp2_with ((with_reducible refine gate_store (t := 23) (p := 4) (v := .tmp 8) rfl ?_); refine wpList_store_row rfl 23 (.tmp 4) (.tmp 8) rfl w.heap.size D rfl rfl 23 Z32 HZ6.out HIF.out HSZ.out HONE.out ?_)
  have HSR := setRow_heap w6 w.heap.size Z32 D _ _ HZ6.out
  refine bodyPost_ret (v := .agg D) (results_cell_row rfl _ _ w.heap.size 23 D (0, 0) _ rfl HSR Try.underlying23 rfl HIF.out) rfl ⟨by rw [← HD.out], below_setRow HB6.out (Nat.le_refl _) D⟩
end Go.Proofs.Ytfpkgdenohcglaa.Com
/- The document's Hex walked. -/
namespace Go.Proofs.Ytfpkgdenohcglaa.Sha
set_option linter.unusedVariables false
open Go.RowKit Go.Proofs.Ytfpkgdenohcglaa.Base Go.Proofs.Ytfpkgdenohcglaa.ShaPlain Go.Proofs.Ytfpkgdenohcglaa.Aid Go.Proofs.YtfpkgdenohcglaaW.PrintWords Go.Proofs.YtfpkgdenohcglaaW.PrintLast Go.Proofs.YtfpkgdenohcglaaW.PrintMore
end Go.Proofs.Ytfpkgdenohcglaa.Sha
/- ShaSums: the law's walk. -/
namespace Go.Proofs.Ytfpkgdenohcglaa.Sha
set_option linter.unusedVariables false
set_option linter.unusedSimpArgs false
open Go.RowKit Go.Proofs.Ytfpkgdenohcglaa.Base Go.Proofs.Ytfpkgdenohcglaa.ShaPlain Go.Proofs.Ytfpkgdenohcglaa.Aid Go.Proofs.YtfpkgdenohcglaaW.PrintWords Go.Proofs.YtfpkgdenohcglaaW.PrintLast Go.Proofs.YtfpkgdenohcglaaW.PrintMore
theorem range_blk {w : World} {g T : Nat} {cs : List Value} (h : w.heap[g]? = some (.cells cs.toArray T (0, 0))) : w.rangeAt g 0 cs := fun j v hv => by
  rw [Nat.zero_add, blk_cell h j]
  simpa using hv
end Go.Proofs.Ytfpkgdenohcglaa.Sha
/- commit: Check walked; the example of layer 7. -/
namespace Go.Proofs.Ytfpkgdenohcglaa.Com
set_option linter.unusedVariables false
set_option linter.unusedSimpArgs false
open Go.RowKit Go.Proofs.Ytfpkgdenohcglaa.Base Go.Proofs.Ytfpkgdenohcglaa.TlvPlain Go.Proofs.Ytfpkgdenohcglaa.ShaPlain Go.Proofs.Ytfpkgdenohcglaa.Sha Go.Proofs.Ytfpkgdenohcglaa.Lo Go.Proofs.Ytfpkgdenohcglaa.Aid Go.Proofs.YtfpkgdenohcglaaW.PrintWords Go.Proofs.YtfpkgdenohcglaaW.PrintLast Go.Proofs.YtfpkgdenohcglaaW.PrintMore
theorem size_32 {cs : List Value} (h : cs.length = 32) : (Try.prog.info? 23).map (·.size) = some cs.length := by rw [h]; exact info_32
set_option maxHeartbeats 4000000 in
set_option maxRecDepth 100000 in
theorem chk_c (com : List Int) (hcom : com.length = 32) (salt : Int) (h0 : 0 ≤ salt) (h1 : salt ≤ 18446744073709551615) (A : Option Addr) (c : Nat) (l : List Int) (w : World) (hr : Rb w A l) (hc : l.length ≤ c) (hu : U8 l) (hl : l.length ≤ 100000) :
    Calls Try.prog 71 #[.agg (nums .u8 com).toArray, .int .u64 salt, .slice A l.length c] w fun e w' => e = .returned (.bool (decide (shaB (comB salt l) = com))) ∧ Below w.heap.size w w' := by
  have HR := Aside0.mk hr
  have HOF := Aside0.mk (fun W (hW : Rb W A l) => cof_c salt h0 h1 A c l W hW hc hu hl)
  have HEQ := Aside0.mk (run_eq_sum (shaB (comB salt l)) com (shaB_len _) hcom)
  obtain ⟨bb, hbb⟩ : ∃ bb, decide (shaB (comB salt l) = com) = bb := ⟨_, rfl⟩
  obtain ⟨cs, hcs⟩ : ∃ cs, nums .u8 (shaB (comB salt l)) = cs := ⟨_, rfl⟩
  obtain ⟨cc, hcc⟩ : ∃ cc, nums .u8 com = cc := ⟨_, rfl⟩
  have HIC := Aside0.mk (size_32 (cs := cc) (by rw [← hcc]; simp [nums, hcom]))
  simp only [sumV] at HOF HEQ
  rw [hcs] at HOF
  rw [hcs, hcc, hbb] at HEQ
  rw [hcc, hbb]
  clear hr hc hu hl h0 h1 hcom hcs hcc hbb
  go_enter Try.func71, Try.ntmps71
  go_wp2_with (fail)
  have HG := Aside0.mk (show (w.alloc (.cells cc.toArray 23)).heap[w.heap.size]? = some (.cells cc.toArray 23 (0, 0)) from blk_new _ _)
  have HB := Aside0.mk (below_alloc (Below.refl w.heap.size w) (.cells cc.toArray 23))
  obtain ⟨W, hW⟩ : ∃ W, w.alloc (.cells cc.toArray 23) = W := ⟨_, rfl⟩
  obtain ⟨g, hg⟩ : ∃ g, w.heap.size = g := ⟨_, rfl⟩
  rw [hW] at HG HB ⊢
  rw [hg] at HG ⊢
  clear hW hg
  have hguard := guard_32
  have heq := HEQ.out
  have hu24 := Try.underlying23
  refine wp_region_held_drew (S := fun w' => w'.rangeAt g 0 cc) (by kernel_rfl) (range_blk HG.out) (fun hHeld => ?_)
  (refine wpAnyH_take (i := 0) (v := ?_) rfl (by kernel_rfl) (by kernel_rfl) (by kernel_rfl) (fun _ _ _ h => h) (Or.inl ⟨by rfl, ?_⟩) (by assumption) ?_; (case' refine_2 => (intro w hSw; go_simp; try with_reducible rfl)); (try simp only [Act.put, List.getElem_toArray, List.getElem_cons_zero, List.getElem_cons_succ, List.setIfInBounds_toArray, List.set_cons_zero, List.set_cons_succ]))
  (refine wpAnyH_take (i := 1) (v := ?_) rfl (by kernel_rfl) (by kernel_rfl) (by kernel_rfl) (fun _ _ _ h => h) (Or.inl ⟨by rfl, ?_⟩) (by assumption) ?_; (case' refine_2 => (intro w hSw; go_simp; try with_reducible rfl)); (try simp only [Act.put, List.getElem_toArray, List.getElem_cons_zero, List.getElem_cons_succ, List.setIfInBounds_toArray, List.set_cons_zero, List.set_cons_succ]))
  (refine wpAnyH_take (i := 3) rfl (by kernel_rfl) (by kernel_rfl) (by kernel_rfl) (fun _ _ _ h => h) (yieldsIf_load_mid (by rfl) _ _ rfl _ _ rfl _ _ (fun _ h => h) (by assumption) rfl HIC.out) (by assumption) ?_; (try simp only [Act.put, List.getElem_toArray, List.getElem_cons_zero, List.getElem_cons_succ, List.setIfInBounds_toArray, List.set_cons_zero, List.set_cons_succ]))
  (refine wpAnyH_ready (rs := [2]) (by kernel_rfl) (by simp) (AllReadyH.cons rfl (fun K hK => ?_) AllReadyH.nil); go_simp)
  refine (HOF.out _ (Kd.C_below HR.out (below_drew1 HB.out))).mono ?_
  rintro e w3 ⟨rfl, hb⟩
  have HG3 := Aside0.mk (blk_below HG.out (below_drew_of hb))
  have HB3 := Aside0.mk (below_step HB.out (below_drew_of hb))
  clear hb
  (refine Shut.out hK _ _ (range_blk HG3.out) (fun hHeld => ?_); clear hK K; (try simp only [Act.put, List.getElem_toArray, List.getElem_cons_zero, List.getElem_cons_succ, List.setIfInBounds_toArray, List.set_cons_zero, List.set_cons_succ]))
  (refine wpAnyH_take (i := 4) (v := ?_) rfl (by kernel_rfl) (by kernel_rfl) (by kernel_rfl) (fun _ _ _ h => h) (Or.inl ⟨by rfl, ?_⟩) (by assumption) ?_; (case' refine_2 => (intro w hSw; go_simp; try with_reducible rfl)); (try simp only [Act.put, List.getElem_toArray, List.getElem_cons_zero, List.getElem_cons_succ, List.setIfInBounds_toArray, List.set_cons_zero, List.set_cons_succ]))
  (refine wpAnyH_take (i := 5) (v := ?_) rfl (by kernel_rfl) (by kernel_rfl) (by kernel_rfl) (fun _ _ _ h => h) (Or.inl ⟨by rfl, ?_⟩) (by assumption) ?_; (case' refine_2 => (intro w hSw; go_simp; try with_reducible rfl)); (try simp only [Act.put, List.getElem_toArray, List.getElem_cons_zero, List.getElem_cons_succ, List.setIfInBounds_toArray, List.set_cons_zero, List.set_cons_succ]))
  refine wpAnyH_done (by kernel_rfl) ?_ _
  go_wp2_with (fail)
  go_ret
  exact ⟨rfl, HB3.out⟩
end Go.Proofs.Ytfpkgdenohcglaa.Com
/- What an array argument reads as. -/
namespace Go.Proofs.Ytfpkgdenohcglaa.Open
open Go.Proofs.Ytfpkgdenohcglaa.Base Go.RowKit Go.Proofs.YtfpkgdenohcglaaW.PrintWords Go.Proofs.YtfpkgdenohcglaaW.PrintLast Go.Proofs.YtfpkgdenohcglaaW.PrintMore
theorem opensN_array {P : Program} {n N : Nat} {t e : TypeId} {α : Type} {d : Kd α} {ok : α → Prop} (hs : 0 < d.sz) (ht : P.underlying t = some (.array N e)) (hc : P.cellsOf t = N * d.sz) (he : P.cellsOf e = d.sz) (hd : OpensN P n e d ok) : OpensN P (n + 1) t (Kd.arr N d hs) (fun xs => ∀ x ∈ xs, ok x) := by
  intro H enc w base held cs x h
  unfold DataW.trod at h
  rw [ht] at h
  have h' : (if cs.length = P.cellsOf t then ((List.range N).mapM fun i => DataW.trod enc P w base (fun _ => true) held n e ((cs.drop (i * P.cellsOf e)).take (P.cellsOf e))).map fun xs => (DataW.agg (xs.map (·.1)), xs.flatMap (·.2)) else none) = some x := by
    revert h
    split <;> simp_all
  split at h'
  · next hl =>
    obtain ⟨ys, h1, _⟩ := Option.map_eq_some_iff.1 h'
    obtain ⟨xs, hxl, hxs⟩ := choose_list (α := α) (p := fun i v => d.K w v ((cs.drop (i * d.sz)).take d.sz) ∧ ok v) N (fun i hi => by
      have h2 := mapM_some_get h1 i i (by simp [hi])
      have hlen : ys.length = N := by have := mapM_some_length h1; simpa using this
      rw [List.getElem?_eq_getElem (show i < ys.length by omega), he] at h2
      exact hd _ _ _ _ _ _ _ h2)
    refine ⟨xs, ⟨hxl, by rw [hl, hc, hxl], fun j p hj => (hxs j p hj).1⟩, fun y hy => ?_⟩
    obtain ⟨i, hi, rfl⟩ := List.mem_iff_getElem.1 hy
    exact (hxs i _ (List.getElem?_eq_getElem hi)).2
  · cases h'
theorem opens_array {P : Program} {N : Nat} {t e : TypeId} {α : Type} {d : Kd α} {ok : α → Prop} (hs : 0 < d.sz) (ht : P.underlying t = some (.array N e)) (hc : P.cellsOf t = N * d.sz) (he : P.cellsOf e = d.sz) (hd : Opens P e d ok) : Opens P t (Kd.arr N d hs) (fun xs => ∀ x ∈ xs, ok x) := by
  intro n
  cases n with
  | zero => intro H enc w base held cs x h; simp [DataW.trod] at h
  | succ n => exact opensN_array hs ht hc he (hd n)
/-- The cells of an array of numbers. -/
theorem nums_arr {w : World} {k : IntKind} {N : Nat} {hs : 0 < (Kd.int k).sz} {xs : List Int} {cs : List Value} (h : (Kd.arr N (Kd.int k) hs).K w xs cs) : cs = nums k xs := by
  apply List.ext_getElem?
  intro i
  have hl : cs.length = xs.length := by rw [h.2.1]; show _ * 1 = _; omega
  cases hx : xs[i]? with
  | none =>
    rw [List.getElem?_eq_none_iff] at hx
    rw [List.getElem?_eq_none_iff.2 (by omega), nums, List.getElem?_map, List.getElem?_eq_none_iff.2 hx]
    rfl
  | some y =>
    have hi := (List.getElem?_eq_some_iff.1 hx).1
    have h2 := h.2.2 i y hx
    rw [nums, List.getElem?_map, hx]
    have h3 : (cs.drop (i * (Kd.int k).sz)).take (Kd.int k).sz = [.int k y] := h2
    have h4 : ((cs.drop (i * (Kd.int k).sz)).take (Kd.int k).sz)[0]? = cs[i]? := by
      rw [List.getElem?_take, if_pos hs, List.getElem?_drop, show i * (Kd.int k).sz + 0 = i by show i * 1 + 0 = i; omega]
    rw [← h4, h3]
    rfl
end Go.Proofs.Ytfpkgdenohcglaa.Open
/- CommitOf: the law's walk. -/
namespace Go.Proofs.Ytfpkgdenohcglaa.Com
set_option linter.unusedVariables false
set_option linter.unusedSimpArgs false
open Go.RowKit Go.Proofs.Ytfpkgdenohcglaa.Base Go.Proofs.Ytfpkgdenohcglaa.TlvPlain Go.Proofs.Ytfpkgdenohcglaa.ShaPlain Go.Proofs.Ytfpkgdenohcglaa.Sha Go.Proofs.Ytfpkgdenohcglaa.Lo Go.Proofs.Ytfpkgdenohcglaa.Aid Go.Proofs.YtfpkgdenohcglaaW.PrintWords Go.Proofs.YtfpkgdenohcglaaW.PrintLast Go.Proofs.YtfpkgdenohcglaaW.PrintMore
theorem u64_wf {n : Int} (h : (Lit.int .u64 n).wf = true) : 0 ≤ n ∧ n ≤ 18446744073709551615 := by
  simp only [Lit.wf, IntKind.min, IntKind.max, IntKind.signed, IntKind.bits, Bool.and_eq_true] at h
  simp at h
  omega
end Go.Proofs.Ytfpkgdenohcglaa.Com
/- commit: Link walked. -/
namespace Go.Proofs.Ytfpkgdenohcglaa.Com
set_option linter.unusedVariables false
set_option linter.unusedSimpArgs false
open Go.RowKit Go.Proofs.Ytfpkgdenohcglaa.Base Go.Proofs.Ytfpkgdenohcglaa.TlvPlain Go.Proofs.Ytfpkgdenohcglaa.ShaPlain Go.Proofs.Ytfpkgdenohcglaa.Sha Go.Proofs.Ytfpkgdenohcglaa.Lo Go.Proofs.Ytfpkgdenohcglaa.Aid Go.Proofs.YtfpkgdenohcglaaW.PrintWords Go.Proofs.YtfpkgdenohcglaaW.PrintLast Go.Proofs.YtfpkgdenohcglaaW.PrintMore
/-- What is summed for a link. -/
def linkB (seq : Int) (p c : List Int) : List Int := 2 :: (intB seq ++ (p ++ c))
theorem rb_blk {w : World} {g T : Nat} {xs : List Int} (h : w.heap[g]? = some (.cells (nums .u8 xs).toArray T (0, 0))) (hm : xs.length ≤ 9223372036854775807) : Rb w (some ⟨g, 0, none⟩) xs := by
  refine Kd.C_of_reads (d := (0 : Int)) ⟨rfl, hm, fun _ => ⟨_, rfl, fun j hj => ?_⟩⟩
  rw [add_plain, blk_cell h j]
  simp [nums, List.getElem?_eq_getElem hj, rd, List.getD_eq_getElem?_getD]
set_option maxHeartbeats 4000000 in
set_option maxRecDepth 100000 in
theorem link_c (seq : Int) (p q : List Int) (hp : p.length = 32) (hq : q.length = 32) (hpu : U8 p) (hqu : U8 q) (w : World) :
    Calls Try.prog 91 #[.int .i64 seq, .agg (nums .u8 p).toArray, .agg (nums .u8 q).toArray] w fun e w' => e = .returned (sumV (shaB (linkB seq p q))) ∧ Below w.heap.size w w' := by
  obtain ⟨P, hP⟩ : ∃ P, (nums .u8 p).toArray = P := ⟨_, rfl⟩
  obtain ⟨C, hC⟩ : ∃ C, (nums .u8 q).toArray = C := ⟨_, rfl⟩
  have HP := Aside0.mk hP
  have HC := Aside0.mk hC
  have HLP := Aside0.mk (And.intro hp hq)
  have HU := Aside0.mk (And.intro hpu hqu)
  rw [hP, hC]
  clear hP hC hp hq hpu hqu
  go_enter Try.func91, Try.ntmps91
  go_wp2_with (fail)
  have e1 : (w.alloc (.cells P 23)).heap.size = w.heap.size + 1 := by simp
  have e2 : ((w.alloc (.cells P 23)).alloc (.cells C 23)).heap.size = w.heap.size + 1 + 1 := by simp
  have HG := Aside0.mk (show (((w.alloc (.cells P 23)).alloc (.cells C 23)).alloc (.cells Z32 23)).heap[w.heap.size]? = some (.cells P 23 (0, 0)) from blk_alloc (blk_alloc (blk_new _ _) _) _)
  have HH := Aside0.mk (show (((w.alloc (.cells P 23)).alloc (.cells C 23)).alloc (.cells Z32 23)).heap[w.heap.size + 1]? = some (.cells C 23 (0, 0)) from blk_alloc (second_new' _ _ _) _)
  have HZ := Aside0.mk (show (((w.alloc (.cells P 23)).alloc (.cells C 23)).alloc (.cells Z32 23)).heap[w.heap.size + 1 + 1]? = some (.cells Z32 23 (0, 0)) from third_new _ _ _ _)
  have HB := Aside0.mk (show Below w.heap.size w (((w.alloc (.cells P 23)).alloc (.cells C 23)).alloc (.cells Z32 23)) from below_alloc (below_alloc (below_alloc (Below.refl _ _) _) _) _)
  obtain ⟨W, hW⟩ : ∃ W, ((w.alloc (.cells P 23)).alloc (.cells C 23)).alloc (.cells Z32 23) = W := ⟨_, rfl⟩
  rw [hW] at HG HH HZ HB
  rw [show ((w.alloc (.cells P 23)).alloc (.cells C 23)).alloc (.cells #[.int .u8 0, .int .u8 0, .int .u8 0, .int .u8 0, .int .u8 0, .int .u8 0, .int .u8 0, .int .u8 0, .int .u8 0, .int .u8 0, .int .u8 0, .int .u8 0, .int .u8 0, .int .u8 0, .int .u8 0, .int .u8 0, .int .u8 0, .int .u8 0, .int .u8 0, .int .u8 0, .int .u8 0, .int .u8 0, .int .u8 0, .int .u8 0, .int .u8 0, .int .u8 0, .int .u8 0, .int .u8 0, .int .u8 0, .int .u8 0, .int .u8 0, .int .u8 0] 23) = W from hW]
  clear hW e1 e2
  obtain ⟨g0, hg0⟩ : ∃ g, w.heap.size = g := ⟨_, rfl⟩
  have HG0 := Aside0.mk hg0
  rw [hg0] at HG HH HZ ⊢
  clear hg0
  refine wp_region_held_drew (S := fun _ => True) (by kernel_rfl) trivial (fun hHeld => ?_)
  (refine wpAnyH_take (i := 0) (v := ?_) rfl (by kernel_rfl) (by kernel_rfl) (by kernel_rfl) (fun _ _ _ h => h) (Or.inl ⟨by rfl, ?_⟩) (by assumption) ?_; (case' refine_2 => (intro w hSw; go_simp; try with_reducible rfl)); (try simp only [Act.put, List.getElem_toArray, List.getElem_cons_zero, List.getElem_cons_succ, List.setIfInBounds_toArray, List.set_cons_zero, List.set_cons_succ]))
  (refine wpAnyH_take (i := 2) (v := ?_) rfl (by kernel_rfl) (by kernel_rfl) (by kernel_rfl) (fun _ _ _ h => h) (Or.inl ⟨by rfl, ?_⟩) (by assumption) ?_; (case' refine_2 => (intro w hSw; go_simp; try with_reducible rfl)); (try simp only [Act.put, List.getElem_toArray, List.getElem_cons_zero, List.getElem_cons_succ, List.setIfInBounds_toArray, List.set_cons_zero, List.set_cons_succ]))
  (refine wpAnyH_take (i := 3) (v := ?_) rfl (by kernel_rfl) (by kernel_rfl) (by kernel_rfl) (fun _ _ _ h => h) (Or.inl ⟨by rfl, ?_⟩) (by assumption) ?_; (case' refine_2 => (intro w hSw; go_simp; try with_reducible rfl)); (try simp only [Act.put, List.getElem_toArray, List.getElem_cons_zero, List.getElem_cons_succ, List.setIfInBounds_toArray, List.set_cons_zero, List.set_cons_succ]))
  (refine wpAnyH_ready (rs := [1]) (by kernel_rfl) (by simp) (AllReadyH.cons rfl (fun K hK => ?_) AllReadyH.nil); go_simp)
  refine (int_c seq _).mono ?_
  rintro e w3 ⟨v, rfl, ho, hb⟩
  have hb' := below_drew_of hb
  have HG3 := Aside0.mk (blk_below HG.out hb')
  have HH3 := Aside0.mk (blk_below HH.out hb')
  have HZ3 := Aside0.mk (blk_below HZ.out hb')
  have HB3 := Aside0.mk (below_step HB.out hb')
  clear hb hb'
  obtain ⟨An, cn, rfl, hl_, hr_⟩ := Ob.reads ho; have HRn := Aside0.mk hr_; have HLn := Aside0.mk hl_; clear ho hl_ hr_
  (refine Shut.out hK _ _ trivial (fun hHeld => ?_); clear hK K; (try simp only [Act.put, List.getElem_toArray, List.getElem_cons_zero, List.getElem_cons_succ, List.setIfInBounds_toArray, List.set_cons_zero, List.set_cons_succ]))
  (refine wpAnyH_ready (rs := [4]) (by kernel_rfl) (by simp) (AllReadyH.cons rfl (fun K hK => ?_) AllReadyH.nil); go_simp)
  have HRR := Aside0.mk (show Rr (w3.alloc (.cells #[.slice An (intB seq).length cn, .slice (some ⟨g0, 0, none⟩) 32 32, .slice (some ⟨g0 + 1, 0, none⟩) 32 32] 25)) (some ⟨w3.heap.size, 0, none⟩) [intB seq, p, q] from lit_rr (blk_new w3 _) _ (by simp) (fun j l hj => by
    match j, hj with
    | 0, hj => cases hj; exact ⟨An, cn, rfl, HLn.out, Kd.C_alloc HRn.out _⟩
    | 1, hj => cases hj; exact ⟨some ⟨g0, 0, none⟩, 32, by rw [HLP.out.1]; rfl, Nat.le_of_eq HLP.out.1, rb_blk (by have h := blk_alloc HG3.out (.cells #[.slice An (intB seq).length cn, .slice (some ⟨g0, 0, none⟩) 32 32, .slice (some ⟨g0 + 1, 0, none⟩) 32 32] 25); rw [← HP.out] at h; exact h) (by rw [HLP.out.1]; decide)⟩
    | 2, hj => cases hj; exact ⟨some ⟨g0 + 1, 0, none⟩, 32, by rw [HLP.out.2]; rfl, Nat.le_of_eq HLP.out.2, rb_blk (by have h := blk_alloc HH3.out (.cells #[.slice An (intB seq).length cn, .slice (some ⟨g0, 0, none⟩) 32 32, .slice (some ⟨g0 + 1, 0, none⟩) 32 32] 25); rw [← HC.out] at h; exact h) (by rw [HLP.out.2]; decide)⟩))
  have HZ4 := Aside0.mk (blk_alloc HZ3.out (.cells #[.slice An (intB seq).length cn, .slice (some ⟨g0, 0, none⟩) 32 32, .slice (some ⟨g0 + 1, 0, none⟩) 32 32] 25))
  have HB4 := Aside0.mk (below_alloc HB3.out (.cells #[.slice An (intB seq).length cn, .slice (some ⟨g0, 0, none⟩) 32 32, .slice (some ⟨g0 + 1, 0, none⟩) 32 32] 25))
  (refine Shut.out hK _ _ trivial (fun hHeld => ?_); clear hK K; (try simp only [Act.put, List.getElem_toArray, List.getElem_cons_zero, List.getElem_cons_succ, List.setIfInBounds_toArray, List.set_cons_zero, List.set_cons_succ]))
  (refine wpAnyH_ready (rs := [5]) (by kernel_rfl) (by simp) (AllReadyH.cons rfl (fun K hK => ?_) AllReadyH.nil); go_simp)
  refine (csum_c 2 (by decide) (some ⟨w3.heap.size, 0, none⟩) 3 [intB seq, p, q] _ HRR.out (by simp) (by
    intro x hx y hy
    rcases List.mem_cons.1 hx with rfl | hx
    · exact numB_u8 (u64_range seq).2 y hy
    · rcases List.mem_cons.1 hx with rfl | hx
      · exact HU.out.1 y hy
      · rw [List.mem_singleton.1 hx] at hy
        exact HU.out.2 y hy) (by
    have h2 := numB_len (u64_range seq).2
    have h3 := HLP.out
    simp only [List.flatten_cons, List.flatten_nil, List.append_nil, List.length_append, intB]
    omega) (by simp)).mono ?_
  rintro e w6 ⟨rfl, hb6⟩
  obtain ⟨D, hD⟩ : ∃ D, (nums .u8 (shaB (linkB seq p q))).toArray = D := ⟨_, rfl⟩
  have HD := Aside0.mk hD
  have hds : D.size = 32 := by rw [← hD]; simp [nums, shaB_len]
  have HIF := Aside0.mk (show (Try.prog.info? 23).map (·.size) = some D.size by rw [hds]; exact info_32)
  have HSZ := Aside0.mk (show Z32.size = D.size by rw [hds]; simp [Z32, nums])
  have HONE := Aside0.mk (show D.all (·.oneCell') = true by rw [← hD]; exact nums_one _ _)
  rw [show sumV (shaB (2 :: [intB seq, p, q].flatten)) = .agg D by rw [← HD.out, linkB]; simp]
  have HZ6 := Aside0.mk (blk_below HZ4.out hb6)
  have HB6 := Aside0.mk (below_step HB4.out hb6)
  clear hb6 hD hds
  (refine Shut.out hK _ _ trivial (fun hHeld => ?_); clear hK K; (try simp only [Act.put, List.getElem_toArray, List.getElem_cons_zero, List.getElem_cons_succ, List.setIfInBounds_toArray, List.set_cons_zero, List.set_cons_succ]))
  refine wpAnyH_ready (rs := [6]) (by kernel_rfl) (by simp) (AllReadyH.cons rfl (fun K hK => ?_) AllReadyH.nil)
  rw [if_pos (by rfl)]
  refine wp_store_row 23 (.tmp 6) (.tmp 12) rfl (g0 + 1 + 1) D rfl rfl 23 Z32 HZ6.out HIF.out HSZ.out HONE.out ?_
  (refine Shut.out hK _ _ trivial (fun hHeld => ?_); clear hK K; (try simp only [Act.put, List.getElem_toArray, List.getElem_cons_zero, List.getElem_cons_succ, List.setIfInBounds_toArray, List.set_cons_zero, List.set_cons_succ]))
  refine wpAnyH_done (by kernel_rfl) ?_ _
  go_wp2_with (fail)
  have HSR := setRow_heap w6 (g0 + 1 + 1) Z32 D _ _ HZ6.out
  refine bodyPost_ret (v := .agg D) (results_cell_row rfl _ _ (g0 + 1 + 1) 23 D (0, 0) _ rfl HSR Try.underlying23 rfl HIF.out) rfl ⟨by rw [← HD.out], below_setRow HB6.out (by have := HG0.out; omega) D⟩
end Go.Proofs.Ytfpkgdenohcglaa.Com
/- The document's text of a link, and its sum. -/
namespace Go.Proofs.Ytfpkgdenohcglaa.Com
set_option linter.unusedVariables false
set_option linter.unusedSimpArgs false
open Go.RowKit Go.Proofs.Ytfpkgdenohcglaa.Base Go.Proofs.Ytfpkgdenohcglaa.TlvPlain Go.Proofs.Ytfpkgdenohcglaa.ShaPlain Go.Proofs.Ytfpkgdenohcglaa.Sha Go.Proofs.Ytfpkgdenohcglaa.Lo Go.Proofs.Ytfpkgdenohcglaa.Aid Go.Proofs.YtfpkgdenohcglaaW.PrintWords Go.Proofs.YtfpkgdenohcglaaW.PrintLast Go.Proofs.YtfpkgdenohcglaaW.PrintMore
theorem intB_len (n : Int) : (intB n).length ≤ 9 := numB_len (u64_range n).2
end Go.Proofs.Ytfpkgdenohcglaa.Com
/- CommitLinks: the document's link, the law's walk. -/
namespace Go.Proofs.Ytfpkgdenohcglaa.Com
set_option linter.unusedVariables false
set_option linter.unusedSimpArgs false
open Go.RowKit Go.Proofs.Ytfpkgdenohcglaa.Base Go.Proofs.Ytfpkgdenohcglaa.TlvPlain Go.Proofs.Ytfpkgdenohcglaa.ShaPlain Go.Proofs.Ytfpkgdenohcglaa.Sha Go.Proofs.Ytfpkgdenohcglaa.Lo Go.Proofs.Ytfpkgdenohcglaa.Aid Go.Proofs.YtfpkgdenohcglaaW.PrintWords Go.Proofs.YtfpkgdenohcglaaW.PrintLast Go.Proofs.YtfpkgdenohcglaaW.PrintMore
end Go.Proofs.Ytfpkgdenohcglaa.Com
/- Arrays of bytes as values, in blocks, in rows (as in the tree's texts). -/
namespace Go.Proofs.Ytfpkgdenohcglaa.Chn
set_option linter.unusedVariables false
set_option linter.unusedSimpArgs false
open Go.RowKit Go.Proofs.Ytfpkgdenohcglaa.Base Go.Proofs.Ytfpkgdenohcglaa.TlvPlain Go.Proofs.Ytfpkgdenohcglaa.ShaPlain Go.Proofs.Ytfpkgdenohcglaa.Sha Go.Proofs.Ytfpkgdenohcglaa.Com Go.Proofs.Ytfpkgdenohcglaa.Aid Go.Proofs.YtfpkgdenohcglaaW.PrintWords Go.Proofs.YtfpkgdenohcglaaW.PrintLast Go.Proofs.YtfpkgdenohcglaaW.PrintMore
abbrev Sm := List Int
def Z : Sm := List.replicate 32 0
def U8' (x : Sm) : Prop := ∀ y ∈ x, 0 ≤ y ∧ y ≤ 255
theorem Z_len : Z.length = 32 := rfl
theorem Z_u8 : U8' Z := fun y hy => by have := List.eq_of_mem_replicate hy; omega
/-- The cells of a sum. -/
structure SumF (D : Array Value) (d : List Int) : Prop where
  eq : (nums .u8 d).toArray = D
  len : d.length = 32
  info : (Try.prog.info? 23).map (·.size) = some D.size
  zs : Z32.size = D.size
  one : D.all (·.oneCell') = true
theorem SumF.v {D : Array Value} {d : List Int} (h : SumF D d) : sumV d = .agg D := by rw [← h.eq]
abbrev Ret (w : World) (d : List Int) : Ending → World → Prop := fun e w' => e = .returned (sumV d) ∧ Below w.heap.size w w'
abbrev KS : Kd (List Int) := Kd.arr 32 (Kd.int .u8) (by decide)
def Lu (l : List Sm) : Prop := ∀ x ∈ l, x.length = 32 ∧ U8' x
theorem Lu.take {l : List Sm} (h : Lu l) (k : Nat) : Lu (l.take k) := fun x hx => h x (List.mem_of_mem_take hx)
theorem Lu.drop {l : List Sm} (h : Lu l) (k : Nat) : Lu (l.drop k) := fun x hx => h x (List.mem_of_mem_drop hx)
def AtC (w : World) (ad : Addr) (cs : List Value) : Prop := ∀ j v, cs[j]? = some v → w.cell? (ad.add j) = some v
theorem addr_add_add (a : Addr) (i j : Nat) : (a.add i).add j = a.add (i + j) := by
  unfold Addr.add
  by_cases hi : i = 0
  · subst hi; simp
  · by_cases hj : j = 0
    · subst hj; simp
    · rw [if_neg hi, if_neg hj, if_neg (by omega), Nat.add_assoc]
section
variable {P : Program}
theorem run_loadVar_at (w : World) (ad : Addr) (ty : TypeId) (cs : List Value) (d : TypeDesc) (hc : AtC w ad cs)
    (hu : P.underlying ty = some d) (hd : d.isRow = true) (hi : (P.info? ty).map (·.size) = some cs.length) :
    (loadVar ty ad).run P w = .ok (.agg cs.toArray) w := by
  have hl : (loadCells ad cs.length).run P w = .ok cs.toArray w := run_loadCells_list (P := P) w ad cs hc
  cases hq : P.info? ty with
  | none => simp [hq] at hi
  | some i =>
    have hs : i.size = cs.length := by simpa [hq] using hi
    have hagg : (isAgg ty).run P w = .ok true w := by
      unfold isAgg
      rw [Sem.run_bind, run_underlying hu w]
      cases d <;> simp_all
    simp [loadVar, Sem.run_bind, hagg, sizeOf, typeInfo, hq, hs, hl]
theorem wpList_load_at {ops : Array Oper} {rest : List Oper} {op : Oper} {a : Act} {w : World} {Q : Exit → Act → World → Prop} (hgd : op.guard = none) (ty : TypeId) (x : Operand) (ho : op.op = .load ty x)
    (ad : Addr) (hx : a.eval x = .pointer (some ad)) (cs : List Value) (d : TypeDesc) (hc : AtC w ad cs)
    (hu : P.underlying ty = some d) (hd : d.isRow = true) (hi : (P.info? ty).map (·.size) = some cs.length)
    (h : wpList P ops Q rest (a.put op.dst (.agg cs.toArray)) w) : wpList P ops Q (op :: rest) a w :=
  wpList_plain hgd fun _ hK => by
    unfold Oper.wp execOp
    simp only [ho, hx, Instr.loadAt, Instr.sureAddr, Sem.run_bind, Sem.run_pure, Result.andThen_ok, run_loadVar_at w ad ty cs d hc hu hd hi]
    exact hK _ _ h
theorem yieldsIf_load_at {ops : Array Oper} {S : World → Prop} {op : Oper} {a : Act} (hw : Region.wanted op (yielded ops a.tmps) = true) (ty : TypeId) (x : Operand) (ho : op.op = .load ty x)
    (ad : Addr) (hx : a.eval x = .pointer (some ad)) (cs : List Value) (d : TypeDesc) (hS : ∀ w, S w → AtC w ad cs)
    (hu : P.underlying ty = some d) (hd : d.isRow = true) (hi : (P.info? ty).map (·.size) = some cs.length) : YieldsIf P ops S op (.agg cs.toArray) a :=
  .inl ⟨hw, fun w hw' => by
    unfold execOp
    simp only [ho, hx, Instr.loadAt, Instr.sureAddr, Sem.run_bind, Sem.run_pure, Result.andThen_ok, run_loadVar_at w ad ty cs d (hS w hw') hu hd hi]⟩
end
theorem AtC.below {w w' : World} {ad : Addr} {cs : List Value} (h : AtC w ad cs) (hb : Below w.heap.size w w') : AtC w' ad cs := fun j v hj => (hb.cell (World.block_lt_of_cell? _ _ (h j v hj))).trans (h j v hj)
/-- The cells of a sum, as a list. -/
structure SumC (cs : List Value) (d : Sm) : Prop where
  eq : nums .u8 d = cs
  len : d.length = 32
theorem sumC (d : Sm) (h : d.length = 32) : ∃ cs, SumC cs d := ⟨_, rfl, h⟩
theorem SumC.v {cs : List Value} {d : Sm} (h : SumC cs d) : sumV d = .agg cs.toArray := by rw [← h.eq]
theorem SumC.lenC {cs : List Value} {d : Sm} (h : SumC cs d) : cs.length = 32 := by rw [← h.eq]; simp [nums, h.len]
/-- A new block's cells. -/
theorem atC_blk {W : World} {g T : Nat} {cs : List Value} {fr : Nat × Nat} (h : W.heap[g]? = some (.cells cs.toArray T fr)) : AtC W ⟨g, 0, none⟩ cs := fun j v hj => by
  rw [add_plain]
  unfold World.cell?
  dsimp only
  rw [h]
  simpa using hj
theorem AtC.left {W : World} {ad : Addr} {a b : List Value} (h : AtC W ad (a ++ b)) : AtC W ad a := fun j v hj => h j v (by rw [List.getElem?_append_left (List.getElem?_eq_some_iff.1 hj).1]; exact hj)
theorem AtC.right {W : World} {ad : Addr} {a b : List Value} (h : AtC W ad (a ++ b)) : AtC W (ad.add a.length) b := fun j v hj => by
  rw [addr_add_add]
  exact h _ v (by rw [List.getElem?_append_right (by omega), Nat.add_sub_cancel_left]; exact hj)
theorem SumC.blk {cs : List Value} {d : Sm} (h : SumC cs d) : (Try.prog.info? 23).map (·.size) = some cs.length := by rw [h.lenC]; exact info_32
theorem SumC.blkA {cs : List Value} {d : Sm} (h : SumC cs d) : (Try.prog.info? 23).map (·.size) = some cs.toArray.size := by simp [h.lenC, info_32]
theorem SumC.oneA {cs : List Value} {d : Sm} (h : SumC cs d) : cs.toArray.all (·.oneCell') = true := by rw [← h.eq]; exact nums_one _ _
theorem SumC.zsA {cs : List Value} {d : Sm} (h : SumC cs d) : Z32.size = cs.toArray.size := by simp [Z32, nums, h.lenC]
theorem cell_below {W W' : World} {ad : Addr} {v : Value} (hb : Below W.heap.size W W') (h : W.cell? ad = some v) : W'.cell? ad = some v := (hb.cell (World.block_lt_of_cell? _ _ h)).trans h
abbrev RetB (w : World) (b : Bool) : Ending → World → Prop := fun e w' => e = .returned (.bool b) ∧ Below w.heap.size w w'
section
variable {P : Program} {o : Oper} {a : Act} {Q : Exit → Act → World → Prop} {Kc : Act → World → Prop} {α : Type} {W : World}
end
end Go.Proofs.Ytfpkgdenohcglaa.Chn
/- Chains of entries, plainly; an entry's cells. -/
namespace Go.Proofs.Ytfpkgdenohcglaa.Chn
set_option linter.unusedVariables false
set_option linter.unusedSimpArgs false
open Go.RowKit Go.Proofs.Ytfpkgdenohcglaa.Base Go.Proofs.Ytfpkgdenohcglaa.TlvPlain Go.Proofs.Ytfpkgdenohcglaa.ShaPlain Go.Proofs.Ytfpkgdenohcglaa.Sha Go.Proofs.Ytfpkgdenohcglaa.Com Go.Proofs.Ytfpkgdenohcglaa.Aid Go.Proofs.YtfpkgdenohcglaaW.PrintWords Go.Proofs.YtfpkgdenohcglaaW.PrintLast Go.Proofs.YtfpkgdenohcglaaW.PrintMore
attribute [local irreducible] shaB
/-- seq, prev, com, salt, payload, redacted -/
abbrev Ent := Int × List Int × List Int × Int × List Int × Bool
abbrev seqE (x : Ent) : Int := x.1
abbrev prevE (x : Ent) : Sm := x.2.1
abbrev comE (x : Ent) : Sm := x.2.2.1
abbrev saltE (x : Ent) : Int := x.2.2.2.1
abbrev payE (x : Ent) : List Int := x.2.2.2.2.1
abbrev redE (x : Ent) : Bool := x.2.2.2.2.2
@[irreducible] def linkH (s : Int) (p c : Sm) : Sm := shaB (linkB s p c)
@[irreducible] def comH (s : Int) (b : List Int) : Sm := shaB (comB s b)
theorem linkH_eq (s : Int) (p c : Sm) : linkH s p c = shaB (linkB s p c) := by unfold linkH; rfl
theorem comH_eq (s : Int) (b : List Int) : comH s b = shaB (comB s b) := by unfold comH; rfl
theorem linkH_len (s : Int) (p c : Sm) : (linkH s p c).length = 32 := by rw [linkH_eq]; exact shaB_len _
theorem linkH_u8 (s : Int) (p c : Sm) : U8' (linkH s p c) := by rw [linkH_eq]; exact shaB_u8 _
theorem comH_len (s : Int) (b : List Int) : (comH s b).length = 32 := by rw [comH_eq]; exact shaB_len _
theorem comH_u8 (s : Int) (b : List Int) : U8' (comH s b) := by rw [comH_eq]; exact shaB_u8 _
def linkT (x : Ent) : Sm := linkH (seqE x) (prevE x) (comE x)
theorem linkT_len (x : Ent) : (linkT x).length = 32 := linkH_len _ _ _
theorem linkT_u8 (x : Ent) : U8' (linkT x) := linkH_u8 _ _ _
def headT (l : List Ent) : Sm := match l.getLast? with | none => Z | some x => linkT x
theorem headT_len (l : List Ent) : (headT l).length = 32 := by
  unfold headT
  split
  · exact Z_len
  · exact linkT_len _
theorem headT_u8 (l : List Ent) : U8' (headT l) := by
  unfold headT
  split
  · exact Z_u8
  · exact linkT_u8 _
theorem headT_snoc (l : List Ent) (x : Ent) : headT (l ++ [x]) = linkT x := by
  unfold headT
  rw [List.getLast?_append]
  rfl
def addT (l : List Ent) (salt : Int) (pay : List Int) : List Ent := l ++ [((l.length : Int), headT l, comH salt pay, salt, pay, false)]
def rightT (x : Ent) : Bool := if redE x then decide (saltE x = 0) && decide (payE x = []) else decide (comE x = comH (saltE x) (payE x))
/-- Whether entry i is right, the head behind the ones ahead of it being d. -/
def okT (i : Nat) (d : Sm) (x : Ent) : Bool := decide (seqE x = (i : Int)) && (decide (prevE x = d) && rightT x)
/-- The first entry from i on that is not right, d being the head so far; else how many there are. -/
def badT : List Ent → Nat → Sm → Option Nat
  | [], _, _ => none
  | x :: l, i, d => if okT i d x then badT l (i + 1) (linkT x) else some i
def cutE (x : Ent) : Ent := (seqE x, prevE x, comE x, 0, [], true)
def redT (l : List Ent) (i : Int) : List Ent × Int :=
  if 0 ≤ i ∧ i < l.length then match l[i.toNat]? with
    | none => ([], 5)
    | some x => if redE x then ([], 13) else (l.set i.toNat (cutE x), 0)
  else ([], 5)
/-- What may stand in an entry. -/
structure Eu (x : Ent) : Prop where
  pl : (prevE x).length = 32
  pu : U8' (prevE x)
  cl : (comE x).length = 32
  cu : U8' (comE x)
  s0 : 0 ≤ saltE x
  s1 : saltE x ≤ 18446744073709551615
  u : U8 (payE x)
def Lu' (l : List Ent) : Prop := ∀ x ∈ l, Eu x
abbrev DEnt : Kd Ent := Kd.pair (Kd.int .i64) (Kd.pair KS (Kd.pair KS (Kd.pair (Kd.int .u64) (Kd.pair (Kd.slice 5 (Kd.int .u8)) Kd.bool))))
/-- An entry's cells. -/
def cellsE (s : Int) (P C : List Value) (sl : Int) (A : Option Addr) (n c : Nat) (r : Bool) : List Value := Value.int .i64 s :: (P ++ (C ++ [Value.int .u64 sl, .slice A n c, .bool r]))
structure EntC (w : World) (x : Ent) (P C : List Value) (A : Option Addr) (c : Nat) : Prop where
  fp : SumC P (prevE x)
  fc : SumC C (comE x)
  hc : (payE x).length ≤ c
  r : Rb w A (payE x)
abbrev cE (x : Ent) (P C : List Value) (A : Option Addr) (c : Nat) : List Value := cellsE (seqE x) P C (saltE x) A (payE x).length c (redE x)
theorem ent_open {w : World} {x : Ent} {cs : List Value} (hK : DEnt.K w x cs) : ∃ P C A c, EntC w x P C A c ∧ cs = cE x P C A c := by
  obtain ⟨_, _, e0, h0, P, _, e1, h1, C, _, e2, h2, _, _, e3, h3, _, _, e4, ⟨A, c, h4, hc, hr⟩, h5⟩ := hK
  have g1 := Open.nums_arr h1
  have g2 := Open.nums_arr h2
  refine ⟨P, C, A, c, ⟨⟨g1.symm, h1.1⟩, ⟨g2.symm, h2.1⟩, hc, hr⟩, ?_⟩
  subst e0 e1 e2 e3 e4
  rw [show _ = [Value.int .i64 x.1] from h0, show _ = [Value.int .u64 x.2.2.2.1] from h3, h4, show _ = [Value.bool x.2.2.2.2.2] from h5]
  rfl
theorem EntC.len {w : World} {x : Ent} {P C : List Value} {A : Option Addr} {c : Nat} (h : EntC w x P C A c) : (cE x P C A c).length = 68 := by
  show (cellsE _ _ _ _ _ _ _ _).length = 68
  unfold cellsE
  simp [h.fp.lenC, h.fc.lenC]
theorem EntC.one {w : World} {x : Ent} {P C : List Value} {A : Option Addr} {c : Nat} (h : EntC w x P C A c) : (cE x P C A c).toArray.all (·.oneCell') = true := by
  have e1 : ∀ v ∈ P, v.oneCell' = true := by rw [← h.fp.eq]; intro v hv; obtain ⟨y, _, rfl⟩ := List.mem_map.1 hv; rfl
  have e2 : ∀ v ∈ C, v.oneCell' = true := by rw [← h.fc.eq]; intro v hv; obtain ⟨y, _, rfl⟩ := List.mem_map.1 hv; rfl
  simp only [List.all_toArray, List.all_eq_true]
  intro v hv
  have hv : v ∈ cellsE _ _ _ _ _ _ _ _ := hv
  unfold cellsE at hv
  simp only [List.mem_cons, List.mem_append, List.not_mem_nil, or_false] at hv
  rcases hv with rfl | hv | hv | rfl | rfl | rfl
  · rfl
  · exact e1 v hv
  · exact e2 v hv
  · rfl
  · rfl
  · rfl
theorem ent_mk {w : World} {x : Ent} {P C : List Value} {A : Option Addr} {c : Nat} (h : EntC w x P C A c) : DEnt.K w x (cE x P C A c) := by
  have hp : KS.K w (prevE x) P := by rw [← h.fp.eq]; exact KS.K_of_M (Kd.arr_of_cells (base := 0) (ok := fun _ => True) h.fp.len)
  have hq : KS.K w (comE x) C := by rw [← h.fc.eq]; exact KS.K_of_M (Kd.arr_of_cells (base := 0) (ok := fun _ => True) h.fc.len)
  exact ⟨[Value.int .i64 x.1], _, rfl, rfl, P, _, rfl, hp, C, _, rfl, hq, [Value.int .u64 x.2.2.2.1], _, rfl, rfl, [Value.slice A x.2.2.2.2.1.length c], [Value.bool x.2.2.2.2.2], rfl, ⟨A, c, rfl, h.hc, h.r⟩, rfl⟩
theorem EntC.below {w w' : World} {x : Ent} {P C : List Value} {A : Option Addr} {c : Nat} (h : EntC w x P C A c) (hb : Below w.heap.size w w') : EntC w' x P C A c := ⟨h.fp, h.fc, h.hc, Kd.C_below h.r hb⟩
/-- Entries that are read. -/
abbrev Re (w : World) (A : Option Addr) (l : List Ent) : Prop := Kd.C DEnt w A l.length l
theorem re_at {w : World} {A : Option Addr} {l : List Ent} (h : Re w A l) (i : Nat) (hi : i < l.length) : ∃ ad P C B c, A = some ad ∧ AtC w (ad.add (i * 68)) (cE l[i] P C B c) ∧ EntC w l[i] P C B c := by
  obtain ⟨ad, hA, hc⟩ := h.2.2 (by omega)
  obtain ⟨cs, hl, hK, hat⟩ := hc i l[i] (List.getElem?_eq_getElem hi)
  obtain ⟨P, C, B, c, he, rfl⟩ := ent_open hK
  refine ⟨ad, P, C, B, c, hA, fun j v hj => ?_, he⟩
  rw [addr_add_add]
  exact hat j v hj
theorem info_ent : (Try.prog.info? 27).map (·.size) = some 68 := by kernel_rfl
theorem EntC.info {w : World} {x : Ent} {P C : List Value} {A : Option Addr} {c : Nat} (h : EntC w x P C A c) : (Try.prog.info? 27).map (·.size) = some (cE x P C A c).length := by rw [h.len]; exact info_ent
/-- An entry in a block: its fields. -/
structure EntAt (W : World) (g : Nat) (x : Ent) (P C : List Value) (A : Option Addr) (c : Nat) : Prop where
  s : W.cell? ⟨g, 0, none⟩ = some (.int .i64 (seqE x))
  fp : AtC W ⟨g, 1, none⟩ P
  fc : AtC W ⟨g, 33, none⟩ C
  sl : W.cell? ⟨g, 65, none⟩ = some (.int .u64 (saltE x))
  py : W.cell? ⟨g, 66, none⟩ = some (.slice A (payE x).length c)
  r : W.cell? ⟨g, 67, none⟩ = some (.bool (redE x))
theorem EntAt.below {W W' : World} {g : Nat} {x : Ent} {P C : List Value} {A : Option Addr} {c : Nat} (h : EntAt W g x P C A c) (hb : Below W.heap.size W W') : EntAt W' g x P C A c :=
  ⟨cell_below hb h.s, h.fp.below hb, h.fc.below hb, cell_below hb h.sl, cell_below hb h.py, cell_below hb h.r⟩
theorem entAt_blk {W : World} {g T : Nat} {fr : Nat × Nat} {x : Ent} {P C : List Value} {A : Option Addr} {c : Nat} (hP : P.length = 32) (hC : C.length = 32) (h : W.heap[g]? = some (.cells (cE x P C A c).toArray T fr)) : EntAt W g x P C A c := by
  have h0 := atC_blk h
  have h1 : AtC W ⟨g, 1, none⟩ (P ++ (C ++ [Value.int .u64 (saltE x), .slice A (payE x).length c, .bool (redE x)])) := fun j v hj => by
    have h2 := h0 (j + 1) v (by show (cellsE _ _ _ _ _ _ _ _)[j + 1]? = some v; unfold cellsE; rw [List.getElem?_cons_succ]; exact hj)
    rw [add_plain] at h2
    have e : (⟨g, 1, none⟩ : Addr).add j = ⟨g, j + 1, none⟩ := by
      unfold Addr.add
      split
      · next h => subst h; rfl
      · show (⟨g, 1 + j, none⟩ : Addr) = _
        rw [Nat.add_comm]
    rw [e]
    exact h2
  have h2 := h1.right
  rw [hP] at h2
  have h3 := h2.right
  rw [hC] at h3
  exact ⟨h0 0 _ rfl, h1.left, h2.left, h3 0 _ rfl, h3 1 _ rfl, h3 2 _ rfl⟩
end Go.Proofs.Ytfpkgdenohcglaa.Chn
/- chain.link, right, Head; the document's. -/
namespace Go.Proofs.Ytfpkgdenohcglaa.Chn
set_option linter.unusedVariables false
set_option linter.unusedSimpArgs false
open Go.RowKit Go.Proofs.Ytfpkgdenohcglaa.Base Go.Proofs.Ytfpkgdenohcglaa.TlvPlain Go.Proofs.Ytfpkgdenohcglaa.ShaPlain Go.Proofs.Ytfpkgdenohcglaa.Sha Go.Proofs.Ytfpkgdenohcglaa.Com Go.Proofs.Ytfpkgdenohcglaa.Aid Go.Proofs.YtfpkgdenohcglaaW.PrintWords Go.Proofs.YtfpkgdenohcglaaW.PrintLast Go.Proofs.YtfpkgdenohcglaaW.PrintMore
theorem clink_c (x : Ent) (h : Eu x) (w : World) : Calls Try.prog 91 #[.int .i64 (seqE x), sumV (prevE x), sumV (comE x)] w (Ret w (linkT x)) := by
  unfold Ret linkT
  rw [linkH_eq]
  exact link_c (seqE x) (prevE x) (comE x) h.pl h.cl h.pu h.cu w
set_option maxHeartbeats 4000000 in
set_option maxRecDepth 100000 in
theorem link1_c (x : Ent) (h : Eu x) (P C : List Value) (A : Option Addr) (c : Nat) (w : World) (hC : EntC w x P C A c) :
    Calls Try.prog 55 #[.agg (cE x P C A c).toArray] w (Ret w (linkT x)) := by
  obtain ⟨D, hD⟩ := sumC (linkT x) (linkT_len x)
  have HD := Aside0.mk hD
  have HIP := Aside0.mk hC.fp.blk
  have HIC := Aside0.mk hC.fc.blk
  have HT := Aside0.mk (clink_c x h)
  unfold Ret at HT ⊢
  rw [hC.fp.v, hC.fc.v, hD.v] at HT
  rw [hD.v]
  obtain ⟨AA, hAA⟩ : ∃ AA, (cE x P C A c).toArray = AA := ⟨_, rfl⟩
  have HA0 := Aside0.mk (entAt_blk (W := w.alloc (.cells (cE x P C A c).toArray 27)) (T := 27) (fr := (0, 0)) hC.fp.lenC hC.fc.lenC (blk_new w (.cells (cE x P C A c).toArray 27)))
  rw [hAA] at HA0 ⊢
  have HA := Aside0.mk (HA0.out.below (below_alloc (Below.refl _ _) (.cells Z32 23)))
  have HZ := Aside0.mk (show ((w.alloc (.cells AA 27)).alloc (.cells Z32 23)).heap[w.heap.size + 1]? = some (.cells Z32 23 (0, 0)) from second_new' _ _ _)
  have HB := Aside0.mk (show Below w.heap.size w ((w.alloc (.cells AA 27)).alloc (.cells Z32 23)) from below_alloc (below_alloc (Below.refl _ _) _) _)
  clear hC h hD hAA HA0
  go_enter Try.func55, Try.ntmps55
  go_upto_region 1 with (fail)
  obtain ⟨w1, hw1⟩ : ∃ W, (w.alloc (.cells AA 27)).alloc (.cells Z32 23) = W := ⟨_, rfl⟩
  rw [hw1] at HA HZ HB
  rw [show (w.alloc (.cells AA 27)).alloc (.cells #[.int .u8 0, .int .u8 0, .int .u8 0, .int .u8 0, .int .u8 0, .int .u8 0, .int .u8 0, .int .u8 0, .int .u8 0, .int .u8 0, .int .u8 0, .int .u8 0, .int .u8 0, .int .u8 0, .int .u8 0, .int .u8 0, .int .u8 0, .int .u8 0, .int .u8 0, .int .u8 0, .int .u8 0, .int .u8 0, .int .u8 0, .int .u8 0, .int .u8 0, .int .u8 0, .int .u8 0, .int .u8 0, .int .u8 0, .int .u8 0, .int .u8 0, .int .u8 0] 23) = w1 from hw1]
  clear hw1
  have hs := HA.out.s
  go_wp2_with (first
    | ((with_reducible refine gate_dst (N := 6) rfl ?_); refine wpList_load_at rfl 23 (.tmp 5) rfl ⟨w.heap.size, 1, none⟩ rfl P _ HA.out.fp Try.underlying23 rfl HIP.out ?_)
    | ((with_reducible refine gate_dst (N := 8) rfl ?_); refine wpList_load_at rfl 23 (.tmp 7) rfl ⟨w.heap.size, 33, none⟩ rfl C _ HA.out.fc Try.underlying23 rfl HIC.out ?_))
  clear hs
  refine (HT.out _).mono ?_
  rintro e w2 ⟨rfl, hb⟩
  have HZ2 := Aside0.mk (blk_below HZ.out hb)
  have HB2 := Aside0.mk (below_step HB.out hb)
  clear hb
  go_wp2_with ((with_reducible refine gate_store (t := 23) (p := 2) (v := .tmp 9) rfl ?_); refine wpList_store_row rfl 23 (.tmp 2) (.tmp 9) rfl (w.heap.size + 1) D.toArray rfl rfl 23 Z32 HZ2.out HD.out.blkA HD.out.zsA HD.out.oneA ?_)
  have HSR := setRow_heap w2 (w.heap.size + 1) Z32 D.toArray _ _ HZ2.out
  refine bodyPost_ret (v := .agg D.toArray) (results_cell_row rfl _ _ (w.heap.size + 1) 23 D.toArray (0, 0) _ rfl HSR Try.underlying23 rfl HD.out.blkA) rfl ⟨rfl, below_setRow HB2.out (Nat.le_succ _) D.toArray⟩
end Go.Proofs.Ytfpkgdenohcglaa.Chn
/- Head; the document's right. -/
namespace Go.Proofs.Ytfpkgdenohcglaa.Chn
set_option linter.unusedVariables false
set_option linter.unusedSimpArgs false
open Go.RowKit Go.Proofs.Ytfpkgdenohcglaa.Base Go.Proofs.Ytfpkgdenohcglaa.TlvPlain Go.Proofs.Ytfpkgdenohcglaa.ShaPlain Go.Proofs.Ytfpkgdenohcglaa.Sha Go.Proofs.Ytfpkgdenohcglaa.Com Go.Proofs.Ytfpkgdenohcglaa.Aid Go.Proofs.YtfpkgdenohcglaaW.PrintWords Go.Proofs.YtfpkgdenohcglaaW.PrintLast Go.Proofs.YtfpkgdenohcglaaW.PrintMore
/-- A zero entry's cells. -/
def zE : List Value := cellsE 0 (nums .u8 Z) (nums .u8 Z) 0 none 0 0 false
theorem zE_len : zE.length = 68 := by unfold zE cellsE; simp [nums, Z_len]
theorem headT_last (l : List Ent) (n : Nat) (h : l.length = n + 1) : headT l = linkT (l[n]'(by omega)) := by
  have h1 := take_snoc l n (by omega)
  rw [List.take_of_length_le (by omega)] at h1
  conv => lhs; rw [h1]
  exact headT_snoc _ _
set_option maxHeartbeats 4000000 in
set_option maxRecDepth 100000 in
theorem head_nil (A : Option Addr) (c : Nat) (w : World) : Calls Try.prog 22 #[.slice A 0 c] w (Ret w Z) := by
  have HZ := Aside0.mk (show (w.alloc (.cells Z32 23)).heap[w.heap.size]? = some (.cells Z32 23 (0, 0)) from blk_new _ _)
  have HB := Aside0.mk (below_alloc (Below.refl w.heap.size w) (.cells Z32 23))
  have HIF := Aside0.mk (show (Try.prog.info? 23).map (·.size) = some Z32.size from info_32)
  have HON := Aside0.mk (show Z32.all (·.oneCell') = true from nums_one _ _)
  show Calls _ _ _ _ (fun e w' => e = .returned (.agg Z32) ∧ Below w.heap.size w w')
  go_enter Try.func22, Try.ntmps22
  go_wp2_with ((with_reducible refine gate_store (t := 23) (p := 2) (v := .tmp 6) rfl ?_); refine wpList_store_row rfl 23 (.tmp 2) (.tmp 6) rfl w.heap.size Z32 rfl rfl 23 Z32 HZ.out HIF.out rfl HON.out ?_)
  have HSR := setRow_heap (w.alloc (.cells Z32 23)) w.heap.size Z32 Z32 _ _ HZ.out
  refine bodyPost_ret (v := .agg Z32) (results_cell_row rfl _ _ w.heap.size 23 Z32 (0, 0) _ rfl HSR Try.underlying23 rfl HIF.out) rfl ⟨rfl, below_setRow HB.out (Nat.le_refl _) Z32⟩
set_option maxHeartbeats 4000000 in
set_option maxRecDepth 100000 in
theorem head_cons (l : List Ent) (n : Nat) (hl : l.length = n + 1) (hm : n ≤ 1000000) (hu : Lu' l) (A : Option Addr) (c : Nat) (w : World) (hr : Re w A l) :
    Calls Try.prog 22 #[.slice A (n + 1) c] w (Ret w (headT l)) := by
  obtain ⟨ad, P, C, B, cb, rfl, hat, hC⟩ := re_at hr n (by omega)
  have hE := hu _ (List.getElem_mem (show n < l.length by omega))
  obtain ⟨x, hx⟩ : ∃ x, l[n]'(by omega) = x := ⟨_, rfl⟩
  rw [headT_last l n hl, hx]
  rw [hx] at hat hC hE
  obtain ⟨D, hD⟩ := sumC (linkT x) (linkT_len x)
  have HD := Aside0.mk hD
  have HIE := Aside0.mk hC.info
  have q1 : (n : Int) ≤ 1000000 := by omega
  have q2 : (n : Int) < (n : Int) + 1 := by omega
  have q3 : (((n + 1 : Nat) : Int) == 0) = false := by simp; omega
  have q4 : ((n : Int) + 1 == 0) = false := by simp; omega
  have HZ := Aside0.mk (show (w.alloc (.cells Z32 23)).heap[w.heap.size]? = some (.cells Z32 23 (0, 0)) from blk_new _ _)
  have HB := Aside0.mk (below_alloc (Below.refl w.heap.size w) (.cells Z32 23))
  have HAT := Aside0.mk (hat.below HB.out)
  have HT := Aside0.mk (fun W hW => link1_c x hE P C B cb W (hC.below hW))
  unfold Ret at HT ⊢
  rw [hD.v] at HT ⊢
  obtain ⟨cs, hcs⟩ : ∃ cs, cE x P C B cb = cs := ⟨_, rfl⟩
  rw [hcs] at HT HAT HIE
  clear hat hC hE hx hD hl hm hu hr hcs
  go_enter Try.func22, Try.ntmps22
  go_wp2_with ((with_reducible refine gate_dst (N := 12) rfl ?_); refine wpList_load_at rfl 27 (.tmp 11) rfl (ad.add (n * 68)) rfl cs _ HAT.out Try.underlying27 rfl HIE.out ?_)
  refine (HT.out _ HB.out).mono ?_
  rintro e w2 ⟨rfl, hb⟩
  have HZ2 := Aside0.mk (blk_below HZ.out hb)
  have HB2 := Aside0.mk (below_step HB.out hb)
  clear hb
  go_wp2_with ((with_reducible refine gate_store (t := 23) (p := 2) (v := .tmp 13) rfl ?_); refine wpList_store_row rfl 23 (.tmp 2) (.tmp 13) rfl w.heap.size D.toArray rfl rfl 23 Z32 HZ2.out HD.out.blkA HD.out.zsA HD.out.oneA ?_)
  have HSR := setRow_heap w2 w.heap.size Z32 D.toArray _ _ HZ2.out
  refine bodyPost_ret (v := .agg D.toArray) (results_cell_row rfl _ _ w.heap.size 23 D.toArray (0, 0) _ rfl HSR Try.underlying23 rfl HD.out.blkA) rfl ⟨rfl, below_setRow HB2.out (Nat.le_refl _) D.toArray⟩
theorem head_c (l : List Ent) (n : Nat) (hl : l.length = n) (hm : n ≤ 1000000) (hu : Lu' l) (A : Option Addr) (c : Nat) (w : World) (hr : Re w A l) :
    Calls Try.prog 22 #[.slice A n c] w (Ret w (headT l)) := by
  cases n with
  | zero =>
    rw [List.length_eq_zero_iff.1 hl]
    exact head_nil A c w
  | succ n => exact head_cons l n hl (by omega) hu A c w hr
end Go.Proofs.Ytfpkgdenohcglaa.Chn
/- chain.Verify. -/
namespace Go.Proofs.Ytfpkgdenohcglaa.Chn
set_option linter.unusedVariables false
set_option linter.unusedSimpArgs false
open Go.RowKit Go.Proofs.Ytfpkgdenohcglaa.Base Go.Proofs.Ytfpkgdenohcglaa.TlvPlain Go.Proofs.Ytfpkgdenohcglaa.ShaPlain Go.Proofs.Ytfpkgdenohcglaa.Sha Go.Proofs.Ytfpkgdenohcglaa.Com Go.Proofs.Ytfpkgdenohcglaa.Aid Go.Proofs.YtfpkgdenohcglaaW.PrintWords Go.Proofs.YtfpkgdenohcglaaW.PrintLast Go.Proofs.YtfpkgdenohcglaaW.PrintMore
/-- The world in the rounds. -/
structure VerI (w : World) (R : List Value) (l : List Ent) (k : Nat) (W : World) : Prop where
  h : W.heap[w.heap.size]? = some (.cells R.toArray 23 (0, 0))
  d : W.heap[w.heap.size + 1]? = some (.cells (nums .u8 (headT (l.take k))).toArray 23 (0, 0))
  v : badT l 0 Z = badT (l.drop k) k (headT (l.take k))
  b : Below w.heap.size w W
theorem VerI.below {w W W' : World} {R : List Value} {l : List Ent} {k : Nat} (h : VerI w R l k W) (hb : Below W.heap.size W W') : VerI w R l k W' := ⟨blk_below h.h hb, blk_below h.d hb, h.v, below_step h.b hb⟩
end Go.Proofs.Ytfpkgdenohcglaa.Chn
/- The document's right and Verify. -/
namespace Go.Proofs.Ytfpkgdenohcglaa.Chn
set_option linter.unusedVariables false
set_option linter.unusedSimpArgs false
open Go.RowKit Go.Proofs.Ytfpkgdenohcglaa.Base Go.Proofs.Ytfpkgdenohcglaa.TlvPlain Go.Proofs.Ytfpkgdenohcglaa.ShaPlain Go.Proofs.Ytfpkgdenohcglaa.Sha Go.Proofs.Ytfpkgdenohcglaa.Com Go.Proofs.Ytfpkgdenohcglaa.Aid Go.Proofs.YtfpkgdenohcglaaW.PrintWords Go.Proofs.YtfpkgdenohcglaaW.PrintLast Go.Proofs.YtfpkgdenohcglaaW.PrintMore
theorem Re.take {w : World} {A : Option Addr} {l : List Ent} (h : Re w A l) {k : Nat} (hk : k ≤ l.length) : Re w A (l.take k) := Kd.C_take h hk
theorem Lu'.take {l : List Ent} (h : Lu' l) (k : Nat) : Lu' (l.take k) := fun x hx => h x (List.mem_of_mem_take hx)
end Go.Proofs.Ytfpkgdenohcglaa.Chn
/- Rows of entries of one's own: their cells alone are owned; what they lead to is only read. -/
namespace Go.Proofs.Ytfpkgdenohcglaa.Chn
set_option linter.unusedVariables false
set_option linter.unusedSimpArgs false
open Go.RowKit Go.Proofs.Ytfpkgdenohcglaa.Base Go.Proofs.Ytfpkgdenohcglaa.TlvPlain Go.Proofs.Ytfpkgdenohcglaa.ShaPlain Go.Proofs.Ytfpkgdenohcglaa.Sha Go.Proofs.Ytfpkgdenohcglaa.Com Go.Proofs.Ytfpkgdenohcglaa.Aid Go.Proofs.YtfpkgdenohcglaaW.PrintWords Go.Proofs.YtfpkgdenohcglaaW.PrintLast Go.Proofs.YtfpkgdenohcglaaW.PrintMore
abbrev KW : Kd (List Value) := Kd.raw 68
abbrev RawOk (x cs : List Value) : Prop := cs = x ∧ cs.length = 68 ∧ ∀ u ∈ cs, u.oneCell' = true
theorem info_ent3 : (Try.prog.info? 27).map (fun i => (i.zero, i.size, i.bytes)) = some (some (.agg Try.zeroCells27), 68, 112) := by kernel_rfl
def Rw (w : World) (base : Nat) (v : Value) (l : List Ent) : Prop :=
  ∃ rows : List (List Value), rows.length = l.length ∧ KW.R 27 w base (fun _ => True) v rows ∧ ∀ (j : Nat) (x : Ent) (c : List Value), l[j]? = some x → rows[j]? = some c → DEnt.K w x c
theorem Rw.below {w w' : World} {base : Nat} {v : Value} {l : List Ent} (h : Rw w base v l) (hb : Below w.heap.size w w') : Rw w' base v l := by
  obtain ⟨rows, hl, hR, hK⟩ := h
  exact ⟨rows, hl, Kd.R_below hR hb, fun j x c hx hc => DEnt.K_below hb (hK j x c hx hc)⟩
theorem Rw.lower {w : World} {base base' : Nat} {v : Value} {l : List Ent} (h : Rw w base v l) (hb : base' ≤ base) : Rw w base' v l := by
  obtain ⟨rows, hl, hR, hK⟩ := h
  exact ⟨rows, hl, Kd.R_lower hR hb, hK⟩
theorem Rw.nil (w : World) (base : Nat) : Rw w base (.slice none 0 0) [] := ⟨[], rfl, Kd.R_nil _ _ _ _ _, fun j x c hx => by simp at hx⟩
theorem re_of_raw {w : World} {A : Option Addr} {l : List Ent} {rows : List (List Value)} (hl : rows.length = l.length) (hC : KW.C w A rows.length rows)
    (hK : ∀ (j : Nat) (x : Ent) (c : List Value), l[j]? = some x → rows[j]? = some c → DEnt.K w x c) : Re w A l := by
  rw [hl] at hC
  refine ⟨rfl, hC.2.1, fun hp => ?_⟩
  obtain ⟨ad, he, hcell⟩ := hC.2.2 hp
  refine ⟨ad, he, fun j p hj => ?_⟩
  have hjl : j < rows.length := by have := (List.getElem?_eq_some_iff.1 hj).1; omega
  obtain ⟨c', hcl, hk, hcc⟩ := hcell j _ (List.getElem?_eq_getElem hjl)
  have hq := hK j p _ hj (List.getElem?_eq_getElem hjl)
  refine ⟨c', hcl, ?_, hcc⟩
  rw [show c' = rows[j] from hk.1]
  exact hq
theorem Rw.reads {w : World} {base : Nat} {v : Value} {l : List Ent} (h : Rw w base v l) : ∃ A c, v = .slice A l.length c ∧ l.length ≤ c ∧ Re w A l := by
  obtain ⟨rows, hl, hR, hK⟩ := h
  obtain ⟨A, c, hv, hc, hC⟩ := Kd.R_reads hR
  exact ⟨A, c, by rw [hv, hl], by omega, re_of_raw hl hC hK⟩
theorem rows_of {w : World} {A : Option Addr} {l : List Ent} (h : Re w A l) :
    ∃ rows : List (List Value), rows.length = l.length ∧ ReadsRow RawOk 68 w A l.length rows ∧ ∀ (j : Nat) (x : Ent) (c : List Value), l[j]? = some x → rows[j]? = some c → DEnt.K w x c :=
  Kd.reads_raw h (fun x c hk => ⟨DEnt.K_len hk, DEnt.K_one hk⟩)
/-- A copy of entries: its cells lead to what came. -/
abbrev RetC (w : World) (l : List Ent) : Ending → World → Prop := fun e w' => ∃ (v : Value) (rows : List (List Value)), e = .returned v ∧ rows.length = l.length ∧ KW.R 27 w' w.heap.size (fun _ => True) v rows ∧ (∀ (j : Nat) (x : Ent) (c : List Value), l[j]? = some x → rows[j]? = some c → DEnt.K w x c) ∧ Below w.heap.size w w'
abbrev RetE (w : World) (l : List Ent) : Ending → World → Prop := fun e w' => ∃ v, e = .returned v ∧ Rw w' w.heap.size v l ∧ Below w.heap.size w w'
set_option maxHeartbeats 4000000 in
set_option maxRecDepth 100000 in
theorem eclone_c (l : List Ent) (m : Nat) (hl : l.length = m) (hm : m ≤ 100000) (A : Option Addr) (c : Nat) (hc : m ≤ c) (w : World) (hr : Re w A l) :
    Calls Try.prog 53 #[.slice A m c] w (RetC w l) := by
  unfold RetC
  have hq := fun (n c : Nat) => Lib.run_eql_slice_nil (P := Try.prog) w 22 27 A n c 0 0 Try.underlying22
  cases A with
  | none =>
    have hm0 : m = 0 := by
      rcases Nat.eq_zero_or_pos m with h | h
      · exact h
      · obtain ⟨ad, P, C, B, cb, h1, _⟩ := re_at hr 0 (by omega)
        cases h1
    subst hm0
    have hf : l = [] := List.length_eq_zero_iff.1 hl
    subst hf
    clear hl hm hc hr
    go_enter Try.func53, Try.ntmps53
    go_wp2_with (fail)
    go_ret
    exact ⟨_, [], rfl, rfl, Kd.R_nil _ _ _ _ _, fun j x c hx => by simp at hx, Below.refl _ _⟩
  | some ad =>
    obtain ⟨rows, hrl, hrr, hrk⟩ := rows_of hr
    have HR := Aside0.mk hrr
    have HL := Aside0.mk hl
    have HM := Aside0.mk hm
    have HRL := Aside0.mk hrl
    have HK := Aside0.mk hrk
    clear hl hm hc hr hrr hrl hrk
    go_enter Try.func53, Try.ntmps53
    have HB := Aside0.mk (Below.refl w.heap.size w)
    go_wp2_with (first
      | ((with_reducible refine gate_dst (N := 5) rfl ?_); refine Kd.R_lit KW _ 27 ?hg (N := 5) ?hd (xs := ([] : List (List Value))) (inner := []) (ok := fun _ => True) (okp := fun _ => True) ?hr ?hp (fun _ hk => hk) trivial (Below.refl _ _) (Nat.le_refl _) (by simp) ?_; (case hd => rfl); (case hg => rfl); (case hr => first | (go_simp; done) | (go_simp; rfl)); (case hp => exact (Reps.none _ _)); intro v255 w3 ho4 hb hg_ hnew_; clear hg_ hnew_; have n0_ := Aside0.mk (Kd.R_lower ho4 (below_size HB.out)); have n1_ := Aside0.mk (below_step HB.out hb); clear HB; have HO := n0_; have HB := n1_; clear n0_ n1_; clear hb ho4)
      | ((with_reducible refine gate_builtin (b := .append) (xs := #[.tmp 5, .tmp 6]) rfl ?_); at_builtin; refine Kd.R_append_rows KW (Rr := RawOk) (w0 := w) w.heap.size rfl (.tmp 5) (.tmp 6) 22 27 (.agg Try.zeroCells27) 112 rfl Try.underlying22 info_ent3 rfl (by decide) (by omega) v255 [] rows _ m c (fun _ => True) (fun _ => False) rfl rfl HO.out (by have h := ReadsRow.imp_ HR.out HB.out (fun _ _ hp => hp); rw [HL.out] at h; exact h) (fun _ _ h => h) (fun _ h => h.elim) (fun _ _ => trivial) HB.out (below_size HB.out) (by have := HM.out; simp; omega) ?_; intro v258 w5 ho hb hg hat; have n0_ := Aside0.mk (hb); have n1_ := Aside0.mk (ho); clear HB; clear HO; have HB := n0_; have HO := n1_; clear n0_ n1_; clear ho hb hg hat))
    go_ret
    exact ⟨_, rows, rfl, HRL.out, HO.out, HK.out, HB.out⟩
section
variable {ops : Array Oper} {rest : List Oper} {o : Oper} {a : Act} {Q : Exit → Act → World → Prop}
/-- make([]Entry, m, m + 1). -/
theorem wpList_make_e {w : World} (hgd : o.guard = none) (x y : Operand) (ho : o.op = .makeSlice 22 x y) (m : Nat) (hm : m ≤ 100000) (hx : a.eval x = .int .i64 m) (hy : a.eval y = .int .i64 ((m : Int) + 1))
    (h : ∀ zs : List Value, zs.length = (m + 1) * 68 → wpList Try.prog ops Q rest (a.put o.dst (.slice (some ⟨w.heap.size, 0, none⟩) m (m + 1))) (w.alloc (.cells zs.toArray 27))) : wpList Try.prog ops Q (o :: rest) a w := by
  obtain ⟨i, hi, hz, hs, hb⟩ := info_parts info_ent3
  have hrun := run_make (P := Try.prog) w 22 27 i (.agg Try.zeroCells27) Try.underlying22 hi hz .i64 .i64 (m : Int) ((m : Int) + 1) (by omega) (by omega) (by rw [hb]; omega) (by omega)
  rw [hs, Int.toNat_natCast, show ((m : Int) + 1).toNat = m + 1 by omega] at hrun
  refine wpList_plain hgd fun K hK => ?_
  have h2 := h (madeCells (Value.agg Try.zeroCells27).cells ((m + 1) * 68)).toList (by rw [Array.length_toList, size_madeCells])
  rw [Array.toArray_toList] at h2
  unfold Oper.wp execOp
  simp only [ho, hx, hy, hrun, Sem.run_bind, Result.andThen_ok]
  exact hK _ _ h2
theorem run_copy_e (w : World) (ty : TypeId) (g m dCap : Nat) (sd : Addr) (sCap : Nat) (cur : Array Value) (t : TypeId) (cs : List Value)
    (hg : w.heap[g]? = some (.cells cur t (0, 0))) (hn : cs.length = m * 68)
    (hsrc : ∀ j v, cs[j]? = some v → w.cell? (sd.add j) = some v) (hfit : cs.length ≤ cur.size) (h1 : ∀ v ∈ cs, v.oneCell' = true) :
    (Builtin.copy_ #[22, 22] ty #[.slice (some ⟨g, 0, none⟩) m dCap, .slice (some sd) m sCap]).run Try.prog w =
      .ok (goInt (m : Int)) (w.setRow g (cs ++ cur.toList.drop cs.length).toArray) := by
  have hl := run_loadCells_list (P := Try.prog) w sd cs hsrc
  have hst := run_storeCells_at Try.prog g 0 t cs 0 cur w hg (by simpa using hfit) h1
  obtain ⟨i, hi, hz, hs, hb⟩ := info_parts info_ent3
  rw [hn] at hl
  simp [Builtin.copy_, run_underlying Try.underlying22, Builtin.lenOf, Builtin.firstCells, sizeOf, typeInfo, hi, hs, hl, hst]
theorem run_copy_e0 (w : World) (ty : TypeId) (d s : Option Addr) (dCap sCap : Nat) :
    (Builtin.copy_ #[22, 22] ty #[.slice d 0 dCap, .slice s 0 sCap]).run Try.prog w = .ok (goInt 0) w := by
  have hl : ∀ (x : Addr), (loadCells x 0).run Try.prog w = .ok #[] w := fun x => by simpa using run_loadCells_list (P := Try.prog) w x [] (by simp)
  obtain ⟨i, hi, hz, hs, hb⟩ := info_parts info_ent3
  cases d <;> cases s <;> simp [Builtin.copy_, run_underlying Try.underlying22, Builtin.lenOf, Builtin.firstCells, sizeOf, typeInfo, hi, storeCells, hl]
/-- copy(out, l): out's cells, behind them what lay there. -/
theorem wpList_copy_e {w w0 : World} (hgd : o.guard = none) (d s : Operand) (ho : o.op = .call { callee := .builtin .copy, args := #[d, s], argTypes := #[22, 22] })
    (g m c : Nat) (A : Option Addr) (hd : a.eval d = .slice (some ⟨g, 0, none⟩) m (m + 1)) (hs : a.eval s = .slice A m c) (hm : m ≤ 100000)
    (cur : List Value) (hg : w.heap[g]? = some (.cells cur.toArray 27 (0, 0))) (hcur : cur.length = (m + 1) * 68) (rows : List (List Value)) (hrl : rows.length = m) (HR : ReadsRow RawOk 68 w A m rows)
    (base : Nat) (hbg : base ≤ g) (HB : Below base w0 w)
    (h : ∀ w', KW.R 27 w' base (fun _ => True) (.slice (some ⟨g, 0, none⟩) m (m + 1)) rows → Below base w0 w' → (∀ k, k ≠ g → w'.heap[k]? = w.heap[k]?) → wpList Try.prog ops Q rest (a.put o.dst (goInt (m : Int))) w') : wpList Try.prog ops Q (o :: rest) a w := by
  refine wpList_plain hgd fun K hK => ?_
  rcases Nat.eq_zero_or_pos m with h0 | hp
  · subst h0
    have hre : rows = [] := List.length_eq_zero_iff.1 hrl
    subst hre
    have hrun := run_copy_e0 w o.type (some ⟨g, 0, none⟩) A (0 + 1) c
    have h2 := h w ⟨fun _ _ => trivial, [], ⟨rfl, Or.inr ⟨g, 0 + 1, cur.toArray, rfl, hbg, hg, by show 0 ≤ 0 + 1; omega, by decide, by show cur.toArray.size = (0 + 1) * 68; simp [hcur], by show cur.toArray.toList.take (0 * 68) = []; simp⟩⟩, Reps.none _ _⟩ HB (fun _ _ => rfl)
    unfold Oper.wp execOp
    simp only [ho, resolve, invoke, builtin, Sem.run_bind, Sem.run_pure, Result.andThen_ok, List.map_toArray, List.map_cons, List.map_nil, hd, hs, hrun]
    exact hK _ _ h2
  · obtain ⟨sd, rfl, _⟩ := HR.2.2 hp
    obtain ⟨inner, hri, hci⟩ := ReadsRow.inner_ HR
    have hil : inner.length = m * 68 := by rw [hri.1, hrl]
    have hone : ∀ v ∈ inner, v.oneCell' = true := by
      intro v hv
      obtain ⟨j, hj, rfl⟩ := List.mem_iff_getElem.1 hv
      have hj2 : j / 68 < rows.length := by rw [hrl]; omega
      have hq := (hri.2 (j / 68) _ (List.getElem?_eq_getElem hj2)).2.2
      refine hq _ (List.mem_iff_getElem?.2 ⟨j % 68, ?_⟩)
      rw [List.getElem?_take, if_pos (Nat.mod_lt _ (by decide)), List.getElem?_drop, show j / 68 * 68 + j % 68 = j by omega]
      exact List.getElem?_eq_getElem hj
    have hrun := run_copy_e w o.type g m (m + 1) sd c cur.toArray 27 inner hg hil hci (by simp [hil, hcur]; omega) hone
    have hset := setRow_heap w g cur.toArray (inner ++ cur.toArray.toList.drop inner.length).toArray _ _ hg
    have h2 := h (w.setRow g (inner ++ cur.toArray.toList.drop inner.length).toArray)
      ⟨fun _ _ => trivial, inner, ⟨by rw [hil, hrl]; rfl, Or.inr ⟨g, m + 1, (inner ++ cur.toArray.toList.drop inner.length).toArray, by rw [hrl], hbg, hset, by omega, by simp [maxLen]; omega, by show (inner ++ cur.toArray.toList.drop inner.length).toArray.size = (m + 1) * 68; simp [hil, hcur]; omega, by show (inner ++ cur.toArray.toList.drop inner.length).toArray.toList.take (rows.length * 68) = inner; rw [hrl, ← hil]; simp⟩⟩, hri⟩
      (below_setRow HB hbg _) (fun k hk => setRow_other _ _ _ _ hk)
    unfold Oper.wp execOp
    simp only [ho, resolve, invoke, builtin, Sem.run_bind, Sem.run_pure, Result.andThen_ok, List.map_toArray, List.map_cons, List.map_nil, hd, hs, hrun]
    exact hK _ _ h2
end
end Go.Proofs.Ytfpkgdenohcglaa.Chn
/- Entries that are built. -/
namespace Go.Proofs.Ytfpkgdenohcglaa.Chn
set_option linter.unusedVariables false
set_option linter.unusedSimpArgs false
open Go.RowKit Go.Proofs.Ytfpkgdenohcglaa.Base Go.Proofs.Ytfpkgdenohcglaa.TlvPlain Go.Proofs.Ytfpkgdenohcglaa.ShaPlain Go.Proofs.Ytfpkgdenohcglaa.Sha Go.Proofs.Ytfpkgdenohcglaa.Com Go.Proofs.Ytfpkgdenohcglaa.Aid Go.Proofs.YtfpkgdenohcglaaW.PrintWords Go.Proofs.YtfpkgdenohcglaaW.PrintLast Go.Proofs.YtfpkgdenohcglaaW.PrintMore
theorem list32 (l : List Value) (h : l.length = 32) : l = (List.range 32).map (fun i => l.getD i undef) := by
  apply List.ext_getElem?
  intro i
  rw [List.getElem?_map]
  by_cases hi : i < 32
  · rw [List.getElem?_range hi, List.getElem?_eq_getElem (by omega)]
    simp [List.getD_eq_getElem?_getD, List.getElem?_eq_getElem (show i < l.length by omega)]
  · rw [List.getElem?_eq_none (by omega), List.getElem?_eq_none (by simp; omega)]
    rfl
theorem built_new (n sl : Int) (f g : Nat → Value) (A : Option Addr) (k c : Nat) :
    Try.prog.built 27 [(0, .int .i64 n), (1, .agg ((List.range 32).map f).toArray), (2, .agg ((List.range 32).map g).toArray), (3, .int .u64 sl), (4, .slice A k c)] =
      some (cellsE n ((List.range 32).map f) ((List.range 32).map g) sl A k c false).toArray := by kernel_rfl
theorem run_new (w : World) (n sl : Int) (P C : List Value) (hP : P.length = 32) (hC : C.length = 32) (A : Option Addr) (k c : Nat) :
    (Instr.build 27 #[(0, .int .i64 n), (1, .agg P.toArray), (2, .agg C.toArray), (3, .int .u64 sl), (4, .slice A k c)]).run Try.prog w = .ok (.agg (cellsE n P C sl A k c false).toArray) w := by
  refine run_build w _ _ _ ?_
  have h := built_new n sl (fun i => P.getD i undef) (fun i => C.getD i undef) A k c
  rw [← list32 P hP, ← list32 C hC] at h
  exact h
section
variable {ops : Array Oper} {rest : List Oper} {o : Oper} {a : Act} {Q : Exit → Act → World → Prop}
theorem wpList_new {w : World} (hgd : o.guard = none) (x0 x1 x2 x3 x4 : Operand) (ho : o.op = .build 27 #[(0, x0), (1, x1), (2, x2), (3, x3), (4, x4)]) (n sl : Int) (P C : List Value) (hP : P.length = 32) (hC : C.length = 32) (A : Option Addr) (k c : Nat)
    (h0 : a.eval x0 = .int .i64 n) (h1 : a.eval x1 = .agg P.toArray) (h2 : a.eval x2 = .agg C.toArray) (h3 : a.eval x3 = .int .u64 sl) (h4 : a.eval x4 = .slice A k c)
    (h : wpList Try.prog ops Q rest (a.put o.dst (.agg (cellsE n P C sl A k c false).toArray)) w) : wpList Try.prog ops Q (o :: rest) a w := by
  refine wpList_plain hgd fun K hK => ?_
  have hp : (#[((0 : Nat), x0), (1, x1), (2, x2), (3, x3), (4, x4)].map fun (i, y) => (i, a.eval y)) = #[(0, .int .i64 n), (1, .agg P.toArray), (2, .agg C.toArray), (3, .int .u64 sl), (4, .slice A k c)] := by simp [h0, h1, h2, h3, h4]
  unfold Oper.wp execOp
  simp only [ho, hp, Sem.run_bind, run_new w n sl P C hP hC A k c, Result.andThen_ok]
  exact hK _ _ h
/-- append(v, x)'s row of one entry. -/
theorem run_ent1 (w : World) (cs : List Value) (hc : cs.length = 68) : (Instr.buildSlice 22 1 #[(0, .agg cs.toArray)]).run Try.prog w = .ok (.slice (some ⟨w.heap.size, 0, none⟩) 1 1) (w.alloc (.cells cs.toArray 27)) := by
  obtain ⟨i, hi, hz, hs, hb⟩ := info_parts info_ent3
  have hf := Great.fill_whole (s := 68) (by decide) [Value.agg cs.toArray] ((Array.range (1 * 68)).map ((Value.agg Try.zeroCells27).cells[· % (Value.agg Try.zeroCells27).cells.size]!)) (fun v hv => by
    rw [List.mem_singleton.1 hv]; simp [Value.cells, hc]) (by simp)
  refine run_buildSlice w 22 27 1 _ _ i (.agg Try.zeroCells27) Try.underlying22 hi hz (by rw [hs]; decide) (by rw [hs]; decide) ?_
  rw [hs]
  refine Eq.trans ?_ (hf.trans ?_)
  · rfl
  · simp [Value.cells]
theorem wpList_ent1 {w : World} (hgd : o.guard = none) (x : Operand) (ho : o.op = .buildSlice 22 1 #[(0, x)]) (cs : List Value) (hx : a.eval x = .agg cs.toArray) (hc : cs.length = 68)
    (h : wpList Try.prog ops Q rest (a.put o.dst (.slice (some ⟨w.heap.size, 0, none⟩) 1 1)) (w.alloc (.cells cs.toArray 27))) : wpList Try.prog ops Q (o :: rest) a w := by
  refine wpList_plain hgd fun K hK => ?_
  have hp : (#[((0 : Nat), x)].map fun (i, y) => (i, a.eval y)) = #[(0, .agg cs.toArray)] := by simp [hx]
  unfold Oper.wp execOp
  simp only [ho, hp, Sem.run_bind, run_ent1 w cs hc, Result.andThen_ok]
  exact hK _ _ h
end
section
variable {o : Oper} {a : Act} {Q : Exit → Act → World → Prop} {K : Act → World → Prop}
end
/-- The new entry. -/
abbrev newE (l : List Ent) (salt : Int) (pay : List Int) : Ent := ((l.length : Int), headT l, comH salt pay, salt, pay, false)
/-- A row with one more entry, the row of cells grown by that entry's cells. -/
theorem Rw.snoc {w0 W w' : World} {base : Nat} {v : Value} {l : List Ent} {rows : List (List Value)} {x : Ent} {cs : List Value} (hl : rows.length = l.length) (hR : KW.R 27 w' base (fun _ => True) v (rows ++ [cs]))
    (h0 : ∀ (j : Nat) (x : Ent) (c : List Value), l[j]? = some x → rows[j]? = some c → DEnt.K w0 x c) (hb0 : Below w0.heap.size w0 w') (hx : DEnt.K W x cs) (hb : Below W.heap.size W w') : Rw w' base v (l ++ [x]) := by
  refine ⟨rows ++ [cs], by simp [hl], hR, fun j y c hy hc => ?_⟩
  rcases Nat.lt_or_ge j l.length with h | h
  · rw [List.getElem?_append_left h] at hy
    rw [List.getElem?_append_left (by omega)] at hc
    exact DEnt.K_below hb0 (h0 j y c hy hc)
  · rw [List.getElem?_append_right h] at hy
    rw [List.getElem?_append_right (by omega), hl] at hc
    rcases hk : j - l.length with _ | k
    · rw [hk] at hy hc
      simp only [List.getElem?_cons_zero, Option.some.injEq] at hy hc
      rw [← hy, ← hc]
      exact DEnt.K_below hb hx
    · rw [hk] at hy
      simp at hy
end Go.Proofs.Ytfpkgdenohcglaa.Chn
/- The walks of package tlv: what each of its functions does to memory. -/
namespace Go.Proofs.Ytfpkgdenohcglaa.Tlv
open Go.Proofs.Ytfpkgdenohcglaa.Base Go.Proofs.Ytfpkgdenohcglaa.TlvPlain Go.RowKit Go.Proofs.YtfpkgdenohcglaaW.PrintWords Go.Proofs.YtfpkgdenohcglaaW.PrintLast Go.Proofs.YtfpkgdenohcglaaW.PrintMore

/-- A cut of bytes, and in which block it lies. -/
theorem cut2 {P : Program} (t e : TypeId) (kl : IntKind) {i : TypeInfo} (ht : P.underlying t = some (.slice e)) (hi : P.info? e = some i) (hsz : i.size = 1) (A : Option Addr) (n c m : Nat) (hm : m ≤ n) :
    ∃ A' : Option Addr, (∀ W : World, (Instr.slice t (.slice A n c) (some (.int kl (m : Int))) none none).run P W = .ok (.slice A' (n - m) (c - m)) W) ∧
      (∀ (w : World) (k : IntKind) (xs : List Int), n ≤ c → ReadsInt w k A n xs → ReadsInt w k A' (n - m) (xs.drop m)) ∧ (∀ ad', A' = some ad' → ∃ ad, A = some ad ∧ ad'.block = ad.block) := by
  refine ⟨if c = m then A else A.map (·.add m), fun W => ?_, fun w k xs hc h => h.drop_ m hm hc, fun ad' h => ?_⟩
  · have hel : P.elem t = e := by simp [Program.elem, ht]
    have hu : P.underlying t = some (.slice (P.elem t)) := by rw [hel]; exact ht
    rw [run_slice_l W t A n c hu kl (m : Int) (Int.natCast_nonneg _) (by omega), hel]
    simp [sizeOf, typeInfo, hi, hsz, sliced, Result.andThen]
  · split at h
    · exact ⟨ad', h, rfl⟩
    · obtain ⟨ad, h1, rfl⟩ := Option.map_eq_some_iff.1 h
      exact ⟨ad, h1, by unfold Addr.add; split <;> rfl⟩
/-- A reader at block g: made, failed, and the bytes that are left. -/
def Rdr (w0 W : World) (g : Nat) (made failed : Bool) (bs : List Int) : Prop :=
  w0.heap.size ≤ g ∧ ∃ A c, W.heap[g]? = some (.cells #[.bool made, .bool failed, .slice A bs.length c] 115 (0, 0)) ∧ bs.length ≤ c ∧ Rb W A bs ∧ bs.length < 140737488355328 ∧ U8 bs ∧ ∀ ad, A = some ad → ad.block < g
theorem Rdr.lower {w0 w1 W : World} {g : Nat} {m f : Bool} {bs : List Int} (h : Rdr w1 W g m f bs) (hs : w0.heap.size ≤ w1.heap.size) : Rdr w0 W g m f bs := ⟨Nat.le_trans hs h.1, h.2⟩
theorem cells_no_int {m f : Bool} {A : Option Addr} {n c : Nat} (i : Nat) (v : Value) (h : (#[Value.bool m, .bool f, .slice A n c] : Array Value)[i]? = some v) (k : Int) : v ≠ .int .u8 k := by
  match i, h with
  | 0, h => cases h; simp
  | 1, h => cases h; simp
  | 2, h => cases h; simp
theorem Rdr.below {w0 W W1 : World} {g : Nat} {m f : Bool} {bs : List Int} (h : Rdr w0 W g m f bs) (hb : Below W.heap.size W W1) : Rdr w0 W1 g m f bs := by
  obtain ⟨h0, A, c, h1, h2, h3, h4⟩ := h
  exact ⟨h0, A, c, (hb.block g (blk_lt h1)).trans h1, h2, Kd.C_below h3 hb, h4⟩
/-- Where another block alone was written, in which no numbers lie. -/
theorem Rdr.keep {w0 W W1 : World} {g g' : Nat} {m f : Bool} {bs : List Int} (h : Rdr w0 W g m f bs) (hk : KeepBut W W1 g' none) (hne : g ≠ g') {T : Nat} {cs : Array Value} (hb : W.heap[g']? = some (.cells cs T (0, 0))) (hcs : ∀ i : Nat, ∀ v, cs[i]? = some v → ∀ n, v ≠ Value.int .u8 n) : Rdr w0 W1 g m f bs := by
  obtain ⟨h0, A, c, h1, h2, h3, h4⟩ := h
  exact ⟨h0, A, c, hk.blk h1 hne (by simp), h2, reads_keep h3 hk (reads_ne hb hcs h3), h4⟩
theorem Rdr.grown {w0 W W1 : World} {g : Nat} {m f : Bool} {bs : List Int} {row : Option Nat} (h : Rdr w0 W g m f bs) (hg : W.grownBy W1 row) (hr : ∀ b, row = some b → g < b) : Rdr w0 W1 g m f bs := by
  obtain ⟨h0, A, c, h1, h2, h3, h4⟩ := h
  have hne : some g ≠ row := fun e => Nat.lt_irrefl g (hr g e.symm)
  refine ⟨h0, A, c, blk_grown h1 hg hne, h2, ?_, h4⟩
  cases row with
  | none => exact reads_keep h3 (KeepBut.of_grown hg W.heap.size) (fun ad e _ => by have := h4.2.2 ad e; have := blk_lt h1; omega)
  | some q =>
    have hk : KeepBut W W1 q none := ⟨hg.size, fun i hi h1 _ => hg.block i hi (fun e => h1 (Option.some.inj e))⟩
    exact reads_keep h3 hk (fun ad e _ => by have := h4.2.2 ad e; have := hr q rfl; omega)
theorem Rdr.set {w0 W : World} {g : Nat} {m f : Bool} {bs : List Int} (h : Rdr w0 W g m f bs) (f' : Bool) : Rdr w0 (W.setCell ⟨g, 1, none⟩ (.bool f')) g m f' bs := by
  obtain ⟨h0, A, c, h1, h2, h3, h4⟩ := h
  exact ⟨h0, A, c, by simpa using blk_set h1 1 (.bool f'), h2, reads_keep h3 (keep_set _ _ _ _) (reads_ne h1 cells_no_int h3), h4⟩
theorem Rdr.cut {w0 W : World} {g : Nat} {m f : Bool} {bs cs : List Int} (h : Rdr w0 W g m f bs) {A' : Option Addr} {c' : Nat} (hc : cs.length ≤ c') (hr : Rb W A' cs) (hl : cs.length ≤ bs.length) (hu : U8 cs) (hbl : ∀ ad, A' = some ad → ad.block < g) : Rdr w0 (W.setCell ⟨g, 2, none⟩ (.slice A' cs.length c')) g m f cs := by
  obtain ⟨h0, A, c, h1, h2, h3, h4⟩ := h
  exact ⟨h0, A', c', by simpa using blk_set h1 2 (.slice A' cs.length c'), hc, reads_keep hr (keep_set _ _ _ _) (reads_ne h1 cells_no_int hr), Nat.lt_of_le_of_lt hl h4.1, hu, hbl⟩

set_option maxHeartbeats 800000 in
set_option maxRecDepth 100000 in
theorem clone (A0 : Option Addr) (c0 : Nat) (l0 : List Int) (w : World) (hr0 : Kd.C (Kd.int .u8) w A0 l0.length l0) (hc0 : l0.length ≤ c0) (hl : l0.length < 140737488355328) :
    Calls Try.prog 51 #[.slice A0 l0.length c0] w fun e w' => ∃ v : Value, e = .returned v ∧ Kd.R (Kd.int .u8) 5 w' w.heap.size (fun _ => True) v l0 ∧ Below w.heap.size w w' := by
  have hq := fun (n c : Nat) => Lib.run_eql_slice_nil (P := Try.prog) w 25 5 A0 n c 0 0 Try.underlying25
  have HR := Aside0.mk hr0
  have HL := Aside0.mk hl
  have HC := Aside0.mk hc0
  clear hr0 hl hc0
  cases A0 with
  | none =>
    have hz : l0 = [] := by
      have h := HR.out
      cases l0 with
      | nil => rfl
      | cons x xs => obtain ⟨ad, c, e, _⟩ := Kd.C_get h 0 0 (by omega) (by simp); cases e
    subst hz
    clear HR HL HC
    go_enter Try.func51, Try.ntmps51
    go_wp2
    go_ret
    exact ⟨_, rfl, Kd.R_nil _ _ _ _ _, Below.refl _ _⟩
  | some a =>
    have HB := Aside0.mk (Below.refl w.heap.size w)
    go_enter Try.func51, Try.ntmps51
    go_wp2_with (first
      | ((with_reducible refine gate_dst (N := 5) rfl ?_); refine Kd.R_lit (Kd.int .u8) _ 5 ?hg (N := 5) ?hd (xs := ([] : List Int)) (inner := []) (ok := fun _ => True) (okp := fun _ => True) ?hr ?hp (fun _ hk => hk) trivial (Below.refl _ _) (Nat.le_refl _) (by simp) ?_; (case hd => rfl); (case hg => rfl); (case hr => first | (go_simp; done) | (go_simp; rfl)); (case hp => exact (Reps.none _ _)); intro v255 w3 ho4 hb hg_ hnew_; clear hg_ hnew_; have n0_ := Aside0.mk (Kd.R_lower ho4 (below_size HB.out)); have n1_ := Aside0.mk (below_step HB.out hb); clear HB; have HO := n0_; have HB := n1_; clear n0_ n1_; clear hb ho4)
      | ((with_reducible refine gate_builtin (b := .append) (xs := #[.tmp 5, .tmp 6]) rfl ?_); at_builtin; refine Kd.R_append_rows (Kd.int .u8) (w0 := w) w.heap.size rfl (.tmp 5) (.tmp 6) 25 5 (.int .u8 0) 1 rfl Try.underlying25 info_u8 rfl (by decide) (by omega) v255 [] l0 _ _ _ (fun _ => True) (fun _ => False) rfl rfl HO.out (Kd.C_below HR.out HB.out) (fun _ _ h => h) (fun _ h => h.elim) (fun _ _ => trivial) HB.out (below_size HB.out) (by have := HL.out; simp; omega) ?_; intro v258 w5 ho hb hg hat; have n0_ := Aside0.mk (hb); have n1_ := Aside0.mk (ho); clear HB; clear HO; have HB := n0_; have HO := n1_; clear n0_ n1_; clear ho hb hg hat))
    go_ret
    exact ⟨_, rfl, HO.out, HB.out⟩

theorem clone_n (A0 : Option Addr) (c0 n : Nat) (l0 : List Int) (w : World) (hr0 : Rb w A0 l0) (hn : l0.length = n) (hc0 : n ≤ c0) (hl : n < 140737488355328) :
    Calls Try.prog 51 #[.slice A0 n c0] w fun e w' => ∃ v : Value, e = .returned v ∧ Ob w' w.heap.size v l0 ∧ Below w.heap.size w w' := by
  subst hn
  exact clone A0 c0 l0 w hr0 hc0 hl

set_option maxHeartbeats 800000 in
set_option maxRecDepth 100000 in
theorem new_ (A0 : Option Addr) (c0 : Nat) (l0 : List Int) (w : World) (hr0 : Rb w A0 l0) (hc0 : l0.length ≤ c0) (hl : l0.length < 140737488355328) (hu : U8 l0) :
    Calls Try.prog 59 #[.slice A0 l0.length c0] w fun e w' => ∃ g : Nat, e = .returned (.pointer (some ⟨g, 0, none⟩)) ∧ Rdr w w' g true false l0 ∧ Below w.heap.size w w' := by
  have HR := Aside0.mk hr0
  have HL := Aside0.mk hl
  have HC := Aside0.mk hc0
  have HU := Aside0.mk hu
  clear hr0 hl hc0 hu
  go_enter Try.func59, Try.ntmps59
  go_wp2_with (go_at_call 51; refine (clone A0 c0 l0 _ HR.out HC.out HL.out).mono ?_; rintro e w1 ⟨v, rfl, ho, hb⟩; obtain ⟨A, c, rfl, hlc, hrd⟩ := Kd.R_reads ho; have HLT := Aside0.mk (show ∀ ad, A = some ad → ad.block < w1.heap.size from fun ad e => Kd.R_lt ho ad.block (by rw [e]; rfl)); have HO := Aside0.mk hrd; have HLC := Aside0.mk hlc; have HB := Aside0.mk hb; clear hrd hlc hb ho)
  go_ret
  refine ⟨_, rfl, ⟨HB.out.size, A, c, ?_, HLC.out, Kd.C_alloc HO.out _, HL.out, HU.out, HLT.out⟩, below_alloc HB.out _⟩
  exact blk_new _ _

set_option maxHeartbeats 800000 in
set_option maxRecDepth 100000 in
theorem ok_ (w0 w : World) (g : Nat) (m f : Bool) (bs : List Int) (h : Rdr w0 w g m f bs) :
    Calls Try.prog 63 #[.pointer (some ⟨g, 0, none⟩)] w fun e w' => e = .returned (.bool (m && !f)) ∧ w = w' := by
  obtain ⟨_, A, c, h1, _⟩ := h
  have hc0 := (blk_cell h1 0).trans rfl
  have hc1 := (blk_cell h1 1).trans rfl
  clear h1
  cases m <;> cases f
  all_goals
    go_enter Try.func63, Try.ntmps63
    go_wp2
    go_ret
    exact ⟨rfl, rfl⟩
set_option maxHeartbeats 800000 in
theorem fail_ (w0 w : World) (g : Nat) (m f : Bool) (bs : List Int) (h : Rdr w0 w g m f bs) :
    Calls Try.prog 101 #[.pointer (some ⟨g, 0, none⟩)] w fun e w' => e = .returned (.tuple #[]) ∧ w' = w.setCell ⟨g, 1, none⟩ (.bool true) := by
  obtain ⟨_, A, c, h1, _⟩ := h
  have hc1 := (blk_cell h1 1).trans rfl
  have hf1 := blk_frozen h1 1
  clear h1
  go_enter Try.func101, Try.ntmps101
  go_wp2
  go_end0
  exact ⟨rfl, rfl⟩
set_option maxHeartbeats 800000 in
theorem left_ (w0 w : World) (g : Nat) (m f : Bool) (bs : List Int) (h : Rdr w0 w g m f bs) :
    Calls Try.prog 60 #[.pointer (some ⟨g, 0, none⟩)] w fun e w' => e = .returned (.int .i64 (if m && !f then (bs.length : Int) else 0)) ∧ w = w' := by
  have HI := Aside0.mk h
  obtain ⟨_, A, c, h1, _⟩ := h
  have hc2 : w.cell? ⟨g, 2, none⟩ = some (.slice A bs.length c) := (blk_cell h1 2).trans rfl
  clear h1
  cases m <;> cases f
  all_goals
    go_enter Try.func60, Try.ntmps60
    go_wp2_with (go_at_call 63; refine (ok_ w0 w g _ _ bs HI.out).mono ?_; rintro e w' ⟨rfl, rfl⟩)
    go_ret
    exact ⟨rfl, rfl⟩

set_option maxHeartbeats 1600000 in
set_option maxRecDepth 100000 in
theorem take_bad (w0 w : World) (g : Nat) (m f : Bool) (bs : List Int) (n : Int) (h : Rdr w0 w g m f bs) (hB : Below w0.heap.size w0 w) (hbad : ¬ (m = true ∧ f = false ∧ 0 ≤ n ∧ n ≤ bs.length)) :
    Calls Try.prog 92 #[.pointer (some ⟨g, 0, none⟩), .int .i64 n] w fun e w' => ∃ v, e = .returned v ∧ Ob w' w.heap.size v [] ∧ Rdr w0 w' g m true bs ∧ Below w0.heap.size w0 w' ∧ KeepBut w w' g none := by
  have HI := Aside0.mk h
  have HB := Aside0.mk hB
  clear hB
  have hfin : Rdr w0 (w.setCell ⟨g, 1, none⟩ (.bool true)) g m true bs ∧ Below w0.heap.size w0 (w.setCell ⟨g, 1, none⟩ (.bool true)) ∧ KeepBut w (w.setCell ⟨g, 1, none⟩ (.bool true)) g none := ⟨h.set true, below_set HB.out h.1, keep_set _ _ _ _⟩
  have HF := Aside0.mk hfin
  clear hfin
  obtain ⟨_, A, c, h1, _⟩ := h
  have hc2 : w.cell? ⟨g, 2, none⟩ = some (.slice A bs.length c) := (blk_cell h1 2).trans rfl
  clear h1
  by_cases hok : m = true ∧ f = false
  · obtain ⟨rfl, rfl⟩ := hok
    by_cases hn : n < 0
    · have hd : decide (n < 0) = true := decide_eq_true hn
      clear hbad hn
      go_enter Try.func92, Try.ntmps92
      go_wp2_with (first | (go_at_call 63; refine (ok_ w0 w g true false bs HI.out).mono ?_; rintro e w' ⟨rfl, rfl⟩) | (go_at_call 101; refine (fail_ w0 w g true false bs HI.out).mono ?_; rintro e w' ⟨rfl, rfl⟩))
      go_ret
      exact ⟨_, rfl, Kd.R_nil _ _ _ _ _, HF.out⟩
    · have hd : decide (n < 0) = false := decide_eq_false hn
      have hg : decide ((bs.length : Int) < n) = true := decide_eq_true (by
        by_cases h2 : (bs.length : Int) < n
        · exact h2
        · exact absurd ⟨rfl, rfl, by omega, by omega⟩ hbad)
      clear hbad hn
      go_enter Try.func92, Try.ntmps92
      go_wp2_with (first | (go_at_call 63; refine (ok_ w0 w g true false bs HI.out).mono ?_; rintro e w' ⟨rfl, rfl⟩) | (go_at_call 101; refine (fail_ w0 w g true false bs HI.out).mono ?_; rintro e w' ⟨rfl, rfl⟩))
      go_ret
      exact ⟨_, rfl, Kd.R_nil _ _ _ _ _, HF.out⟩
  · clear hbad
    have hb : (m && !f) = false := by cases m <;> cases f <;> simp_all
    clear hok
    go_enter Try.func92, Try.ntmps92
    go_wp2_with (first | (go_at_call 63; refine (ok_ w0 w g m f bs HI.out).mono ?_; rintro e w' ⟨rfl, rfl⟩) | (go_at_call 101; refine (fail_ w0 w g m f bs HI.out).mono ?_; rintro e w' ⟨rfl, rfl⟩))
    go_ret
    exact ⟨_, rfl, Kd.R_nil _ _ _ _ _, HF.out⟩

set_option maxHeartbeats 1600000 in
set_option maxRecDepth 100000 in
theorem take_good (w0 w : World) (g : Nat) (bs : List Int) (n : Nat) (h : Rdr w0 w g true false bs) (hB : Below w0.heap.size w0 w) (hn : n ≤ bs.length) :
    Calls Try.prog 92 #[.pointer (some ⟨g, 0, none⟩), .int .i64 n] w fun e w' => ∃ v, e = .returned v ∧ Ob w' w.heap.size v (bs.take n) ∧ Rdr w0 w' g true false (bs.drop n) ∧ Below w0.heap.size w0 w' ∧ KeepBut w w' g none := by
  have HI := Aside0.mk h
  have HB := Aside0.mk hB
  clear hB
  obtain ⟨hg0, A, c, h1, h2, h3, h4⟩ := h
  have hnn : (0 : Int) ≤ (n : Int) := Int.natCast_nonneg _
  have hnc : (n : Int) ≤ (c : Int) := by omega
  have hd0 : decide ((n : Int) < 0) = false := decide_eq_false (by omega)
  have hd1 : decide ((bs.length : Int) < (n : Int)) = false := decide_eq_false (by omega)
  have hd2 : decide (bs.length < n) = false := decide_eq_false (by omega)
  have H1 := Aside0.mk h1
  have hc2 : w.cell? ⟨g, 2, none⟩ = some (.slice A bs.length c) := (blk_cell h1 2).trans rfl
  have hf2 := blk_frozen h1 2
  have h3' := Kd.reads_of_C (d := (0 : Int)) h3
  have hlen : bs.length ≤ 9223372036854775807 := h3'.2.1
  obtain ⟨i0, hi, hz0, hz1, hz2⟩ := info_parts info_u8
  obtain ⟨A', hcut, hA', hbk⟩ := cut2 (P := Try.prog) 25 5 .i64 Try.underlying25 hi hz1 A bs.length c n hn
  have hrest : Rb w A' (bs.drop n) := by
    have := Kd.C_of_reads (d := (0 : Int)) (h1 := fun _ => rfl) (hA' w .u8 bs h2 h3')
    rwa [← List.length_drop] at this
  have hfirst : Rb w A (bs.take n) := by
    have h5 := Kd.C_of_reads (d := (0 : Int)) (h1 := fun _ => rfl) (ReadsInt.take_ h3' n hn)
    show Kd.C _ w A (bs.take n).length (bs.take n)
    rw [show (bs.take n).length = n from by rw [List.length_take]; omega]
    exact h5
  have hR := (show Rdr w0 w g true false bs from ⟨hg0, A, c, h1, h2, h3, h4⟩).cut (c' := c - n) (by rw [List.length_drop]; omega) hrest (by rw [List.length_drop]; omega) (h4.2.1.drop n) (fun ad' e => by obtain ⟨ad, e2, e3⟩ := hbk ad' e; rw [e3]; exact h4.2.2 ad e2)
  rw [List.length_drop] at hR
  have HRd := Aside0.mk hR
  have HF := Aside0.mk (reads_keep hfirst (keep_set w g 2 (.slice A' (bs.length - n) (c - n))) (reads_ne h1 cells_no_int hfirst))
  have HBn := Aside0.mk (below_set (j := 2) (v := .slice A' (bs.length - n) (c - n)) HB.out hg0)
  have HKn := Aside0.mk (keep_set w g 2 (.slice A' (bs.length - n) (c - n)))
  have HTL := Aside0.mk (show (bs.take n).length = n by rw [List.length_take]; omega)
  have HBL := Aside0.mk (show n < 140737488355328 by have := h4.1; omega)
  clear hR hrest hfirst h1 h3 h4 hbk hA' h3' hi hz0 hz1 hz2 hg0
  go_enter Try.func92, Try.ntmps92
  go_wp2_with (first | (go_at_call 63; refine (ok_ w0 w g true false bs HI.out).mono ?_; rintro e w' ⟨rfl, rfl⟩) | (go_at_call 51; refine (clone_n A n n (bs.take n) _ HF.out HTL.out (Nat.le_refl _) HBL.out).mono ?_; rintro e w1 ⟨v, rfl, ho, hb⟩; have HO := Aside0.mk ho; have HW := Aside0.mk hb; clear ho hb))
  go_ret
  refine ⟨_, rfl, Kd.R_lower HO.out HKn.out.1, HRd.out.below HW.out, HBn.out.trans (HW.out.mono HBn.out.size), HKn.out.trans (KeepBut.of_below HW.out g none) (.inl rfl)⟩

/-- A reader's state: the bytes that are left, or that it failed. -/
def RdO (w0 W : World) (g : Nat) (st : Option (List Int)) : Prop :=
  match st with
  | some bs => Rdr w0 W g true false bs
  | none => ∃ m f bs, (m && !f) = false ∧ Rdr w0 W g m f bs
theorem RdO.any {w0 W : World} {g : Nat} {st : Option (List Int)} (h : RdO w0 W g st) : ∃ m f bs, (m && !f) = st.isSome ∧ Rdr w0 W g m f bs := by
  cases st with
  | some bs => exact ⟨true, false, bs, rfl, h⟩
  | none => exact h
theorem RdO.below {w0 W W1 : World} {g : Nat} {st : Option (List Int)} (h : RdO w0 W g st) (hb : Below W.heap.size W W1) : RdO w0 W1 g st := by
  cases st with
  | some bs => exact Rdr.below h hb
  | none => obtain ⟨m, f, bs, e, h⟩ := h; exact ⟨m, f, bs, e, h.below hb⟩
theorem RdO.keep {w0 W W1 : World} {g g' : Nat} {st : Option (List Int)} (h : RdO w0 W g st) (hk : KeepBut W W1 g' none) (hne : g ≠ g') {T : Nat} {cs : Array Value} (hb : W.heap[g']? = some (.cells cs T (0, 0))) (hcs : ∀ i : Nat, ∀ v, cs[i]? = some v → ∀ n, v ≠ Value.int .u8 n) : RdO w0 W1 g st := by
  cases st with
  | some bs => exact Rdr.keep h hk hne hb hcs
  | none => obtain ⟨m, f, bs, e, h⟩ := h; exact ⟨m, f, bs, e, h.keep hk hne hb hcs⟩
theorem RdO.grown {w0 W W1 : World} {g : Nat} {st : Option (List Int)} {row : Option Nat} (h : RdO w0 W g st) (hg : W.grownBy W1 row) (hr : ∀ b, row = some b → g < b) : RdO w0 W1 g st := by
  cases st with
  | some bs => exact Rdr.grown h hg hr
  | none => obtain ⟨m, f, bs, e, h⟩ := h; exact ⟨m, f, bs, e, h.grown hg hr⟩
theorem RdO.lower {w0 w1 W : World} {g : Nat} {st : Option (List Int)} (h : RdO w1 W g st) (hs : w0.heap.size ≤ w1.heap.size) : RdO w0 W g st := by
  cases st with
  | some bs => exact Rdr.lower h hs
  | none => obtain ⟨m, f, bs, e, h⟩ := h; exact ⟨m, f, bs, e, h.lower hs⟩
theorem RdO.blk {w0 W : World} {g : Nat} {st : Option (List Int)} (h : RdO w0 W g st) : w0.heap.size ≤ g ∧ g < W.heap.size ∧ ∃ cs, W.heap[g]? = some (.cells cs 115 (0, 0)) ∧ ∀ i : Nat, ∀ v, cs[i]? = some v → ∀ n, v ≠ Value.int .u8 n := by
  obtain ⟨m, f, bs, _, h0, A, c, h1, _⟩ := h.any
  exact ⟨h0, blk_lt h1, _, h1, cells_no_int⟩
theorem RdO.u8 {w0 W : World} {g : Nat} {bs : List Int} (h : RdO w0 W g (some bs)) : U8 bs ∧ bs.length < 140737488355328 := by
  obtain ⟨_, _, _, _, _, _, h1, h2⟩ := (show Rdr w0 W g true false bs from h)
  exact ⟨h2.1, h1⟩
/-- What a call that is handed a reader leaves. -/
def Left (w0 w w' : World) (g : Nat) (st : Option (List Int)) : Prop := RdO w0 w' g st ∧ Below w0.heap.size w0 w' ∧ KeepBut w w' g none
theorem Left.trans {w0 w w1 w2 : World} {g : Nat} {s1 s2 : Option (List Int)} (h : Left w0 w w1 g s1) (k : Left w0 w1 w2 g s2) : Left w0 w w2 g s2 := ⟨k.1, k.2.1, h.2.2.trans k.2.2 (.inl rfl)⟩
theorem Left.refl {w0 w : World} {g : Nat} {st : Option (List Int)} (h : RdO w0 w g st) (hB : Below w0.heap.size w0 w) : Left w0 w w g st := ⟨h, hB, KeepBut.refl _ _ _⟩

theorem okO (w0 w : World) (g : Nat) (st : Option (List Int)) (h : RdO w0 w g st) :
    Calls Try.prog 63 #[.pointer (some ⟨g, 0, none⟩)] w fun e w' => e = .returned (.bool st.isSome) ∧ w = w' := by
  obtain ⟨m, f, bs, e, h⟩ := h.any
  rw [← e]
  exact ok_ w0 w g m f bs h
theorem leftO_ (w0 w : World) (g : Nat) (st : Option (List Int)) (h : RdO w0 w g st) :
    Calls Try.prog 60 #[.pointer (some ⟨g, 0, none⟩)] w fun e w' => e = .returned (.int .i64 (leftO st)) ∧ w = w' := by
  cases st with
  | some bs => exact left_ w0 w g true false bs h
  | none =>
    obtain ⟨m, f, bs, e, h⟩ := h
    have := left_ w0 w g m f bs h
    rw [e] at this
    exact this
theorem failO (w0 w : World) (g : Nat) (st : Option (List Int)) (h : RdO w0 w g st) (hB : Below w0.heap.size w0 w) :
    Calls Try.prog 101 #[.pointer (some ⟨g, 0, none⟩)] w fun e w' => e = .returned (.tuple #[]) ∧ Left w0 w w' g none := by
  obtain ⟨m, f, bs, e, h⟩ := h.any
  refine (fail_ w0 w g m f bs h).mono ?_
  rintro e w' ⟨rfl, rfl⟩
  exact ⟨rfl, ⟨m, true, bs, by cases m <;> rfl, h.set true⟩, below_set hB h.1, keep_set _ _ _ _⟩
theorem takeO_ (w0 w : World) (g : Nat) (st : Option (List Int)) (n : Int) (h : RdO w0 w g st) (hB : Below w0.heap.size w0 w) :
    Calls Try.prog 92 #[.pointer (some ⟨g, 0, none⟩), .int .i64 n] w fun e w' => ∃ v, e = .returned v ∧ Ob w' w.heap.size v (takeO st n).1 ∧ Left w0 w w' g (takeO st n).2 := by
  cases st with
  | some bs =>
    by_cases hn : 0 ≤ n ∧ n ≤ bs.length
    · obtain ⟨m, rfl⟩ := Int.eq_ofNat_of_zero_le hn.1
      have e : takeO (some bs) (m : Int) = (bs.take m, some (bs.drop m)) := by simp only [takeO]; rw [if_pos hn]; rfl
      rw [e]
      refine (take_good w0 w g bs m h hB (by omega)).mono ?_
      rintro e w' ⟨v, rfl, h1, h2, h3, h4⟩
      exact ⟨v, rfl, h1, h2, h3, h4⟩
    · have e : takeO (some bs) n = ([], none) := by simp only [takeO]; rw [if_neg hn]
      rw [e]
      refine (take_bad w0 w g true false bs n h hB (fun h => hn h.2.2)).mono ?_
      rintro e w' ⟨v, rfl, h1, h2, h3, h4⟩
      exact ⟨v, rfl, h1, ⟨_, _, _, rfl, h2⟩, h3, h4⟩
  | none =>
    obtain ⟨m, f, bs, e, h⟩ := h
    refine (take_bad w0 w g m f bs n h hB (fun h => by obtain ⟨rfl, rfl, _⟩ := h; cases e)).mono ?_
    rintro e w' ⟨v, rfl, h1, h2, h3, h4⟩
    exact ⟨v, rfl, h1, ⟨_, _, _, by cases m <;> rfl, h2⟩, h3, h4⟩
theorem newO (A0 : Option Addr) (c0 : Nat) (l0 : List Int) (w : World) (hr0 : Rb w A0 l0) (hc0 : l0.length ≤ c0) (hl : l0.length < 140737488355328) (hu : U8 l0) :
    Calls Try.prog 59 #[.slice A0 l0.length c0] w fun e w' => ∃ g : Nat, e = .returned (.pointer (some ⟨g, 0, none⟩)) ∧ RdO w w' g (some l0) ∧ Below w.heap.size w w' := new_ A0 c0 l0 w hr0 hc0 hl hu
end Go.Proofs.Ytfpkgdenohcglaa.Tlv
/- chain.Add. -/
namespace Go.Proofs.Ytfpkgdenohcglaa.Chn
set_option linter.unusedVariables false
set_option linter.unusedSimpArgs false
open Go.RowKit Go.Proofs.Ytfpkgdenohcglaa.Base Go.Proofs.Ytfpkgdenohcglaa.TlvPlain Go.Proofs.Ytfpkgdenohcglaa.ShaPlain Go.Proofs.Ytfpkgdenohcglaa.Sha Go.Proofs.Ytfpkgdenohcglaa.Com Go.Proofs.Ytfpkgdenohcglaa.Aid Go.Proofs.YtfpkgdenohcglaaW.PrintWords Go.Proofs.YtfpkgdenohcglaaW.PrintLast Go.Proofs.YtfpkgdenohcglaaW.PrintMore
set_option maxHeartbeats 4000000 in
set_option maxRecDepth 100000 in
theorem add_c (l : List Ent) (m : Nat) (hl : l.length = m) (hm : m ≤ 100000) (hu : Lu' l) (A : Option Addr) (c : Nat) (hc : m ≤ c) (salt : Int) (h0 : 0 ≤ salt) (h1 : salt ≤ 18446744073709551615) (pay : List Int) (hpu : U8 pay) (hpl : pay.length ≤ 100000)
    (B : Option Addr) (cb : Nat) (hcb : pay.length ≤ cb) (w : World) (hr : Re w A l) (hp : Rb w B pay) :
    Calls Try.prog 13 #[.slice A m c, .int .u64 salt, .slice B pay.length cb] w (RetE w (addT l salt pay)) := by
  unfold RetE
  obtain ⟨D, hD⟩ := sumC (headT l) (headT_len _)
  obtain ⟨E, hE⟩ := sumC (comH salt pay) (comH_len _ _)
  have HH := Aside0.mk (head_c l m hl (by omega) hu A c w hr)
  unfold Ret at HH
  rw [hD.v] at HH
  have HOF := Aside0.mk (fun W (hW : Below w.heap.size w W) => by
    have h2 := cof_c salt h0 h1 B cb pay W (Kd.C_below hp hW) hcb hpu hpl
    rw [← comH_eq, hE.v] at h2
    exact h2)
  have HCL := Aside0.mk (fun W (hW : Below w.heap.size w W) => Tlv.clone B cb pay W (Kd.C_below hp hW) hcb (by omega))
  obtain ⟨rows, hrl, hrr, hrk⟩ := rows_of hr
  have HR := Aside0.mk hrr
  have HRL := Aside0.mk hrl
  have HRK := Aside0.mk hrk
  have HD := Aside0.mk hD
  have HE := Aside0.mk hE
  have HL := Aside0.mk hl
  have HM := Aside0.mk hm
  have q0 : (m : Int) ≤ 100000 := by omega
  clear hl hm hu hc h0 h1 hpu hpl hcb hr hp hD hE hrl hrr hrk
  go_enter Try.func13, Try.ntmps13
  go_upto_region 2 with (first
    | (go_at_call 22; refine HH.out.mono ?_; rintro e w2 ⟨rfl, hb⟩; have HB2 := Aside0.mk hb; clear hb)
    | (go_at_call 50; refine (HOF.out _ HB2.out).mono ?_; rintro e w3 ⟨rfl, hb⟩; have HB3 := Aside0.mk (below_step HB2.out hb); clear hb)
    | (go_at_call 51; refine (HCL.out _ HB3.out).mono ?_; rintro e w4 ⟨v, rfl, ho, hb⟩; have HB4 := Aside0.mk (below_step HB3.out hb); obtain ⟨A4, c4, rfl, hc4, hr4⟩ := Kd.R_reads ho; have HC4 := Aside0.mk hc4; have HR4 := Aside0.mk hr4; clear ho hb hc4 hr4)
    | ((with_reducible refine gate_dst (N := 19) rfl ?_); refine wpList_new rfl (.tmp 10) (.tmp 12) (.tmp 15) (.tmp 16) (.tmp 18) rfl (m : Int) salt D E HD.out.lenC HE.out.lenC A4 pay.length c4 rfl rfl rfl rfl rfl ?_;
       have hC := (show EntC w4 (newE l salt pay) D E A4 c4 from ⟨HD.out, HE.out, HC4.out, HR4.out⟩);
       have HKE := Aside0.mk (ent_mk hC); have HXL := Aside0.mk hC.len; have HXO := Aside0.mk hC.one; have HXI := Aside0.mk hC.info; clear hC;
       rw [show cE (newE l salt pay) D E A4 c4 = cellsE (m : Int) D E salt A4 pay.length c4 false from by rw [← HL.out]] at HKE HXL HXO HXI;
       obtain ⟨X, hX⟩ : ∃ X, cellsE (m : Int) D E salt A4 pay.length c4 false = X := ⟨_, rfl⟩; rw [hX] at HKE HXL HXO HXI ⊢; clear hX;
       have HY := Aside0.mk (show (w4.alloc (.cells zE.toArray 27)).heap[w4.heap.size]? = some (.cells zE.toArray 27 (0, 0)) from blk_new _ _))
    | ((with_reducible refine gate_store (t := 27) (p := 7) (v := .tmp 19) rfl ?_); refine wpList_store_row rfl 27 (.tmp 7) (.tmp 19) rfl w4.heap.size X.toArray rfl rfl 27 zE.toArray HY.out (by rw [List.size_toArray]; exact HXI.out) (by rw [List.size_toArray, List.size_toArray, zE_len, HXL.out]) HXO.out ?_))
  have HX5 := Aside0.mk (setRow_heap (w4.alloc (.cells zE.toArray 27)) w4.heap.size zE.toArray X.toArray _ _ HY.out)
  have HB5 := Aside0.mk (show Below w4.heap.size w4 ((w4.alloc (.cells zE.toArray 27)).setRow w4.heap.size X.toArray) from below_setRow (below_alloc (Below.refl _ _) _) (Nat.le_refl _) _)
  obtain ⟨w5, hw5⟩ : ∃ V, (w4.alloc (.cells zE.toArray 27)).setRow w4.heap.size X.toArray = V := ⟨_, rfl⟩
  rw [hw5] at HX5 HB5
  rw [show (w4.alloc (.cells Try.zeroCells27 27)).setRow w4.heap.size X.toArray = w5 from hw5]
  clear hw5 HY
  have HS5 := Aside0.mk (show w4.heap.size < w5.heap.size from (Array.getElem?_eq_some_iff.1 HX5.out).1)
  go_wp2_with (first
    | (at_make; refine wpList_make_e rfl (.tmp 21) (.tmp 24) rfl m HM.out rfl rfl ?_; intro zs hzs; have HZS := Aside0.mk hzs; clear hzs)
    | ((with_reducible refine gate_builtin (b := .copy) (xs := #[.tmp 26, .tmp 27]) rfl ?_); refine wpList_copy_e (w0 := w4) rfl (.tmp 26) (.tmp 27) rfl w5.heap.size m c A rfl rfl HM.out zs (blk_new _ _) HZS.out rows (by rw [HRL.out, HL.out]) (by have h := ReadsRow.imp_ HR.out (below_step HB4.out (below_alloc HB5.out (.cells zs.toArray 27))) (fun _ _ hp => hp); rw [HL.out] at h; exact h) w4.heap.size (Nat.le_of_lt HS5.out) (below_alloc HB5.out _) ?_;
       intro w6 hR hb hk; have HR6 := Aside0.mk hR; have HB6 := Aside0.mk hb; have HX6 := Aside0.mk (atC_blk ((hk w4.heap.size (Nat.ne_of_lt HS5.out)).trans (blk_alloc HX5.out _))); clear hR hb hk)
    | ((with_reducible refine gate_dst (N := 30) rfl ?_); refine wpList_load_at rfl 27 (.tmp 7) rfl ⟨w4.heap.size, 0, none⟩ rfl X _ HX6.out Try.underlying27 rfl HXI.out ?_)
    | ((with_reducible refine gate_dst (N := 31) rfl ?_); refine wpList_ent1 rfl (.tmp 30) rfl X rfl HXL.out ?_)
    | ((with_reducible refine gate_builtin (b := .append) (xs := #[.tmp 29, .tmp 31]) rfl ?_); at_builtin; refine Kd.R_append KW (w0 := w4) w4.heap.size rfl (.tmp 29) (.tmp 31) 22 27 (.agg Try.zeroCells27) 112 rfl Try.underlying22 info_ent3 rfl (by decide) (by decide) _ rows X X (fun _ => True) (fun _ => False) rfl rfl ⟨rfl, HXL.out, fun u hu => by have h := HXO.out; rw [List.all_toArray, List.all_eq_true] at h; exact h u hu⟩ (fun _ h => h.elim) (fun _ _ => trivial) HR6.out HB6.out HB6.out.size (by rw [HRL.out, HL.out]; have := HM.out; omega) ?_; intro v7 w7 ho hb hg hat; have HO7 := Aside0.mk ho; have HB7 := Aside0.mk hb; clear ho hb hg hat))
  go_ret
  have hfin := Rw.snoc (x := newE l salt pay) (w0 := w) (W := w4) HRL.out HO7.out HRK.out (below_step HB4.out HB7.out) HKE.out HB7.out
  exact ⟨_, rfl, hfin.lower HB4.out.size, below_step HB4.out HB7.out⟩
end Go.Proofs.Ytfpkgdenohcglaa.Chn
/- The document's Add. -/
namespace Go.Proofs.Ytfpkgdenohcglaa.Chn
set_option linter.unusedVariables false
set_option linter.unusedSimpArgs false
open Go.RowKit Go.Proofs.Ytfpkgdenohcglaa.Base Go.Proofs.Ytfpkgdenohcglaa.TlvPlain Go.Proofs.Ytfpkgdenohcglaa.ShaPlain Go.Proofs.Ytfpkgdenohcglaa.Sha Go.Proofs.Ytfpkgdenohcglaa.Com Go.Proofs.Ytfpkgdenohcglaa.Aid Go.Proofs.YtfpkgdenohcglaaW.PrintWords Go.Proofs.YtfpkgdenohcglaaW.PrintLast Go.Proofs.YtfpkgdenohcglaaW.PrintMore
end Go.Proofs.Ytfpkgdenohcglaa.Chn
/- Redact of chain and of the document. -/
namespace Go.Proofs.Ytfpkgdenohcglaa.Chn
set_option linter.unusedVariables false
set_option linter.unusedSimpArgs false
open Go.RowKit Go.Proofs.Ytfpkgdenohcglaa.Base Go.Proofs.Ytfpkgdenohcglaa.TlvPlain Go.Proofs.Ytfpkgdenohcglaa.ShaPlain Go.Proofs.Ytfpkgdenohcglaa.Sha Go.Proofs.Ytfpkgdenohcglaa.Com Go.Proofs.Ytfpkgdenohcglaa.Aid Go.Proofs.YtfpkgdenohcglaaW.PrintWords Go.Proofs.YtfpkgdenohcglaaW.PrintLast Go.Proofs.YtfpkgdenohcglaaW.PrintMore
/-- An entry's fields, wherever it lies. -/
structure EntF (W : World) (ad : Addr) (x : Ent) (P C : List Value) (A : Option Addr) (c : Nat) : Prop where
  s : W.cell? ad = some (.int .i64 (seqE x))
  fp : AtC W (ad.add 1) P
  fc : AtC W (ad.add 33) C
  sl : W.cell? (ad.add 65) = some (.int .u64 (saltE x))
  py : W.cell? (ad.add 66) = some (.slice A (payE x).length c)
  r : W.cell? (ad.add 67) = some (.bool (redE x))
theorem EntF.below {W W' : World} {ad : Addr} {x : Ent} {P C : List Value} {A : Option Addr} {c : Nat} (h : EntF W ad x P C A c) (hb : Below W.heap.size W W') : EntF W' ad x P C A c :=
  ⟨cell_below hb h.s, h.fp.below hb, h.fc.below hb, cell_below hb h.sl, cell_below hb h.py, cell_below hb h.r⟩
theorem entF {W : World} {ad : Addr} {x : Ent} {P C : List Value} {A : Option Addr} {c : Nat} (hP : P.length = 32) (hC : C.length = 32) (h : AtC W ad (cE x P C A c)) : EntF W ad x P C A c := by
  have h0 : W.cell? ad = some (.int .i64 (seqE x)) := by have h := h 0 _ rfl; rwa [show ad.add 0 = ad from rfl] at h
  have h1 := AtC.right (a := [Value.int .i64 (seqE x)]) (b := P ++ (C ++ [Value.int .u64 (saltE x), .slice A (payE x).length c, .bool (redE x)])) h
  have h2 := h1.right
  rw [hP, show (ad.add [Value.int .i64 (seqE x)].length).add 32 = ad.add 33 from addr_add_add _ _ _] at h2
  have h3 := h2.right
  rw [hC, addr_add_add] at h3
  refine ⟨h0, h1.left, h2.left, ?_, ?_, ?_⟩
  · have h4 := h3 0 _ rfl
    rwa [addr_add_add] at h4
  · have h4 := h3 1 _ rfl
    rwa [addr_add_add] at h4
  · have h4 := h3 2 _ rfl
    rwa [addr_add_add] at h4
theorem set_last (s sl : Int) (P C : List Value) (hP : P.length = 32) (hC : C.length = 32) (A : Option Addr) (n c : Nat) (r : Bool) :
    (((cellsE s P C sl A n c r).set 65 (.int .u64 0)).set 66 (.slice none 0 0)).set 67 (.bool true) = cellsE s P C 0 none 0 0 true := by
  have e : ∀ l : List Value, Value.int .i64 s :: (P ++ (C ++ l)) = (Value.int .i64 s :: (P ++ C)) ++ l := fun l => by simp
  have hn : (Value.int .i64 s :: (P ++ C)).length = 65 := by simp [hP, hC]
  unfold cellsE
  rw [e, e, List.set_append_right _ _ (by rw [hn]; decide), List.set_append_right _ _ (by rw [hn]; decide), List.set_append_right _ _ (by rw [hn]; decide), hn]
  rfl
theorem cut_mk {w : World} {x : Ent} {P C : List Value} {A : Option Addr} {c : Nat} (h : EntC w x P C A c) : EntC w (cutE x) P C none 0 := ⟨h.fp, h.fc, Nat.le_refl _, Kd.C_nil _ _⟩
theorem Rw.cut {w0 w' : World} {base : Nat} {v : Value} {l : List Ent} {rows : List (List Value)} {k : Nat} {x : Ent} {cs : List Value} (hl : rows.length = l.length) (hR : KW.R 27 w' base (fun _ => True) v (rows.set k cs))
    (h0 : ∀ (j : Nat) (x : Ent) (c : List Value), l[j]? = some x → rows[j]? = some c → DEnt.K w0 x c) (hb0 : Below w0.heap.size w0 w') (hx : DEnt.K w0 x cs) : Rw w' base v (l.set k x) := by
  refine ⟨rows.set k cs, by simp [hl], hR, fun j y c hy hc => ?_⟩
  rw [List.getElem?_set] at hy hc
  split at hy
  · next he =>
    rw [if_pos he] at hc
    split at hy
    · next hlt =>
      rw [if_pos (by omega)] at hc
      rw [← Option.some.inj hy, ← Option.some.inj hc]
      exact DEnt.K_below hb0 hx
    · cases hy
  · next he =>
    rw [if_neg he] at hc
    exact DEnt.K_below hb0 (h0 j y c hy hc)
section
variable {ops : Array Oper} {rest : List Oper} {o : Oper} {a : Act} {Q : Exit → Act → World → Prop}
/-- One cell of an entry in a row of one's own. -/
theorem wpList_put {W w0 : World} {base : Nat} (hN : o.dst = none) (hgd : o.guard = none) (t : TypeId) (p x : Operand) (ho : o.op = .store t p x) {g n cap o' : Nat} (k j : Nat) (rows : List (List Value)) (u : Value) (c : List Value)
    (haddr : a.eval p = .pointer (some ⟨g, o', none⟩)) (hoff : o' = k * 68 + j) (hx : a.eval x = u) (hu : u.cells.toList = [u]) (ht : (Try.prog.info? t).map (·.size) = some 1) (h1 : u.oneCell' = true)
    (HO : KW.R 27 W base (fun _ => True) (.slice (some ⟨g, 0, none⟩) n cap) rows) (hk : k < n) (hc : rows[k]? = some c) (hj : j < 68) (HB : Below base w0 W)
    (h : ∀ w1, KW.R 27 w1 base (fun _ => True) (.slice (some ⟨g, 0, none⟩) n cap) (rows.set k (c.set j u)) → Below base w0 w1 → wpList Try.prog ops Q rest a w1) : wpList Try.prog ops Q (o :: rest) a W := by
  obtain ⟨c', hcl, hM, hcc, _⟩ := Kd.R_elem HO [] (k : Int) (by omega) (by omega)
  rw [Int.toNat_natCast] at hM hcc
  have he : c' = c := by
    have h2 := hM.1
    rwa [List.getD_eq_getElem?_getD, hc] at h2
  subst he
  have hcl : c'.length = 68 := hcl
  have hset : c'.take j ++ [u] ++ c'.drop (j + 1) = c'.set j u := by
    rw [List.set_eq_take_append_cons_drop, if_pos (by omega)]
    simp
  refine Kd.R_store KW base hN hgd t p x ho 27 (k : Int) j rows (c'.set j u) u [u] c' (fun _ => True) (fun _ => False) haddr (by rw [hoff, Int.toNat_natCast]; rfl) hx hu ht (fun q hq => by rw [List.mem_singleton.1 hq]; exact h1) HO (by omega) (by omega) hcl (by rw [Int.toNat_natCast]; exact hcc) (by show j + 1 ≤ 68; omega)
    ⟨hset, by show (c'.take j ++ [u] ++ c'.drop (j + 1)).length = 68; rw [hset, List.length_set, hcl], fun q hq => by
      rw [show [u].length = 1 from rfl, hset] at hq
      rcases List.mem_or_eq_of_mem_set hq with h3 | h3
      · exact hM.2.2 q h3
      · rw [h3]; exact h1⟩ (fun _ hk => hk.elim) HB ?_
  intro w1 hr hb hg
  rw [Int.toNat_natCast] at hr
  exact h w1 hr hb
end
abbrev RetR (w : World) (r : List Ent × Int) : Ending → World → Prop := fun e w' => ∃ v, e = .returned (.tuple #[v, .int .i64 r.2]) ∧ Rw w' w.heap.size v r.1 ∧ Below w.heap.size w w'
theorem fin_red {w w5 : World} {l : List Ent} {rows : List (List Value)} {k m g cap : Nat} {x : Ent} {cs : List Value} (hl : rows.length = l.length) (hK : ∀ (j : Nat) (x : Ent) (c : List Value), l[j]? = some x → rows[j]? = some c → DEnt.K w x c)
    (hc : DEnt.K w x cs) (hb : Below w.heap.size w w5)
    (hR : KW.R 27 w5 w.heap.size (fun _ => True) (.slice (some ⟨g, 0, none⟩) m cap) (rows.set k (((cs.set 65 (.int .u64 0)).set 66 (.slice none 0 0)).set 67 (.bool true)))) :
    Rw w5 w.heap.size (.slice (some ⟨g, 0, none⟩) m cap) (l.set k (cutE x)) := by
  obtain ⟨P, C, A, c, hC, rfl⟩ := ent_open hc
  rw [set_last _ _ _ _ hC.fp.lenC hC.fc.lenC] at hR
  exact Rw.cut hl hR hK hb (ent_mk (cut_mk hC))
theorem redT_in (l : List Ent) (k : Nat) (h : k < l.length) : redT l (k : Int) = if redE l[k] then ([], 13) else (l.set k (cutE l[k]), 0) := by
  unfold redT
  rw [if_pos (by omega), Int.toNat_natCast, List.getElem?_eq_getElem h]
set_option maxHeartbeats 4000000 in
set_option maxRecDepth 100000 in
theorem redact_in (l : List Ent) (m : Nat) (hl : l.length = m) (hm : m ≤ 100000) (k : Nat) (hk : k < m) (A : Option Addr) (c : Nat) (hc : m ≤ c) (w : World) (hr : Re w A l) :
    Calls Try.prog 15 #[.slice A m c, .int .i64 k] w (RetR w (redT l (k : Int))) := by
  rw [redT_in l k (by omega)]
  obtain ⟨ad, P, C, B, cb, rfl, hat, hC⟩ := re_at hr k (by omega)
  have HEF := Aside0.mk (entF hC.fp.lenC hC.fc.lenC hat)
  obtain ⟨x, hx⟩ : ∃ x, l[k]'(by omega) = x := ⟨_, rfl⟩
  have HXK := Aside0.mk (show l[k]? = some x from by rw [List.getElem?_eq_getElem (by omega), hx])
  rw [hx] at hat hC HEF ⊢
  have HC := Aside0.mk hC
  have HAT := Aside0.mk hat
  have q0 : (0 : Int) ≤ (k : Int) := by omega
  have q1 : (k : Int) < (m : Int) := by omega
  have q2 : decide ((k : Int) < 0) = false := decide_eq_false (by omega)
  have q3 : decide ((m : Int) ≤ (k : Int)) = false := decide_eq_false (by omega)
  have q4 : decide (m ≤ k) = false := decide_eq_false (by omega)
  have q5 : (k : Int) ≤ 100000 := by omega
  have HM := Aside0.mk hm
  have HK := Aside0.mk hk
  have HL := Aside0.mk hl
  have HR := Aside0.mk hr
  unfold RetR
  have HCL := Aside0.mk (eclone_c l m hl hm (some ad) c hc w hr)
  have hred : w.cell? ⟨(ad.add (k * 68)).block, (ad.add (k * 68)).off + 67, none⟩ = some (.bool (redE x)) := HEF.out.r
  obtain ⟨rd, hrd⟩ : ∃ rd, redE x = rd := ⟨_, rfl⟩
  rw [hrd] at hred ⊢
  clear hl hm hk hc hr hat hC hx hrd
  cases rd with
  | true =>
    rw [if_pos rfl]
    go_enter Try.func15, Try.ntmps15
    go_wp2_with (fail)
    go_ret2
    exact ⟨_, rfl, Rw.nil _ _, Below.refl _ _⟩
  | false =>
    rw [if_neg Bool.false_ne_true]
    go_enter Try.func15, Try.ntmps15
    go_wp2_with (fail)
    refine HCL.out.mono ?_
    rintro e w2 ⟨v, rows, rfl, hrl, hR, hK, hb⟩
    obtain ⟨g, cap, hv, hg1, hg2, _⟩ := Kd.R_form hR (by rw [hrl, HL.out]; exact Nat.lt_of_le_of_lt (Nat.zero_le _) HK.out)
    subst hv
    rw [hrl, HL.out] at hR ⊢
    have hkr : k < rows.length := by rw [hrl, HL.out]; exact HK.out
    have HRK := Aside0.mk (List.getElem?_eq_getElem hkr)
    obtain ⟨cs, hcs⟩ : ∃ cs, rows[k] = cs := ⟨_, rfl⟩
    rw [hcs] at HRK
    have HKC := Aside0.mk (hK k x cs HXK.out HRK.out)
    have HR2 := Aside0.mk hR
    have HKK := Aside0.mk hK
    have HRL := Aside0.mk hrl
    have HB2 := Aside0.mk hb
    have HKR := Aside0.mk hkr
    clear hrl hR hK hb hg1 hg2 hkr hcs hred
    go_wp2_with (first
      | ((with_reducible refine gate_store (t := 24) (p := 31) (v := _) rfl ?_); refine wpList_put (w0 := w2) (base := w.heap.size) rfl rfl 24 (.tmp 31) _ rfl k 65 rows (.int .u64 0) cs rfl (by first | rfl | omega) rfl rfl (by kernel_rfl) rfl HR2.out HK.out HRK.out (by decide) ⟨rfl, rfl, rfl, Nat.le_refl _, fun _ _ => rfl⟩ ?_; intro w3 ho hb; have HR3 := Aside0.mk ho; have HB3 := Aside0.mk hb; clear ho hb)
      | ((with_reducible refine gate_store (t := 25) (p := 33) (v := _) rfl ?_); refine wpList_put (w0 := w2) (base := w.heap.size) rfl rfl 25 (.tmp 33) _ rfl k 66 _ (.slice none 0 0) _ rfl (by first | rfl | omega) rfl rfl (by kernel_rfl) rfl HR3.out HK.out (List.getElem?_set_self HKR.out) (by decide) HB3.out ?_; intro w4 ho hb; have HR4 := Aside0.mk ho; have HB4 := Aside0.mk hb; clear ho hb)
      | ((with_reducible refine gate_store (t := 4) (p := 35) (v := _) rfl ?_); refine wpList_put (w0 := w2) (base := w.heap.size) rfl rfl 4 (.tmp 35) _ rfl k 67 _ (.bool true) _ rfl (by first | rfl | omega) rfl rfl (by kernel_rfl) rfl HR4.out HK.out (List.getElem?_set_self (by rw [List.length_set]; exact HKR.out)) (by decide) HB4.out ?_; intro w5 ho hb; have HR5 := Aside0.mk ho; have HB5 := Aside0.mk hb; clear ho hb))
    go_ret2
    have hR5 := HR5.out
    rw [List.set_set, List.set_set] at hR5
    exact ⟨_, rfl, fin_red HRL.out HKK.out HKC.out (HB2.out.trans HB5.out) hR5, HB2.out.trans HB5.out⟩
end Go.Proofs.Ytfpkgdenohcglaa.Chn
/- The document's Same. -/
namespace Go.Proofs.Ytfpkgdenohcglaa.Chn
set_option linter.unusedVariables false
set_option linter.unusedSimpArgs false
open Go.RowKit Go.Proofs.Ytfpkgdenohcglaa.Base Go.Proofs.Ytfpkgdenohcglaa.TlvPlain Go.Proofs.Ytfpkgdenohcglaa.ShaPlain Go.Proofs.Ytfpkgdenohcglaa.Sha Go.Proofs.Ytfpkgdenohcglaa.Com Go.Proofs.Ytfpkgdenohcglaa.Aid Go.Proofs.YtfpkgdenohcglaaW.PrintWords Go.Proofs.YtfpkgdenohcglaaW.PrintLast Go.Proofs.YtfpkgdenohcglaaW.PrintMore
end Go.Proofs.Ytfpkgdenohcglaa.Chn
/- Few; the law's example. -/
namespace Go.Proofs.Ytfpkgdenohcglaa.Chn
set_option linter.unusedVariables false
set_option linter.unusedSimpArgs false
open Go.RowKit Go.Proofs.Ytfpkgdenohcglaa.Base Go.Proofs.Ytfpkgdenohcglaa.TlvPlain Go.Proofs.Ytfpkgdenohcglaa.ShaPlain Go.Proofs.Ytfpkgdenohcglaa.Sha Go.Proofs.Ytfpkgdenohcglaa.Com Go.Proofs.Ytfpkgdenohcglaa.Aid Go.Proofs.YtfpkgdenohcglaaW.PrintWords Go.Proofs.YtfpkgdenohcglaaW.PrintLast Go.Proofs.YtfpkgdenohcglaaW.PrintMore
attribute [local irreducible] shaB
def fewT (l : List Ent) : Bool := (l.take 20).all (fun x => decide ((payE x).length ≤ 300)) && decide (l.length ≤ 12)
theorem fewT_yes {l : List Ent} (h : fewT l = true) : l.length ≤ 12 ∧ ∀ x ∈ l, (payE x).length ≤ 300 := by
  unfold fewT at h
  rw [Bool.and_eq_true, List.all_eq_true, decide_eq_true_eq] at h
  refine ⟨h.2, fun x hx => ?_⟩
  have h2 := h.1 x (by rw [List.take_of_length_le (by omega)]; exact hx)
  exact of_decide_eq_true h2
theorem few_bad (l : List Ent) (k : Nat) (hk : k < l.length) (h20 : k < 20) (h : 300 < (payE l[k]).length) : fewT l = false := by
  unfold fewT
  rw [Bool.and_eq_false_iff]
  left
  rw [List.all_eq_false]
  exact ⟨l[k], List.mem_iff_getElem.2 ⟨k, by simp; omega, by simp⟩, by simp; omega⟩
theorem few_end (l : List Ent) (k : Nat) (hk : k ≤ l.length) (h : k < l.length → 20 ≤ k) (hs : ∀ x ∈ l.take k, (payE x).length ≤ 300) : fewT l = decide (l.length ≤ 12) := by
  unfold fewT
  have h1 : (l.take 20).all (fun x => decide ((payE x).length ≤ 300)) = true := by
    rw [List.all_eq_true]
    intro x hx
    refine decide_eq_true (hs x ?_)
    by_cases hkl : k < l.length
    · have := h hkl
      exact List.mem_of_mem_take (by rw [List.take_take, Nat.min_eq_left this]; exact hx)
    · rw [List.take_of_length_le (by omega)]
      exact List.mem_of_mem_take hx
  rw [h1, Bool.true_and]
set_option maxHeartbeats 4000000 in
set_option maxRecDepth 100000 in
theorem few_c (l : List Ent) (m : Nat) (hl : l.length = m) (hm : m ≤ 9223372036854775807) (A : Option Addr) (c : Nat) (w : World) (hr : Re w A l) :
    Calls Try.prog 11 #[.slice A m c] w (RetB w (fewT l)) := by
  unfold RetB
  have HR := Aside0.mk hr
  have HL := Aside0.mk hl
  have HM := Aside0.mk hm
  clear hl hr hm
  go_enter Try.func11, Try.ntmps11
  have HB := Aside0.mk (Below.refl w.heap.size w)
  go_wp2_with (fail)
  go_loopw [3] (fun i wr => ∃ k : Nat, k ≤ m ∧ k ≤ 20 ∧ i = .int .i64 k ∧ Aside0 (∀ x ∈ l.take k, (payE x).length ≤ 300) ∧ Below w.heap.size w wr) (fun i _ => 20 - (intOf i).toNat)
  case atStart => exact ⟨0, Nat.zero_le _, Nat.zero_le _, rfl, ⟨fun x hx => by simp at hx⟩, HB.out⟩
  case round =>
    clear HB
    obtain ⟨k, hk, hk20, rfl, HS, hb⟩ := hrel
    have HB := Aside0.mk hb
    clear hb
    obtain ⟨W, hwy⟩ : ∃ wy, wy = wr := ⟨_, rfl⟩
    subst hwy
    by_cases hlt : k < m
    · by_cases h20 : k < 20
      · have hkl : k < l.length := by rw [HL.out]; exact hlt
        obtain ⟨ad, P, C, B, cb, rfl, hat, hC⟩ := re_at HR.out k hkl
        have hpy : W.cell? ⟨(ad.add (k * 68)).block, (ad.add (k * 68)).off + 66, none⟩ = some (.slice B (payE l[k]).length cb) := ((entF hC.fp.lenC hC.fc.lenC hat).below HB.out).py
        have HBAD := Aside0.mk (few_bad l k hkl h20)
        have HTK := Aside0.mk (take_snoc l k hkl)
        obtain ⟨x, hx⟩ : ∃ x, l[k] = x := ⟨_, rfl⟩
        rw [hx] at hpy HBAD HTK
        obtain ⟨n, hn⟩ : ∃ n, (payE x).length = n := ⟨_, rfl⟩
        rw [hn] at hpy HBAD
        have HN := Aside0.mk hn
        have HK := Aside0.mk (And.intro hlt h20)
        have p0 : (0 : Int) ≤ (k : Int) := by omega
        have p1 : (k : Int) < (m : Int) := by omega
        have p2 : (k : Int) < 20 := by omega
        have d1 : decide ((k : Int) < (m : Int)) = true := decide_eq_true p1
        have d2 : decide ((k : Int) < 20) = true := decide_eq_true p2
        have d3 : decide (k < m) = true := decide_eq_true hlt
        clear hat hC hx hn hkl hlt h20 hk hk20
        by_cases hp : 300 < n
        · have e1 : decide ((300 : Int) < (n : Int)) = true := decide_eq_true (by omega)
          have e2 : decide (300 < n) = true := decide_eq_true hp
          have HF := Aside0.mk (HBAD.out hp)
          clear hp
          go_wp2_with (fail)
          go_ret
          exact ⟨(congrArg (fun b => Ending.returned (Value.bool b)) HF.out).symm, HB.out⟩
        · have e1 : decide ((300 : Int) < (n : Int)) = false := decide_eq_false (by omega)
          have e2 : decide (300 < n) = false := decide_eq_false hp
          have HS2 := Aside0.mk (show ∀ y ∈ l.take (k + 1), (payE y).length ≤ 300 from by
            rw [HTK.out]
            intro y hy
            rcases List.mem_append.1 hy with h | h
            · exact HS.out y h
            · rw [List.mem_singleton.1 h, HN.out]; omega)
          clear hp
          go_wp2_with (fail)
          go_roundw
          case rel => exact ⟨k + 1, by have := HK.out.1; omega, by have := HK.out.2; omega, by go_num, HS2, HB.out⟩
          case measure => have := HK.out.2; simp [intOf]; omega
      · have hk2 : k = 20 := by omega
        subst hk2
        have HF := Aside0.mk (few_end l 20 (by rw [HL.out]; omega) (fun _ => Nat.le_refl _) HS.out)
        rw [HL.out] at HF
        have p1 : (20 : Int) < (m : Int) := by omega
        have d1 : decide ((20 : Int) < (m : Int)) = true := decide_eq_true p1
        have d3 : decide (20 < m) = true := decide_eq_true hlt
        have e1 : decide ((m : Int) ≤ 12) = false := decide_eq_false (by omega)
        have e2 : decide (m ≤ 12) = false := decide_eq_false (by omega)
        rw [e2] at HF
        clear hlt h20 hk hk20
        go_wp2_with (fail)
        go_ret
        exact ⟨(congrArg (fun b => Ending.returned (Value.bool b)) HF.out).symm, HB.out⟩
    · have hkm : k = m := by omega
      subst hkm
      have HF := Aside0.mk (few_end l k (by rw [HL.out]; omega) (fun h => by rw [HL.out] at h; omega) HS.out)
      rw [HL.out] at HF
      obtain ⟨b, hb⟩ : ∃ b, decide (k ≤ 12) = b := ⟨_, rfl⟩
      have e1 : decide ((k : Int) ≤ 12) = b := by rw [← hb]; by_cases h : k ≤ 12 <;> simp [h] <;> omega
      rw [hb] at HF
      clear hlt hk hk20
      go_wp2_with (fail)
      go_ret
      exact ⟨(congrArg (fun b => Ending.returned (Value.bool b)) HF.out).symm, HB.out⟩
def x0 : Ent := newE [] 5 [97]
def x1 : Ent := newE [x0] 6 [98]
theorem cutE_u {x : Ent} (h : Eu x) : Eu (cutE x) := ⟨h.pl, h.pu, h.cl, h.cu, Int.le_refl _, by show (0 : Int) ≤ _; decide, fun y hy => by cases hy⟩
theorem newE_u (l : List Ent) {salt : Int} {pay : List Int} (h0 : 0 ≤ salt) (h1 : salt ≤ 18446744073709551615) (hp : U8 pay) : Eu (newE l salt pay) := ⟨headT_len _, headT_u8 _, comH_len _ _, comH_u8 _ _, h0, h1, hp⟩
end Go.Proofs.Ytfpkgdenohcglaa.Chn
/- The law ChainAdds walked. -/
namespace Go.Proofs.Ytfpkgdenohcglaa.Chn
set_option linter.unusedVariables false
set_option linter.unusedSimpArgs false
open Go.RowKit Go.Proofs.Ytfpkgdenohcglaa.Base Go.Proofs.Ytfpkgdenohcglaa.TlvPlain Go.Proofs.Ytfpkgdenohcglaa.ShaPlain Go.Proofs.Ytfpkgdenohcglaa.Sha Go.Proofs.Ytfpkgdenohcglaa.Com Go.Proofs.Ytfpkgdenohcglaa.Aid Go.Proofs.YtfpkgdenohcglaaW.PrintWords Go.Proofs.YtfpkgdenohcglaaW.PrintLast Go.Proofs.YtfpkgdenohcglaaW.PrintMore
/-- What has been made so far stays. -/
structure AddsI (w W : World) (g : Nat) (x : Ent) (P C : List Value) (B : Option Addr) (cb : Nat) : Prop where
  b : Below w.heap.size w W
  e : EntAt W g x P C B cb
theorem AddsI.step {w W W' : World} {g : Nat} {x : Ent} {P C : List Value} {B : Option Addr} {cb : Nat} (h : AddsI w W g x P C B cb) (hb : Below W.heap.size W W') : AddsI w W' g x P C B cb := ⟨below_step h.b hb, h.e.below hb⟩
end Go.Proofs.Ytfpkgdenohcglaa.Chn
/- What was put is read, what was read is put: a reader in plain words. -/
namespace Go.Proofs.Ytfpkgdenohcglaa.RdPlain
open Go.RowKit Go.Proofs.Ytfpkgdenohcglaa.Base Go.Proofs.Ytfpkgdenohcglaa.TlvPlain Go.Proofs.Ytfpkgdenohcglaa.Lo Go.Proofs.YtfpkgdenohcglaaW.PrintWords
theorem count_numB {n most : Int} (h0 : 0 ≤ n) (h1 : n ≤ most) (hm : most ≤ 18446744073709551615) (r : List Int) : countO (some (numB n ++ r)) most = (n, some r) := by
  unfold countO
  rw [numO_numB n h0 (by omega) r, if_neg (by simp; omega)]
theorem take_app (l r : List Int) : takeO (some (l ++ r)) (l.length : Int) = (l, some r) := by
  simp only [takeO]
  rw [if_pos ⟨by omega, by simp; omega⟩]
  simp
theorem text_textB {l : List Int} {most : Int} (h : (l.length : Int) ≤ most) (hm : most ≤ 18446744073709551615) (r : List Int) : textO (some (textB l ++ r)) most = (l, some r) := by
  unfold textO textB
  rw [List.append_assoc, count_numB (by omega) h hm]
  exact take_app l r
theorem U8.right {a b : List Int} (h : U8 (a ++ b)) : U8 b := fun x hx => h x (List.mem_append_right _ hx)
theorem U8.left {a b : List Int} (h : U8 (a ++ b)) : U8 a := fun x hx => h x (List.mem_append_left _ hx)
theorem str_bytes (s : ByteArray) : strOfNums (bytesOf s) = s := by
  apply ByteArray.ext
  apply Array.toList_inj.1
  rw [strOfNums_data]
  unfold bytesOf
  rw [List.map_map]
  conv => rhs; rw [← List.map_id s.data.toList]
  refine List.map_congr_left (fun x _ => ?_)
  show UInt8.ofNat ((x.toNat : Int)).toNat = x
  rw [Int.toNat_natCast]
  exact UInt8.ofNat_toNat
theorem u8_bytes (s : ByteArray) : U8 (bytesOf s) := by
  intro x hx
  unfold bytesOf at hx
  simp only [List.mem_map] at hx
  obtain ⟨c, _, rfl⟩ := hx
  have := c.toNat_lt
  omega
end Go.Proofs.Ytfpkgdenohcglaa.RdPlain
/- A chain's bytes, and which chain bytes are, in plain words; what was put is got; what was added verifies, whatever is redacted. -/
namespace Go.Proofs.Ytfpkgdenohcglaa.Chn
set_option linter.unusedVariables false
set_option linter.unusedSimpArgs false
open Go.RowKit Go.Proofs.Ytfpkgdenohcglaa.Base Go.Proofs.Ytfpkgdenohcglaa.TlvPlain Go.Proofs.Ytfpkgdenohcglaa.Lo Go.Proofs.Ytfpkgdenohcglaa.RdPlain Go.Proofs.Ytfpkgdenohcglaa.Aid Go.Proofs.Ytfpkgdenohcglaa.Com Go.Proofs.Ytfpkgdenohcglaa.Sha Go.Proofs.Ytfpkgdenohcglaa.ShaPlain
attribute [local irreducible] shaB
def flagE (x : Ent) : Int := if redE x then 1 else 0
def putE (x : Ent) : List Int := flagE x :: (comE x ++ (numB (saltE x) ++ textB (payE x)))
def putL (l : List Ent) : List Int := l.flatMap putE
def putC (l : List Ent) : List Int := putL l ++ headT l
/-- The next 32 bytes; or 32 that are 0. -/
def sumO (st : Option (List Int)) : Sm × Option (List Int) := (if (takeO st 32).1.length = 32 then (takeO st 32).1 else Z, (takeO st 32).2)
theorem sumO_app {d r : List Int} (h : d.length = 32) : sumO (some (d ++ r)) = (d, some r) := by
  have := take_app d r
  rw [h] at this
  unfold sumO
  rw [show takeO (some (d ++ r)) 32 = (d, some r) from this]
  dsimp only
  rw [if_pos h]
/-- An entry's fields, as they are read: its flag, commitment, salt, payload; and what is left. -/
structure Rd where
  f : List Int
  com : Sm
  salt : Int
  pay : List Int
  st : Option (List Int)
def rdE (st : Option (List Int)) : Rd :=
  ⟨(takeO st 1).1, (sumO (takeO st 1).2).1, (numO (sumO (takeO st 1).2).2).1, (textO (numO (sumO (takeO st 1).2).2).2 100).1, (textO (numO (sumO (takeO st 1).2).2).2 100).2⟩
def entR (st : Option (List Int)) (seq : Int) (prev : Sm) : Ent := (seq, prev, (rdE st).com, (rdE st).salt, (rdE st).pay, decide ((rdE st).f.getD 0 0 = 1))
/-- The next entry, behind others. -/
def readE (st : Option (List Int)) (seq : Int) (prev : Sm) : Option (Ent × List Int) :=
  match (rdE st).st with
  | none => none
  | some r => if 1 < (rdE st).f.getD 0 0 then none else if rightT (entR st seq prev) then some (entR st seq prev, r) else none
def finC (bs : List Int) (l : List Ent) : List Ent × Int := if bs.length = 32 ∧ bs = headT l then (l, 0) else ([], 2)
/-- Which chain bytes are, l being those ahead. -/
def getN : Nat → List Int → List Ent → List Ent × Int
  | 0, bs, l => finC bs l
  | n + 1, bs, l => if 32 < bs.length then
      match readE (some bs) (l.length : Int) (headT l) with
      | none => ([], 2)
      | some (x, r) => if 120 ≤ l.length then ([], 2) else getN n r (l ++ [x])
    else finC bs l
def getC (b : List Int) : List Ent × Int := getN b.length b []
theorem rd_put {x : Ent} (hu : Eu x) (hp : (payE x).length ≤ 100) (r : List Int) : rdE (some (putE x ++ r)) = ⟨[flagE x], comE x, saltE x, payE x, some r⟩ := by
  unfold rdE
  have t1 : takeO (some (putE x ++ r)) 1 = ([flagE x], some (comE x ++ (numB (saltE x) ++ (textB (payE x) ++ r)))) := by
    have := take_app [flagE x] (comE x ++ (numB (saltE x) ++ (textB (payE x) ++ r)))
    rw [show putE x ++ r = [flagE x] ++ (comE x ++ (numB (saltE x) ++ (textB (payE x) ++ r))) by unfold putE; simp]
    exact this
  rw [t1]
  dsimp only
  rw [sumO_app hu.cl]
  dsimp only
  rw [numO_numB _ hu.s0 hu.s1]
  dsimp only
  rw [text_textB (by omega) (by decide)]
theorem read_put {x : Ent} (hu : Eu x) (hp : (payE x).length ≤ 100) (hr : rightT x = true) (r : List Int) : readE (some (putE x ++ r)) (seqE x) (prevE x) = some (x, r) := by
  have he : entR (some (putE x ++ r)) (seqE x) (prevE x) = x := by
    unfold entR
    rw [rd_put hu hp]
    obtain ⟨a, b, c, d, e, f⟩ := x
    cases f <;> rfl
  unfold readE
  rw [he, rd_put hu hp]
  dsimp only
  rw [if_neg (by unfold flagE; simp only [List.getD_cons_zero]; split <;> decide), if_pos hr]
theorem putE_len (x : Ent) : 1 ≤ (putE x).length := by unfold putE; rw [List.length_cons]; omega
theorem badT_cons {x : Ent} {l : List Ent} {i : Nat} {d : Sm} (h : badT (x :: l) i d = none) : okT i d x = true ∧ badT l (i + 1) (linkT x) = none := by
  rw [badT] at h
  split at h
  · next c => exact ⟨c, h⟩
  · cases h
theorem ok_parts {i : Nat} {d : Sm} {x : Ent} (h : okT i d x = true) : seqE x = (i : Int) ∧ prevE x = d ∧ rightT x = true := by
  unfold okT at h
  simp only [Bool.and_eq_true, decide_eq_true_eq] at h
  exact h
theorem get_put_from : ∀ (n : Nat) (m l : List Ent), (putL m ++ headT (l ++ m)).length ≤ n → Lu' m → (∀ x ∈ m, (payE x).length ≤ 100) → l.length + m.length ≤ 120 → badT m l.length (headT l) = none → getN n (putL m ++ headT (l ++ m)) l = (l ++ m, 0)
  | n, [], l, hn, _, _, _, _ => by
    have hf : finC (headT l) l = (l, 0) := by unfold finC; rw [if_pos ⟨headT_len l, rfl⟩]
    simp only [putL, List.flatMap_nil, List.nil_append, List.append_nil] at hn ⊢
    cases n with
    | zero => exact hf
    | succ n => rw [getN, if_neg (by rw [headT_len]; omega)]; exact hf
  | 0, x :: m, l, hn, _, _, _, _ => by
    rw [List.length_append, headT_len] at hn
    omega
  | n + 1, x :: m, l, hn, hu, hp, hl, hb => by
    obtain ⟨ho, hb'⟩ := badT_cons hb
    obtain ⟨h1, h2, h3⟩ := ok_parts ho
    have e0 : putL (x :: m) ++ headT (l ++ x :: m) = putE x ++ (putL m ++ headT (l ++ [x] ++ m)) := by
      unfold putL
      rw [List.flatMap_cons, List.append_assoc, List.append_assoc, List.singleton_append]
    have hlen := putE_len x
    rw [e0] at hn ⊢
    rw [List.length_append] at hn
    rw [getN, if_pos (by rw [List.length_append, List.length_append, headT_len]; omega), ← h1, ← h2, read_put (hu x List.mem_cons_self) (hp x List.mem_cons_self) h3]
    dsimp only
    rw [List.length_cons] at hl
    rw [if_neg (by omega)]
    have := get_put_from n m (l ++ [x]) (by omega) (fun y hy => hu y (List.mem_cons_of_mem _ hy)) (fun y hy => hp y (List.mem_cons_of_mem _ hy)) (by rw [List.length_append, List.length_singleton]; omega) (by rw [List.length_append, headT_snoc]; exact hb')
    rw [this]
    simp
theorem get_put {l : List Ent} (hu : Lu' l) (hp : ∀ x ∈ l, (payE x).length ≤ 100) (hl : l.length ≤ 120) (hb : badT l 0 Z = none) : getC (putC l) = (l, 0) := by
  have := get_put_from (putC l).length l [] (Nat.le_refl _) hu hp (by simpa using hl) hb
  exact this
def lastD (l : List Ent) (d : Sm) : Sm := match l.getLast? with | none => d | some y => linkT y
/-- One more. -/
theorem bad_snoc : ∀ (l : List Ent) (i : Nat) (d : Sm) (x : Ent), badT l i d = none → okT (i + l.length) (lastD l d) x = true → badT (l ++ [x]) i d = none
  | [], i, d, x, _, h => by
    have h' : okT i d x = true := h
    rw [List.nil_append, badT, if_pos h', badT]
  | y :: l, i, d, x, hb, h => by
    obtain ⟨h1, h2⟩ := badT_cons hb
    rw [List.cons_append, badT, if_pos h1]
    refine bad_snoc l (i + 1) (linkT y) x h2 ?_
    rw [List.length_cons] at h
    rw [show i + 1 + l.length = i + (l.length + 1) by omega]
    cases l with
    | nil => exact h
    | cons z l =>
      have e : lastD (y :: z :: l) d = lastD (z :: l) (linkT y) := by
        unfold lastD
        rw [List.getLast?_cons_cons, List.getLast?_cons]
      rw [← e]
      exact h
theorem add_bad {l : List Ent} (h : badT l 0 Z = none) (salt : Int) (pay : List Int) : badT (addT l salt pay) 0 Z = none := by
  unfold addT
  refine bad_snoc l 0 Z _ h ?_
  rw [Nat.zero_add]
  have h3 : rightT ((l.length : Int), headT l, comH salt pay, salt, pay, false) = true := by
    unfold rightT
    rw [if_neg (show ¬ (redE ((l.length : Int), headT l, comH salt pay, salt, pay, false) = true) from Bool.false_ne_true)]
    exact decide_eq_true rfl
  unfold okT
  rw [h3]
  exact (by rw [decide_eq_true (show seqE ((l.length : Int), headT l, comH salt pay, salt, pay, false) = ((l.length : Nat) : Int) from rfl), decide_eq_true (show prevE ((l.length : Int), headT l, comH salt pay, salt, pay, false) = lastD l Z from rfl)]; rfl)
theorem cut_link (x : Ent) : linkT (cutE x) = linkT x := rfl
theorem cut_ok {i : Nat} {d : Sm} {x : Ent} (h : okT i d x = true) : okT i d (cutE x) = true := by
  obtain ⟨h1, h2, _⟩ := ok_parts h
  unfold okT
  simp only [Bool.and_eq_true, decide_eq_true_eq]
  exact ⟨h1, h2, rfl⟩
theorem cut_bad : ∀ (l : List Ent) (i : Nat) (d : Sm) (k : Nat) (hk : k < l.length), badT l i d = none → badT (l.set k (cutE l[k])) i d = none
  | x :: l, i, d, 0, hk, h => by
    obtain ⟨h1, h2⟩ := badT_cons h
    rw [List.set_cons_zero, badT]
    dsimp only [List.getElem_cons_zero]
    rw [if_pos (cut_ok h1), cut_link]
    exact h2
  | x :: l, i, d, k + 1, hk, h => by
    obtain ⟨h1, h2⟩ := badT_cons h
    rw [List.set_cons_succ, badT, if_pos h1]
    exact cut_bad l (i + 1) (linkT x) k (by simpa using hk) h2
theorem head_map (l : List Ent) : headT l = match (l.map linkT).getLast? with | none => Z | some d => d := by
  unfold headT
  rw [List.getLast?_map]
  cases l.getLast? <;> rfl
theorem cut_head (l : List Ent) (k : Nat) (hk : k < l.length) : headT (l.set k (cutE l[k])) = headT l := by
  rw [head_map, head_map, List.map_set, cut_link]
  have e : (l.map linkT).set k (linkT l[k]) = l.map linkT := by
    apply List.ext_getElem? 
    intro i
    by_cases hi : i = k
    · subst hi
      rw [List.getElem?_set_self (by simpa using hk), List.getElem?_map, List.getElem?_eq_getElem hk]
      rfl
    · rw [List.getElem?_set_ne (fun e => hi e.symm)]
  rw [e]
/-- What has been added and redacted, i of it being looked at. -/
structure Bk (n : Nat) (h : Sm) (i : Nat) (l : List Ent) : Prop where
  len : l.length = n
  bad : badT l 0 Z = none
  hd : headT l = h
  u : Lu' l
  p : ∀ x ∈ l, (payE x).length ≤ 100
  nr : ∀ j x, i ≤ j → l[j]? = some x → redE x = false
theorem Bk.next {n i : Nat} {h : Sm} {l : List Ent} (H : Bk n h i l) : Bk n h (i + 1) l := ⟨H.len, H.bad, H.hd, H.u, H.p, fun j x hj hx => H.nr j x (by omega) hx⟩
theorem cut_eu {x : Ent} (h : Eu x) : Eu (cutE x) := ⟨h.pl, h.pu, h.cl, h.cu, Int.le_refl _, by show (0 : Int) ≤ _; decide, fun y hy => by cases hy⟩
theorem Bk.cut {n i : Nat} {h : Sm} {l : List Ent} (H : Bk n h i l) (hi : i < l.length) : redT l (i : Int) = (l.set i (cutE l[i]), 0) ∧ Bk n h (i + 1) (l.set i (cutE l[i])) := by
  refine ⟨?_, ⟨by rw [List.length_set]; exact H.len, cut_bad l 0 Z i hi H.bad, by rw [cut_head]; exact H.hd, ?_, ?_, ?_⟩⟩
  · unfold redT
    rw [if_pos ⟨by omega, by omega⟩, Int.toNat_natCast, List.getElem?_eq_getElem hi]
    dsimp only
    rw [H.nr i _ (Nat.le_refl _) (List.getElem?_eq_getElem hi)]
    rfl
  · intro x hx
    rcases List.mem_or_eq_of_mem_set hx with h | rfl
    · exact H.u x h
    · exact cut_eu (H.u _ (List.getElem_mem hi))
  · intro x hx
    rcases List.mem_or_eq_of_mem_set hx with h | rfl
    · exact H.p x h
    · exact Nat.zero_le _
  · intro j x hj hx
    rw [List.getElem?_set_ne (by omega)] at hx
    exact H.nr j x (by omega) hx
/-- What has been added so far. -/
structure Ad (k : Nat) (l : List Ent) : Prop where
  len : l.length = k
  bad : badT l 0 Z = none
  u : Lu' l
  p : ∀ x ∈ l, (payE x).length ≤ 100
  nr : ∀ x ∈ l, redE x = false
theorem Ad.nil : Ad 0 [] := ⟨rfl, rfl, (fun _ h => by cases h), (fun _ h => by cases h), (fun _ h => by cases h)⟩
theorem Ad.add {k : Nat} {l : List Ent} (H : Ad k l) {salt : Int} {pay : List Int} (h0 : 0 ≤ salt) (h1 : salt ≤ 18446744073709551615) (hp : U8 pay) (hl : pay.length ≤ 100) : Ad (k + 1) (addT l salt pay) := by
  have hE : Eu ((l.length : Int), headT l, comH salt pay, salt, pay, false) := ⟨headT_len _, headT_u8 _, comH_len _ _, comH_u8 _ _, h0, h1, hp⟩
  refine ⟨by unfold addT; rw [List.length_append, H.len]; rfl, add_bad H.bad _ _, ?_, ?_, ?_⟩
  all_goals
    intro x hx
    rcases List.mem_append.1 hx with h | h
  · exact H.u x h
  · rw [List.mem_singleton.1 h]; exact hE
  · exact H.p x h
  · rw [List.mem_singleton.1 h]; exact hl
  · exact H.nr x h
  · rw [List.mem_singleton.1 h]
theorem Bk.get {n i : Nat} {h : Sm} {l : List Ent} (H : Bk n h i l) (hn : n ≤ 120) : getC (putC l) = (l, 0) := get_put H.u H.p (by rw [H.len]; exact hn) H.bad
end Go.Proofs.Ytfpkgdenohcglaa.Chn
/- The walks of a reader's Num, Count and Text. -/
namespace Go.Proofs.Ytfpkgdenohcglaa.Tlv
open Go.Proofs.Ytfpkgdenohcglaa.Base Go.Proofs.Ytfpkgdenohcglaa.TlvPlain Go.RowKit Go.Proofs.YtfpkgdenohcglaaW.PrintWords Go.Proofs.YtfpkgdenohcglaaW.PrintLast Go.Proofs.YtfpkgdenohcglaaW.PrintMore

theorem take1_cons (x : Int) (r : List Int) : takeO (some (x :: r)) 1 = ([x], some r) := by
  simp only [takeO]
  rw [if_pos (by rw [List.length_cons]; omega)]
  rfl
set_option maxHeartbeats 1600000 in
set_option maxRecDepth 100000 in
theorem num_none (w0 w : World) (g : Nat) (st : Option (List Int)) (h : RdO w0 w g st) (hB : Below w0.heap.size w0 w) (hst : takeO st 1 = ([], none)) :
    Calls Try.prog 87 #[.pointer (some ⟨g, 0, none⟩)] w fun e w' => e = .returned (.int .u64 0) ∧ Left w0 w w' g none := by
  have HS := Aside0.mk h
  have HB := Aside0.mk hB
  have E1 := Aside0.mk hst
  clear h hB hst
  go_enter Try.func87, Try.ntmps87
  go_wp2_with (first
    | (go_at_call 92; refine (takeO_ _ _ _ _ _ HS.out HB.out).mono ?_; rintro e w1 ⟨v, rfl, ho, hl⟩; rw [E1.out] at ho hl; have HL := Aside0.mk hl; clear ho hl)
    | (go_at_call 63; refine (okO _ _ _ _ HL.out.1).mono ?_; rintro e w' ⟨rfl, rfl⟩)
    | (go_at_call 101; refine (failO _ _ _ _ HL.out.1 HL.out.2.1).mono ?_; rintro e w2 ⟨rfl, hf⟩; have HF := Aside0.mk hf; clear hf))
  go_ret
  exact ⟨rfl, HL.out.trans HF.out⟩

set_option maxHeartbeats 1600000 in
set_option maxRecDepth 100000 in
theorem num_wide (w0 w : World) (g : Nat) (x : Int) (r : List Int) (h : RdO w0 w g (some (x :: r))) (hB : Below w0.heap.size w0 w) (hx : 8 < x) :
    Calls Try.prog 87 #[.pointer (some ⟨g, 0, none⟩)] w fun e w' => e = .returned (.int .u64 0) ∧ Left w0 w w' g none := by
  have HS := Aside0.mk h
  have HB := Aside0.mk hB
  have E1 := Aside0.mk (take1_cons x r)
  have hd : decide (8 < x) = true := decide_eq_true hx
  clear h hB hx
  go_enter Try.func87, Try.ntmps87
  go_wp2_with (first
    | (go_at_call 92; refine (takeO_ _ _ _ _ _ HS.out HB.out).mono ?_; rintro e w1 ⟨v, rfl, ho, hl⟩; rw [E1.out] at ho hl; have HL := Aside0.mk hl; obtain ⟨A, c, rfl, hlc, hrd⟩ := Ob.reads ho; obtain ⟨ad, rfl, hc0⟩ := Rb.at0 hrd; clear ho hl hrd hlc)
    | (go_at_call 63; refine (okO _ _ _ _ HL.out.1).mono ?_; rintro e w' ⟨rfl, rfl⟩)
    | (go_at_call 101; refine (failO _ _ _ _ HL.out.1 HL.out.2.1).mono ?_; rintro e w2 ⟨rfl, hf⟩; have HF := Aside0.mk hf; clear hf))
  go_ret
  exact ⟨rfl, HL.out.trans HF.out⟩

set_option maxHeartbeats 1600000 in
set_option maxRecDepth 100000 in
theorem num_short (w0 w : World) (g : Nat) (x : Int) (r : List Int) (h : RdO w0 w g (some (x :: r))) (hB : Below w0.heap.size w0 w) (hx0 : 0 ≤ x) (hx : x ≤ 8) (hl : (r.length : Int) < x) :
    Calls Try.prog 87 #[.pointer (some ⟨g, 0, none⟩)] w fun e w' => e = .returned (.int .u64 0) ∧ Left w0 w w' g none := by
  have HS := Aside0.mk h
  have HB := Aside0.mk hB
  have E1 := Aside0.mk (take1_cons x r)
  have E2 := Aside0.mk (show takeO (some r) x = ([], none) by simp only [takeO]; rw [if_neg (by omega)])
  have hd : decide (8 < x) = false := decide_eq_false (by omega)
  clear h hB hl
  go_enter Try.func87, Try.ntmps87
  go_wp2_with (fail)
  refine (takeO_ _ _ _ _ _ HS.out HB.out).mono ?_; rintro e w1 ⟨v, rfl, ho, hl⟩; rw [E1.out] at ho hl; have HL := Aside0.mk hl; obtain ⟨A, c, rfl, hlc, hrd⟩ := Ob.reads ho; obtain ⟨ad, rfl, hc0⟩ := Rb.at0 hrd; clear ho hl hrd hlc
  go_wp2_with (first
    | (go_at_call 63; refine (okO _ _ _ _ HL.out.1).mono ?_; rintro e w' ⟨rfl, rfl⟩)
    | (go_at_call 101; refine (failO _ _ _ _ HL.out.1 HL.out.2.1).mono ?_; rintro e w2 ⟨rfl, hf⟩; have HF := Aside0.mk hf; clear hf))
  refine (takeO_ _ _ _ _ _ HL.out.1 HL.out.2.1).mono ?_; rintro e w2 ⟨v, rfl, ho, hl⟩; rw [E2.out] at ho hl; have HL2 := Aside0.mk (HL.out.trans hl); clear HL ho hl
  go_wp2_with (first
    | (go_at_call 63; refine (okO _ _ _ _ HL2.out.1).mono ?_; rintro e w' ⟨rfl, rfl⟩)
    | (go_at_call 101; refine (failO _ _ _ _ HL2.out.1 HL2.out.2.1).mono ?_; rintro e w2 ⟨rfl, hf⟩; have HF := Aside0.mk hf; clear hf))
  go_ret
  exact ⟨rfl, HL2.out.trans HF.out⟩

set_option maxHeartbeats 1600000 in
set_option maxRecDepth 100000 in
theorem num_zero (w0 w : World) (g : Nat) (x y : Int) (r : List Int) (h : RdO w0 w g (some (x :: y :: r))) (hB : Below w0.heap.size w0 w) (hx0 : 0 < x) (hx : x ≤ 8) (hl : x ≤ (r.length : Int) + 1) (hy : y = 0) :
    Calls Try.prog 87 #[.pointer (some ⟨g, 0, none⟩)] w fun e w' => e = .returned (.int .u64 0) ∧ Left w0 w w' g none := by
  subst hy
  have HS := Aside0.mk h
  have HB := Aside0.mk hB
  have E1 := Aside0.mk (take1_cons x (0 :: r))
  have E2 := Aside0.mk (show takeO (some (0 :: r)) x = (0 :: r.take (x.toNat - 1), some ((0 :: r).drop x.toNat)) by
    simp only [takeO]
    rw [if_pos (by rw [List.length_cons]; omega)]
    obtain ⟨m, hm⟩ : ∃ m, x.toNat = m + 1 := ⟨x.toNat - 1, by omega⟩
    rw [hm]; rfl)
  have hd : decide (8 < x) = false := decide_eq_false (by omega)
  clear h hB hl
  go_enter Try.func87, Try.ntmps87
  go_wp2_with (fail)
  refine (takeO_ _ _ _ _ _ HS.out HB.out).mono ?_; rintro e w1 ⟨v, rfl, ho, hl⟩; rw [E1.out] at ho hl; have HL := Aside0.mk hl; obtain ⟨A, c, rfl, hlc, hrd⟩ := Ob.reads ho; obtain ⟨ad, rfl, hc0⟩ := Rb.at0 hrd; clear ho hl hrd hlc
  go_wp2_with (first
    | (go_at_call 63; refine (okO _ _ _ _ HL.out.1).mono ?_; rintro e w' ⟨rfl, rfl⟩))
  refine (takeO_ _ _ _ _ _ HL.out.1 HL.out.2.1).mono ?_; rintro e w2 ⟨v, rfl, ho, hl⟩; rw [E2.out] at ho hl; have HL2 := Aside0.mk (HL.out.trans hl); obtain ⟨A2, c2, rfl, hlc, hrd⟩ := Ob.reads ho; obtain ⟨ad2, rfl, hc2⟩ := Rb.at0 hrd; clear HL ho hl hlc hrd
  have hl0 : decide (0 < (0 :: r.take (x.toNat - 1)).length) = true := decide_eq_true (by simp)
  generalize (0 :: r.take (x.toNat - 1)).length = nn at hl0 ⊢
  have hl2 : 0 < nn := of_decide_eq_true hl0
  have hl1 : decide (0 < (nn : Int)) = true := decide_eq_true (by omega)
  go_wp2_with (first
    | (go_at_call 63; refine (okO _ _ _ _ HL2.out.1).mono ?_; rintro e w' ⟨rfl, rfl⟩)
    | (go_at_call 101; refine (failO _ _ _ _ HL2.out.1 HL2.out.2.1).mono ?_; rintro e w2 ⟨rfl, hf⟩; have HF := Aside0.mk hf; clear hf))
  go_ret
  exact ⟨rfl, HL2.out.trans HF.out⟩

/-- One round more: the value of one byte more. -/
theorem value_step {l : List Int} (hu : U8 l) (h8 : l.length ≤ 8) (i : Nat) (hi : i < l.length) :
    Go.bits .or .u64 (IntKind.u64.wrap (valueB (l.take i) * 256)) (IntKind.u64.wrap (rd l (i : Int))) = valueB (l.take (i + 1)) := by
  have h1 := valueB_range (hu.take i)
  rw [List.length_take, Nat.min_eq_left (by omega)] at h1
  have h2 := valueB_u64 (hu.take (i + 1)) (by rw [List.length_take]; omega)
  have hx := hu _ (List.getElem_mem hi)
  rw [rd_nat' l i hi, List.take_succ_eq_append_getElem hi, valueB_snoc]
  rw [List.take_succ_eq_append_getElem hi, valueB_snoc] at h2
  have hb : valueB (l.take i) * 256 + 255 ≤ 18446744073709551615 := by
    have key : ∀ n : Nat, n ≤ 7 → (256 : Int) ^ n ≤ 72057594037927936 := by
      intro n hn
      have : n = 0 ∨ n = 1 ∨ n = 2 ∨ n = 3 ∨ n = 4 ∨ n = 5 ∨ n = 6 ∨ n = 7 := by omega
      rcases this with rfl | rfl | rfl | rfl | rfl | rfl | rfl | rfl <;> decide +kernel
    have := key i (by omega)
    omega
  rw [IntWalk.u64_in (valueB (l.take i) * 256) (by omega), IntWalk.u64_in l[i] (by omega)]
  exact or_byte _ _ h1.1 hb hx.1 hx.2

set_option maxHeartbeats 3200000 in
set_option maxRecDepth 100000 in
theorem num_good (w0 w : World) (g : Nat) (x : Int) (r : List Int) (h : RdO w0 w g (some (x :: r))) (hB : Below w0.heap.size w0 w) (hx0 : 0 ≤ x) (hx : x ≤ 8) (hl : x ≤ (r.length : Int)) (hy : ¬ (0 < x ∧ r.getD 0 0 = 0)) :
    Calls Try.prog 87 #[.pointer (some ⟨g, 0, none⟩)] w fun e w' => e = .returned (.int .u64 (valueB (r.take x.toNat))) ∧ Left w0 w w' g (some (r.drop x.toNat)) := by
  have HS := Aside0.mk h
  have HB := Aside0.mk hB
  have HU := Aside0.mk ((h.u8.1.tail).take x.toNat)
  have E1 := Aside0.mk (take1_cons x r)
  have E2 := Aside0.mk (show takeO (some r) x = (r.take x.toNat, some (r.drop x.toNat)) by simp only [takeO]; rw [if_pos ⟨hx0, hl⟩])
  obtain ⟨l, hL⟩ : ∃ l, l = r.take x.toNat := ⟨_, rfl⟩
  have hlen : l.length = x.toNat := by rw [hL, List.length_take]; omega
  have hb : (decide (0 < l.length) && (rd l 0 == 0)) = false := by
    rw [Bool.and_eq_false_iff]
    by_cases h0 : 0 < x
    · right
      rw [beq_eq_false_iff_ne]
      intro e
      apply hy
      refine ⟨h0, ?_⟩
      rw [hL] at e
      obtain ⟨m, hm⟩ : ∃ m, x.toNat = m + 1 := ⟨x.toNat - 1, by omega⟩
      cases r with
      | nil => simp at hl; omega
      | cons y r => simpa [rd, hm] using e
    · left
      exact decide_eq_false (by omega)
  rw [← hL] at HU E2 ⊢
  have h8 : l.length ≤ 8 := by omega
  have hd : decide (8 < x) = false := decide_eq_false (by omega)
  clear h hB hl hy hL hlen
  go_enter Try.func87, Try.ntmps87
  go_wp2_with (fail)
  refine (takeO_ _ _ _ _ _ HS.out HB.out).mono ?_; rintro e w1 ⟨v, rfl, ho, hl⟩; rw [E1.out] at ho hl; have HL := Aside0.mk hl; obtain ⟨A, c, rfl, hlc, hrd⟩ := Ob.reads ho; obtain ⟨ad, rfl, hc0⟩ := Rb.at0 hrd; clear ho hl hrd hlc
  go_wp2_with (first
    | (go_at_call 63; refine (okO _ _ _ _ HL.out.1).mono ?_; rintro e w' ⟨rfl, rfl⟩))
  refine (takeO_ _ _ _ _ _ HL.out.1 HL.out.2.1).mono ?_; rintro e w2 ⟨v, rfl, ho, hl⟩; rw [E2.out] at ho hl; have HL2 := Aside0.mk (HL.out.trans hl); obtain ⟨A2, c2, rfl, hlc, hrd⟩ := Ob.reads ho; have HRD := Aside0.mk hrd; clear HL ho hl hlc hrd hx0
  by_cases hz : 0 < l.length
  · have hzi : (0 : Int) < (l.length : Int) := by omega
    obtain ⟨ad2, hA2, hc2⟩ := Kd.at_int HRD.out 0 (Int.le_refl _) hzi
    subst hA2
    have hz0 : decide (0 < l.length) = true := decide_eq_true hz
    have hz1 : decide (0 < (l.length : Int)) = true := decide_eq_true (by omega)
    have hb1 : (rd l 0 == 0) = false := by rw [hz0, Bool.true_and] at hb; exact hb
    have hc3 : w2.cell? ad2 = some (.int .u8 (rd l 0)) := by simpa [Addr.add] using hc2
    clear hb hc2
    go_wp2_with (first
      | (go_at_call 63; refine (okO _ _ _ _ HL2.out.1).mono ?_; rintro e w' ⟨rfl, rfl⟩))
    clear hz0 hz1 hb1 hc3 hzi
    go_loop [5, 45] (fun n i => ∃ k : Nat, k ≤ l.length ∧ i = .int .i64 k ∧ n = .int .u64 (valueB (l.take k))) (fun _ i => l.length - (intOf i).toNat)
    case atStart => exact ⟨0, Nat.zero_le _, rfl, rfl⟩
    case round =>
      obtain ⟨k, hk, rfl, rfl⟩ := hrel
      by_cases hlt : k < l.length
      · obtain ⟨ad3, hA3, hc3⟩ := Kd.at_int HRD.out (k : Int) (Int.natCast_nonneg k) (by omega)
        injection hA3 with hA3
        subst hA3
        rw [Int.toNat_natCast] at hc3
        have HV := Aside0.mk (value_step HU.out h8 k hlt)
        go_wp2
        go_round
        case rel => exact ⟨k + 1, by omega, by go_num, by rw [← HV.out]⟩
        case measure => simp [intOf]; omega
      · go_wp2
        go_ret
        have hkl : k = l.length := by omega
        exact ⟨by rw [hkl, List.take_length]; rfl, HL2.out⟩
  · have hz0 : decide (0 < l.length) = false := decide_eq_false hz
    have hl0 : l = [] := List.length_eq_zero_iff.1 (by omega)
    subst hl0
    clear hb hz hz0 h8
    have hf0 : decide ((0 : Int) < 0) = false := rfl
    go_wp2_with (first
      | (go_at_call 63; refine (okO _ _ _ _ HL2.out.1).mono ?_; rintro e w' ⟨rfl, rfl⟩))
    go_loop [5, 45] (fun n i => i = .int .i64 0 ∧ n = .int .u64 0) (fun _ _ => 0)
    case atStart => exact ⟨rfl, rfl⟩
    case round =>
      obtain ⟨rfl, rfl⟩ := hrel
      go_wp2
      go_ret
      exact ⟨rfl, HL2.out⟩

theorem numO_ (w0 w : World) (g : Nat) (st : Option (List Int)) (h : RdO w0 w g st) (hB : Below w0.heap.size w0 w) :
    Calls Try.prog 87 #[.pointer (some ⟨g, 0, none⟩)] w fun e w' => e = .returned (.int .u64 (numO st).1) ∧ Left w0 w w' g (numO st).2 := by
  match st, h with
  | none, h => exact num_none w0 w g none h hB rfl
  | some [], h => exact num_none w0 w g (some []) h hB rfl
  | some (x :: r), h =>
    have hx0 := h.u8.1.head.1
    simp only [numO]
    by_cases h1 : x > 8
    · rw [if_pos h1]; exact num_wide w0 w g x r h hB h1
    · rw [if_neg h1]
      by_cases h2 : (r.length : Int) < x
      · rw [if_pos h2]; exact num_short w0 w g x r h hB hx0 (by omega) h2
      · rw [if_neg h2]
        by_cases h3 : 0 < x ∧ r.getD 0 0 = 0
        · rw [if_pos h3]
          cases r with
          | nil => simp at h2; omega
          | cons y r => exact num_zero w0 w g x y r h hB h3.1 (by omega) (by simp at h2; omega) (by simpa using h3.2)
        · rw [if_neg h3]; exact num_good w0 w g x r h hB hx0 (by omega) (by omega) h3


set_option maxHeartbeats 1600000 in
set_option maxRecDepth 100000 in
theorem countO_ (w0 w : World) (g : Nat) (st : Option (List Int)) (most : Int) (h : RdO w0 w g st) (hB : Below w0.heap.size w0 w) (hm : most ≤ 9223372036854775807) :
    Calls Try.prog 86 #[.pointer (some ⟨g, 0, none⟩), .int .i64 most] w fun e w' => e = .returned (.int .i64 (countO st most).1) ∧ Left w0 w w' g (countO st most).2 := by
  have HS := Aside0.mk h
  have HB := Aside0.mk hB
  have hr := numO_range (st := st) (fun bs e => by subst e; exact h.u8.1)
  unfold countO
  obtain ⟨nv, hnv⟩ : ∃ nv, nv = (numO st).1 := ⟨_, rfl⟩
  rw [← hnv] at hr ⊢
  have HN := Aside0.mk hnv
  have HR := Aside0.mk hr
  have HM := Aside0.mk hm
  clear hm
  clear hr hnv h hB
  by_cases h1 : most < 0
  · rw [if_pos (Or.inl h1)]
    have hd : decide (most < 0) = true := decide_eq_true h1
    clear h1
    go_enter Try.func86, Try.ntmps86
    go_wp2_with (first
      | (go_at_call 87; refine (numO_ _ _ _ _ HS.out HB.out).mono ?_; rintro e w1 ⟨rfl, hl⟩; rw [← HN.out]; have HL := Aside0.mk hl; clear hl)
      | (go_at_call 101; refine (failO _ _ _ _ HL.out.1 HL.out.2.1).mono ?_; rintro e w2 ⟨rfl, hf⟩; have HF := Aside0.mk hf; clear hf))
    go_ret
    exact ⟨rfl, HL.out.trans HF.out⟩
  · have hd : decide (most < 0) = false := decide_eq_false h1
    have hw : IntKind.u64.wrap most = most := IntWalk.u64_in _ (by have := HM.out; omega)
    by_cases h2 : nv > most
    · rw [if_pos (Or.inr h2)]
      have hd2 : decide (most < nv) = true := decide_eq_true h2
      clear h1 h2
      go_enter Try.func86, Try.ntmps86
      go_wp2_with (first
        | (go_at_call 87; refine (numO_ _ _ _ _ HS.out HB.out).mono ?_; rintro e w1 ⟨rfl, hl⟩; rw [← HN.out]; have HL := Aside0.mk hl; clear hl)
        | (go_at_call 101; refine (failO _ _ _ _ HL.out.1 HL.out.2.1).mono ?_; rintro e w2 ⟨rfl, hf⟩; have HF := Aside0.mk hf; clear hf))
      go_ret
      exact ⟨rfl, HL.out.trans HF.out⟩
    · rw [if_neg (by omega)]
      have hd2 : decide (most < nv) = false := decide_eq_false h2
      have hv : wrap64 nv = nv := IntWalk.wrap64_in _ (by have := HM.out; have := HR.out; omega)
      clear h1 h2
      go_enter Try.func86, Try.ntmps86
      go_wp2_with (first
        | (go_at_call 87; refine (numO_ _ _ _ _ HS.out HB.out).mono ?_; rintro e w1 ⟨rfl, hl⟩; rw [← HN.out]; have HL := Aside0.mk hl; clear hl))
      go_ret
      exact ⟨by rw [← HN.out, hv]; rfl, HL.out⟩

set_option maxHeartbeats 800000 in
theorem textO_ (w0 w : World) (g : Nat) (st : Option (List Int)) (most : Int) (h : RdO w0 w g st) (hB : Below w0.heap.size w0 w) (hm : most ≤ 9223372036854775807) :
    Calls Try.prog 88 #[.pointer (some ⟨g, 0, none⟩), .int .i64 most] w fun e w' => ∃ v, e = .returned v ∧ Ob w' w.heap.size v (textO st most).1 ∧ Left w0 w w' g (textO st most).2 := by
  have HS := Aside0.mk h
  have HB := Aside0.mk hB
  have HM := Aside0.mk hm
  clear hm h hB
  go_enter Try.func88, Try.ntmps88
  go_wp2_with (first
    | (go_at_call 86; refine (countO_ _ _ _ _ _ HS.out HB.out HM.out).mono ?_; rintro e w1 ⟨rfl, hl⟩; have HL := Aside0.mk hl; clear hl)
    | (go_at_call 92; refine (takeO_ _ _ _ _ _ HL.out.1 HL.out.2.1).mono ?_; rintro e w2 ⟨v, rfl, ho, hl⟩; have HO := Aside0.mk ho; have HT := Aside0.mk hl; clear hl ho))
  go_ret
  exact ⟨_, rfl, Kd.R_lower HO.out HL.out.2.2.1, HL.out.trans HT.out⟩
end Go.Proofs.Ytfpkgdenohcglaa.Tlv
/- chain.sum walked: the next sum of a reader. -/
namespace Go.Proofs.Ytfpkgdenohcglaa.Chn
set_option linter.unusedVariables false
set_option linter.unusedSimpArgs false
open Go.RowKit Go.Proofs.Ytfpkgdenohcglaa.Lo Go.Proofs.Ytfpkgdenohcglaa.RdPlain Go.Proofs.Ytfpkgdenohcglaa.Base Go.Proofs.Ytfpkgdenohcglaa.TlvPlain Go.Proofs.Ytfpkgdenohcglaa.ShaPlain Go.Proofs.Ytfpkgdenohcglaa.Sha Go.Proofs.Ytfpkgdenohcglaa.Com Go.Proofs.Ytfpkgdenohcglaa.Aid Go.Proofs.YtfpkgdenohcglaaW.PrintWords Go.Proofs.YtfpkgdenohcglaaW.PrintLast Go.Proofs.YtfpkgdenohcglaaW.PrintMore
open Tlv (RdO takeO_ okO numO_ textO_ leftO_ newO)
attribute [local irreducible] shaB
theorem left_below {w0 w W W1 : World} {g : Nat} {s : Option (List Int)} (h : Tlv.Left w0 w W g s) (hb : Below W.heap.size W W1) : Tlv.Left w0 w W1 g s := ⟨h.1.below hb, below_step h.2.1 hb, h.2.2.trans (KeepBut.of_below hb g none) (.inl rfl)⟩
theorem left_grown {w0 w W W1 : World} {g : Nat} {s : Option (List Int)} {row : Option Nat} (h : Tlv.Left w0 w W g s) (hb : Below w.heap.size W W1) (hg : W.grownBy W1 row) (hr : ∀ b, row = some b → g < b ∧ w0.heap.size ≤ b) (h0 : w0.heap.size ≤ w.heap.size) : Tlv.Left w0 w W1 g s :=
  ⟨h.1.grown hg (fun b e => (hr b e).1), h.2.1.trans (hb.mono h0), Nat.le_trans h.2.2.1 hb.size, fun i hi h1 h2 => (hb.block i hi).trans (h.2.2.2 i hi h1 h2)⟩
theorem grown_setRow (W : World) (g : Nat) (D : Array Value) : W.grownBy (W.setRow g D) (some g) := by
  have h := below_setRow (Below.refl 0 W) (Nat.zero_le g) D
  exact ⟨h.os, h.tape, h.output, h.size, fun k _ hk => setRow_other _ _ _ _ (fun e => hk (by rw [e]))⟩
/-- A row of bytes that is read, cell by cell. -/
theorem rb_cells {w : World} {ad : Addr} {d : List Int} (h : Rb w (some ad) d) : AtC w ad (nums .u8 d) := fun j v hj => by
  unfold nums at hj
  rw [List.getElem?_map] at hj
  obtain ⟨x, hx, rfl⟩ := Option.map_eq_some_iff.1 hj
  obtain ⟨a, ha, hc⟩ := h.2.2 (by have := (List.getElem?_eq_some_iff.1 hx).1; omega)
  cases ha
  obtain ⟨cs, hl, hK, hat⟩ := hc j x hx
  have h2 := hat 0 (.int .u8 x) (by rw [show cs = [Value.int .u8 x] from hK]; rfl)
  rw [show j * (Kd.int .u8).sz + 0 = j from by show j * 1 + 0 = j; omega] at h2
  exact h2
section
variable {o : Oper} {a : Act} {Q : Exit → Act → World → Prop} {Kc : Act → World → Prop} {W : World}
end
end Go.Proofs.Ytfpkgdenohcglaa.Chn
/- chain.read walked: the next entry of a reader (printed by gen_chnread.py). -/
namespace Go.Proofs.Ytfpkgdenohcglaa.Chn
set_option linter.unusedVariables false
set_option linter.unusedSimpArgs false
open Go.RowKit Go.Proofs.Ytfpkgdenohcglaa.Lo Go.Proofs.Ytfpkgdenohcglaa.RdPlain Go.Proofs.Ytfpkgdenohcglaa.Base Go.Proofs.Ytfpkgdenohcglaa.TlvPlain Go.Proofs.Ytfpkgdenohcglaa.ShaPlain Go.Proofs.Ytfpkgdenohcglaa.Sha Go.Proofs.Ytfpkgdenohcglaa.Com Go.Proofs.Ytfpkgdenohcglaa.Aid Go.Proofs.YtfpkgdenohcglaaW.PrintWords Go.Proofs.YtfpkgdenohcglaaW.PrintLast Go.Proofs.YtfpkgdenohcglaaW.PrintMore
open Tlv (RdO takeO_ okO numO_ textO_ leftO_ newO)
attribute [local irreducible] shaB
theorem rb_step {w0 W W' : World} {g : Nat} {s : Option (List Int)} {A : Option Addr} {xs : List Int} (h : Rb W A xs) (hs : RdO w0 W g s) (hk : KeepBut W W' g none) : Rb W' A xs := by
  obtain ⟨_, _, cs, h1, h2⟩ := hs.blk
  exact reads_keep h hk (reads_ne h1 h2 h)
theorem grown_keep {W W' : World} {q : Nat} (hg : W.grownBy W' (some q)) : KeepBut W W' q none := ⟨hg.size, fun i hi h1 _ => hg.block i hi (fun e => h1 (Option.some.inj e))⟩
theorem rb_row {W W' : World} {q : Nat} {A : Option Addr} {xs : List Int} (h : Rb W A xs) (hg : W.grownBy W' (some q)) (hne : ∀ ad, A = some ad → ad.block ≠ q) : Rb W' A xs := reads_keep h (grown_keep hg) (fun a e _ => hne a e)
theorem grown_setCell (W : World) (g j : Nat) (v : Value) : W.grownBy (W.setCell ⟨g, j, none⟩ v) (some g) :=
  ⟨rfl, rfl, rfl, by simp [World.setCell], fun k _ hk => Below.heap_setCell W ⟨g, j, none⟩ v k (fun e => hk (by rw [e]))⟩
theorem textO_le {st : Option (List Int)} {m : Int} (hm : 0 ≤ m) : ((textO st m).1.length : Int) ≤ m := by
  unfold textO takeO
  have hc : (countO st m).1 ≤ m := by
    unfold countO
    split
    · exact hm
    · next h => omega
  split
  · split
    · next h => dsimp only; rw [List.length_take]; omega
    · exact hm
  · exact hm
section
variable {o : Oper} {a : Act} {Q : Exit → Act → World → Prop} {Kc : Act → World → Prop} {W : World}
end
end Go.Proofs.Ytfpkgdenohcglaa.Chn
/- chain.Get walked: which chain bytes are (printed by gen_chnget.py). -/
namespace Go.Proofs.Ytfpkgdenohcglaa.Chn
set_option linter.unusedVariables false
set_option linter.unusedSimpArgs false
open Go.RowKit Go.Proofs.Ytfpkgdenohcglaa.Lo Go.Proofs.Ytfpkgdenohcglaa.RdPlain Go.Proofs.Ytfpkgdenohcglaa.Base Go.Proofs.Ytfpkgdenohcglaa.TlvPlain Go.Proofs.Ytfpkgdenohcglaa.ShaPlain Go.Proofs.Ytfpkgdenohcglaa.Sha Go.Proofs.Ytfpkgdenohcglaa.Com Go.Proofs.Ytfpkgdenohcglaa.Aid Go.Proofs.YtfpkgdenohcglaaW.PrintWords Go.Proofs.YtfpkgdenohcglaaW.PrintLast Go.Proofs.YtfpkgdenohcglaaW.PrintMore
open Tlv (RdO takeO_ okO numO_ textO_ leftO_ newO)
attribute [local irreducible] shaB
abbrev Rg (w : World) (base : Nat) (v : Value) (l : List Ent) : Prop := Kd.R DEnt 27 w base (fun _ => True) v l
theorem Rg.reads {w : World} {base : Nat} {v : Value} {l : List Ent} (h : Rg w base v l) : ∃ A c, v = .slice A l.length c ∧ l.length ≤ c ∧ Re w A l := by
  obtain ⟨A, c, e, hc, hr⟩ := Kd.R_reads h
  exact ⟨A, c, e, hc, hr⟩
theorem take_len {st : Option (List Int)} {n : Int} {r : List Int} (h : (takeO st n).2 = some r) : ∃ b, st = some b ∧ (r.length : Int) + n = b.length ∧ 0 ≤ n := by
  unfold takeO at h
  split at h
  · next b =>
    split at h
    · next hc =>
      simp only [Option.some.injEq] at h
      subst h
      exact ⟨b, rfl, by rw [List.length_drop]; omega, hc.1⟩
    · cases h
  · cases h
theorem num_len {st : Option (List Int)} {r : List Int} (h : (numO st).2 = some r) : ∃ b, st = some b ∧ r.length ≤ b.length := by
  unfold numO at h
  split at h
  · next x b =>
    split at h
    · cases h
    · split at h
      · cases h
      · split at h
        · cases h
        · simp only [Option.some.injEq] at h
          subst h
          exact ⟨_, rfl, by rw [List.length_drop, List.length_cons]; omega⟩
  · cases h
theorem text_len {st : Option (List Int)} {m : Int} {r : List Int} (h : (textO st m).2 = some r) : ∃ b, st = some b ∧ r.length ≤ b.length := by
  unfold textO at h
  obtain ⟨b1, h1, h2, h3⟩ := take_len h
  unfold countO at h1 h2 h3
  split at h1
  · cases h1
  · next hc =>
    rw [if_neg hc] at h2 h3
    obtain ⟨b, h4, h5⟩ := num_len h1
    exact ⟨b, h4, by omega⟩
theorem rd_len {b r : List Int} (h : (rdE (some b)).st = some r) : r.length < b.length := by
  obtain ⟨b1, h1, h2⟩ := text_len h
  obtain ⟨b2, h3, h4⟩ := num_len h1
  obtain ⟨b3, h5, h6, _⟩ := take_len (show (takeO (takeO (some b) 1).2 32).2 = some b2 from h3)
  obtain ⟨b4, h7, h8, _⟩ := take_len h5
  injection h7 with h7
  subst h7
  omega
theorem read_some {st : Option (List Int)} {sq : Int} {pv : Sm} {x : Ent} {r : List Int} (h : readE st sq pv = some (x, r)) : x = entR st sq pv ∧ rightT x = true ∧ (rdE st).st = some r := by
  unfold readE at h
  split at h
  · cases h
  · next r' hr =>
    split at h
    · cases h
    · split at h
      · next h1 =>
        simp only [Option.some.injEq, Prod.mk.injEq] at h
        obtain ⟨rfl, rfl⟩ := h
        exact ⟨rfl, h1, hr⟩
      · cases h
theorem getN_next {n : Nat} {bs r : List Int} {l : List Ent} {x : Ent} (h : 32 < bs.length) (hr : readE (some bs) (l.length : Int) (headT l) = some (x, r)) (h120 : ¬ 120 ≤ l.length) : getN (n + 1) bs l = getN n r (l ++ [x]) := by
  rw [getN, if_pos h, hr]; dsimp only; rw [if_neg h120]
/-- What the loop of Get keeps. -/
structure GetI (w : World) (g h : Nat) (b : List Int) (n : Nat) (bs : List Int) (l : List Ent) (v : Value) (W : World) : Prop where
  rd : RdO w W g (some bs)
  bl : Below w.heap.size w W
  hd : W.heap[h]? = some (.cells (nums .u8 (headT l)).toArray 23 (0, 0))
  row : Rg W (h + 1) v l
  u : Lu' l
  p : ∀ x ∈ l, (payE x).length ≤ 100
  len : l.length ≤ 120
  fu : bs.length ≤ n
  eq : getN n bs l = getC b
/-- A round more. -/
theorem GetI.next {w : World} {g h : Nat} {b : List Int} {n : Nat} {bs r : List Int} {l : List Ent} {x : Ent} {v v' : Value} {W W' : World} (H : GetI w g h b (n + 1) bs l v W) (h32 : 32 < bs.length) (hr : readE (some bs) (l.length : Int) (headT l) = some (x, r)) (h120 : ¬ 120 ≤ l.length)
    (hrd : RdO w W' g (some r)) (hbl : Below w.heap.size w W') (hhd : W'.heap[h]? = some (.cells (nums .u8 (linkT x)).toArray 23 (0, 0))) (hrow : Rg W' (h + 1) v' (l ++ [x])) (hx : Eu x) (hp : (payE x).length ≤ 100) : GetI w g h b n r (l ++ [x]) v' W' := by
  refine ⟨hrd, hbl, by rw [headT_snoc]; exact hhd, hrow, ?_, ?_, by rw [List.length_append, List.length_singleton]; omega, ?_, ?_⟩
  · intro y hy
    rcases List.mem_append.1 hy with hy | hy
    · exact H.u y hy
    · rw [List.mem_singleton.1 hy]; exact hx
  · intro y hy
    rcases List.mem_append.1 hy with hy | hy
    · exact H.p y hy
    · rw [List.mem_singleton.1 hy]; exact hp
  · have h1 := rd_len (read_some hr).2.2
    have h2 := H.fu
    omega
  · rw [← getN_next h32 hr h120]; exact H.eq
end Go.Proofs.Ytfpkgdenohcglaa.Chn
/- Entries that came in; the laws' walks, as the rows ask for them. -/
namespace Go.Proofs.Ytfpkgdenohcglaa.Chn
set_option linter.unusedVariables false
open Go.RowKit Go.Proofs.Ytfpkgdenohcglaa.Base Go.Proofs.Ytfpkgdenohcglaa.TlvPlain Go.Proofs.Ytfpkgdenohcglaa.ShaPlain Go.Proofs.Ytfpkgdenohcglaa.Sha Go.Proofs.Ytfpkgdenohcglaa.Com Go.Proofs.Ytfpkgdenohcglaa.Aid Go.Proofs.YtfpkgdenohcglaaW.PrintWords
abbrev okE (x : Ent) : Prop := (Lit.int .i64 x.1).wf = true ∧ (∀ y ∈ x.2.1, (Lit.int .u8 y).wf = true) ∧ (∀ y ∈ x.2.2.1, (Lit.int .u8 y).wf = true) ∧ (Lit.int .u64 x.2.2.2.1).wf = true ∧ (∀ y ∈ x.2.2.2.2.1, (Lit.int .u8 y).wf = true) ∧ True
theorem opens_sum : Open.Opens Try.prog 23 KS (fun xs => ∀ y ∈ xs, (Lit.int .u8 y).wf = true) :=
  Open.opens_array (hs := by decide) Try.underlying23 (by kernel_rfl) (by kernel_rfl) (Open.opens_int Try.underlying5)
theorem opens_ent : Open.Opens Try.prog 27 DEnt okE := by
  have h := (show Open.Opens Try.prog 27 _ _ from Open.opens_struct Try.underlying27 (by kernel_rfl) (fun n => Open.opensF_cons rfl (by kernel_rfl) (Open.opens_int Try.underlying3 n) (Open.opensF_cons rfl (by kernel_rfl) (opens_sum n) (Open.opensF_cons rfl (by kernel_rfl) (opens_sum n)
    (Open.opensF_cons rfl (by kernel_rfl) (Open.opens_int Try.underlying24 n) (Open.opensF_cons rfl (by kernel_rfl) (Open.opens_slice Try.underlying25 (by kernel_rfl) (Open.opens_int Try.underlying5) n) (Open.opensF_one rfl (by kernel_rfl) (Open.opens_bool Try.underlying4 n))))))))
  exact h
theorem opens_ents : Open.Opens Try.prog 22 (Kd.slice 27 DEnt) (fun xs => ∀ x ∈ xs, okE x) := Open.opens_slice Try.underlying22 (by kernel_rfl) opens_ent
theorem eu_of {w : World} {x : Ent} {P C : List Value} {A : Option Addr} {c : Nat} (hC : EntC w x P C A c) (ok : okE x) : Eu x :=
  ⟨hC.fp.len, fun y hy => byte_wf (ok.2.1 y hy), hC.fc.len, fun y hy => byte_wf (ok.2.2.1 y hy), (u64_wf ok.2.2.2.1).1, (u64_wf ok.2.2.2.1).2, fun y hy => byte_wf (ok.2.2.2.2.1 y hy)⟩
theorem lu_of {w : World} {A : Option Addr} {l : List Ent} (hr : Re w A l) (ok : ∀ x ∈ l, okE x) : Lu' l := fun x hx => by
  obtain ⟨i, hi, rfl⟩ := List.mem_iff_getElem.1 hx
  obtain ⟨_, _, _, _, _, _, _, h⟩ := re_at hr i hi
  exact eu_of h (ok _ hx)
end Go.Proofs.Ytfpkgdenohcglaa.Chn
